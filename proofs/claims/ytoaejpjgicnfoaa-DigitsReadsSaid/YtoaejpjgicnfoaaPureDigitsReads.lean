/- The pure statement of the law DigitsReads; conditions: none beyond the statement's own. -/
import Derived.Test.YtoaejpjgicnfoaaPD5
namespace Go.Proofs.Ytoaejpjgicnfoaa.Pure
theorem DigitsReads : KD.plummetlaw01_DigitsReads.Pure := PD.reads_pure
end Go.Proofs.Ytoaejpjgicnfoaa.Pure
