/- The pure statement of the law DigitsSplits; conditions: none beyond the statement's own. -/
import Derived.Test.YtoaejpjgicnfoaaPD5
namespace Go.Proofs.Ytoaejpjgicnfoaa.Pure
theorem DigitsSplits : KD.plummetlaw01_DigitsSplits.Pure := PD.splits_pure
end Go.Proofs.Ytoaejpjgicnfoaa.Pure
