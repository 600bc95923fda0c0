/- The pure statement of the law DigitsJoins; conditions: none beyond the statement's own. -/
import Derived.Test.YtoaejpjgicnfoaaPD5
namespace Go.Proofs.Ytoaejpjgicnfoaa.Pure
theorem DigitsJoins : KD.plummetlaw01_DigitsJoins.Pure := PD.joins_pure
end Go.Proofs.Ytoaejpjgicnfoaa.Pure
