/- The pure statement of the law DigitsTexts; conditions: none beyond the statement's own. -/
import Derived.Test.YtoaejpjgicnfoaaPD5
namespace Go.Proofs.Ytoaejpjgicnfoaa.Pure
theorem DigitsTexts : KD.plummetlaw01_DigitsTexts.Pure := PD.texts_pure
end Go.Proofs.Ytoaejpjgicnfoaa.Pure
