/- Texts of this claim, one behind the other. -/
import Derived.SizedLaws
import Derived.ChangeSlices
namespace Go.Proofs.YtmfpakolfpoamaaGreatDoorW.PrintWords
open Go.ChangeShapes Go.WideShapes
end Go.Proofs.YtmfpakolfpoamaaGreatDoorW.PrintWords
