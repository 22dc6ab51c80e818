import Derived.SizedLaws
import Derived.ChangeSlices
namespace Go.Proofs.YthigbklhngihkaaGreatDoorW.PrintWords
open Go.ChangeShapes Go.WideShapes
end Go.Proofs.YthigbklhngihkaaGreatDoorW.PrintWords
