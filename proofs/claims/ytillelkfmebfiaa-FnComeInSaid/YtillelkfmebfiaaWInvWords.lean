-- The print's words, without those that this claim does not come to (shake.py).
import Derived.Test.YtillelkfmebfiaaWInv
import Derived.Test.YtillelkfmebfiaaWFootNe
namespace Go.Proofs.YtillelkfmebfiaaW.PrintWords
open Go.RowKit
end Go.Proofs.YtillelkfmebfiaaW.PrintWords
namespace Go.Proofs.YtillelkfmebfiaaW.PrintLast
section
variable {ops : Array Oper} {a : Act} {o og : Oper} {g : Nat} {t : Tmp} {u : Bool}
end
end Go.Proofs.YtillelkfmebfiaaW.PrintLast
