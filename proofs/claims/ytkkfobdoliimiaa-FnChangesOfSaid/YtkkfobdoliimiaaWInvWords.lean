-- The print's words, without those that this claim does not come to (shake.py).
import Derived.Test.YtkkfobdoliimiaaWInv
import Derived.Test.YtkkfobdoliimiaaWFootNe
namespace Go.Proofs.YtkkfobdoliimiaaW.PrintWords
open Go.RowKit
end Go.Proofs.YtkkfobdoliimiaaW.PrintWords
namespace Go.Proofs.YtkkfobdoliimiaaW.PrintLast
section
variable {ops : Array Oper} {a : Act} {o og : Oper} {g : Nat} {t : Tmp} {u : Bool}
end
end Go.Proofs.YtkkfobdoliimiaaW.PrintLast
