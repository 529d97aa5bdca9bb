-- The print's words, without those that this claim does not come to (shake.py).
import Derived.Test.YtillelkfmebfiaaWWords
import Derived.Laws.StructEq
/-! ### 53. '==' of structs as_ one Bool -/
namespace Go.Proofs.YtillelkfmebfiaaW.PrintWords
open Go.RowKit
section
variable {P : Program} {d : Nat} {xs ys : Array Value} {f : Field} {fs : List Field} {a b : Value} {r s : Bool} {w : World}
end
end Go.Proofs.YtillelkfmebfiaaW.PrintWords
