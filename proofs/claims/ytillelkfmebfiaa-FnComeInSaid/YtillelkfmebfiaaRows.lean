/-
  No cell of these rows narrows 'for every input' (looked for: loops, veiled, ifaces, maps, wideKeys, modest, calm, conditions, laid).
  DERIVED. THE GIVEN ROWS OF THIS SEAT. 10 by the template 'for every input the law returns true; each argument reads behind the call as it read before'; 0 by the template 'total and deterministic' (their statements: YtillelkfmebfiaaTotals.lean).
  GIVEN WITH THE SEED: the statements are not yours to turn. If you find one false, say at which input.
  Laid BY PROGRAM, IN A SANDBOX (cutbox-rows.mjs): the forced cells as the released guide's own fill.sh prints them over the translation f1c79556397719b9… (all of the seat's roots in one cut). By AI agents, Wed Nov 11 2026. No macro, syntax, notation, axiom, sorry.
-/
import Derived.Test.YtillelkfmebfiaaChecked
import GoSem.Claim
import GoSem.ClaimJoined
import GoSem.ClaimMapViews
import Derived.JoinedTies
import Derived.KernelRfl
namespace Go.Proofs.Ytillelkfmebfiaa
/- THE CELL 'sum', in the pinned program and in every row, IS THE sha256 OF THE DUMP (.gsa) THAT YtillelkfmebfiaaProg.lean LOADS. Nothing in Lean hashes anything: it is a label: what it is worth is what the hold of that sum in a sandbox is worth. -/
noncomputable def Try.pinned : Pinned := { name := "ytillelkfmebfiaa", sum := "f1c79556397719b9e5859da80cb4f6e285cde0592ea68dc6810e6559857b6b5f", checked := Try.checked }
namespace Rows
def none {H : Type} : Left H := { results := [], args := [] }

/-- 'laws.FnExactWorkAt': WHATEVER THE INPUT: true; the input reads as it did. -/
def fnExactWorkAtSpec : ChangeSpec := { name := "fnExactWorkAt", fn := fun _ => fun
  | [d1, d2] => { results := [.lit (.bool true)], args := [d1, d2] }
  | _ => none }
def fnExactWorkAtRow : OpenClaim := { program := "ytillelkfmebfiaa", sum := "f1c79556397719b9e5859da80cb4f6e285cde0592ea68dc6810e6559857b6b5f", func := "loop.example/onecounter/laws.FnExactWorkAt", spec := "fnExactWorkAt", apart := false }
def FnExactWorkAtSaid : Prop := fnExactWorkAtRow.holds Try.pinned (OpenSpec.ofChange fnExactWorkAtSpec)

/-- ITS FALSE NEIGHBOUR: 'it returns false'. Refute it at one input. -/
def fnExactWorkAtWrong : ChangeSpec := { name := "fnExactWorkAt", fn := fun _ => fun
  | [d1, d2] => { results := [.lit (.bool false)], args := [d1, d2] }
  | _ => none }
def FnExactWorkAtWrongFalsely : Prop := fnExactWorkAtRow.holds Try.pinned (OpenSpec.ofChange fnExactWorkAtWrong)

/-- 'laws.FnWorkAt': WHATEVER THE INPUT: true; the input reads as it did. -/
def fnWorkAtSpec : ChangeSpec := { name := "fnWorkAt", fn := fun _ => fun
  | [d] => { results := [.lit (.bool true)], args := [d] }
  | _ => none }
def fnWorkAtRow : OpenClaim := { program := "ytillelkfmebfiaa", sum := "f1c79556397719b9e5859da80cb4f6e285cde0592ea68dc6810e6559857b6b5f", func := "loop.example/onecounter/laws.FnWorkAt", spec := "fnWorkAt", apart := false }
def FnWorkAtSaid : Prop := fnWorkAtRow.holds Try.pinned (OpenSpec.ofChange fnWorkAtSpec)

/-- ITS FALSE NEIGHBOUR: 'it returns false'. Refute it at one input. -/
def fnWorkAtWrong : ChangeSpec := { name := "fnWorkAt", fn := fun _ => fun
  | [d] => { results := [.lit (.bool false)], args := [d] }
  | _ => none }
def FnWorkAtWrongFalsely : Prop := fnWorkAtRow.holds Try.pinned (OpenSpec.ofChange fnWorkAtWrong)

/-- 'laws.FnExactServedBy': WHATEVER THE INPUT: true; the input reads as it did. -/
def fnExactServedBySpec : ChangeSpec := { name := "fnExactServedBy", fn := fun _ => fun
  | [d1, d2] => { results := [.lit (.bool true)], args := [d1, d2] }
  | _ => none }
def fnExactServedByRow : OpenClaim := { program := "ytillelkfmebfiaa", sum := "f1c79556397719b9e5859da80cb4f6e285cde0592ea68dc6810e6559857b6b5f", func := "loop.example/onecounter/laws.FnExactServedBy", spec := "fnExactServedBy", apart := false }
def FnExactServedBySaid : Prop := fnExactServedByRow.holds Try.pinned (OpenSpec.ofChange fnExactServedBySpec)

/-- ITS FALSE NEIGHBOUR: 'it returns false'. Refute it at one input. -/
def fnExactServedByWrong : ChangeSpec := { name := "fnExactServedBy", fn := fun _ => fun
  | [d1, d2] => { results := [.lit (.bool false)], args := [d1, d2] }
  | _ => none }
def FnExactServedByWrongFalsely : Prop := fnExactServedByRow.holds Try.pinned (OpenSpec.ofChange fnExactServedByWrong)

/-- 'laws.FnServedBy': WHATEVER THE INPUT: true; the input reads as it did. -/
def fnServedBySpec : ChangeSpec := { name := "fnServedBy", fn := fun _ => fun
  | [d] => { results := [.lit (.bool true)], args := [d] }
  | _ => none }
def fnServedByRow : OpenClaim := { program := "ytillelkfmebfiaa", sum := "f1c79556397719b9e5859da80cb4f6e285cde0592ea68dc6810e6559857b6b5f", func := "loop.example/onecounter/laws.FnServedBy", spec := "fnServedBy", apart := false }
def FnServedBySaid : Prop := fnServedByRow.holds Try.pinned (OpenSpec.ofChange fnServedBySpec)

/-- ITS FALSE NEIGHBOUR: 'it returns false'. Refute it at one input. -/
def fnServedByWrong : ChangeSpec := { name := "fnServedBy", fn := fun _ => fun
  | [d] => { results := [.lit (.bool false)], args := [d] }
  | _ => none }
def FnServedByWrongFalsely : Prop := fnServedByRow.holds Try.pinned (OpenSpec.ofChange fnServedByWrong)

/-- 'laws.FnExactBusyOf': WHATEVER THE INPUT: true; the input reads as it did. -/
def fnExactBusyOfSpec : ChangeSpec := { name := "fnExactBusyOf", fn := fun _ => fun
  | [d] => { results := [.lit (.bool true)], args := [d] }
  | _ => none }
def fnExactBusyOfRow : OpenClaim := { program := "ytillelkfmebfiaa", sum := "f1c79556397719b9e5859da80cb4f6e285cde0592ea68dc6810e6559857b6b5f", func := "loop.example/onecounter/laws.FnExactBusyOf", spec := "fnExactBusyOf", apart := false }
def FnExactBusyOfSaid : Prop := fnExactBusyOfRow.holds Try.pinned (OpenSpec.ofChange fnExactBusyOfSpec)

/-- ITS FALSE NEIGHBOUR: 'it returns false'. Refute it at one input. -/
def fnExactBusyOfWrong : ChangeSpec := { name := "fnExactBusyOf", fn := fun _ => fun
  | [d] => { results := [.lit (.bool false)], args := [d] }
  | _ => none }
def FnExactBusyOfWrongFalsely : Prop := fnExactBusyOfRow.holds Try.pinned (OpenSpec.ofChange fnExactBusyOfWrong)

/-- 'laws.FnBusyOf': WHATEVER THE INPUT: true; the input reads as it did. -/
def fnBusyOfSpec : ChangeSpec := { name := "fnBusyOf", fn := fun _ => fun
  | [d] => { results := [.lit (.bool true)], args := [d] }
  | _ => none }
def fnBusyOfRow : OpenClaim := { program := "ytillelkfmebfiaa", sum := "f1c79556397719b9e5859da80cb4f6e285cde0592ea68dc6810e6559857b6b5f", func := "loop.example/onecounter/laws.FnBusyOf", spec := "fnBusyOf", apart := false }
def FnBusyOfSaid : Prop := fnBusyOfRow.holds Try.pinned (OpenSpec.ofChange fnBusyOfSpec)

/-- ITS FALSE NEIGHBOUR: 'it returns false'. Refute it at one input. -/
def fnBusyOfWrong : ChangeSpec := { name := "fnBusyOf", fn := fun _ => fun
  | [d] => { results := [.lit (.bool false)], args := [d] }
  | _ => none }
def FnBusyOfWrongFalsely : Prop := fnBusyOfRow.holds Try.pinned (OpenSpec.ofChange fnBusyOfWrong)

/-- 'laws.FnExactComeIn': WHATEVER THE INPUT: true; the input reads as it did. -/
def fnExactComeInSpec : ChangeSpec := { name := "fnExactComeIn", fn := fun _ => fun
  | [d1, d2] => { results := [.lit (.bool true)], args := [d1, d2] }
  | _ => none }
def fnExactComeInRow : OpenClaim := { program := "ytillelkfmebfiaa", sum := "f1c79556397719b9e5859da80cb4f6e285cde0592ea68dc6810e6559857b6b5f", func := "loop.example/onecounter/laws.FnExactComeIn", spec := "fnExactComeIn", apart := false }
def FnExactComeInSaid : Prop := fnExactComeInRow.holds Try.pinned (OpenSpec.ofChange fnExactComeInSpec)

/-- ITS FALSE NEIGHBOUR: 'it returns false'. Refute it at one input. -/
def fnExactComeInWrong : ChangeSpec := { name := "fnExactComeIn", fn := fun _ => fun
  | [d1, d2] => { results := [.lit (.bool false)], args := [d1, d2] }
  | _ => none }
def FnExactComeInWrongFalsely : Prop := fnExactComeInRow.holds Try.pinned (OpenSpec.ofChange fnExactComeInWrong)

/-- 'laws.FnComeIn': WHATEVER THE INPUT: true; the input reads as it did. -/
def fnComeInSpec : ChangeSpec := { name := "fnComeIn", fn := fun _ => fun
  | [d] => { results := [.lit (.bool true)], args := [d] }
  | _ => none }
def fnComeInRow : OpenClaim := { program := "ytillelkfmebfiaa", sum := "f1c79556397719b9e5859da80cb4f6e285cde0592ea68dc6810e6559857b6b5f", func := "loop.example/onecounter/laws.FnComeIn", spec := "fnComeIn", apart := false }
def FnComeInSaid : Prop := fnComeInRow.holds Try.pinned (OpenSpec.ofChange fnComeInSpec)

/-- ITS FALSE NEIGHBOUR: 'it returns false'. Refute it at one input. -/
def fnComeInWrong : ChangeSpec := { name := "fnComeIn", fn := fun _ => fun
  | [d] => { results := [.lit (.bool false)], args := [d] }
  | _ => none }
def FnComeInWrongFalsely : Prop := fnComeInRow.holds Try.pinned (OpenSpec.ofChange fnComeInWrong)

/-- 'laws.FnExactBusyOk': WHATEVER THE INPUT: true; the input reads as it did. -/
def fnExactBusyOkSpec : ChangeSpec := { name := "fnExactBusyOk", fn := fun _ => fun
  | [d1, d2] => { results := [.lit (.bool true)], args := [d1, d2] }
  | _ => none }
def fnExactBusyOkRow : OpenClaim := { program := "ytillelkfmebfiaa", sum := "f1c79556397719b9e5859da80cb4f6e285cde0592ea68dc6810e6559857b6b5f", func := "loop.example/onecounter/laws.FnExactBusyOk", spec := "fnExactBusyOk", apart := false }
def FnExactBusyOkSaid : Prop := fnExactBusyOkRow.holds Try.pinned (OpenSpec.ofChange fnExactBusyOkSpec)

/-- ITS FALSE NEIGHBOUR: 'it returns false'. Refute it at one input. -/
def fnExactBusyOkWrong : ChangeSpec := { name := "fnExactBusyOk", fn := fun _ => fun
  | [d1, d2] => { results := [.lit (.bool false)], args := [d1, d2] }
  | _ => none }
def FnExactBusyOkWrongFalsely : Prop := fnExactBusyOkRow.holds Try.pinned (OpenSpec.ofChange fnExactBusyOkWrong)

/-- 'laws.FnBusyOk': WHATEVER THE INPUT: true; the input reads as it did. -/
def fnBusyOkSpec : ChangeSpec := { name := "fnBusyOk", fn := fun _ => fun
  | [d] => { results := [.lit (.bool true)], args := [d] }
  | _ => none }
def fnBusyOkRow : OpenClaim := { program := "ytillelkfmebfiaa", sum := "f1c79556397719b9e5859da80cb4f6e285cde0592ea68dc6810e6559857b6b5f", func := "loop.example/onecounter/laws.FnBusyOk", spec := "fnBusyOk", apart := false }
def FnBusyOkSaid : Prop := fnBusyOkRow.holds Try.pinned (OpenSpec.ofChange fnBusyOkSpec)

/-- ITS FALSE NEIGHBOUR: 'it returns false'. Refute it at one input. -/
def fnBusyOkWrong : ChangeSpec := { name := "fnBusyOk", fn := fun _ => fun
  | [d] => { results := [.lit (.bool false)], args := [d] }
  | _ => none }
def FnBusyOkWrongFalsely : Prop := fnBusyOkRow.holds Try.pinned (OpenSpec.ofChange fnBusyOkWrong)

/- THE SECOND FORM. 'bulk': how many values and letters a reading holds, each counted each time it is reached (what is shared counts as often as it is met; a slice's spare places count too). A statement '..UptoSaid' is the law's where the arguments, and the package variables that the reading takes, are together of bulk at most 1048576: NARROWER than '..Said'. Prove '..Said' where nothing that the law and all that it calls make is longer than what came in: it says more and counts as full. Else prove '..UptoSaid'. A law counts once. -/
mutual
def uptoBulk {H : Type} : DataW H → Nat
  | .lit (.string bytes) => bytes.length + 1
  | .lit _ => 1
  | .nil => 1
  | .ptr d => uptoBulk d + 1
  | .slice elems spare => uptoBulkAll elems + uptoBulkAll spare + 1
  | .agg parts => uptoBulkAll parts + 1
  | .iface _ d => uptoBulk d + 1
  | .map entries => uptoBulkEntries entries + 1
  | .held _ => 1
def uptoBulkAll {H : Type} : List (DataW H) → Nat
  | [] => 0
  | d :: r => uptoBulk d + uptoBulkAll r
def uptoBulkEntries {H : Type} : List (Lit × DataW H) → Nat
  | [] => 0
  | x :: r => uptoBulkEntry x + uptoBulkEntries r
def uptoBulkEntry {H : Type} : Lit × DataW H → Nat
  | (.string bytes, d) => bytes.length + uptoBulk d + 1
  | (_, d) => uptoBulk d + 1
 end
def uptoSmall : (H : Type) → List (DataW H) → Bool := fun _ ds => decide (uptoBulkAll ds ≤ 1048576)
def OpenSpec.upto (s : _root_.Go.ChangeSpec) : _root_.Go.OpenSpec := { _root_.Go.OpenSpec.ofChange s with cond := some uptoSmall }

/-- 'laws.FnExactWorkAt', WHERE WHAT IT READS IS OF BULK AT MOST 1048576: true; the input reads as it did. -/
def fnExactWorkAtUptoRow : OpenClaim := { program := "ytillelkfmebfiaa", sum := "f1c79556397719b9e5859da80cb4f6e285cde0592ea68dc6810e6559857b6b5f", func := "loop.example/onecounter/laws.FnExactWorkAt", spec := "fnExactWorkAt", apart := false, narrowed := true }
def FnExactWorkAtUptoSaid : Prop := fnExactWorkAtUptoRow.holds Try.pinned (OpenSpec.upto fnExactWorkAtSpec)

/-- 'laws.FnWorkAt', WHERE WHAT IT READS IS OF BULK AT MOST 1048576: true; the input reads as it did. -/
def fnWorkAtUptoRow : OpenClaim := { program := "ytillelkfmebfiaa", sum := "f1c79556397719b9e5859da80cb4f6e285cde0592ea68dc6810e6559857b6b5f", func := "loop.example/onecounter/laws.FnWorkAt", spec := "fnWorkAt", apart := false, narrowed := true }
def FnWorkAtUptoSaid : Prop := fnWorkAtUptoRow.holds Try.pinned (OpenSpec.upto fnWorkAtSpec)

/-- 'laws.FnExactServedBy', WHERE WHAT IT READS IS OF BULK AT MOST 1048576: true; the input reads as it did. -/
def fnExactServedByUptoRow : OpenClaim := { program := "ytillelkfmebfiaa", sum := "f1c79556397719b9e5859da80cb4f6e285cde0592ea68dc6810e6559857b6b5f", func := "loop.example/onecounter/laws.FnExactServedBy", spec := "fnExactServedBy", apart := false, narrowed := true }
def FnExactServedByUptoSaid : Prop := fnExactServedByUptoRow.holds Try.pinned (OpenSpec.upto fnExactServedBySpec)

/-- 'laws.FnServedBy', WHERE WHAT IT READS IS OF BULK AT MOST 1048576: true; the input reads as it did. -/
def fnServedByUptoRow : OpenClaim := { program := "ytillelkfmebfiaa", sum := "f1c79556397719b9e5859da80cb4f6e285cde0592ea68dc6810e6559857b6b5f", func := "loop.example/onecounter/laws.FnServedBy", spec := "fnServedBy", apart := false, narrowed := true }
def FnServedByUptoSaid : Prop := fnServedByUptoRow.holds Try.pinned (OpenSpec.upto fnServedBySpec)

/-- 'laws.FnExactBusyOf', WHERE WHAT IT READS IS OF BULK AT MOST 1048576: true; the input reads as it did. -/
def fnExactBusyOfUptoRow : OpenClaim := { program := "ytillelkfmebfiaa", sum := "f1c79556397719b9e5859da80cb4f6e285cde0592ea68dc6810e6559857b6b5f", func := "loop.example/onecounter/laws.FnExactBusyOf", spec := "fnExactBusyOf", apart := false, narrowed := true }
def FnExactBusyOfUptoSaid : Prop := fnExactBusyOfUptoRow.holds Try.pinned (OpenSpec.upto fnExactBusyOfSpec)

/-- 'laws.FnBusyOf', WHERE WHAT IT READS IS OF BULK AT MOST 1048576: true; the input reads as it did. -/
def fnBusyOfUptoRow : OpenClaim := { program := "ytillelkfmebfiaa", sum := "f1c79556397719b9e5859da80cb4f6e285cde0592ea68dc6810e6559857b6b5f", func := "loop.example/onecounter/laws.FnBusyOf", spec := "fnBusyOf", apart := false, narrowed := true }
def FnBusyOfUptoSaid : Prop := fnBusyOfUptoRow.holds Try.pinned (OpenSpec.upto fnBusyOfSpec)

/-- 'laws.FnExactComeIn', WHERE WHAT IT READS IS OF BULK AT MOST 1048576: true; the input reads as it did. -/
def fnExactComeInUptoRow : OpenClaim := { program := "ytillelkfmebfiaa", sum := "f1c79556397719b9e5859da80cb4f6e285cde0592ea68dc6810e6559857b6b5f", func := "loop.example/onecounter/laws.FnExactComeIn", spec := "fnExactComeIn", apart := false, narrowed := true }
def FnExactComeInUptoSaid : Prop := fnExactComeInUptoRow.holds Try.pinned (OpenSpec.upto fnExactComeInSpec)

/-- 'laws.FnComeIn', WHERE WHAT IT READS IS OF BULK AT MOST 1048576: true; the input reads as it did. -/
def fnComeInUptoRow : OpenClaim := { program := "ytillelkfmebfiaa", sum := "f1c79556397719b9e5859da80cb4f6e285cde0592ea68dc6810e6559857b6b5f", func := "loop.example/onecounter/laws.FnComeIn", spec := "fnComeIn", apart := false, narrowed := true }
def FnComeInUptoSaid : Prop := fnComeInUptoRow.holds Try.pinned (OpenSpec.upto fnComeInSpec)

/-- 'laws.FnExactBusyOk', WHERE WHAT IT READS IS OF BULK AT MOST 1048576: true; the input reads as it did. -/
def fnExactBusyOkUptoRow : OpenClaim := { program := "ytillelkfmebfiaa", sum := "f1c79556397719b9e5859da80cb4f6e285cde0592ea68dc6810e6559857b6b5f", func := "loop.example/onecounter/laws.FnExactBusyOk", spec := "fnExactBusyOk", apart := false, narrowed := true }
def FnExactBusyOkUptoSaid : Prop := fnExactBusyOkUptoRow.holds Try.pinned (OpenSpec.upto fnExactBusyOkSpec)

/-- 'laws.FnBusyOk', WHERE WHAT IT READS IS OF BULK AT MOST 1048576: true; the input reads as it did. -/
def fnBusyOkUptoRow : OpenClaim := { program := "ytillelkfmebfiaa", sum := "f1c79556397719b9e5859da80cb4f6e285cde0592ea68dc6810e6559857b6b5f", func := "loop.example/onecounter/laws.FnBusyOk", spec := "fnBusyOk", apart := false, narrowed := true }
def FnBusyOkUptoSaid : Prop := fnBusyOkUptoRow.holds Try.pinned (OpenSpec.upto fnBusyOkSpec)

end Rows
end Go.Proofs.Ytillelkfmebfiaa
