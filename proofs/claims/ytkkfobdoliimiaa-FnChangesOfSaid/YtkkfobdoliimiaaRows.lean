/-
  No cell of these rows narrows 'for every input' (looked for: loops, veiled, ifaces, maps, wideKeys, modest, calm, conditions, laid).
  DERIVED. THE GIVEN ROWS OF THIS SEAT. 10 by the template 'for every input the law returns true; each argument reads behind the call as it read before'; 0 by the template 'total and deterministic' (their statements: YtkkfobdoliimiaaTotals.lean).
  GIVEN WITH THE SEED: the statements are not yours to turn. If you find one false, say at which input.
  Laid BY PROGRAM, IN A SANDBOX (cutbox-rows.mjs): the forced cells as the released guide's own fill.sh prints them over the translation 9cc85161816c3454… (all of the seat's roots in one cut). By AI agents, Wed Nov 11 2026. No macro, syntax, notation, axiom, sorry.
-/
import Derived.Test.YtkkfobdoliimiaaChecked
import GoSem.Claim
import GoSem.ClaimJoined
import GoSem.ClaimMapViews
import Derived.JoinedTies
import Derived.KernelRfl
namespace Go.Proofs.Ytkkfobdoliimiaa
/- THE CELL 'sum', in the pinned program and in every row, IS THE sha256 OF THE DUMP (.gsa) THAT YtkkfobdoliimiaaProg.lean LOADS. Nothing in Lean hashes anything: it is a label: what it is worth is what the hold of that sum in a sandbox is worth. -/
noncomputable def Try.pinned : Pinned := { name := "ytkkfobdoliimiaa", sum := "9cc85161816c345417392ed40acdfc272bc36be65b6c1ec976b29868e37030c8", checked := Try.checked }
namespace Rows
def none {H : Type} : Left H := { results := [], args := [] }

/-- 'laws.FnExactOrderOk': WHATEVER THE INPUT: true; the input reads as it did. -/
def fnExactOrderOkSpec : ChangeSpec := { name := "fnExactOrderOk", fn := fun _ => fun
  | [d1, d2] => { results := [.lit (.bool true)], args := [d1, d2] }
  | _ => none }
def fnExactOrderOkRow : OpenClaim := { program := "ytkkfobdoliimiaa", sum := "9cc85161816c345417392ed40acdfc272bc36be65b6c1ec976b29868e37030c8", func := "loop.example/onecounter/laws.FnExactOrderOk", spec := "fnExactOrderOk", apart := false }
def FnExactOrderOkSaid : Prop := fnExactOrderOkRow.holds Try.pinned (OpenSpec.ofChange fnExactOrderOkSpec)

/-- ITS FALSE NEIGHBOUR: 'it returns false'. Refute it at one input. -/
def fnExactOrderOkWrong : ChangeSpec := { name := "fnExactOrderOk", fn := fun _ => fun
  | [d1, d2] => { results := [.lit (.bool false)], args := [d1, d2] }
  | _ => none }
def FnExactOrderOkWrongFalsely : Prop := fnExactOrderOkRow.holds Try.pinned (OpenSpec.ofChange fnExactOrderOkWrong)

/-- 'laws.FnOrderOk': WHATEVER THE INPUT: true; the input reads as it did. -/
def fnOrderOkSpec : ChangeSpec := { name := "fnOrderOk", fn := fun _ => fun
  | [d] => { results := [.lit (.bool true)], args := [d] }
  | _ => none }
def fnOrderOkRow : OpenClaim := { program := "ytkkfobdoliimiaa", sum := "9cc85161816c345417392ed40acdfc272bc36be65b6c1ec976b29868e37030c8", func := "loop.example/onecounter/laws.FnOrderOk", spec := "fnOrderOk", apart := false }
def FnOrderOkSaid : Prop := fnOrderOkRow.holds Try.pinned (OpenSpec.ofChange fnOrderOkSpec)

/-- ITS FALSE NEIGHBOUR: 'it returns false'. Refute it at one input. -/
def fnOrderOkWrong : ChangeSpec := { name := "fnOrderOk", fn := fun _ => fun
  | [d] => { results := [.lit (.bool false)], args := [d] }
  | _ => none }
def FnOrderOkWrongFalsely : Prop := fnOrderOkRow.holds Try.pinned (OpenSpec.ofChange fnOrderOkWrong)

/-- 'laws.FnExactEndsOf': WHATEVER THE INPUT: true; the input reads as it did. -/
def fnExactEndsOfSpec : ChangeSpec := { name := "fnExactEndsOf", fn := fun _ => fun
  | [d1, d2] => { results := [.lit (.bool true)], args := [d1, d2] }
  | _ => none }
def fnExactEndsOfRow : OpenClaim := { program := "ytkkfobdoliimiaa", sum := "9cc85161816c345417392ed40acdfc272bc36be65b6c1ec976b29868e37030c8", func := "loop.example/onecounter/laws.FnExactEndsOf", spec := "fnExactEndsOf", apart := false }
def FnExactEndsOfSaid : Prop := fnExactEndsOfRow.holds Try.pinned (OpenSpec.ofChange fnExactEndsOfSpec)

/-- ITS FALSE NEIGHBOUR: 'it returns false'. Refute it at one input. -/
def fnExactEndsOfWrong : ChangeSpec := { name := "fnExactEndsOf", fn := fun _ => fun
  | [d1, d2] => { results := [.lit (.bool false)], args := [d1, d2] }
  | _ => none }
def FnExactEndsOfWrongFalsely : Prop := fnExactEndsOfRow.holds Try.pinned (OpenSpec.ofChange fnExactEndsOfWrong)

/-- 'laws.FnEndsOf': WHATEVER THE INPUT: true; the input reads as it did. -/
def fnEndsOfSpec : ChangeSpec := { name := "fnEndsOf", fn := fun _ => fun
  | [d] => { results := [.lit (.bool true)], args := [d] }
  | _ => none }
def fnEndsOfRow : OpenClaim := { program := "ytkkfobdoliimiaa", sum := "9cc85161816c345417392ed40acdfc272bc36be65b6c1ec976b29868e37030c8", func := "loop.example/onecounter/laws.FnEndsOf", spec := "fnEndsOf", apart := false }
def FnEndsOfSaid : Prop := fnEndsOfRow.holds Try.pinned (OpenSpec.ofChange fnEndsOfSpec)

/-- ITS FALSE NEIGHBOUR: 'it returns false'. Refute it at one input. -/
def fnEndsOfWrong : ChangeSpec := { name := "fnEndsOf", fn := fun _ => fun
  | [d] => { results := [.lit (.bool false)], args := [d] }
  | _ => none }
def FnEndsOfWrongFalsely : Prop := fnEndsOfRow.holds Try.pinned (OpenSpec.ofChange fnEndsOfWrong)

/-- 'laws.FnExactChangesOf': WHATEVER THE INPUT: true; the input reads as it did. -/
def fnExactChangesOfSpec : ChangeSpec := { name := "fnExactChangesOf", fn := fun _ => fun
  | [d1, d2] => { results := [.lit (.bool true)], args := [d1, d2] }
  | _ => none }
def fnExactChangesOfRow : OpenClaim := { program := "ytkkfobdoliimiaa", sum := "9cc85161816c345417392ed40acdfc272bc36be65b6c1ec976b29868e37030c8", func := "loop.example/onecounter/laws.FnExactChangesOf", spec := "fnExactChangesOf", apart := false }
def FnExactChangesOfSaid : Prop := fnExactChangesOfRow.holds Try.pinned (OpenSpec.ofChange fnExactChangesOfSpec)

/-- ITS FALSE NEIGHBOUR: 'it returns false'. Refute it at one input. -/
def fnExactChangesOfWrong : ChangeSpec := { name := "fnExactChangesOf", fn := fun _ => fun
  | [d1, d2] => { results := [.lit (.bool false)], args := [d1, d2] }
  | _ => none }
def FnExactChangesOfWrongFalsely : Prop := fnExactChangesOfRow.holds Try.pinned (OpenSpec.ofChange fnExactChangesOfWrong)

/-- 'laws.FnChangesOf': WHATEVER THE INPUT: true; the input reads as it did. -/
def fnChangesOfSpec : ChangeSpec := { name := "fnChangesOf", fn := fun _ => fun
  | [d] => { results := [.lit (.bool true)], args := [d] }
  | _ => none }
def fnChangesOfRow : OpenClaim := { program := "ytkkfobdoliimiaa", sum := "9cc85161816c345417392ed40acdfc272bc36be65b6c1ec976b29868e37030c8", func := "loop.example/onecounter/laws.FnChangesOf", spec := "fnChangesOf", apart := false }
def FnChangesOfSaid : Prop := fnChangesOfRow.holds Try.pinned (OpenSpec.ofChange fnChangesOfSpec)

/-- ITS FALSE NEIGHBOUR: 'it returns false'. Refute it at one input. -/
def fnChangesOfWrong : ChangeSpec := { name := "fnChangesOf", fn := fun _ => fun
  | [d] => { results := [.lit (.bool false)], args := [d] }
  | _ => none }
def FnChangesOfWrongFalsely : Prop := fnChangesOfRow.holds Try.pinned (OpenSpec.ofChange fnChangesOfWrong)

/-- 'laws.FnExactThereAt': WHATEVER THE INPUT: true; the input reads as it did. -/
def fnExactThereAtSpec : ChangeSpec := { name := "fnExactThereAt", fn := fun _ => fun
  | [d1, d2, d3] => { results := [.lit (.bool true)], args := [d1, d2, d3] }
  | _ => none }
def fnExactThereAtRow : OpenClaim := { program := "ytkkfobdoliimiaa", sum := "9cc85161816c345417392ed40acdfc272bc36be65b6c1ec976b29868e37030c8", func := "loop.example/onecounter/laws.FnExactThereAt", spec := "fnExactThereAt", apart := false }
def FnExactThereAtSaid : Prop := fnExactThereAtRow.holds Try.pinned (OpenSpec.ofChange fnExactThereAtSpec)

/-- ITS FALSE NEIGHBOUR: 'it returns false'. Refute it at one input. -/
def fnExactThereAtWrong : ChangeSpec := { name := "fnExactThereAt", fn := fun _ => fun
  | [d1, d2, d3] => { results := [.lit (.bool false)], args := [d1, d2, d3] }
  | _ => none }
def FnExactThereAtWrongFalsely : Prop := fnExactThereAtRow.holds Try.pinned (OpenSpec.ofChange fnExactThereAtWrong)

/-- 'laws.FnExactSpreadOf': WHATEVER THE INPUT: true; the input reads as it did. -/
def fnExactSpreadOfSpec : ChangeSpec := { name := "fnExactSpreadOf", fn := fun _ => fun
  | [d1, d2] => { results := [.lit (.bool true)], args := [d1, d2] }
  | _ => none }
def fnExactSpreadOfRow : OpenClaim := { program := "ytkkfobdoliimiaa", sum := "9cc85161816c345417392ed40acdfc272bc36be65b6c1ec976b29868e37030c8", func := "loop.example/onecounter/laws.FnExactSpreadOf", spec := "fnExactSpreadOf", apart := false }
def FnExactSpreadOfSaid : Prop := fnExactSpreadOfRow.holds Try.pinned (OpenSpec.ofChange fnExactSpreadOfSpec)

/-- ITS FALSE NEIGHBOUR: 'it returns false'. Refute it at one input. -/
def fnExactSpreadOfWrong : ChangeSpec := { name := "fnExactSpreadOf", fn := fun _ => fun
  | [d1, d2] => { results := [.lit (.bool false)], args := [d1, d2] }
  | _ => none }
def FnExactSpreadOfWrongFalsely : Prop := fnExactSpreadOfRow.holds Try.pinned (OpenSpec.ofChange fnExactSpreadOfWrong)

/-- 'laws.FnExactOrderBy': WHATEVER THE INPUT: true; the input reads as it did. -/
def fnExactOrderBySpec : ChangeSpec := { name := "fnExactOrderBy", fn := fun _ => fun
  | [d1, d2] => { results := [.lit (.bool true)], args := [d1, d2] }
  | _ => none }
def fnExactOrderByRow : OpenClaim := { program := "ytkkfobdoliimiaa", sum := "9cc85161816c345417392ed40acdfc272bc36be65b6c1ec976b29868e37030c8", func := "loop.example/onecounter/laws.FnExactOrderBy", spec := "fnExactOrderBy", apart := false }
def FnExactOrderBySaid : Prop := fnExactOrderByRow.holds Try.pinned (OpenSpec.ofChange fnExactOrderBySpec)

/-- ITS FALSE NEIGHBOUR: 'it returns false'. Refute it at one input. -/
def fnExactOrderByWrong : ChangeSpec := { name := "fnExactOrderBy", fn := fun _ => fun
  | [d1, d2] => { results := [.lit (.bool false)], args := [d1, d2] }
  | _ => none }
def FnExactOrderByWrongFalsely : Prop := fnExactOrderByRow.holds Try.pinned (OpenSpec.ofChange fnExactOrderByWrong)

/-- 'laws.FnOrderBy': WHATEVER THE INPUT: true; the input reads as it did. -/
def fnOrderBySpec : ChangeSpec := { name := "fnOrderBy", fn := fun _ => fun
  | [d] => { results := [.lit (.bool true)], args := [d] }
  | _ => none }
def fnOrderByRow : OpenClaim := { program := "ytkkfobdoliimiaa", sum := "9cc85161816c345417392ed40acdfc272bc36be65b6c1ec976b29868e37030c8", func := "loop.example/onecounter/laws.FnOrderBy", spec := "fnOrderBy", apart := false }
def FnOrderBySaid : Prop := fnOrderByRow.holds Try.pinned (OpenSpec.ofChange fnOrderBySpec)

/-- ITS FALSE NEIGHBOUR: 'it returns false'. Refute it at one input. -/
def fnOrderByWrong : ChangeSpec := { name := "fnOrderBy", fn := fun _ => fun
  | [d] => { results := [.lit (.bool false)], args := [d] }
  | _ => none }
def FnOrderByWrongFalsely : Prop := fnOrderByRow.holds Try.pinned (OpenSpec.ofChange fnOrderByWrong)

/- THE SECOND FORM. 'bulk': how many values and letters a reading holds, each counted each time it is reached (what is shared counts as often as it is met; a slice's spare places count too). A statement '..UptoSaid' is the law's where the arguments, and the package variables that the reading takes, are together of bulk at most 1048576: NARROWER than '..Said'. Prove '..Said' where nothing that the law and all that it calls make is longer than what came in: it says more and counts as full. Else prove '..UptoSaid'. A law counts once. -/
mutual
def uptoBulk {H : Type} : DataW H → Nat
  | .lit (.string bytes) => bytes.length + 1
  | .lit _ => 1
  | .nil => 1
  | .ptr d => uptoBulk d + 1
  | .slice elems spare => uptoBulkAll elems + uptoBulkAll spare + 1
  | .agg parts => uptoBulkAll parts + 1
  | .iface _ d => uptoBulk d + 1
  | .map entries => uptoBulkEntries entries + 1
  | .held _ => 1
def uptoBulkAll {H : Type} : List (DataW H) → Nat
  | [] => 0
  | d :: r => uptoBulk d + uptoBulkAll r
def uptoBulkEntries {H : Type} : List (Lit × DataW H) → Nat
  | [] => 0
  | x :: r => uptoBulkEntry x + uptoBulkEntries r
def uptoBulkEntry {H : Type} : Lit × DataW H → Nat
  | (.string bytes, d) => bytes.length + uptoBulk d + 1
  | (_, d) => uptoBulk d + 1
 end
def uptoSmall : (H : Type) → List (DataW H) → Bool := fun _ ds => decide (uptoBulkAll ds ≤ 1048576)
def OpenSpec.upto (s : _root_.Go.ChangeSpec) : _root_.Go.OpenSpec := { _root_.Go.OpenSpec.ofChange s with cond := some uptoSmall }

/-- 'laws.FnExactOrderOk', WHERE WHAT IT READS IS OF BULK AT MOST 1048576: true; the input reads as it did. -/
def fnExactOrderOkUptoRow : OpenClaim := { program := "ytkkfobdoliimiaa", sum := "9cc85161816c345417392ed40acdfc272bc36be65b6c1ec976b29868e37030c8", func := "loop.example/onecounter/laws.FnExactOrderOk", spec := "fnExactOrderOk", apart := false, narrowed := true }
def FnExactOrderOkUptoSaid : Prop := fnExactOrderOkUptoRow.holds Try.pinned (OpenSpec.upto fnExactOrderOkSpec)

/-- 'laws.FnOrderOk', WHERE WHAT IT READS IS OF BULK AT MOST 1048576: true; the input reads as it did. -/
def fnOrderOkUptoRow : OpenClaim := { program := "ytkkfobdoliimiaa", sum := "9cc85161816c345417392ed40acdfc272bc36be65b6c1ec976b29868e37030c8", func := "loop.example/onecounter/laws.FnOrderOk", spec := "fnOrderOk", apart := false, narrowed := true }
def FnOrderOkUptoSaid : Prop := fnOrderOkUptoRow.holds Try.pinned (OpenSpec.upto fnOrderOkSpec)

/-- 'laws.FnExactEndsOf', WHERE WHAT IT READS IS OF BULK AT MOST 1048576: true; the input reads as it did. -/
def fnExactEndsOfUptoRow : OpenClaim := { program := "ytkkfobdoliimiaa", sum := "9cc85161816c345417392ed40acdfc272bc36be65b6c1ec976b29868e37030c8", func := "loop.example/onecounter/laws.FnExactEndsOf", spec := "fnExactEndsOf", apart := false, narrowed := true }
def FnExactEndsOfUptoSaid : Prop := fnExactEndsOfUptoRow.holds Try.pinned (OpenSpec.upto fnExactEndsOfSpec)

/-- 'laws.FnEndsOf', WHERE WHAT IT READS IS OF BULK AT MOST 1048576: true; the input reads as it did. -/
def fnEndsOfUptoRow : OpenClaim := { program := "ytkkfobdoliimiaa", sum := "9cc85161816c345417392ed40acdfc272bc36be65b6c1ec976b29868e37030c8", func := "loop.example/onecounter/laws.FnEndsOf", spec := "fnEndsOf", apart := false, narrowed := true }
def FnEndsOfUptoSaid : Prop := fnEndsOfUptoRow.holds Try.pinned (OpenSpec.upto fnEndsOfSpec)

/-- 'laws.FnExactChangesOf', WHERE WHAT IT READS IS OF BULK AT MOST 1048576: true; the input reads as it did. -/
def fnExactChangesOfUptoRow : OpenClaim := { program := "ytkkfobdoliimiaa", sum := "9cc85161816c345417392ed40acdfc272bc36be65b6c1ec976b29868e37030c8", func := "loop.example/onecounter/laws.FnExactChangesOf", spec := "fnExactChangesOf", apart := false, narrowed := true }
def FnExactChangesOfUptoSaid : Prop := fnExactChangesOfUptoRow.holds Try.pinned (OpenSpec.upto fnExactChangesOfSpec)

/-- 'laws.FnChangesOf', WHERE WHAT IT READS IS OF BULK AT MOST 1048576: true; the input reads as it did. -/
def fnChangesOfUptoRow : OpenClaim := { program := "ytkkfobdoliimiaa", sum := "9cc85161816c345417392ed40acdfc272bc36be65b6c1ec976b29868e37030c8", func := "loop.example/onecounter/laws.FnChangesOf", spec := "fnChangesOf", apart := false, narrowed := true }
def FnChangesOfUptoSaid : Prop := fnChangesOfUptoRow.holds Try.pinned (OpenSpec.upto fnChangesOfSpec)

/-- 'laws.FnExactThereAt', WHERE WHAT IT READS IS OF BULK AT MOST 1048576: true; the input reads as it did. -/
def fnExactThereAtUptoRow : OpenClaim := { program := "ytkkfobdoliimiaa", sum := "9cc85161816c345417392ed40acdfc272bc36be65b6c1ec976b29868e37030c8", func := "loop.example/onecounter/laws.FnExactThereAt", spec := "fnExactThereAt", apart := false, narrowed := true }
def FnExactThereAtUptoSaid : Prop := fnExactThereAtUptoRow.holds Try.pinned (OpenSpec.upto fnExactThereAtSpec)

/-- 'laws.FnExactSpreadOf', WHERE WHAT IT READS IS OF BULK AT MOST 1048576: true; the input reads as it did. -/
def fnExactSpreadOfUptoRow : OpenClaim := { program := "ytkkfobdoliimiaa", sum := "9cc85161816c345417392ed40acdfc272bc36be65b6c1ec976b29868e37030c8", func := "loop.example/onecounter/laws.FnExactSpreadOf", spec := "fnExactSpreadOf", apart := false, narrowed := true }
def FnExactSpreadOfUptoSaid : Prop := fnExactSpreadOfUptoRow.holds Try.pinned (OpenSpec.upto fnExactSpreadOfSpec)

/-- 'laws.FnExactOrderBy', WHERE WHAT IT READS IS OF BULK AT MOST 1048576: true; the input reads as it did. -/
def fnExactOrderByUptoRow : OpenClaim := { program := "ytkkfobdoliimiaa", sum := "9cc85161816c345417392ed40acdfc272bc36be65b6c1ec976b29868e37030c8", func := "loop.example/onecounter/laws.FnExactOrderBy", spec := "fnExactOrderBy", apart := false, narrowed := true }
def FnExactOrderByUptoSaid : Prop := fnExactOrderByUptoRow.holds Try.pinned (OpenSpec.upto fnExactOrderBySpec)

/-- 'laws.FnOrderBy', WHERE WHAT IT READS IS OF BULK AT MOST 1048576: true; the input reads as it did. -/
def fnOrderByUptoRow : OpenClaim := { program := "ytkkfobdoliimiaa", sum := "9cc85161816c345417392ed40acdfc272bc36be65b6c1ec976b29868e37030c8", func := "loop.example/onecounter/laws.FnOrderBy", spec := "fnOrderBy", apart := false, narrowed := true }
def FnOrderByUptoSaid : Prop := fnOrderByUptoRow.holds Try.pinned (OpenSpec.upto fnOrderBySpec)

end Rows
end Go.Proofs.Ytkkfobdoliimiaa
