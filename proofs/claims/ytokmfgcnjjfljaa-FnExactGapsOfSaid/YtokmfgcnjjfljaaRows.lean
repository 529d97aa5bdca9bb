/-
  No cell of these rows narrows 'for every input' (looked for: loops, veiled, ifaces, maps, wideKeys, modest, calm, conditions, laid).
  DERIVED. THE GIVEN ROWS OF THIS SEAT. 12 by the template 'for every input the law returns true; each argument reads behind the call as it read before'; 0 by the template 'total and deterministic' (their statements: YtokmfgcnjjfljaaTotals.lean).
  GIVEN WITH THE SEED: the statements are not yours to turn. If you find one false, say at which input.
  Laid BY PROGRAM, IN A SANDBOX (cutbox-rows.mjs): the forced cells as the released guide's own fill.sh prints them over the translation ef17ece2c2f58bec… (all of the seat's roots in one cut). By AI agents, Wed Nov 11 2026. No macro, syntax, notation, axiom, sorry.
-/
import Derived.Test.YtokmfgcnjjfljaaChecked
import GoSem.Claim
import GoSem.ClaimJoined
import GoSem.ClaimMapViews
import Derived.JoinedTies
import Derived.KernelRfl
namespace Go.Proofs.Ytokmfgcnjjfljaa
/- THE CELL 'sum', in the pinned program and in every row, IS THE sha256 OF THE DUMP (.gsa) THAT YtokmfgcnjjfljaaProg.lean LOADS. Nothing in Lean hashes anything: it is a label: what it is worth is what the hold of that sum in a sandbox is worth. -/
noncomputable def Try.pinned : Pinned := { name := "ytokmfgcnjjfljaa", sum := "ef17ece2c2f58bec0162b1733b86470aab8e52ac5ff15eff6d0986bae565933b", checked := Try.checked }
namespace Rows
def none {H : Type} : Left H := { results := [], args := [] }

/-- 'laws.FnExactConstants': WHATEVER THE INPUT: true; the input reads as it did. -/
def fnExactConstantsSpec : ChangeSpec := { name := "fnExactConstants", fn := fun _ => fun
  | [] => { results := [.lit (.bool true)], args := [] }
  | _ => none }
def fnExactConstantsRow : OpenClaim := { program := "ytokmfgcnjjfljaa", sum := "ef17ece2c2f58bec0162b1733b86470aab8e52ac5ff15eff6d0986bae565933b", func := "loop.example/onecounter/laws.FnExactConstants", spec := "fnExactConstants", apart := false }
def FnExactConstantsSaid : Prop := fnExactConstantsRow.holds Try.pinned (OpenSpec.ofChange fnExactConstantsSpec)

/-- ITS FALSE NEIGHBOUR: 'it returns false'. Refute it at one input. -/
def fnExactConstantsWrong : ChangeSpec := { name := "fnExactConstants", fn := fun _ => fun
  | [] => { results := [.lit (.bool false)], args := [] }
  | _ => none }
def FnExactConstantsWrongFalsely : Prop := fnExactConstantsRow.holds Try.pinned (OpenSpec.ofChange fnExactConstantsWrong)

/-- 'laws.FnExactCustomersOk': WHATEVER THE INPUT: true; the input reads as it did. -/
def fnExactCustomersOkSpec : ChangeSpec := { name := "fnExactCustomersOk", fn := fun _ => fun
  | [d] => { results := [.lit (.bool true)], args := [d] }
  | _ => none }
def fnExactCustomersOkRow : OpenClaim := { program := "ytokmfgcnjjfljaa", sum := "ef17ece2c2f58bec0162b1733b86470aab8e52ac5ff15eff6d0986bae565933b", func := "loop.example/onecounter/laws.FnExactCustomersOk", spec := "fnExactCustomersOk", apart := false }
def FnExactCustomersOkSaid : Prop := fnExactCustomersOkRow.holds Try.pinned (OpenSpec.ofChange fnExactCustomersOkSpec)

/-- ITS FALSE NEIGHBOUR: 'it returns false'. Refute it at one input. -/
def fnExactCustomersOkWrong : ChangeSpec := { name := "fnExactCustomersOk", fn := fun _ => fun
  | [d] => { results := [.lit (.bool false)], args := [d] }
  | _ => none }
def FnExactCustomersOkWrongFalsely : Prop := fnExactCustomersOkRow.holds Try.pinned (OpenSpec.ofChange fnExactCustomersOkWrong)

/-- 'laws.FnCustomersOk': WHATEVER THE INPUT: true; the input reads as it did. -/
def fnCustomersOkSpec : ChangeSpec := { name := "fnCustomersOk", fn := fun _ => fun
  | [d] => { results := [.lit (.bool true)], args := [d] }
  | _ => none }
def fnCustomersOkRow : OpenClaim := { program := "ytokmfgcnjjfljaa", sum := "ef17ece2c2f58bec0162b1733b86470aab8e52ac5ff15eff6d0986bae565933b", func := "loop.example/onecounter/laws.FnCustomersOk", spec := "fnCustomersOk", apart := false }
def FnCustomersOkSaid : Prop := fnCustomersOkRow.holds Try.pinned (OpenSpec.ofChange fnCustomersOkSpec)

/-- ITS FALSE NEIGHBOUR: 'it returns false'. Refute it at one input. -/
def fnCustomersOkWrong : ChangeSpec := { name := "fnCustomersOk", fn := fun _ => fun
  | [d] => { results := [.lit (.bool false)], args := [d] }
  | _ => none }
def FnCustomersOkWrongFalsely : Prop := fnCustomersOkRow.holds Try.pinned (OpenSpec.ofChange fnCustomersOkWrong)

/-- 'laws.FnExactNeedOf': WHATEVER THE INPUT: true; the input reads as it did. -/
def fnExactNeedOfSpec : ChangeSpec := { name := "fnExactNeedOf", fn := fun _ => fun
  | [d] => { results := [.lit (.bool true)], args := [d] }
  | _ => none }
def fnExactNeedOfRow : OpenClaim := { program := "ytokmfgcnjjfljaa", sum := "ef17ece2c2f58bec0162b1733b86470aab8e52ac5ff15eff6d0986bae565933b", func := "loop.example/onecounter/laws.FnExactNeedOf", spec := "fnExactNeedOf", apart := false }
def FnExactNeedOfSaid : Prop := fnExactNeedOfRow.holds Try.pinned (OpenSpec.ofChange fnExactNeedOfSpec)

/-- ITS FALSE NEIGHBOUR: 'it returns false'. Refute it at one input. -/
def fnExactNeedOfWrong : ChangeSpec := { name := "fnExactNeedOf", fn := fun _ => fun
  | [d] => { results := [.lit (.bool false)], args := [d] }
  | _ => none }
def FnExactNeedOfWrongFalsely : Prop := fnExactNeedOfRow.holds Try.pinned (OpenSpec.ofChange fnExactNeedOfWrong)

/-- 'laws.FnNeedOf': WHATEVER THE INPUT: true; the input reads as it did. -/
def fnNeedOfSpec : ChangeSpec := { name := "fnNeedOf", fn := fun _ => fun
  | [d] => { results := [.lit (.bool true)], args := [d] }
  | _ => none }
def fnNeedOfRow : OpenClaim := { program := "ytokmfgcnjjfljaa", sum := "ef17ece2c2f58bec0162b1733b86470aab8e52ac5ff15eff6d0986bae565933b", func := "loop.example/onecounter/laws.FnNeedOf", spec := "fnNeedOf", apart := false }
def FnNeedOfSaid : Prop := fnNeedOfRow.holds Try.pinned (OpenSpec.ofChange fnNeedOfSpec)

/-- ITS FALSE NEIGHBOUR: 'it returns false'. Refute it at one input. -/
def fnNeedOfWrong : ChangeSpec := { name := "fnNeedOf", fn := fun _ => fun
  | [d] => { results := [.lit (.bool false)], args := [d] }
  | _ => none }
def FnNeedOfWrongFalsely : Prop := fnNeedOfRow.holds Try.pinned (OpenSpec.ofChange fnNeedOfWrong)

/-- 'laws.FnExactComeBy': WHATEVER THE INPUT: true; the input reads as it did. -/
def fnExactComeBySpec : ChangeSpec := { name := "fnExactComeBy", fn := fun _ => fun
  | [d1, d2] => { results := [.lit (.bool true)], args := [d1, d2] }
  | _ => none }
def fnExactComeByRow : OpenClaim := { program := "ytokmfgcnjjfljaa", sum := "ef17ece2c2f58bec0162b1733b86470aab8e52ac5ff15eff6d0986bae565933b", func := "loop.example/onecounter/laws.FnExactComeBy", spec := "fnExactComeBy", apart := false }
def FnExactComeBySaid : Prop := fnExactComeByRow.holds Try.pinned (OpenSpec.ofChange fnExactComeBySpec)

/-- ITS FALSE NEIGHBOUR: 'it returns false'. Refute it at one input. -/
def fnExactComeByWrong : ChangeSpec := { name := "fnExactComeBy", fn := fun _ => fun
  | [d1, d2] => { results := [.lit (.bool false)], args := [d1, d2] }
  | _ => none }
def FnExactComeByWrongFalsely : Prop := fnExactComeByRow.holds Try.pinned (OpenSpec.ofChange fnExactComeByWrong)

/-- 'laws.FnComeBy': WHATEVER THE INPUT: true; the input reads as it did. -/
def fnComeBySpec : ChangeSpec := { name := "fnComeBy", fn := fun _ => fun
  | [d] => { results := [.lit (.bool true)], args := [d] }
  | _ => none }
def fnComeByRow : OpenClaim := { program := "ytokmfgcnjjfljaa", sum := "ef17ece2c2f58bec0162b1733b86470aab8e52ac5ff15eff6d0986bae565933b", func := "loop.example/onecounter/laws.FnComeBy", spec := "fnComeBy", apart := false }
def FnComeBySaid : Prop := fnComeByRow.holds Try.pinned (OpenSpec.ofChange fnComeBySpec)

/-- ITS FALSE NEIGHBOUR: 'it returns false'. Refute it at one input. -/
def fnComeByWrong : ChangeSpec := { name := "fnComeBy", fn := fun _ => fun
  | [d] => { results := [.lit (.bool false)], args := [d] }
  | _ => none }
def FnComeByWrongFalsely : Prop := fnComeByRow.holds Try.pinned (OpenSpec.ofChange fnComeByWrong)

/-- 'laws.FnExactGreatestLack': WHATEVER THE INPUT: true; the input reads as it did. -/
def fnExactGreatestLackSpec : ChangeSpec := { name := "fnExactGreatestLack", fn := fun _ => fun
  | [d1, d2] => { results := [.lit (.bool true)], args := [d1, d2] }
  | _ => none }
def fnExactGreatestLackRow : OpenClaim := { program := "ytokmfgcnjjfljaa", sum := "ef17ece2c2f58bec0162b1733b86470aab8e52ac5ff15eff6d0986bae565933b", func := "loop.example/onecounter/laws.FnExactGreatestLack", spec := "fnExactGreatestLack", apart := false }
def FnExactGreatestLackSaid : Prop := fnExactGreatestLackRow.holds Try.pinned (OpenSpec.ofChange fnExactGreatestLackSpec)

/-- ITS FALSE NEIGHBOUR: 'it returns false'. Refute it at one input. -/
def fnExactGreatestLackWrong : ChangeSpec := { name := "fnExactGreatestLack", fn := fun _ => fun
  | [d1, d2] => { results := [.lit (.bool false)], args := [d1, d2] }
  | _ => none }
def FnExactGreatestLackWrongFalsely : Prop := fnExactGreatestLackRow.holds Try.pinned (OpenSpec.ofChange fnExactGreatestLackWrong)

/-- 'laws.FnGreatestLack': WHATEVER THE INPUT: true; the input reads as it did. -/
def fnGreatestLackSpec : ChangeSpec := { name := "fnGreatestLack", fn := fun _ => fun
  | [d] => { results := [.lit (.bool true)], args := [d] }
  | _ => none }
def fnGreatestLackRow : OpenClaim := { program := "ytokmfgcnjjfljaa", sum := "ef17ece2c2f58bec0162b1733b86470aab8e52ac5ff15eff6d0986bae565933b", func := "loop.example/onecounter/laws.FnGreatestLack", spec := "fnGreatestLack", apart := false }
def FnGreatestLackSaid : Prop := fnGreatestLackRow.holds Try.pinned (OpenSpec.ofChange fnGreatestLackSpec)

/-- ITS FALSE NEIGHBOUR: 'it returns false'. Refute it at one input. -/
def fnGreatestLackWrong : ChangeSpec := { name := "fnGreatestLack", fn := fun _ => fun
  | [d] => { results := [.lit (.bool false)], args := [d] }
  | _ => none }
def FnGreatestLackWrongFalsely : Prop := fnGreatestLackRow.holds Try.pinned (OpenSpec.ofChange fnGreatestLackWrong)

/-- 'laws.FnExactLastLeave': WHATEVER THE INPUT: true; the input reads as it did. -/
def fnExactLastLeaveSpec : ChangeSpec := { name := "fnExactLastLeave", fn := fun _ => fun
  | [d] => { results := [.lit (.bool true)], args := [d] }
  | _ => none }
def fnExactLastLeaveRow : OpenClaim := { program := "ytokmfgcnjjfljaa", sum := "ef17ece2c2f58bec0162b1733b86470aab8e52ac5ff15eff6d0986bae565933b", func := "loop.example/onecounter/laws.FnExactLastLeave", spec := "fnExactLastLeave", apart := false }
def FnExactLastLeaveSaid : Prop := fnExactLastLeaveRow.holds Try.pinned (OpenSpec.ofChange fnExactLastLeaveSpec)

/-- ITS FALSE NEIGHBOUR: 'it returns false'. Refute it at one input. -/
def fnExactLastLeaveWrong : ChangeSpec := { name := "fnExactLastLeave", fn := fun _ => fun
  | [d] => { results := [.lit (.bool false)], args := [d] }
  | _ => none }
def FnExactLastLeaveWrongFalsely : Prop := fnExactLastLeaveRow.holds Try.pinned (OpenSpec.ofChange fnExactLastLeaveWrong)

/-- 'laws.FnLastLeave': WHATEVER THE INPUT: true; the input reads as it did. -/
def fnLastLeaveSpec : ChangeSpec := { name := "fnLastLeave", fn := fun _ => fun
  | [d] => { results := [.lit (.bool true)], args := [d] }
  | _ => none }
def fnLastLeaveRow : OpenClaim := { program := "ytokmfgcnjjfljaa", sum := "ef17ece2c2f58bec0162b1733b86470aab8e52ac5ff15eff6d0986bae565933b", func := "loop.example/onecounter/laws.FnLastLeave", spec := "fnLastLeave", apart := false }
def FnLastLeaveSaid : Prop := fnLastLeaveRow.holds Try.pinned (OpenSpec.ofChange fnLastLeaveSpec)

/-- ITS FALSE NEIGHBOUR: 'it returns false'. Refute it at one input. -/
def fnLastLeaveWrong : ChangeSpec := { name := "fnLastLeave", fn := fun _ => fun
  | [d] => { results := [.lit (.bool false)], args := [d] }
  | _ => none }
def FnLastLeaveWrongFalsely : Prop := fnLastLeaveRow.holds Try.pinned (OpenSpec.ofChange fnLastLeaveWrong)

/-- 'laws.FnExactGapsOf': WHATEVER THE INPUT: true; the input reads as it did. -/
def fnExactGapsOfSpec : ChangeSpec := { name := "fnExactGapsOf", fn := fun _ => fun
  | [d] => { results := [.lit (.bool true)], args := [d] }
  | _ => none }
def fnExactGapsOfRow : OpenClaim := { program := "ytokmfgcnjjfljaa", sum := "ef17ece2c2f58bec0162b1733b86470aab8e52ac5ff15eff6d0986bae565933b", func := "loop.example/onecounter/laws.FnExactGapsOf", spec := "fnExactGapsOf", apart := false }
def FnExactGapsOfSaid : Prop := fnExactGapsOfRow.holds Try.pinned (OpenSpec.ofChange fnExactGapsOfSpec)

/-- ITS FALSE NEIGHBOUR: 'it returns false'. Refute it at one input. -/
def fnExactGapsOfWrong : ChangeSpec := { name := "fnExactGapsOf", fn := fun _ => fun
  | [d] => { results := [.lit (.bool false)], args := [d] }
  | _ => none }
def FnExactGapsOfWrongFalsely : Prop := fnExactGapsOfRow.holds Try.pinned (OpenSpec.ofChange fnExactGapsOfWrong)

/- THE SECOND FORM. 'bulk': how many values and letters a reading holds, each counted each time it is reached (what is shared counts as often as it is met; a slice's spare places count too). A statement '..UptoSaid' is the law's where the arguments, and the package variables that the reading takes, are together of bulk at most 1048576: NARROWER than '..Said'. Prove '..Said' where nothing that the law and all that it calls make is longer than what came in: it says more and counts as full. Else prove '..UptoSaid'. A law counts once. -/
mutual
def uptoBulk {H : Type} : DataW H → Nat
  | .lit (.string bytes) => bytes.length + 1
  | .lit _ => 1
  | .nil => 1
  | .ptr d => uptoBulk d + 1
  | .slice elems spare => uptoBulkAll elems + uptoBulkAll spare + 1
  | .agg parts => uptoBulkAll parts + 1
  | .iface _ d => uptoBulk d + 1
  | .map entries => uptoBulkEntries entries + 1
  | .held _ => 1
def uptoBulkAll {H : Type} : List (DataW H) → Nat
  | [] => 0
  | d :: r => uptoBulk d + uptoBulkAll r
def uptoBulkEntries {H : Type} : List (Lit × DataW H) → Nat
  | [] => 0
  | x :: r => uptoBulkEntry x + uptoBulkEntries r
def uptoBulkEntry {H : Type} : Lit × DataW H → Nat
  | (.string bytes, d) => bytes.length + uptoBulk d + 1
  | (_, d) => uptoBulk d + 1
 end
def uptoSmall : (H : Type) → List (DataW H) → Bool := fun _ ds => decide (uptoBulkAll ds ≤ 1048576)
def OpenSpec.upto (s : _root_.Go.ChangeSpec) : _root_.Go.OpenSpec := { _root_.Go.OpenSpec.ofChange s with cond := some uptoSmall }

/-- 'laws.FnExactConstants', WHERE WHAT IT READS IS OF BULK AT MOST 1048576: true; the input reads as it did. -/
def fnExactConstantsUptoRow : OpenClaim := { program := "ytokmfgcnjjfljaa", sum := "ef17ece2c2f58bec0162b1733b86470aab8e52ac5ff15eff6d0986bae565933b", func := "loop.example/onecounter/laws.FnExactConstants", spec := "fnExactConstants", apart := false, narrowed := true }
def FnExactConstantsUptoSaid : Prop := fnExactConstantsUptoRow.holds Try.pinned (OpenSpec.upto fnExactConstantsSpec)

/-- 'laws.FnExactCustomersOk', WHERE WHAT IT READS IS OF BULK AT MOST 1048576: true; the input reads as it did. -/
def fnExactCustomersOkUptoRow : OpenClaim := { program := "ytokmfgcnjjfljaa", sum := "ef17ece2c2f58bec0162b1733b86470aab8e52ac5ff15eff6d0986bae565933b", func := "loop.example/onecounter/laws.FnExactCustomersOk", spec := "fnExactCustomersOk", apart := false, narrowed := true }
def FnExactCustomersOkUptoSaid : Prop := fnExactCustomersOkUptoRow.holds Try.pinned (OpenSpec.upto fnExactCustomersOkSpec)

/-- 'laws.FnCustomersOk', WHERE WHAT IT READS IS OF BULK AT MOST 1048576: true; the input reads as it did. -/
def fnCustomersOkUptoRow : OpenClaim := { program := "ytokmfgcnjjfljaa", sum := "ef17ece2c2f58bec0162b1733b86470aab8e52ac5ff15eff6d0986bae565933b", func := "loop.example/onecounter/laws.FnCustomersOk", spec := "fnCustomersOk", apart := false, narrowed := true }
def FnCustomersOkUptoSaid : Prop := fnCustomersOkUptoRow.holds Try.pinned (OpenSpec.upto fnCustomersOkSpec)

/-- 'laws.FnExactNeedOf', WHERE WHAT IT READS IS OF BULK AT MOST 1048576: true; the input reads as it did. -/
def fnExactNeedOfUptoRow : OpenClaim := { program := "ytokmfgcnjjfljaa", sum := "ef17ece2c2f58bec0162b1733b86470aab8e52ac5ff15eff6d0986bae565933b", func := "loop.example/onecounter/laws.FnExactNeedOf", spec := "fnExactNeedOf", apart := false, narrowed := true }
def FnExactNeedOfUptoSaid : Prop := fnExactNeedOfUptoRow.holds Try.pinned (OpenSpec.upto fnExactNeedOfSpec)

/-- 'laws.FnNeedOf', WHERE WHAT IT READS IS OF BULK AT MOST 1048576: true; the input reads as it did. -/
def fnNeedOfUptoRow : OpenClaim := { program := "ytokmfgcnjjfljaa", sum := "ef17ece2c2f58bec0162b1733b86470aab8e52ac5ff15eff6d0986bae565933b", func := "loop.example/onecounter/laws.FnNeedOf", spec := "fnNeedOf", apart := false, narrowed := true }
def FnNeedOfUptoSaid : Prop := fnNeedOfUptoRow.holds Try.pinned (OpenSpec.upto fnNeedOfSpec)

/-- 'laws.FnExactComeBy', WHERE WHAT IT READS IS OF BULK AT MOST 1048576: true; the input reads as it did. -/
def fnExactComeByUptoRow : OpenClaim := { program := "ytokmfgcnjjfljaa", sum := "ef17ece2c2f58bec0162b1733b86470aab8e52ac5ff15eff6d0986bae565933b", func := "loop.example/onecounter/laws.FnExactComeBy", spec := "fnExactComeBy", apart := false, narrowed := true }
def FnExactComeByUptoSaid : Prop := fnExactComeByUptoRow.holds Try.pinned (OpenSpec.upto fnExactComeBySpec)

/-- 'laws.FnComeBy', WHERE WHAT IT READS IS OF BULK AT MOST 1048576: true; the input reads as it did. -/
def fnComeByUptoRow : OpenClaim := { program := "ytokmfgcnjjfljaa", sum := "ef17ece2c2f58bec0162b1733b86470aab8e52ac5ff15eff6d0986bae565933b", func := "loop.example/onecounter/laws.FnComeBy", spec := "fnComeBy", apart := false, narrowed := true }
def FnComeByUptoSaid : Prop := fnComeByUptoRow.holds Try.pinned (OpenSpec.upto fnComeBySpec)

/-- 'laws.FnExactGreatestLack', WHERE WHAT IT READS IS OF BULK AT MOST 1048576: true; the input reads as it did. -/
def fnExactGreatestLackUptoRow : OpenClaim := { program := "ytokmfgcnjjfljaa", sum := "ef17ece2c2f58bec0162b1733b86470aab8e52ac5ff15eff6d0986bae565933b", func := "loop.example/onecounter/laws.FnExactGreatestLack", spec := "fnExactGreatestLack", apart := false, narrowed := true }
def FnExactGreatestLackUptoSaid : Prop := fnExactGreatestLackUptoRow.holds Try.pinned (OpenSpec.upto fnExactGreatestLackSpec)

/-- 'laws.FnGreatestLack', WHERE WHAT IT READS IS OF BULK AT MOST 1048576: true; the input reads as it did. -/
def fnGreatestLackUptoRow : OpenClaim := { program := "ytokmfgcnjjfljaa", sum := "ef17ece2c2f58bec0162b1733b86470aab8e52ac5ff15eff6d0986bae565933b", func := "loop.example/onecounter/laws.FnGreatestLack", spec := "fnGreatestLack", apart := false, narrowed := true }
def FnGreatestLackUptoSaid : Prop := fnGreatestLackUptoRow.holds Try.pinned (OpenSpec.upto fnGreatestLackSpec)

/-- 'laws.FnExactLastLeave', WHERE WHAT IT READS IS OF BULK AT MOST 1048576: true; the input reads as it did. -/
def fnExactLastLeaveUptoRow : OpenClaim := { program := "ytokmfgcnjjfljaa", sum := "ef17ece2c2f58bec0162b1733b86470aab8e52ac5ff15eff6d0986bae565933b", func := "loop.example/onecounter/laws.FnExactLastLeave", spec := "fnExactLastLeave", apart := false, narrowed := true }
def FnExactLastLeaveUptoSaid : Prop := fnExactLastLeaveUptoRow.holds Try.pinned (OpenSpec.upto fnExactLastLeaveSpec)

/-- 'laws.FnLastLeave', WHERE WHAT IT READS IS OF BULK AT MOST 1048576: true; the input reads as it did. -/
def fnLastLeaveUptoRow : OpenClaim := { program := "ytokmfgcnjjfljaa", sum := "ef17ece2c2f58bec0162b1733b86470aab8e52ac5ff15eff6d0986bae565933b", func := "loop.example/onecounter/laws.FnLastLeave", spec := "fnLastLeave", apart := false, narrowed := true }
def FnLastLeaveUptoSaid : Prop := fnLastLeaveUptoRow.holds Try.pinned (OpenSpec.upto fnLastLeaveSpec)

/-- 'laws.FnExactGapsOf', WHERE WHAT IT READS IS OF BULK AT MOST 1048576: true; the input reads as it did. -/
def fnExactGapsOfUptoRow : OpenClaim := { program := "ytokmfgcnjjfljaa", sum := "ef17ece2c2f58bec0162b1733b86470aab8e52ac5ff15eff6d0986bae565933b", func := "loop.example/onecounter/laws.FnExactGapsOf", spec := "fnExactGapsOf", apart := false, narrowed := true }
def FnExactGapsOfUptoSaid : Prop := fnExactGapsOfUptoRow.holds Try.pinned (OpenSpec.upto fnExactGapsOfSpec)

end Rows
end Go.Proofs.Ytokmfgcnjjfljaa
