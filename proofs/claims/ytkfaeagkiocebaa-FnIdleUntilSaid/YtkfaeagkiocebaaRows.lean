/-
  No cell of these rows narrows 'for every input' (looked for: loops, veiled, ifaces, maps, wideKeys, modest, calm, conditions, laid).
  DERIVED. THE GIVEN ROWS OF THIS SEAT. 11 by the template 'for every input the law returns true; each argument reads behind the call as it read before'; 0 by the template 'total and deterministic' (their statements: YtkfaeagkiocebaaTotals.lean).
  GIVEN WITH THE SEED: the statements are not yours to turn. If you find one false, say at which input.
  Laid BY PROGRAM, IN A SANDBOX (cutbox-rows.mjs): the forced cells as the released guide's own fill.sh prints them over the translation 5dfb6ee9efe3db31… (all of the seat's roots in one cut). By AI agents, Wed Nov 11 2026. No macro, syntax, notation, axiom, sorry.
-/
import Derived.Test.YtkfaeagkiocebaaChecked
import GoSem.Claim
import GoSem.ClaimJoined
import GoSem.ClaimMapViews
import Derived.JoinedTies
import Derived.KernelRfl
namespace Go.Proofs.Ytkfaeagkiocebaa
/- THE CELL 'sum', in the pinned program and in every row, IS THE sha256 OF THE DUMP (.gsa) THAT YtkfaeagkiocebaaProg.lean LOADS. Nothing in Lean hashes anything: it is a label: what it is worth is what the hold of that sum in a sandbox is worth. -/
noncomputable def Try.pinned : Pinned := { name := "ytkfaeagkiocebaa", sum := "5dfb6ee9efe3db312d87282afcde9098ee6501d1be540d596798eed3e05359f0", checked := Try.checked }
namespace Rows
def none {H : Type} : Left H := { results := [], args := [] }

/-- 'laws.FnExactNeedingMore': WHATEVER THE INPUT: true; the input reads as it did. -/
def fnExactNeedingMoreSpec : ChangeSpec := { name := "fnExactNeedingMore", fn := fun _ => fun
  | [d1, d2] => { results := [.lit (.bool true)], args := [d1, d2] }
  | _ => none }
def fnExactNeedingMoreRow : OpenClaim := { program := "ytkfaeagkiocebaa", sum := "5dfb6ee9efe3db312d87282afcde9098ee6501d1be540d596798eed3e05359f0", func := "loop.example/onecounter/laws.FnExactNeedingMore", spec := "fnExactNeedingMore", apart := false }
def FnExactNeedingMoreSaid : Prop := fnExactNeedingMoreRow.holds Try.pinned (OpenSpec.ofChange fnExactNeedingMoreSpec)

/-- ITS FALSE NEIGHBOUR: 'it returns false'. Refute it at one input. -/
def fnExactNeedingMoreWrong : ChangeSpec := { name := "fnExactNeedingMore", fn := fun _ => fun
  | [d1, d2] => { results := [.lit (.bool false)], args := [d1, d2] }
  | _ => none }
def FnExactNeedingMoreWrongFalsely : Prop := fnExactNeedingMoreRow.holds Try.pinned (OpenSpec.ofChange fnExactNeedingMoreWrong)

/-- 'laws.FnNeedingMore': WHATEVER THE INPUT: true; the input reads as it did. -/
def fnNeedingMoreSpec : ChangeSpec := { name := "fnNeedingMore", fn := fun _ => fun
  | [d] => { results := [.lit (.bool true)], args := [d] }
  | _ => none }
def fnNeedingMoreRow : OpenClaim := { program := "ytkfaeagkiocebaa", sum := "5dfb6ee9efe3db312d87282afcde9098ee6501d1be540d596798eed3e05359f0", func := "loop.example/onecounter/laws.FnNeedingMore", spec := "fnNeedingMore", apart := false }
def FnNeedingMoreSaid : Prop := fnNeedingMoreRow.holds Try.pinned (OpenSpec.ofChange fnNeedingMoreSpec)

/-- ITS FALSE NEIGHBOUR: 'it returns false'. Refute it at one input. -/
def fnNeedingMoreWrong : ChangeSpec := { name := "fnNeedingMore", fn := fun _ => fun
  | [d] => { results := [.lit (.bool false)], args := [d] }
  | _ => none }
def FnNeedingMoreWrongFalsely : Prop := fnNeedingMoreRow.holds Try.pinned (OpenSpec.ofChange fnNeedingMoreWrong)

/-- 'laws.FnExactLaterBy': WHATEVER THE INPUT: true; the input reads as it did. -/
def fnExactLaterBySpec : ChangeSpec := { name := "fnExactLaterBy", fn := fun _ => fun
  | [d1, d2] => { results := [.lit (.bool true)], args := [d1, d2] }
  | _ => none }
def fnExactLaterByRow : OpenClaim := { program := "ytkfaeagkiocebaa", sum := "5dfb6ee9efe3db312d87282afcde9098ee6501d1be540d596798eed3e05359f0", func := "loop.example/onecounter/laws.FnExactLaterBy", spec := "fnExactLaterBy", apart := false }
def FnExactLaterBySaid : Prop := fnExactLaterByRow.holds Try.pinned (OpenSpec.ofChange fnExactLaterBySpec)

/-- ITS FALSE NEIGHBOUR: 'it returns false'. Refute it at one input. -/
def fnExactLaterByWrong : ChangeSpec := { name := "fnExactLaterBy", fn := fun _ => fun
  | [d1, d2] => { results := [.lit (.bool false)], args := [d1, d2] }
  | _ => none }
def FnExactLaterByWrongFalsely : Prop := fnExactLaterByRow.holds Try.pinned (OpenSpec.ofChange fnExactLaterByWrong)

/-- 'laws.FnLaterBy': WHATEVER THE INPUT: true; the input reads as it did. -/
def fnLaterBySpec : ChangeSpec := { name := "fnLaterBy", fn := fun _ => fun
  | [d] => { results := [.lit (.bool true)], args := [d] }
  | _ => none }
def fnLaterByRow : OpenClaim := { program := "ytkfaeagkiocebaa", sum := "5dfb6ee9efe3db312d87282afcde9098ee6501d1be540d596798eed3e05359f0", func := "loop.example/onecounter/laws.FnLaterBy", spec := "fnLaterBy", apart := false }
def FnLaterBySaid : Prop := fnLaterByRow.holds Try.pinned (OpenSpec.ofChange fnLaterBySpec)

/-- ITS FALSE NEIGHBOUR: 'it returns false'. Refute it at one input. -/
def fnLaterByWrong : ChangeSpec := { name := "fnLaterBy", fn := fun _ => fun
  | [d] => { results := [.lit (.bool false)], args := [d] }
  | _ => none }
def FnLaterByWrongFalsely : Prop := fnLaterByRow.holds Try.pinned (OpenSpec.ofChange fnLaterByWrong)

/-- 'laws.FnGapsOf': WHATEVER THE INPUT: true; the input reads as it did. -/
def fnGapsOfSpec : ChangeSpec := { name := "fnGapsOf", fn := fun _ => fun
  | [d] => { results := [.lit (.bool true)], args := [d] }
  | _ => none }
def fnGapsOfRow : OpenClaim := { program := "ytkfaeagkiocebaa", sum := "5dfb6ee9efe3db312d87282afcde9098ee6501d1be540d596798eed3e05359f0", func := "loop.example/onecounter/laws.FnGapsOf", spec := "fnGapsOf", apart := false }
def FnGapsOfSaid : Prop := fnGapsOfRow.holds Try.pinned (OpenSpec.ofChange fnGapsOfSpec)

/-- ITS FALSE NEIGHBOUR: 'it returns false'. Refute it at one input. -/
def fnGapsOfWrong : ChangeSpec := { name := "fnGapsOf", fn := fun _ => fun
  | [d] => { results := [.lit (.bool false)], args := [d] }
  | _ => none }
def FnGapsOfWrongFalsely : Prop := fnGapsOfRow.holds Try.pinned (OpenSpec.ofChange fnGapsOfWrong)

/-- 'laws.FnExactWaitsOf': WHATEVER THE INPUT: true; the input reads as it did. -/
def fnExactWaitsOfSpec : ChangeSpec := { name := "fnExactWaitsOf", fn := fun _ => fun
  | [d] => { results := [.lit (.bool true)], args := [d] }
  | _ => none }
def fnExactWaitsOfRow : OpenClaim := { program := "ytkfaeagkiocebaa", sum := "5dfb6ee9efe3db312d87282afcde9098ee6501d1be540d596798eed3e05359f0", func := "loop.example/onecounter/laws.FnExactWaitsOf", spec := "fnExactWaitsOf", apart := false }
def FnExactWaitsOfSaid : Prop := fnExactWaitsOfRow.holds Try.pinned (OpenSpec.ofChange fnExactWaitsOfSpec)

/-- ITS FALSE NEIGHBOUR: 'it returns false'. Refute it at one input. -/
def fnExactWaitsOfWrong : ChangeSpec := { name := "fnExactWaitsOf", fn := fun _ => fun
  | [d] => { results := [.lit (.bool false)], args := [d] }
  | _ => none }
def FnExactWaitsOfWrongFalsely : Prop := fnExactWaitsOfRow.holds Try.pinned (OpenSpec.ofChange fnExactWaitsOfWrong)

/-- 'laws.FnWaitsOf': WHATEVER THE INPUT: true; the input reads as it did. -/
def fnWaitsOfSpec : ChangeSpec := { name := "fnWaitsOf", fn := fun _ => fun
  | [d] => { results := [.lit (.bool true)], args := [d] }
  | _ => none }
def fnWaitsOfRow : OpenClaim := { program := "ytkfaeagkiocebaa", sum := "5dfb6ee9efe3db312d87282afcde9098ee6501d1be540d596798eed3e05359f0", func := "loop.example/onecounter/laws.FnWaitsOf", spec := "fnWaitsOf", apart := false }
def FnWaitsOfSaid : Prop := fnWaitsOfRow.holds Try.pinned (OpenSpec.ofChange fnWaitsOfSpec)

/-- ITS FALSE NEIGHBOUR: 'it returns false'. Refute it at one input. -/
def fnWaitsOfWrong : ChangeSpec := { name := "fnWaitsOf", fn := fun _ => fun
  | [d] => { results := [.lit (.bool false)], args := [d] }
  | _ => none }
def FnWaitsOfWrongFalsely : Prop := fnWaitsOfRow.holds Try.pinned (OpenSpec.ofChange fnWaitsOfWrong)

/-- 'laws.FnExactLeavesOf': WHATEVER THE INPUT: true; the input reads as it did. -/
def fnExactLeavesOfSpec : ChangeSpec := { name := "fnExactLeavesOf", fn := fun _ => fun
  | [d] => { results := [.lit (.bool true)], args := [d] }
  | _ => none }
def fnExactLeavesOfRow : OpenClaim := { program := "ytkfaeagkiocebaa", sum := "5dfb6ee9efe3db312d87282afcde9098ee6501d1be540d596798eed3e05359f0", func := "loop.example/onecounter/laws.FnExactLeavesOf", spec := "fnExactLeavesOf", apart := false }
def FnExactLeavesOfSaid : Prop := fnExactLeavesOfRow.holds Try.pinned (OpenSpec.ofChange fnExactLeavesOfSpec)

/-- ITS FALSE NEIGHBOUR: 'it returns false'. Refute it at one input. -/
def fnExactLeavesOfWrong : ChangeSpec := { name := "fnExactLeavesOf", fn := fun _ => fun
  | [d] => { results := [.lit (.bool false)], args := [d] }
  | _ => none }
def FnExactLeavesOfWrongFalsely : Prop := fnExactLeavesOfRow.holds Try.pinned (OpenSpec.ofChange fnExactLeavesOfWrong)

/-- 'laws.FnLeavesOf': WHATEVER THE INPUT: true; the input reads as it did. -/
def fnLeavesOfSpec : ChangeSpec := { name := "fnLeavesOf", fn := fun _ => fun
  | [d] => { results := [.lit (.bool true)], args := [d] }
  | _ => none }
def fnLeavesOfRow : OpenClaim := { program := "ytkfaeagkiocebaa", sum := "5dfb6ee9efe3db312d87282afcde9098ee6501d1be540d596798eed3e05359f0", func := "loop.example/onecounter/laws.FnLeavesOf", spec := "fnLeavesOf", apart := false }
def FnLeavesOfSaid : Prop := fnLeavesOfRow.holds Try.pinned (OpenSpec.ofChange fnLeavesOfSpec)

/-- ITS FALSE NEIGHBOUR: 'it returns false'. Refute it at one input. -/
def fnLeavesOfWrong : ChangeSpec := { name := "fnLeavesOf", fn := fun _ => fun
  | [d] => { results := [.lit (.bool false)], args := [d] }
  | _ => none }
def FnLeavesOfWrongFalsely : Prop := fnLeavesOfRow.holds Try.pinned (OpenSpec.ofChange fnLeavesOfWrong)

/-- 'laws.FnExactIdleUntil': WHATEVER THE INPUT: true; the input reads as it did. -/
def fnExactIdleUntilSpec : ChangeSpec := { name := "fnExactIdleUntil", fn := fun _ => fun
  | [d] => { results := [.lit (.bool true)], args := [d] }
  | _ => none }
def fnExactIdleUntilRow : OpenClaim := { program := "ytkfaeagkiocebaa", sum := "5dfb6ee9efe3db312d87282afcde9098ee6501d1be540d596798eed3e05359f0", func := "loop.example/onecounter/laws.FnExactIdleUntil", spec := "fnExactIdleUntil", apart := false }
def FnExactIdleUntilSaid : Prop := fnExactIdleUntilRow.holds Try.pinned (OpenSpec.ofChange fnExactIdleUntilSpec)

/-- ITS FALSE NEIGHBOUR: 'it returns false'. Refute it at one input. -/
def fnExactIdleUntilWrong : ChangeSpec := { name := "fnExactIdleUntil", fn := fun _ => fun
  | [d] => { results := [.lit (.bool false)], args := [d] }
  | _ => none }
def FnExactIdleUntilWrongFalsely : Prop := fnExactIdleUntilRow.holds Try.pinned (OpenSpec.ofChange fnExactIdleUntilWrong)

/-- 'laws.FnIdleUntil': WHATEVER THE INPUT: true; the input reads as it did. -/
def fnIdleUntilSpec : ChangeSpec := { name := "fnIdleUntil", fn := fun _ => fun
  | [d] => { results := [.lit (.bool true)], args := [d] }
  | _ => none }
def fnIdleUntilRow : OpenClaim := { program := "ytkfaeagkiocebaa", sum := "5dfb6ee9efe3db312d87282afcde9098ee6501d1be540d596798eed3e05359f0", func := "loop.example/onecounter/laws.FnIdleUntil", spec := "fnIdleUntil", apart := false }
def FnIdleUntilSaid : Prop := fnIdleUntilRow.holds Try.pinned (OpenSpec.ofChange fnIdleUntilSpec)

/-- ITS FALSE NEIGHBOUR: 'it returns false'. Refute it at one input. -/
def fnIdleUntilWrong : ChangeSpec := { name := "fnIdleUntil", fn := fun _ => fun
  | [d] => { results := [.lit (.bool false)], args := [d] }
  | _ => none }
def FnIdleUntilWrongFalsely : Prop := fnIdleUntilRow.holds Try.pinned (OpenSpec.ofChange fnIdleUntilWrong)

/- THE SECOND FORM. 'bulk': how many values and letters a reading holds, each counted each time it is reached (what is shared counts as often as it is met; a slice's spare places count too). A statement '..UptoSaid' is the law's where the arguments, and the package variables that the reading takes, are together of bulk at most 1048576: NARROWER than '..Said'. Prove '..Said' where nothing that the law and all that it calls make is longer than what came in: it says more and counts as full. Else prove '..UptoSaid'. A law counts once. -/
mutual
def uptoBulk {H : Type} : DataW H → Nat
  | .lit (.string bytes) => bytes.length + 1
  | .lit _ => 1
  | .nil => 1
  | .ptr d => uptoBulk d + 1
  | .slice elems spare => uptoBulkAll elems + uptoBulkAll spare + 1
  | .agg parts => uptoBulkAll parts + 1
  | .iface _ d => uptoBulk d + 1
  | .map entries => uptoBulkEntries entries + 1
  | .held _ => 1
def uptoBulkAll {H : Type} : List (DataW H) → Nat
  | [] => 0
  | d :: r => uptoBulk d + uptoBulkAll r
def uptoBulkEntries {H : Type} : List (Lit × DataW H) → Nat
  | [] => 0
  | x :: r => uptoBulkEntry x + uptoBulkEntries r
def uptoBulkEntry {H : Type} : Lit × DataW H → Nat
  | (.string bytes, d) => bytes.length + uptoBulk d + 1
  | (_, d) => uptoBulk d + 1
 end
def uptoSmall : (H : Type) → List (DataW H) → Bool := fun _ ds => decide (uptoBulkAll ds ≤ 1048576)
def OpenSpec.upto (s : _root_.Go.ChangeSpec) : _root_.Go.OpenSpec := { _root_.Go.OpenSpec.ofChange s with cond := some uptoSmall }

/-- 'laws.FnExactNeedingMore', WHERE WHAT IT READS IS OF BULK AT MOST 1048576: true; the input reads as it did. -/
def fnExactNeedingMoreUptoRow : OpenClaim := { program := "ytkfaeagkiocebaa", sum := "5dfb6ee9efe3db312d87282afcde9098ee6501d1be540d596798eed3e05359f0", func := "loop.example/onecounter/laws.FnExactNeedingMore", spec := "fnExactNeedingMore", apart := false, narrowed := true }
def FnExactNeedingMoreUptoSaid : Prop := fnExactNeedingMoreUptoRow.holds Try.pinned (OpenSpec.upto fnExactNeedingMoreSpec)

/-- 'laws.FnNeedingMore', WHERE WHAT IT READS IS OF BULK AT MOST 1048576: true; the input reads as it did. -/
def fnNeedingMoreUptoRow : OpenClaim := { program := "ytkfaeagkiocebaa", sum := "5dfb6ee9efe3db312d87282afcde9098ee6501d1be540d596798eed3e05359f0", func := "loop.example/onecounter/laws.FnNeedingMore", spec := "fnNeedingMore", apart := false, narrowed := true }
def FnNeedingMoreUptoSaid : Prop := fnNeedingMoreUptoRow.holds Try.pinned (OpenSpec.upto fnNeedingMoreSpec)

/-- 'laws.FnExactLaterBy', WHERE WHAT IT READS IS OF BULK AT MOST 1048576: true; the input reads as it did. -/
def fnExactLaterByUptoRow : OpenClaim := { program := "ytkfaeagkiocebaa", sum := "5dfb6ee9efe3db312d87282afcde9098ee6501d1be540d596798eed3e05359f0", func := "loop.example/onecounter/laws.FnExactLaterBy", spec := "fnExactLaterBy", apart := false, narrowed := true }
def FnExactLaterByUptoSaid : Prop := fnExactLaterByUptoRow.holds Try.pinned (OpenSpec.upto fnExactLaterBySpec)

/-- 'laws.FnLaterBy', WHERE WHAT IT READS IS OF BULK AT MOST 1048576: true; the input reads as it did. -/
def fnLaterByUptoRow : OpenClaim := { program := "ytkfaeagkiocebaa", sum := "5dfb6ee9efe3db312d87282afcde9098ee6501d1be540d596798eed3e05359f0", func := "loop.example/onecounter/laws.FnLaterBy", spec := "fnLaterBy", apart := false, narrowed := true }
def FnLaterByUptoSaid : Prop := fnLaterByUptoRow.holds Try.pinned (OpenSpec.upto fnLaterBySpec)

/-- 'laws.FnGapsOf', WHERE WHAT IT READS IS OF BULK AT MOST 1048576: true; the input reads as it did. -/
def fnGapsOfUptoRow : OpenClaim := { program := "ytkfaeagkiocebaa", sum := "5dfb6ee9efe3db312d87282afcde9098ee6501d1be540d596798eed3e05359f0", func := "loop.example/onecounter/laws.FnGapsOf", spec := "fnGapsOf", apart := false, narrowed := true }
def FnGapsOfUptoSaid : Prop := fnGapsOfUptoRow.holds Try.pinned (OpenSpec.upto fnGapsOfSpec)

/-- 'laws.FnExactWaitsOf', WHERE WHAT IT READS IS OF BULK AT MOST 1048576: true; the input reads as it did. -/
def fnExactWaitsOfUptoRow : OpenClaim := { program := "ytkfaeagkiocebaa", sum := "5dfb6ee9efe3db312d87282afcde9098ee6501d1be540d596798eed3e05359f0", func := "loop.example/onecounter/laws.FnExactWaitsOf", spec := "fnExactWaitsOf", apart := false, narrowed := true }
def FnExactWaitsOfUptoSaid : Prop := fnExactWaitsOfUptoRow.holds Try.pinned (OpenSpec.upto fnExactWaitsOfSpec)

/-- 'laws.FnWaitsOf', WHERE WHAT IT READS IS OF BULK AT MOST 1048576: true; the input reads as it did. -/
def fnWaitsOfUptoRow : OpenClaim := { program := "ytkfaeagkiocebaa", sum := "5dfb6ee9efe3db312d87282afcde9098ee6501d1be540d596798eed3e05359f0", func := "loop.example/onecounter/laws.FnWaitsOf", spec := "fnWaitsOf", apart := false, narrowed := true }
def FnWaitsOfUptoSaid : Prop := fnWaitsOfUptoRow.holds Try.pinned (OpenSpec.upto fnWaitsOfSpec)

/-- 'laws.FnExactLeavesOf', WHERE WHAT IT READS IS OF BULK AT MOST 1048576: true; the input reads as it did. -/
def fnExactLeavesOfUptoRow : OpenClaim := { program := "ytkfaeagkiocebaa", sum := "5dfb6ee9efe3db312d87282afcde9098ee6501d1be540d596798eed3e05359f0", func := "loop.example/onecounter/laws.FnExactLeavesOf", spec := "fnExactLeavesOf", apart := false, narrowed := true }
def FnExactLeavesOfUptoSaid : Prop := fnExactLeavesOfUptoRow.holds Try.pinned (OpenSpec.upto fnExactLeavesOfSpec)

/-- 'laws.FnLeavesOf', WHERE WHAT IT READS IS OF BULK AT MOST 1048576: true; the input reads as it did. -/
def fnLeavesOfUptoRow : OpenClaim := { program := "ytkfaeagkiocebaa", sum := "5dfb6ee9efe3db312d87282afcde9098ee6501d1be540d596798eed3e05359f0", func := "loop.example/onecounter/laws.FnLeavesOf", spec := "fnLeavesOf", apart := false, narrowed := true }
def FnLeavesOfUptoSaid : Prop := fnLeavesOfUptoRow.holds Try.pinned (OpenSpec.upto fnLeavesOfSpec)

/-- 'laws.FnExactIdleUntil', WHERE WHAT IT READS IS OF BULK AT MOST 1048576: true; the input reads as it did. -/
def fnExactIdleUntilUptoRow : OpenClaim := { program := "ytkfaeagkiocebaa", sum := "5dfb6ee9efe3db312d87282afcde9098ee6501d1be540d596798eed3e05359f0", func := "loop.example/onecounter/laws.FnExactIdleUntil", spec := "fnExactIdleUntil", apart := false, narrowed := true }
def FnExactIdleUntilUptoSaid : Prop := fnExactIdleUntilUptoRow.holds Try.pinned (OpenSpec.upto fnExactIdleUntilSpec)

/-- 'laws.FnIdleUntil', WHERE WHAT IT READS IS OF BULK AT MOST 1048576: true; the input reads as it did. -/
def fnIdleUntilUptoRow : OpenClaim := { program := "ytkfaeagkiocebaa", sum := "5dfb6ee9efe3db312d87282afcde9098ee6501d1be540d596798eed3e05359f0", func := "loop.example/onecounter/laws.FnIdleUntil", spec := "fnIdleUntil", apart := false, narrowed := true }
def FnIdleUntilUptoSaid : Prop := fnIdleUntilUptoRow.holds Try.pinned (OpenSpec.upto fnIdleUntilSpec)

end Rows
end Go.Proofs.Ytkfaeagkiocebaa
