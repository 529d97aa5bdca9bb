/- Plain facts on sums of numbers and on customers as two rows of numbers (when one comes, what one needs): no program in sight. No conditions beyond those typed. -/
import Derived.Test.YtillelkfmebfiaaWMore
import Derived.Laws.BitsLemmas
namespace Go.Proofs.Ytillelkfmebfiaa.Math
open Go.RowKit Go.Proofs.YtillelkfmebfiaaW.PrintWords Go.Proofs.YtillelkfmebfiaaW.PrintMore
set_option linter.unusedVariables false

theorem wr {x : Int} (h0 : -9223372036854775808 ≤ x) (h1 : x ≤ 9223372036854775807) : wrap64 x = x := by unfold wrap64; omega

theorem bs {α β : Type} (a : α) (f : α → Option β) : (some a).bind f = f a := by rw [Option.bind_some]

/-- The sum of the first n numbers. -/
def sm (f : Nat → Int) : Nat → Int
  | 0 => 0
  | n + 1 => sm f n + f n
theorem sm_zero (f : Nat → Int) : sm f 0 = 0 := rfl
theorem sm_succ (f : Nat → Int) (n : Nat) : sm f (n + 1) = sm f n + f n := rfl
theorem sm_congr {f g : Nat → Int} {n : Nat} (h : ∀ i, i < n → f i = g i) : sm f n = sm g n := by
  induction n with
  | zero => rfl
  | succ n ih => rw [sm_succ, sm_succ, ih (fun i hi => h i (by omega)), h n (by omega)]
theorem sm_shift (f : Nat → Int) (i m : Nat) : sm (fun j => f (j + i)) m = sm f (m + i) - sm f i := by
  induction m with
  | zero => rw [Nat.zero_add, sm_zero]; omega
  | succ m ih => rw [sm_succ, ih, show m + 1 + i = (m + i) + 1 from by omega, sm_succ]; omega
theorem sm_range {f : Nat → Int} {lo hi : Int} {n : Nat} (h : ∀ i, i < n → lo ≤ f i ∧ f i ≤ hi) : ∀ d i, i + d ≤ n → lo * (d : Int) ≤ sm f (i + d) - sm f i ∧ sm f (i + d) - sm f i ≤ hi * (d : Int) := by
  intro d
  induction d with
  | zero => intro i _; simp
  | succ d ih =>
    intro i hid
    have h1 := ih i (by omega)
    have h2 := h (i + d) (by omega)
    rw [show i + (d + 1) = (i + d) + 1 from by omega, sm_succ]
    have e1 : lo * ((d + 1 : Nat) : Int) = lo * (d : Int) + lo := by rw [Int.natCast_add, Int.mul_add]; simp
    have e2 : hi * ((d + 1 : Nat) : Int) = hi * (d : Int) + hi := by rw [Int.natCast_add, Int.mul_add]; simp
    rw [e1, e2]
    omega

/-- The customer at place i, with the one ahead. -/
def okAt (C N : Nat → Int) (i : Nat) : Prop := 0 ≤ C i ∧ C i ≤ 60 ∧ 1 ≤ N i ∧ N i ≤ 9 ∧ (0 < i → C (i - 1) ≤ C i)
/-- n customers. -/
def OK (C N : Nat → Int) (n : Nat) : Prop := n ≤ 8 ∧ ∀ i, i < n → okAt C N i
theorem OK.len {C N : Nat → Int} {n : Nat} (h : OK C N n) : n ≤ 8 := h.1
theorem OK.come {C N : Nat → Int} {n : Nat} (h : OK C N n) {i : Nat} (hi : i < n) : 0 ≤ C i ∧ C i ≤ 60 := ⟨(h.2 i hi).1, (h.2 i hi).2.1⟩
theorem OK.need {C N : Nat → Int} {n : Nat} (h : OK C N n) {i : Nat} (hi : i < n) : 1 ≤ N i ∧ N i ≤ 9 := ⟨(h.2 i hi).2.2.1, (h.2 i hi).2.2.2.1⟩
theorem OK.step {C N : Nat → Int} {n : Nat} (h : OK C N n) {i : Nat} (hi : i + 1 < n) : C i ≤ C (i + 1) := (h.2 (i + 1) hi).2.2.2.2 (by omega)
theorem OK.mono {C N : Nat → Int} {n : Nat} (h : OK C N n) : ∀ d i, i + d < n → C i ≤ C (i + d) := by
  intro d
  induction d with
  | zero => intro i _; exact Int.le_refl _
  | succ d ih => intro i hi; have h1 := ih i (by omega); have h2 := h.step (i := i + d) (by omega); exact Int.le_trans h1 h2
theorem OK.le {C N : Nat → Int} {n : Nat} (h : OK C N n) {i j : Nat} (hij : i ≤ j) (hj : j < n) : C i ≤ C j := by
  have := h.mono (j - i) i (by omega)
  rwa [show i + (j - i) = j from by omega] at this
/-- What those from i up to j need: at least one unit each, at most nine. -/
theorem OK.sum {C N : Nat → Int} {n : Nat} (h : OK C N n) {i j : Nat} (hij : i ≤ j) (hj : j ≤ n) : ((j : Int) - i) ≤ sm N j - sm N i ∧ sm N j - sm N i ≤ 9 * ((j : Int) - i) := by
  have := sm_range (f := N) (lo := 1) (hi := 9) (fun i hi => h.need hi) (j - i) i (by omega)
  rw [show i + (j - i) = j from by omega] at this
  omega
theorem OK.sum0 {C N : Nat → Int} {n : Nat} (h : OK C N n) {j : Nat} (hj : j ≤ n) : 0 ≤ sm N j ∧ sm N j ≤ 72 := by
  have := h.sum (Nat.zero_le j) hj
  have := h.len
  rw [sm_zero] at *
  omega
theorem OK.congr {C N C' N' : Nat → Int} {n : Nat} (hC : ∀ i, i < n → C i = C' i) (hN : ∀ i, i < n → N i = N' i) (h : OK C N n) : OK C' N' n := by
  refine ⟨h.1, fun i hi => ?_⟩
  obtain ⟨h1, h2, h3, h4, h5⟩ := h.2 i hi
  refine ⟨by rw [← hC i hi]; exact h1, by rw [← hC i hi]; exact h2, by rw [← hN i hi]; exact h3, by rw [← hN i hi]; exact h4, fun h0 => ?_⟩
  rw [← hC i hi, ← hC (i - 1) (by omega)]
  exact h5 h0
theorem OK.pre {C N : Nat → Int} {n m : Nat} (h : OK C N n) (hm : m ≤ n) : OK C N m := ⟨by have := h.1; omega, fun i hi => h.2 i (by omega)⟩
theorem OK.nil (C N : Nat → Int) : OK C N 0 := ⟨by omega, fun i hi => absurd hi (by omega)⟩
/-- The first n values of a function. -/
def tab (f : Nat → Int) (n : Nat) : List Int := (List.range n).map f
theorem tab_zero (f : Nat → Int) : tab f 0 = [] := rfl
theorem tab_snoc (f : Nat → Int) (n : Nat) : tab f (n + 1) = tab f n ++ [f n] := by unfold tab; rw [List.range_succ, List.map_append]; rfl
theorem tab_length (f : Nat → Int) (n : Nat) : (tab f n).length = n := by simp [tab]
theorem tab_rd (f : Nat → Int) {n i : Nat} (h : i < n) : rd (tab f n) (i : Int) = f i := by simp [tab, rd, h]
theorem tab_rd0 (f : Nat → Int) {n : Nat} (h : 0 < n) : rd (tab f n) 0 = f 0 := tab_rd f h
theorem tab_congr {f g : Nat → Int} {n : Nat} (h : ∀ i, i < n → f i = g i) : tab f n = tab g n := List.map_congr_left (fun i hi => h i (List.mem_range.1 hi))
theorem tab_set (f : Nat → Int) (n i : Nat) (v : Int) : (tab f n).set i v = tab (fun j => if j = i then v else f j) n := by
  apply List.ext_getElem?
  intro j
  by_cases hj : j = i
  · subst hj
    by_cases hn : j < n
    · rw [List.getElem?_set_self (by rw [tab_length]; exact hn)]
      simp [tab, hn]
    · rw [List.getElem?_eq_none (by rw [List.length_set, tab_length]; omega), List.getElem?_eq_none (by rw [tab_length]; omega)]
  · rw [List.getElem?_set_ne (Ne.symm hj)]
    by_cases hn : j < n
    · simp [tab, hn, hj]
    · rw [List.getElem?_eq_none (by rw [tab_length]; omega), List.getElem?_eq_none (by rw [tab_length]; omega)]
theorem tab_take (f : Nat → Int) (n m : Nat) (h : m ≤ n) : (tab f n).take m = tab f m := by
  unfold tab
  rw [← List.map_take, List.take_range, Nat.min_eq_left h]
end Go.Proofs.Ytillelkfmebfiaa.Math
