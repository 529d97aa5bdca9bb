/- Greatest sums over customers: the least time at which all are served, waits, idle times; and who has come by a time. No program in sight; no conditions beyond those typed. -/
import Derived.Test.YtillelkfmebfiaaMath0
namespace Go.Proofs.Ytillelkfmebfiaa.Math
open Go.RowKit Go.Proofs.YtillelkfmebfiaaW.PrintWords Go.Proofs.YtillelkfmebfiaaW.PrintMore
set_option linter.unusedVariables false
/-- The greatest of 0 and of the first numbers. -/
def mxs (f : Nat → Int) : Nat → Int
  | 0 => 0
  | n + 1 => mx (mxs f n) (f n)
theorem mxs_zero (f : Nat → Int) : mxs f 0 = 0 := rfl
theorem mxs_succ (f : Nat → Int) (n : Nat) : mxs f (n + 1) = mx (mxs f n) (f n) := rfl
theorem mxs_congr {f g : Nat → Int} {n : Nat} (h : ∀ i, i < n → f i = g i) : mxs f n = mxs g n := by
  induction n with
  | zero => rfl
  | succ n ih => rw [mxs_succ, mxs_succ, ih (fun i hi => h i (by omega)), h n (by omega)]
theorem mxs_rng {f : Nat → Int} {hi : Int} {n : Nat} (h0 : 0 ≤ hi) (h : ∀ i, i < n → f i ≤ hi) : 0 ≤ mxs f n ∧ mxs f n ≤ hi := by
  induction n with
  | zero => exact ⟨Int.le_refl _, h0⟩
  | succ n ih =>
    have h1 := ih (fun i hi => h i (by omega))
    have h2 := h n (by omega)
    rw [mxs_succ]
    unfold mx
    split <;> omega
theorem mxs_le {f : Nat → Int} {n i : Nat} (h : i < n) : f i ≤ mxs f n := by
  induction n with
  | zero => omega
  | succ n ih =>
    rw [mxs_succ]
    unfold mx
    by_cases e : i = n
    · subst e; split <;> omega
    · have := ih (by omega)
      split <;> omega
theorem mxs_add {f : Nat → Int} {c : Int} (hc : 0 ≤ c) : ∀ m, 0 < m → (∀ i, i < m → 0 ≤ f i) → mxs (fun i => f i + c) m = mxs f m + c := by
  intro m
  induction m with
  | zero => intro h; omega
  | succ m ih =>
    intro _ h
    have h0 := h m (by omega)
    rw [mxs_succ, mxs_succ]
    by_cases hm : m = 0
    · subst hm
      rw [mxs_zero, mxs_zero]
      unfold mx
      split <;> split <;> omega
    · rw [ih (by omega) (fun i hi => h i (by omega))]
      unfold mx
      split <;> split <;> omega
theorem mxs_add' (f : Nat → Int) (c : Int) : ∀ m, mx (mxs (fun i => f i + c) m) c = mx 0 (mxs f m + c) := by
  intro m
  induction m with
  | zero => rw [mxs_zero, mxs_zero]; unfold mx; split <;> split <;> omega
  | succ m ih =>
    rw [mxs_succ, mxs_succ]
    generalize mxs (fun i => f i + c) m = a at *
    generalize mxs f m = b at *
    unfold mx at *
    revert ih
    split <;> split <;> intro ih <;> (repeat' split) <;> omega
section
variable {C N : Nat → Int} {n : Nat}
/-- The least time at which the first n may be served. -/
def LL (C N : Nat → Int) : Nat → Int
  | 0 => 0
  | n + 1 => mx (LL C N n) (C n) + N n
theorem LL_zero : LL C N 0 = 0 := rfl
theorem LL_succ (n : Nat) : LL C N (n + 1) = mx (LL C N n) (C n) + N n := rfl
theorem mx_ge (a b : Int) : a ≤ mx a b ∧ b ≤ mx a b ∧ (mx a b = a ∨ mx a b = b) := by unfold mx; split <;> omega
theorem LL_sums (h : OK C N n) : ∀ m, m ≤ n → mxs (fun i => C i + (sm N m - sm N i)) m = LL C N m := by
  intro m
  induction m with
  | zero => intro _; rfl
  | succ m ih =>
    intro hm
    have ih := ih (by omega)
    have hN := h.need (i := m) (by omega)
    have hC := h.come (i := m) (by omega)
    rw [LL_succ, mxs_succ, sm_succ, ← ih]
    rw [mxs_congr (g := fun i => (C i + (sm N m - sm N i)) + N m) (fun i hi => by omega)]
    by_cases h0 : m = 0
    · subst h0
      rw [mxs_zero, mxs_zero]
      unfold mx
      split <;> split <;> omega
    · rw [mxs_add (by omega) m (by omega) (fun i hi => by have := h.come (i := i) (by omega); have := h.sum (i := i) (j := m) (by omega) (by omega); omega)]
      unfold mx
      split <;> split <;> omega
theorem LL_rng (h : OK C N n) : ∀ m, m ≤ n → sm N m ≤ LL C N m ∧ LL C N m ≤ 60 + sm N m := by
  intro m
  induction m with
  | zero => intro _; rw [LL_zero, sm_zero]; omega
  | succ m ih =>
    intro hm
    have ih := ih (by omega)
    have hC := h.come (i := m) (by omega)
    have hs := h.sum0 (j := m) (by omega)
    rw [LL_succ, sm_succ]
    have := mx_ge (LL C N m) (C m)
    omega
/-- The wait of the customer at place i. -/
def wt (C N : Nat → Int) : Nat → Int
  | 0 => 0
  | n + 1 => mx 0 (wt C N n + N n - (C (n + 1) - C n))
theorem wt_zero : wt C N 0 = 0 := rfl
theorem wt_succ (n : Nat) : wt C N (n + 1) = mx 0 (wt C N n + N n - (C (n + 1) - C n)) := rfl
theorem wt_rng (h : OK C N n) : ∀ m, m < n → 0 ≤ wt C N m ∧ wt C N m ≤ sm N m := by
  intro m
  induction m with
  | zero => intro _; rw [wt_zero, sm_zero]; omega
  | succ m ih =>
    intro hm
    have ih := ih (by omega)
    have h1 := h.step (i := m) (by omega)
    have h2 := h.need (i := m) (by omega)
    rw [wt_succ, sm_succ]
    have := mx_ge 0 (wt C N m + N m - (C (m + 1) - C m))
    omega
theorem wt_lack : ∀ m, mxs (fun i => sm N m - sm N i - (C m - C i)) m = wt C N m := by
  intro m
  induction m with
  | zero => rfl
  | succ m ih =>
    rw [wt_succ, ← ih, mxs_succ]
    rw [mxs_congr (g := fun i => (sm N m - sm N i - (C m - C i)) + (N m - (C (m + 1) - C m))) (fun i hi => by rw [sm_succ]; omega)]
    have := mxs_add' (fun i => sm N m - sm N i - (C m - C i)) (N m - (C (m + 1) - C m)) m
    rw [sm_succ, show sm N m + N m - sm N m - (C (m + 1) - C m) = N m - (C (m + 1) - C m) from by omega, this, show mxs (fun i => sm N m - sm N i - (C m - C i)) m + N m - (C (m + 1) - C m) = mxs (fun i => sm N m - sm N i - (C m - C i)) m + (N m - (C (m + 1) - C m)) from by omega]
/-- Who leaves: the time of coming, the wait and the need. -/
theorem wt_LL (h : OK C N n) : ∀ m, m < n → C m + wt C N m + N m = LL C N (m + 1) := by
  intro m
  induction m with
  | zero => intro hm; have := h.come hm; rw [LL_succ, LL_zero, wt_zero]; unfold mx; split <;> omega
  | succ m ih =>
    intro hm
    have ih := ih (by omega)
    rw [LL_succ, wt_succ, ← ih]
    unfold mx
    split <;> split <;> omega
/-- Idle times. -/
theorem idle_mxs : ∀ m, LL C N m - sm N m = mxs (fun k => C k - sm N k) m := by
  intro m
  induction m with
  | zero => rfl
  | succ m ih =>
    rw [LL_succ, sm_succ, mxs_succ, ← ih]
    unfold mx
    split <;> split <;> omega
theorem LL_congr {C' N' : Nat → Int} : ∀ m, (∀ i, i < m → C i = C' i ∧ N i = N' i) → LL C N m = LL C' N' m := by
  intro m
  induction m with
  | zero => intro _; rfl
  | succ m ih => intro h; rw [LL_succ, LL_succ, ih (fun i hi => h i (by omega)), (h m (by omega)).1, (h m (by omega)).2]
theorem wt_congr {C' N' : Nat → Int} : ∀ m, (∀ i, i ≤ m → C i = C' i ∧ N i = N' i) → wt C N m = wt C' N' m := by
  intro m
  induction m with
  | zero => intro _; rfl
  | succ m ih => intro h; rw [wt_succ, wt_succ, ih (fun i hi => h i (by omega)), (h m (by omega)).1, (h m (by omega)).2, (h (m + 1) (by omega)).1]
/-- Whoever all come later wait as long. -/
theorem wt_shift {C' N' : Nat → Int} (c : Int) : ∀ m, (∀ i, i ≤ m → C' i = C i + c ∧ N' i = N i) → wt C' N' m = wt C N m := by
  intro m
  induction m with
  | zero => intro _; rfl
  | succ m ih =>
    intro h
    have h1 := h m (by omega)
    have h2 := h (m + 1) (by omega)
    rw [wt_succ, wt_succ, ih (fun i hi => h i (by omega)), h1.1, h1.2, h2.1, show C (m + 1) + c - (C m + c) = C (m + 1) - C m from by omega]
theorem LL_shift {C' N' : Nat → Int} {c : Int} (hc : 0 ≤ c) (h : OK C N n) : ∀ m, m ≤ n → (∀ i, i < m → C' i = C i + c ∧ N' i = N i) → LL C' N' m = if m = 0 then 0 else LL C N m + c := by
  intro m
  induction m with
  | zero => intro _ _; rfl
  | succ m ih =>
    intro hm hh
    have h1 := hh m (by omega)
    have h2 := h.come (i := m) (by omega)
    have ih := ih (by omega) (fun i hi => hh i (by omega))
    rw [if_neg (by omega), LL_succ, LL_succ, h1.1, h1.2, ih]
    by_cases h0 : m = 0
    · subst h0
      rw [if_pos rfl, LL_zero]
      unfold mx
      split <;> split <;> omega
    · rw [if_neg h0]
      unfold mx
      split <;> split <;> omega
/-- One unit more for the customer at place a. -/
theorem sm_more {N' : Nat → Int} {a : Nat} (h : ∀ j, N' j = if j = a then N a + 1 else N j) : ∀ m, sm N' m = sm N m + (if a < m then 1 else 0) := by
  intro m
  induction m with
  | zero => rw [sm_zero, sm_zero, if_neg (by omega)]; omega
  | succ m ih =>
    rw [sm_succ, sm_succ, ih, h m]
    by_cases e : m = a
    · subst e; rw [if_pos rfl, if_neg (by omega), if_pos (by omega)]; omega
    · rw [if_neg e]
      by_cases h0 : a < m
      · rw [if_pos h0, if_pos (by omega)]; omega
      · rw [if_neg h0, if_neg (by omega)]; omega
theorem wt_more {C' N' : Nat → Int} {a : Nat} (hC : ∀ j, C' j = C j) (h : ∀ j, N' j = if j = a then N a + 1 else N j) : ∀ m, (m ≤ a → wt C' N' m = wt C N m) ∧ wt C N m ≤ wt C' N' m ∧ wt C' N' m ≤ wt C N m + 1 := by
  intro m
  induction m with
  | zero => exact ⟨fun _ => rfl, by rw [wt_zero, wt_zero]; omega, by rw [wt_zero, wt_zero]; omega⟩
  | succ m ih =>
    obtain ⟨h1, h2, h3⟩ := ih
    rw [wt_succ, wt_succ, hC m, hC (m + 1), h m]
    by_cases e : m = a
    · subst e
      have := h1 (Nat.le_refl _)
      rw [if_pos rfl]
      refine ⟨fun hh => by omega, ?_, ?_⟩ <;> unfold mx <;> split <;> split <;> omega
    · rw [if_neg e]
      refine ⟨fun hh => by rw [h1 (by omega)], ?_, ?_⟩ <;> unfold mx <;> split <;> split <;> omega
/-- How many of those from i on have come by the time t, i and those ahead counted. -/
def fa (C : Nat → Int) (t : Int) : Nat → Nat → Nat
  | 0, i => i
  | d + 1, i => if C i ≤ t then fa C t d (i + 1) else i
theorem fa_spec (C : Nat → Int) (t : Int) : ∀ d i, i ≤ fa C t d i ∧ fa C t d i ≤ i + d ∧ (∀ j, i ≤ j → j < fa C t d i → C j ≤ t) ∧ (fa C t d i < i + d → t < C (fa C t d i)) := by
  intro d
  induction d with
  | zero => intro i; exact ⟨Nat.le_refl _, Nat.le_refl _, fun j h1 h2 => absurd h2 (by simp only [fa]; omega), fun h => absurd h (by simp only [fa]; omega)⟩
  | succ d ih =>
    intro i
    simp only [fa]
    by_cases h : C i ≤ t
    · rw [if_pos h]
      obtain ⟨h1, h2, h3, h4⟩ := ih (i + 1)
      refine ⟨by omega, by omega, fun j hj hj' => ?_, fun hh => h4 (by omega)⟩
      by_cases e : j = i
      · subst e; exact h
      · exact h3 j (by omega) hj'
    · rw [if_neg h]
      exact ⟨by omega, by omega, fun j h1 h2 => absurd h2 (by omega), fun _ => by omega⟩
end
end Go.Proofs.Ytillelkfmebfiaa.Math
