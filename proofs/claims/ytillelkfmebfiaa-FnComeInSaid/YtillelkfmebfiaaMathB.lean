/- Plain facts on orders of service: how often each is served, when each is served last, and what follows for ends and changes. No program in sight; no conditions beyond those typed. -/
import Derived.Test.YtillelkfmebfiaaMathA
namespace Go.Proofs.Ytillelkfmebfiaa.Math
open Go.RowKit Go.Proofs.YtillelkfmebfiaaW.PrintWords Go.Proofs.YtillelkfmebfiaaW.PrintMore
set_option linter.unusedVariables false
section
variable {C N : Nat → Int} {n : Nat} {O : Nat → Int}
/-- How often number i is served before the unit t. -/
def cnt (O : Nat → Int) (i : Nat) : Nat → Int
  | 0 => 0
  | t + 1 => cnt O i t + if O t = (i : Int) then 1 else 0
theorem cnt_zero (i : Nat) : cnt O i 0 = 0 := rfl
theorem cnt_succ (i t : Nat) : cnt O i (t + 1) = cnt O i t + if O t = (i : Int) then 1 else 0 := rfl
theorem cnt_rng (i : Nat) : ∀ t, 0 ≤ cnt O i t ∧ cnt O i t ≤ (t : Int) := by
  intro t
  induction t with
  | zero => rw [cnt_zero]; omega
  | succ t ih => rw [cnt_succ]; split <;> omega
theorem cnt_mono (i : Nat) : ∀ d t, cnt O i t ≤ cnt O i (t + d) := by
  intro d
  induction d with
  | zero => intro t; exact Int.le_refl _
  | succ d ih => intro t; have := ih t; rw [show t + (d + 1) = (t + d) + 1 from by omega, cnt_succ]; split <;> omega
theorem cnt_le (i : Nat) {s t : Nat} (h : s ≤ t) : cnt O i s ≤ cnt O i t := by
  have := cnt_mono (O := O) i (t - s) s
  rwa [show s + (t - s) = t from by omega] at this
theorem cnt_congr {O' : Nat → Int} (i : Nat) : ∀ t, (∀ s, s < t → O s = O' s) → cnt O i t = cnt O' i t := by
  intro t
  induction t with
  | zero => intro _; rfl
  | succ t ih => intro h; rw [cnt_succ, cnt_succ, ih (fun s hs => h s (by omega)), h t (by omega)]
/-- The unit behind the last one before t in which number i is served; 0 if there is none. -/
def lst (O : Nat → Int) (i : Nat) : Nat → Int
  | 0 => 0
  | t + 1 => if O t = (i : Int) then (t : Int) + 1 else lst O i t
theorem lst_zero (i : Nat) : lst O i 0 = 0 := rfl
theorem lst_succ (i t : Nat) : lst O i (t + 1) = if O t = (i : Int) then (t : Int) + 1 else lst O i t := rfl
theorem lst_rng (i : Nat) : ∀ t, 0 ≤ lst O i t ∧ lst O i t ≤ (t : Int) := by
  intro t
  induction t with
  | zero => rw [lst_zero]; omega
  | succ t ih => rw [lst_succ]; split <;> omega
/-- Units are left exactly up to the last one. -/
theorem cnt_lst (i : Nat) (t : Nat) : ∀ d, (cnt O i t < cnt O i (t + d) ↔ (t : Int) < lst O i (t + d)) := by
  intro d
  induction d with
  | zero => have := (lst_rng (O := O) i t).2; constructor <;> intro h <;> (try simp only [Nat.add_zero] at h) <;> omega
  | succ d ih =>
    have h1 := cnt_mono (O := O) i d t
    rw [show t + (d + 1) = (t + d) + 1 from by omega, cnt_succ, lst_succ]
    by_cases h : O (t + d) = (i : Int)
    · rw [if_pos h, if_pos h]; constructor <;> intro _ <;> omega
    · rw [if_neg h, if_neg h, Int.add_zero]; exact ih
theorem lst_served (i : Nat) : ∀ t, 0 < lst O i t → ∃ s, s < t ∧ lst O i t = (s : Int) + 1 ∧ O s = (i : Int) := by
  intro t
  induction t with
  | zero => intro h; rw [lst_zero] at h; omega
  | succ t ih =>
    intro h
    rw [lst_succ] at h ⊢
    by_cases e : O t = (i : Int)
    · rw [if_pos e]; exact ⟨t, by omega, rfl, e⟩
    · rw [if_neg e] at h ⊢
      obtain ⟨s, h1, h2, h3⟩ := ih h
      exact ⟨s, by omega, h2, h3⟩
/-- An order of service of T units for n customers. -/
structure Ord (C N : Nat → Int) (n : Nat) (O : Nat → Int) (T : Nat) : Prop where
  cust : OK C N n
  units : T ≤ 200
  who : ∀ t, t < T → -1 ≤ O t ∧ O t < (n : Int) ∧ (0 ≤ O t → C (O t).toNat ≤ (t : Int))
  need : ∀ i, i < n → cnt O i T = N i
theorem Ord.late {T : Nat} (h : Ord C N n O T) {i : Nat} (hi : i < n) : ∀ t, t ≤ T → 0 < cnt O i t → C i + cnt O i t ≤ lst O i t := by
  intro t
  induction t with
  | zero => intro _ h0; rw [cnt_zero] at h0; omega
  | succ t ih =>
    intro ht h0
    rw [cnt_succ] at h0 ⊢
    rw [lst_succ]
    by_cases e : O t = (i : Int)
    · rw [if_pos e, if_pos e]
      have h1 := (h.who t (by omega)).2.2 (by omega)
      rw [e, Int.toNat_natCast] at h1
      have h2 := (cnt_rng (O := O) i t).1
      have h3 := (lst_rng (O := O) i t).2
      by_cases hz : cnt O i t = 0
      · omega
      · have := ih (by omega) (by omega)
        omega
    · rw [if_neg e] at h0 ⊢
      rw [if_neg e]
      have := ih (by omega) (by omega)
      omega
/-- Nobody ends before the need is met. -/
theorem Ord.ends {T : Nat} (h : Ord C N n O T) {i : Nat} (hi : i < n) : C i + N i ≤ lst O i T := by
  have h1 := h.need i hi
  have h2 := h.cust.need hi
  have h3 := h.late hi T (Nat.le_refl _) (by omega)
  omega
theorem Ord.apart {T : Nat} (h : Ord C N n O T) {i j : Nat} (hi : i < n) (hj : j < n) (hne : i ≠ j) : lst O i T ≠ lst O j T := by
  intro he
  have h1 := h.ends hi
  have h2 := h.ends hj
  have h3 := h.cust.need hi
  have h4 := h.cust.come hi
  obtain ⟨s, hs, e1, o1⟩ := lst_served (O := O) i T (by omega)
  obtain ⟨s', hs', e2, o2⟩ := lst_served (O := O) j T (by omega)
  have : s = s' := by omega
  subst this
  omega
/-- How often one from number i on is served before the unit t. -/
def cge (O : Nat → Int) (i : Nat) : Nat → Int
  | 0 => 0
  | t + 1 => cge O i t + if (i : Int) ≤ O t then 1 else 0
theorem cge_succ (i t : Nat) : cge O i (t + 1) = cge O i t + if (i : Int) ≤ O t then 1 else 0 := rfl
theorem cge_rng (i : Nat) : ∀ t, 0 ≤ cge O i t := by
  intro t
  induction t with
  | zero => exact Int.le_refl _
  | succ t ih => rw [cge_succ]; split <;> omega
theorem cge_split (i t : Nat) : cge O i t = cnt O i t + cge O (i + 1) t := by
  induction t with
  | zero => rfl
  | succ t ih =>
    rw [cge_succ, cge_succ, cnt_succ, ih]
    by_cases h : O t = (i : Int)
    · rw [if_pos h, if_pos (by omega), if_neg (by omega)]; omega
    · rw [if_neg h]
      by_cases h2 : (i : Int) ≤ O t
      · rw [if_pos h2, if_pos (by omega)]; omega
      · rw [if_neg h2, if_neg (by omega)]; omega
theorem cge_none (t : Nat) (hw : ∀ s, s < t → O s < (n : Int)) : cge O n t = 0 := by
  induction t with
  | zero => rfl
  | succ t ih => rw [cge_succ, ih (fun s hs => hw s (by omega)), if_neg (by have := hw t (by omega); omega)]; omega
theorem cge_sum (t : Nat) (hw : ∀ s, s < t → O s < (n : Int)) : ∀ d i, i + d = n → cge O i t = sm (fun j => cnt O j t) n - sm (fun j => cnt O j t) i := by
  intro d
  induction d with
  | zero => intro i hi; rw [show i = n from by omega, cge_none t hw]; omega
  | succ d ih =>
    intro i hi
    rw [cge_split, ih (i + 1) (by omega), sm_succ]
    omega
/-- The unit behind the last one before t in which anybody is served. -/
def lbs (O : Nat → Int) : Nat → Int
  | 0 => 0
  | t + 1 => if 0 ≤ O t then (t : Int) + 1 else lbs O t
theorem lbs_succ (t : Nat) : lbs O (t + 1) = if 0 ≤ O t then (t : Int) + 1 else lbs O t := rfl
theorem lbs_rng : ∀ t, 0 ≤ lbs O t ∧ lbs O t ≤ (t : Int) := by
  intro t
  induction t with
  | zero => exact ⟨Int.le_refl _, Int.le_refl _⟩
  | succ t ih => rw [lbs_succ]; split <;> omega
theorem lbs_served : ∀ t, 0 < lbs O t → ∃ s, s < t ∧ lbs O t = (s : Int) + 1 ∧ 0 ≤ O s := by
  intro t
  induction t with
  | zero => intro h; exact absurd h (by show ¬ (0 : Int) < 0; omega)
  | succ t ih =>
    intro h
    rw [lbs_succ] at h ⊢
    by_cases e : 0 ≤ O t
    · rw [if_pos e]; exact ⟨t, by omega, rfl, e⟩
    · rw [if_neg e] at h ⊢
      obtain ⟨s, h1, h2, h3⟩ := ih h
      exact ⟨s, by omega, h2, h3⟩
theorem Ord.lateAll {T : Nat} (h : Ord C N n O T) {i : Nat} (hi : i < n) : ∀ t, t ≤ T → 0 < cge O i t → C i + cge O i t ≤ lbs O t := by
  intro t
  induction t with
  | zero => intro _ h0; exact absurd h0 (by show ¬ (0 : Int) < 0; omega)
  | succ t ih =>
    intro ht h0
    rw [cge_succ] at h0 ⊢
    rw [lbs_succ]
    by_cases e : (i : Int) ≤ O t
    · rw [if_pos e, if_pos (by omega)]
      obtain ⟨w1, w2, w3⟩ := h.who t (by omega)
      have h1 := w3 (by omega)
      have h5 := h.cust.le (i := i) (j := (O t).toNat) (by omega) (by omega)
      have h2 := cge_rng (O := O) i t
      have h3 := (lbs_rng (O := O) t).2
      by_cases hz : cge O i t = 0
      · omega
      · have := ih (by omega) (by omega)
        omega
    · rw [if_neg e] at h0 ⊢
      have := ih (by omega) (by omega)
      have := (lbs_rng (O := O) t).2
      split <;> omega
theorem Ord.all {T : Nat} (h : Ord C N n O T) {i : Nat} (hi : i ≤ n) : cge O i T = sm N n - sm N i := by
  rw [cge_sum (n := n) T (fun s hs => (h.who s hs).2.1) (n - i) i (by omega)]
  rw [sm_congr (n := n) (f := fun j => cnt O j T) (g := N) (fun j hj => h.need j hj), sm_congr (n := i) (f := fun j => cnt O j T) (g := N) (fun j hj => h.need j (by omega))]
/-- No order has its last unit before the least time at which all may be served. -/
theorem Ord.last {T : Nat} (h : Ord C N n O T) : LL C N n ≤ lbs O T := by
  rw [← LL_sums h.cust n (Nat.le_refl _)]
  refine (mxs_rng (lbs_rng (O := O) T).1 (fun i hi => ?_)).2
  have h1 := h.all (i := i) (by omega)
  have h2 := h.cust.sum (i := i) (j := n) (by omega) (Nat.le_refl _)
  have h3 := h.lateAll hi T (Nat.le_refl _) (by omega)
  omega
theorem Ord.len {T : Nat} (h : Ord C N n O T) : LL C N n ≤ (T : Int) := by
  have := h.last
  have := (lbs_rng (O := O) T).2
  omega
/-- The greatest end. -/
theorem Ord.greatest {T : Nat} (h : Ord C N n O T) : lbs O T ≤ mxs (fun i => lst O i T) n := by
  by_cases hz : 0 < lbs O T
  · obtain ⟨s, hs, e, o⟩ := lbs_served (O := O) T hz
    have hn := (h.who s hs).2.1
    have h1 : lbs O T ≤ lst O (O s).toNat T := by
      have h2 := (cnt_lst (O := O) (O s).toNat s (T - s)).1
      rw [show s + (T - s) = T from by omega] at h2
      have h3 := cnt_le (O := O) (O s).toNat (show s + 1 ≤ T from by omega)
      rw [cnt_succ, if_pos (by omega)] at h3
      have := h2 (by omega)
      omega
    have h4 := mxs_le (f := fun i => lst O i T) (n := n) (i := (O s).toNat) (by omega)
    have h5 : lst O (O s).toNat T ≤ mxs (fun i => lst O i T) n := h4
    omega
  · have := (mxs_rng (f := fun i => lst O i T) (n := n) (hi := (T : Int)) (by omega) (fun i hi => (lst_rng (O := O) i T).2)).1
    omega
/-- How often another one is served than in the unit before, though the one who was served has units left: up to the unit t. -/
def chg (N : Nat → Int) (O : Nat → Int) : Nat → Int
  | 0 => 0
  | t + 1 => chg N O t + if 0 < t ∧ 0 ≤ O (t - 1) ∧ O t ≠ O (t - 1) ∧ 0 < N (O (t - 1)).toNat - cnt O (O (t - 1)).toNat t then 1 else 0
theorem chg_succ (t : Nat) : chg N O (t + 1) = chg N O t + if 0 < t ∧ 0 ≤ O (t - 1) ∧ O t ≠ O (t - 1) ∧ 0 < N (O (t - 1)).toNat - cnt O (O (t - 1)).toNat t then 1 else 0 := rfl
theorem chg_rng : ∀ t, 0 ≤ chg N O t ∧ chg N O t ≤ (t : Int) := by
  intro t
  induction t with
  | zero => exact ⟨Int.le_refl _, Int.le_refl _⟩
  | succ t ih => rw [chg_succ]; split <;> omega
end
end Go.Proofs.Ytillelkfmebfiaa.Math
