/- Plain facts on busy periods of customers: no program in sight; no conditions beyond those typed. -/
import Derived.Test.YtillelkfmebfiaaMathP
namespace Go.Proofs.Ytillelkfmebfiaa.Math
open Go.RowKit Go.Proofs.YtillelkfmebfiaaW.PrintWords Go.Proofs.YtillelkfmebfiaaW.PrintMore
set_option linter.unusedVariables false
section
variable {C N : Nat → Int} {n : Nat}
/-- How many come before the time t. -/
def cl (C : Nat → Int) (n : Nat) (t : Nat) : Nat := cb C n ((t : Int) - 1)
theorem cl_le (t : Nat) : cl C n t ≤ n := cb_le _
theorem cl_iff (h : OK C N n) (t : Nat) {i : Nat} (hi : i < n) : C i < (t : Int) ↔ i < cl C n t := by
  have := cb_iff h ((t : Int) - 1) hi
  unfold cl
  omega
theorem cl_mono (h : OK C N n) {s t : Nat} (hst : s ≤ t) : cl C n s ≤ cl C n t := cb_mono h (by omega)
theorem cl_succ (t : Nat) : cl C n (t + 1) = cb C n (t : Int) := by
  unfold cl
  rw [show ((t + 1 : Nat) : Int) - 1 = (t : Int) from by omega]
theorem cl_zero (h : OK C N n) : cl C n 0 = 0 := by
  by_cases e : cl C n 0 = 0
  · exact e
  · have hl := cl_le (C := C) (n := n) 0
    have h1 := (cl_iff h 0 (i := 0) (by omega)).2 (by omega)
    have h2 := h.come (i := 0) (by omega)
    omega
theorem arr_cl (h : OK C N n) (t : Nat) : arr C N n t = sm N (cb C n (t : Int)) - sm N (cl C n t) := by
  cases t with
  | zero => rw [arr_zero h, cl_zero h, sm_zero]; show sm N (cb C n 0) = sm N (cb C n 0) - 0; omega
  | succ t => rw [arr_succ h, cl_succ]
theorem arr_nonneg (h : OK C N n) (t : Nat) : 0 ≤ arr C N n t := by
  rw [← ar_all]
  exact (ar_rng h t n (Nat.le_refl _)).1
theorem pre_sv (h : OK C N n) (t : Nat) : pre C N n t + sv C N n t = sm N (cl C n t) := by
  have e1 := wk_sv h t
  have e2 := arr_cl h t
  rw [wk_pre] at e1
  omega
/-- The busy periods. -/
def per (C N : Nat → Int) (n : Nat) : Prs := bz (wk C N n) 200
theorem per_ok (C N : Nat → Int) (n : Nat) : Pok (wk C N n) 200 (per C N n) := bz_ok _ 200
theorem per_in {j t : Nat} (hj : j < (per C N n).q) (h1 : (per C N n).b j ≤ (t : Int)) (h2 : (t : Int) < (per C N n).e j) : wk C N n t ≠ 0 := by
  have hp := per_ok C N n
  have hr := hp.rng j hj
  exact (hp.busy t (by omega)).2 ⟨j, hj, h1, h2⟩
theorem per_end (h : OK C N n) {j t : Nat} (hj : j < (per C N n).q) (ht : (per C N n).e j = (t : Int)) : wk C N n t = 0 := by
  have hp := per_ok C N n
  have hr := hp.rng j hj
  by_cases h2 : t < 200
  · by_cases hw : wk C N n t = 0
    · exact hw
    · obtain ⟨i, hi, a, b⟩ := (hp.busy t h2).1 hw
      have ri := hp.rng i hi
      rcases Nat.lt_trichotomy i j with hh | hh | hh
      · have := hp.before hh hj; omega
      · subst hh; omega
      · have := hp.before hh hi; omega
  · have := LL_top h
    exact wk_end h (by omega)
theorem per_begin (h : OK C N n) {j t : Nat} (hj : j < (per C N n).q) (ht : (per C N n).b j = (t : Int)) : pre C N n t = 0 := by
  have hp := per_ok C N n
  have hr := hp.rng j hj
  cases t with
  | zero => exact pre_zero
  | succ t =>
    have hw : wk C N n t = 0 := by
      by_cases hw : wk C N n t = 0
      · exact hw
      · obtain ⟨i, hi, a, b⟩ := (hp.busy t (by omega)).1 hw
        have ri := hp.rng i hi
        rcases Nat.lt_trichotomy i j with hh | hh | hh
        · have := hp.before hh hj; omega
        · subst hh; omega
        · have := hp.before hh hi; omega
    rw [pre_succ, hw]
    rfl
/-- In a busy period a unit is served at each time. -/
theorem per_sv (h : OK C N n) {j B : Nat} (hj : j < (per C N n).q) (hB : (per C N n).b j = (B : Int)) : ∀ d : Nat, (B : Int) + d ≤ (per C N n).e j → sv C N n (B + d) = sv C N n B + d := by
  intro d
  induction d with
  | zero => intro _; rw [Nat.add_zero]; omega
  | succ d ih =>
    intro hd
    have e := ih (by omega)
    have h1 := per_in hj (t := B + d) (by omega) (by omega)
    have h2 := (wk_rng h (B + d)).1
    rw [show B + (d + 1) = B + d + 1 from by omega, sv_succ, e, if_pos (by omega)]
    omega
/-- Each is as long as what those who come in it need together. -/
theorem per_sum (h : OK C N n) {j B E : Nat} (hj : j < (per C N n).q) (hB : (per C N n).b j = (B : Int)) (hE : (per C N n).e j = (E : Int)) : sm N (cl C n E) - sm N (cl C n B) = (E : Int) - B := by
  have hr := (per_ok C N n).rng j hj
  have e1 := pre_sv h B
  have e2 := pre_sv h E
  have e3 := per_begin h hj hB
  have e4 := per_end h hj hE
  have e5 := wk_pre (C := C) (N := N) (n := n) E
  have e6 := (pre_rng h E).1
  have e7 := arr_nonneg h E
  have e8 := per_sv h hj hB (E - B) (by omega)
  rw [show B + (E - B) = E from by omega] at e8
  omega
/-- Each begins when a customer comes. -/
theorem per_comes (h : OK C N n) {j B : Nat} (hj : j < (per C N n).q) (hB : (per C N n).b j = (B : Int)) : cl C n B < n ∧ C (cl C n B) = (B : Int) := by
  have hr := (per_ok C N n).rng j hj
  have e1 := per_begin h hj hB
  have e2 := per_in hj (t := B) (by omega) (by omega)
  have e3 := wk_pre (C := C) (N := N) (n := n) B
  have e4 := (wk_rng h B).1
  have e5 := arr_cl h B
  have e6 := cb_le (C := C) (n := n) (B : Int)
  have e7 : cl C n B ≤ cb C n (B : Int) := cb_mono h (by omega)
  have e8 : cl C n B < cb C n (B : Int) := by
    by_cases hh : cl C n B < cb C n (B : Int)
    · exact hh
    · rw [show cl C n B = cb C n (B : Int) from by omega] at e5; omega
  have h1 := (cb_iff h (B : Int) (i := cl C n B) (by omega)).2 e8
  have h2 := cl_iff h B (i := cl C n B) (by omega)
  exact ⟨by omega, by omega⟩
theorem wk_last (h : OK C N n) (hn : 0 < n) {t : Nat} (ht : (t : Int) + 1 = LL C N n) : wk C N n t ≠ 0 := by
  have e : cb C n (t : Int) = n := by
    by_cases e : cb C n (t : Int) = n
    · exact e
    · have h1 := cb_le (C := C) (n := n) (t : Int)
      have h2 := (cb_iff h (t : Int) (i := cb C n (t : Int)) (by omega))
      have h3 := LL_come h (i := cb C n (t : Int)) (by omega)
      have h4 := LL_mono h (a := cb C n (t : Int) + 1) (b := n) (by omega) (Nat.le_refl _)
      have h5 := h.need (i := cb C n (t : Int)) (by omega)
      omega
  rw [wk_LL h t, e]
  unfold mx
  split <;> omega
theorem LL_pos (h : OK C N n) (hn : 0 < n) : 0 < LL C N n := by
  have h3 := LL_come h (i := 0) (by omega)
  have h4 := LL_mono h (a := 1) (b := n) (by omega) (Nat.le_refl _)
  have h5 := h.need (i := 0) (by omega)
  have h6 := h.come (i := 0) (by omega)
  rw [Nat.zero_add] at h3
  omega
/-- The last one ends at the least time at which all may be served. -/
theorem per_last (h : OK C N n) (hn : 0 < n) : 0 < (per C N n).q ∧ (per C N n).e ((per C N n).q - 1) = LL C N n := by
  have hp := per_ok C N n
  have ht := LL_top h
  have h0 := LL_pos h hn
  obtain ⟨t, hT⟩ : ∃ t : Nat, (t : Int) + 1 = LL C N n := ⟨(LL C N n - 1).toNat, by omega⟩
  obtain ⟨j, hj, a, b⟩ := (hp.busy t (by omega)).1 (wk_last h hn hT)
  have hle : ∀ i, i < (per C N n).q → (per C N n).e i ≤ LL C N n := fun i hi => by
    have ri := hp.rng i hi
    obtain ⟨u, hu⟩ : ∃ u : Nat, (per C N n).e i = (u : Int) + 1 := ⟨((per C N n).e i - 1).toNat, by omega⟩
    have h1 := per_in hi (t := u) (by omega) (by omega)
    by_cases hh : (per C N n).e i ≤ LL C N n
    · exact hh
    · exact absurd (wk_end h (t := u) (by omega)) h1
  refine ⟨by omega, ?_⟩
  by_cases e : j = (per C N n).q - 1
  · have := hle j hj; rw [← e]; omega
  · have h1 := hp.before (i := j) (j := (per C N n).q - 1) (by omega) (by omega)
    have h2 := hp.rng ((per C N n).q - 1) (by omega)
    have h3 := hle ((per C N n).q - 1) (by omega)
    omega
theorem per_none (hn : n = 0) : (per C N n).q = 0 := by
  subst hn
  have hp := per_ok C N 0
  by_cases e : (per C N 0).q = 0
  · exact e
  · have hr := hp.rng 0 (by omega)
    obtain ⟨t, ht⟩ : ∃ t : Nat, (per C N 0).b 0 = (t : Int) := ⟨((per C N 0).b 0).toNat, by omega⟩
    have h1 := per_in (C := C) (N := N) (n := 0) (j := 0) (t := t) (by omega) (by omega) (by omega)
    have h2 : OK C N 0 := OK.nil C N
    exact absurd (wk_end h2 (t := t) (by rw [LL_zero]; omega)) h1
/-- What those who come from b on, but before e, need. -/
def cs (C N : Nat → Int) (b e : Int) (m : Nat) : Int := sm (fun i => if b ≤ C i ∧ C i < e then N i else 0) m
theorem cs_zero (b e : Int) : cs C N b e 0 = 0 := rfl
theorem cs_succ (b e : Int) (m : Nat) : cs C N b e (m + 1) = cs C N b e m + if b ≤ C m ∧ C m < e then N m else 0 := rfl
theorem cs_rng (h : OK C N n) (b e : Int) : ∀ m, m ≤ n → 0 ≤ cs C N b e m ∧ cs C N b e m ≤ 9 * (m : Int) := by
  intro m
  induction m with
  | zero => intro _; rw [cs_zero]; omega
  | succ m ih =>
    intro hm
    have h1 := ih (by omega)
    have h2 := h.need (i := m) (by omega)
    rw [cs_succ]
    split <;> omega
theorem cs_per (h : OK C N n) {j : Nat} (hj : j < (per C N n).q) : cs C N ((per C N n).b j) ((per C N n).e j) n = (per C N n).e j - (per C N n).b j := by
  have hr := (per_ok C N n).rng j hj
  obtain ⟨B, hB⟩ : ∃ B : Nat, (per C N n).b j = (B : Int) := ⟨((per C N n).b j).toNat, by omega⟩
  obtain ⟨E, hE⟩ : ∃ E : Nat, (per C N n).e j = (E : Int) := ⟨((per C N n).e j).toNat, by omega⟩
  have e1 := per_sum h hj hB hE
  have hm := cl_mono h (s := B) (t := E) (by omega)
  have hl := cl_le (C := C) (n := n) E
  unfold cs
  rw [sm_congr (g := fun i => if cl C n B ≤ i ∧ i < cl C n E then N i else 0) (fun i hi => by
    have q1 := cl_iff h B hi
    have q2 := cl_iff h E hi
    rw [hB, hE]
    by_cases hc : cl C n B ≤ i ∧ i < cl C n E
    · rw [if_pos hc, if_pos ⟨by omega, by omega⟩]
    · rw [if_neg hc, if_neg (fun hh => hc ⟨by omega, by omega⟩)]), sm_part N hm, hB, hE]
  by_cases h0 : n ≤ cl C n B
  · rw [if_pos h0]
    rw [show cl C n E = cl C n B from by omega] at e1
    omega
  · rw [if_neg h0]
    by_cases h1 : n ≤ cl C n E
    · have e : cl C n E = n := by omega
      rw [if_pos h1]; rw [e] at e1; omega
    · rw [if_neg h1]; omega
end
end Go.Proofs.Ytillelkfmebfiaa.Math
