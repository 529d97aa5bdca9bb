/- Plain facts on those who come in busy periods: no program in sight; no conditions beyond those typed. -/
import Derived.Test.YtillelkfmebfiaaMathQ
namespace Go.Proofs.Ytillelkfmebfiaa.Math
open Go.RowKit Go.Proofs.YtillelkfmebfiaaW.PrintWords Go.Proofs.YtillelkfmebfiaaW.PrintMore
set_option linter.unusedVariables false
section
variable {C N : Nat → Int} {n : Nat}
/-- Those who come from B on, but before E, stand in a row. -/
theorem cin_tab (h : OK C N n) (B E : Nat) : ∀ m, m ≤ n → cin C (B : Int) (E : Int) m = tab (fun i => ((cl C n B + i : Nat) : Int)) (min m (cl C n E) - cl C n B) := by
  intro m
  induction m with
  | zero => intro _; rw [cin_zero, show min 0 (cl C n E) - cl C n B = 0 from by omega, tab_zero]
  | succ m ih =>
    intro hm
    have h1 := cl_iff h B (i := m) (by omega)
    have h2 := cl_iff h E (i := m) (by omega)
    rw [cin_succ, ih (by omega)]
    by_cases hc : (B : Int) ≤ C m ∧ C m < (E : Int)
    · rw [if_pos hc, show min (m + 1) (cl C n E) - cl C n B = min m (cl C n E) - cl C n B + 1 from by omega, tab_snoc, show cl C n B + (min m (cl C n E) - cl C n B) = m from by omega]
    · rw [if_neg hc, show min (m + 1) (cl C n E) - cl C n B = min m (cl C n E) - cl C n B from by omega]
/-- Where nobody is there, nobody comes. -/
theorem cl_idle (h : OK C N n) (s : Nat) : ∀ d, (∀ t, s ≤ t → t < s + d → wk C N n t = 0) → cl C n (s + d) = cl C n s := by
  intro d
  induction d with
  | zero => intro _; rfl
  | succ d ih =>
    intro hw
    have e := ih (fun t h1 h2 => hw t h1 (by omega))
    have h1 := hw (s + d) (by omega) (by omega)
    have h2 := wk_pre (C := C) (N := N) (n := n) (s + d)
    have h3 := (pre_rng h (s + d)).1
    have h4 := arr_nonneg h (s + d)
    have h5 := arr_cl h (s + d)
    have h6 : cl C n (s + d) ≤ cb C n ((s + d : Nat) : Int) := cb_mono h (by omega)
    have h7 := h.sum h6 (cb_le _)
    rw [show s + (d + 1) = s + d + 1 from by omega, cl_succ]
    omega
/-- The place of the first who comes in a busy period; behind the last period: how many there are. -/
def cq (C N : Nat → Int) (n p : Nat) : Nat := if p < (per C N n).q then cl C n ((per C N n).b p).toNat else n
theorem cq_in {p : Nat} (hp : p < (per C N n).q) : cq C N n p = cl C n ((per C N n).b p).toNat := if_pos hp
theorem cq_le (p : Nat) : cq C N n p ≤ n := by
  unfold cq
  split
  · exact cl_le _
  · omega
theorem cq_zero (h : OK C N n) (hq : 0 < (per C N n).q) : cq C N n 0 = 0 := by
  have hp := per_ok C N n
  have hr := hp.rng 0 hq
  have e := cl_idle h 0 ((per C N n).b 0).toNat (fun t _ ht => by
    by_cases hw : wk C N n t = 0
    · exact hw
    · obtain ⟨j, hj, a, b⟩ := (hp.busy t (by omega)).1 hw
      by_cases e : j = 0
      · subst e; omega
      · have h1 := hp.before (i := 0) (j := j) (by omega) hj
        omega)
  rw [Nat.zero_add, cl_zero h] at e
  rw [cq_in hq]
  exact e
theorem cq_succ (h : OK C N n) {p : Nat} (hp : p < (per C N n).q) : cl C n ((per C N n).e p).toNat = cq C N n (p + 1) := by
  have hk := per_ok C N n
  have hr := hk.rng p hp
  by_cases hl : p + 1 < (per C N n).q
  · have hr' := hk.rng (p + 1) hl
    have hg := hk.gap p hl
    have e := cl_idle h ((per C N n).e p).toNat (((per C N n).b (p + 1)).toNat - ((per C N n).e p).toNat) (fun t h0 ht => by
      by_cases hw : wk C N n t = 0
      · exact hw
      · obtain ⟨j, hj, a, b⟩ := (hk.busy t (by omega)).1 hw
        rcases Nat.lt_trichotomy j p with hh | hh | hh
        · have h1 := hk.before hh hp; omega
        · subst hh; omega
        · by_cases e2 : j = p + 1
          · subst e2; omega
          · have h1 := hk.before (i := p + 1) (j := j) (by omega) hj; omega)
    have ex : ((per C N n).e p).toNat + (((per C N n).b (p + 1)).toNat - ((per C N n).e p).toNat) = ((per C N n).b (p + 1)).toNat := by omega
    rw [ex] at e
    exact e.symm.trans (cq_in hl).symm
  · have hn : 0 < n := by
      by_cases hn : 0 < n
      · exact hn
      · have := per_none (C := C) (N := N) (n := n) (by omega); omega
    have hla := (per_last h hn).2
    rw [show (per C N n).q - 1 = p from by omega] at hla
    have hle := cl_le (C := C) (n := n) ((per C N n).e p).toNat
    have e9 : cq C N n (p + 1) = n := if_neg hl
    rw [e9]
    by_cases hx : cl C n ((per C N n).e p).toNat = n
    · exact hx
    · have h1 := cl_iff h ((per C N n).e p).toNat (i := cl C n ((per C N n).e p).toNat) (by omega)
      have h2 := LL_come h (i := cl C n ((per C N n).e p).toNat) (by omega)
      have h3 := LL_mono h (a := cl C n ((per C N n).e p).toNat + 1) (b := n) (by omega) (Nat.le_refl _)
      have h4 := h.need (i := cl C n ((per C N n).e p).toNat) (by omega)
      omega
/-- Those who come in one period stand in a row, up to the first of the next. -/
theorem per_cin (h : OK C N n) {p : Nat} (hp : p < (per C N n).q) : cin C ((per C N n).b p) ((per C N n).e p) n = tab (fun i => ((cq C N n p + i : Nat) : Int)) (cq C N n (p + 1) - cq C N n p) := by
  have hr := (per_ok C N n).rng p hp
  have e := cin_tab h ((per C N n).b p).toNat ((per C N n).e p).toNat n (Nat.le_refl _)
  have hle := cl_le (C := C) (n := n) ((per C N n).e p).toNat
  rw [show ((((per C N n).b p).toNat : Nat) : Int) = (per C N n).b p from by omega, show ((((per C N n).e p).toNat : Nat) : Int) = (per C N n).e p from by omega, Nat.min_eq_right hle, cq_succ h hp, ← cq_in hp] at e
  exact e
theorem cq_lt (h : OK C N n) {p : Nat} (hp : p < (per C N n).q) : cq C N n p < cq C N n (p + 1) := by
  have hr := (per_ok C N n).rng p hp
  have hc := per_comes h hp (B := ((per C N n).b p).toNat) (by omega)
  have h1 := (cl_iff h ((per C N n).e p).toNat (i := cl C n ((per C N n).b p).toNat) hc.1).1 (by omega)
  rw [cq_succ h hp, ← cq_in hp] at h1
  exact h1
/-- The last of them leaves at the end of the period. -/
theorem per_gone (h : OK C N n) {p : Nat} (hp : p < (per C N n).q) : LL C N (cq C N n (p + 1)) = (per C N n).e p := by
  have hr := (per_ok C N n).rng p hp
  obtain ⟨E, hE⟩ : ∃ E : Nat, (per C N n).e p = (E : Int) + 1 := ⟨((per C N n).e p - 1).toNat, by omega⟩
  have e1 := per_end h hp (t := E + 1) (by omega)
  have e2 := per_in hp (t := E) (by omega) (by omega)
  rw [wk_LL h] at e1 e2
  have e3 : cl C n (E + 1) = cq C N n (p + 1) := by
    rw [← cq_succ h hp, hE]
    congr 1
  rw [← e3, hE]
  have e4 : cl C n (E + 1) ≤ cb C n ((E + 1 : Nat) : Int) := cb_mono h (by omega)
  have e5 := LL_mono h e4 (cb_le _)
  rw [← cl_succ] at e2
  unfold mx at e1 e2
  split at e1 <;> split at e2 <;> omega
/-- All of them leave in the period, or at its end. -/
theorem per_leave (h : OK C N n) {p i : Nat} (hp : p < (per C N n).q) (h1 : cq C N n p ≤ i) (h2 : i < cq C N n (p + 1)) : (per C N n).b p < LL C N (i + 1) ∧ LL C N (i + 1) ≤ (per C N n).e p := by
  have hr := (per_ok C N n).rng p hp
  have hle := cq_le (C := C) (N := N) (n := n) (p + 1)
  have e1 := LL_mono h (a := i + 1) (b := cq C N n (p + 1)) (by omega) hle
  have e2 := per_gone h hp
  have e3 := LL_come h (i := i) (by omega)
  have e4 := h.need (i := i) (by omega)
  have e5 := cl_iff h ((per C N n).b p).toNat (i := i) (by omega)
  rw [← cq_in hp] at e5
  omega
/-- The first of them does not wait. -/
theorem per_wait (h : OK C N n) {p : Nat} (hp : p < (per C N n).q) : wt C N (cq C N n p) = 0 := by
  have hr := (per_ok C N n).rng p hp
  obtain ⟨B, hB⟩ : ∃ B : Nat, (per C N n).b p = (B : Int) := ⟨((per C N n).b p).toNat, by omega⟩
  have hc := per_comes h hp hB
  have hq : cq C N n p = cl C n B := by
    rw [cq_in hp, hB]
    congr 1
  have e1 := per_begin h hp hB
  have e2 := wt_LL h (cl C n B) hc.1
  have e3 : LL C N (cl C n B) ≤ (B : Int) := by
    cases B with
    | zero => rw [cl_zero h, LL_zero]; omega
    | succ t =>
      rw [pre_succ, wk_LL h, ← cl_succ] at e1
      unfold mx at e1
      split at e1 <;> split at e1 <;> omega
  rw [hq]
  rw [LL_succ, hc.2] at e2
  unfold mx at e2
  split at e2 <;> omega
end
end Go.Proofs.Ytillelkfmebfiaa.Math
