/- Plain facts on the orders that rules tell: as they come all leave at the least times; how often another one is served. No program in sight; no conditions beyond those typed. -/
import Derived.Test.YtkkfobdoliimiaaMathW
namespace Go.Proofs.Ytkkfobdoliimiaa.Math
open Go.RowKit Go.Proofs.YtkkfobdoliimiaaW.PrintWords Go.Proofs.YtkkfobdoliimiaaW.PrintMore
set_option linter.unusedVariables false
section
variable {C N : Nat → Int} {n : Nat} {O : Nat → Int}
theorem lst_congr {O' : Nat → Int} (i : Nat) : ∀ t, (∀ s, s < t → O s = O' s) → lst O i t = lst O' i t := by
  intro t
  induction t with
  | zero => intro _; rfl
  | succ t ih => intro h; rw [lst_succ, lst_succ, ih (fun s hs => h s (by omega)), h t (by omega)]
theorem chg_congr {O' : Nat → Int} : ∀ t, (∀ s, s < t → O s = O' s) → chg N O t = chg N O' t := by
  intro t
  induction t with
  | zero => intro _; rfl
  | succ t ih =>
    intro h
    rw [chg_succ, chg_succ, ih (fun s hs => h s (by omega)), h t (by omega)]
    by_cases h0 : 0 < t
    · rw [h (t - 1) (by omega), cnt_congr (O := O) (O' := O') (O' (t - 1)).toNat t (fun s hs => h s (by omega))]
    · rw [if_neg (by omega), if_neg (by omega)]
theorem ob_avail (rule : Int) {t i : Nat} (h : ob C N n rule t = (i : Int)) : C i ≤ (t : Int) ∧ lf C N n rule t i ≠ 0 ∧ i < n := by
  have h1 := pk_avail C (lf C N n rule t) (t : Int) rule n (by show 0 ≤ ob C N n rule t; omega)
  have h2 := (pk_rng C (lf C N n rule t) (t : Int) rule n).2
  have h3 : ob C N n rule t < (n : Int) := h2
  have h4 : (pk C (lf C N n rule t) (t : Int) rule n).toNat = i := by show (ob C N n rule t).toNat = i; omega
  rw [h4] at h1
  exact ⟨h1.1, h1.2, by omega⟩
theorem ob_some (rule : Int) {t i : Nat} (hi : i < n) (hc : C i ≤ (t : Int)) (hl : lf C N n rule t i ≠ 0) : ∃ j : Nat, ob C N n rule t = (j : Int) := by
  by_cases h : ob C N n rule t < 0
  · rcases pk_none C (lf C N n rule t) (t : Int) rule n h i hi with h1 | h1
    · omega
    · exact absurd h1 hl
  · exact ⟨(ob C N n rule t).toNat, by omega⟩
theorem ob_least {t i j : Nat} (h : ob C N n 0 t = (i : Int)) (hj : j < i) : (t : Int) < C j ∨ lf C N n 0 t j = 0 := by
  have h' : pk C (lf C N n 0 t) (t : Int) 0 n = (i : Int) := h
  exact pk_least C (lf C N n 0 t) (t : Int) n (by omega) j (by omega)
theorem ob_greatest {t i j : Nat} (h : ob C N n 1 t = (i : Int)) (hj : i < j) (hn : j < n) : (t : Int) < C j ∨ lf C N n 1 t j = 0 := by
  have h' : pk C (lf C N n 1 t) (t : Int) 1 n = (i : Int) := h
  exact pk_greatest C (lf C N n 1 t) (t : Int) n j hn (by omega)
theorem ob_fewest {t i j : Nat} (h : ob C N n 2 t = (i : Int)) (hn : j < n) (hc : C j ≤ (t : Int)) (hl : lf C N n 2 t j ≠ 0) : lf C N n 2 t i ≤ lf C N n 2 t j := by
  have h' : pk C (lf C N n 2 t) (t : Int) 2 n = (i : Int) := h
  have := pk_fewest C (lf C N n 2 t) (t : Int) n j hn (fun hh => by rcases hh with h1 | h1; omega; exact hl h1)
  rwa [show (pk C (lf C N n 2 t) (t : Int) 2 n).toNat = i from by omega] at this
/-- As they come: what each has left at a time. -/
theorem lf_first (h : OK C N n) : ∀ t i, i < n → lf C N n 0 t i = if (t : Int) ≤ LL C N (i + 1) - N i then N i else if (t : Int) ≤ LL C N (i + 1) then LL C N (i + 1) - (t : Int) else 0 := by
  intro t
  induction t with
  | zero =>
    intro i hi
    have h1 := LL_come h hi
    have h2 := h.come hi
    rw [if_pos (by omega)]
    rfl
  | succ t ih =>
    intro i hi
    have hs : ∀ j, LL C N (j + 1) - N j = mx (LL C N j) (C j) := fun j => by rw [LL_succ]; omega
    have fwd : ∀ j, j < n → ob C N n 0 t = (j : Int) → LL C N (j + 1) - N j ≤ (t : Int) ∧ (t : Int) < LL C N (j + 1) := fun j hj ho => by
      obtain ⟨a1, a2, _⟩ := ob_avail 0 ho
      have e := ih j hj
      have b1 : (t : Int) < LL C N (j + 1) := by
        by_cases hh : (t : Int) < LL C N (j + 1)
        · exact hh
        · have := h.need hj
          rw [if_neg (by omega)] at e
          split at e <;> omega
      refine ⟨?_, b1⟩
      rw [hs]
      have b2 : LL C N j ≤ (t : Int) := by
        by_cases hh : LL C N j ≤ (t : Int)
        · exact hh
        · by_cases j0 : j = 0
          · subst j0; rw [LL_zero] at hh; omega
          · obtain ⟨q, rfl⟩ : ∃ q, j = q + 1 := ⟨j - 1, by omega⟩
            have c1 := h.step (i := q) hj
            have c2 := h.need (i := q) (by omega)
            have e2 := ih q (by omega)
            rcases ob_least ho (j := q) (by omega) with c3 | c3
            · omega
            · rw [c3] at e2
              split at e2
              · omega
              · split at e2 <;> omega
      unfold mx
      split <;> omega
    rw [lf_succ]
    have e := ih i hi
    have hN := h.need hi
    have hmx := mx_ge (LL C N i) (C i)
    have hsi := hs i
    by_cases hr : LL C N (i + 1) - N i ≤ (t : Int) ∧ (t : Int) < LL C N (i + 1)
    · have hl : lf C N n 0 t i ≠ 0 := by
        rw [e]
        split
        · omega
        · split <;> omega
      obtain ⟨j, hj⟩ := ob_some 0 hi (by omega) hl
      obtain ⟨a1, a2, a3⟩ := ob_avail 0 hj
      have hji : j = i := by
        by_cases h1 : j < i
        · have f := (fwd j a3 hj).2
          have := LL_mono h (show j + 1 ≤ i from h1) (by omega)
          omega
        · by_cases h2 : i < j
          · rcases ob_least hj h2 with c3 | c3
            · omega
            · exact absurd c3 hl
          · omega
      subst hji
      rw [if_pos hj, e]
      by_cases g1 : (t : Int) ≤ LL C N (j + 1) - N j
      · rw [if_pos g1, if_neg (by omega), if_pos (by omega)]; omega
      · rw [if_neg g1, if_pos (by omega), if_neg (by omega), if_pos (by omega)]; omega
    · have hne : ¬ ob C N n 0 t = (i : Int) := fun ho => hr (fwd i hi ho)
      rw [if_neg hne, e]
      by_cases g1 : (t : Int) ≤ LL C N (i + 1) - N i
      · rw [if_pos g1, if_pos (by omega)]; omega
      · rw [if_neg g1, if_neg (show ¬ (((t + 1 : Nat) : Int) ≤ LL C N (i + 1) - N i) from by omega), if_neg (show ¬ (((t + 1 : Nat) : Int) ≤ LL C N (i + 1)) from by omega)]
        split <;> omega
/-- As they come each ends at the least time at which this one and all ahead may be served. -/
theorem lst_first (h : OK C N n) {T : Nat} (hT : LL C N n ≤ (T : Int)) {i : Nat} (hi : i < n) : lst (ob C N n 0) i T = LL C N (i + 1) := by
  have hm := LL_mono h (show i + 1 ≤ n from hi) (Nat.le_refl _)
  have hN := h.need hi
  have hC := h.come hi
  have hc := LL_come h hi
  have hr := lst_rng (O := ob C N n 0) i T
  have key : ∀ t : Nat, t ≤ T → ((t : Int) < lst (ob C N n 0) i T ↔ (t : Int) < LL C N (i + 1)) := fun t ht => by
    have h1 := cnt_lst (O := ob C N n 0) i t (T - t)
    rw [show t + (T - t) = T from by omega] at h1
    rw [← h1]
    have e1 := lf_cnt (C := C) (N := N) (n := n) 0 i t
    have e2 := lf_cnt (C := C) (N := N) (n := n) 0 i T
    have f1 := lf_first h t i hi
    have f2 := lf_end h 0 hi hT
    rw [f2] at e2
    by_cases g1 : (t : Int) ≤ LL C N (i + 1) - N i
    · rw [if_pos g1] at f1; constructor <;> intro _ <;> omega
    · rw [if_neg g1] at f1
      by_cases g2 : (t : Int) ≤ LL C N (i + 1)
      · rw [if_pos g2] at f1; constructor <;> intro _ <;> omega
      · rw [if_neg g2] at f1; constructor <;> intro _ <;> omega
  obtain ⟨e, he⟩ := Int.eq_ofNat_of_zero_le hr.1
  obtain ⟨f, hf⟩ := Int.eq_ofNat_of_zero_le (show 0 ≤ LL C N (i + 1) from by omega)
  have k1 := key e (by omega)
  have k2 := key f (by omega)
  omega
/-- A change: another one is served though the one before has units left. -/
def turn (N : Nat → Int) (O : Nat → Int) (t : Nat) : Prop := 0 ≤ O t ∧ O (t + 1) ≠ O t ∧ 0 < N (O t).toNat - cnt O (O t).toNat (t + 1)
theorem chg_step (t : Nat) : chg N O (t + 2) = chg N O (t + 1) ∨ (turn N O t ∧ chg N O (t + 2) = chg N O (t + 1) + 1) := by
  rw [chg_succ (t + 1)]
  by_cases h : 0 < t + 1 ∧ 0 ≤ O (t + 1 - 1) ∧ O (t + 1) ≠ O (t + 1 - 1) ∧ 0 < N (O (t + 1 - 1)).toNat - cnt O (O (t + 1 - 1)).toNat (t + 1)
  · rw [if_pos h]
    exact Or.inr ⟨h.2, rfl⟩
  · rw [if_neg h]
    exact Or.inl (by omega)
theorem turn_facts (h : OK C N n) {rule : Int} {t : Nat} (hh : turn N (ob C N n rule) t) : ∃ i j : Nat, ob C N n rule t = (i : Int) ∧ ob C N n rule (t + 1) = (j : Int) ∧ i ≠ j ∧ i < n ∧ j < n ∧ C i ≤ (t : Int) ∧ C j ≤ (t : Int) + 1 ∧
    lf C N n rule (t + 1) i ≠ 0 ∧ lf C N n rule (t + 1) j ≠ 0 ∧ lf C N n rule (t + 1) i = lf C N n rule t i - 1 ∧ lf C N n rule (t + 1) j = lf C N n rule t j := by
  obtain ⟨h1, h2, h3⟩ := hh
  obtain ⟨i, hi⟩ : ∃ i : Nat, ob C N n rule t = (i : Int) := ⟨(ob C N n rule t).toNat, by omega⟩
  rw [hi, Int.toNat_natCast, ← lf_cnt rule i (t + 1)] at h3
  obtain ⟨a1, a2, a3⟩ := ob_avail rule hi
  obtain ⟨j, hj⟩ := ob_some (C := C) (N := N) (n := n) rule (t := t + 1) a3 (by omega) (by omega)
  obtain ⟨b1, b2, b3⟩ := ob_avail rule hj
  have hne : i ≠ j := fun e => by subst e; omega
  have e1 := lf_succ (C := C) (N := N) (n := n) rule t i
  have e2 := lf_succ (C := C) (N := N) (n := n) rule t j
  rw [if_pos hi] at e1
  rw [if_neg (by omega)] at e2
  exact ⟨i, j, hi, hj, hne, a3, b3, a1, by omega, by omega, b2, e1, by omega⟩
theorem turn_first (h : OK C N n) (t : Nat) : ¬ turn N (ob C N n 0) t := by
  intro hh
  obtain ⟨i, j, hi, hj, hne, a3, b3, a1, b1, l1, l2, e1, e2⟩ := turn_facts h hh
  by_cases hji : j < i
  · have hc := h.le (i := j) (j := i) (by omega) a3
    rcases ob_least hi hji with c | c
    · omega
    · omega
  · rcases ob_least hj (j := i) (by omega) with c | c
    · omega
    · omega
/-- By the rules 1 and 2 a change needs one who comes then. -/
theorem turn_new (h : OK C N n) {rule : Int} (hr : rule = 1 ∨ rule = 2) {t : Nat} (hh : turn N (ob C N n rule) t) : 1 ≤ cb C n (t : Int) ∧ cb C n (t : Int) + 1 ≤ cb C n ((t + 1 : Nat) : Int) := by
  obtain ⟨i, j, hi, hj, hne, a3, b3, a1, b1, l1, l2, e1, e2⟩ := turn_facts h hh
  have hnew : ¬ C j ≤ (t : Int) := fun hc => by
    rcases hr with rfl | rfl
    · by_cases hji : i < j
      · rcases ob_greatest hi hji b3 with c | c
        · omega
        · omega
      · rcases ob_greatest hj (j := i) (by omega) a3 with c | c
        · omega
        · omega
    · have f1 := ob_fewest hi b3 hc (by omega)
      have f2 := ob_fewest hj a3 (by omega) l1
      omega
  have c1 := (cb_iff h (t : Int) a3).1 a1
  have c2 := (cb_iff h ((t + 1 : Nat) : Int) b3).1 (by omega)
  have c3 : ¬ j < cb C n (t : Int) := fun hc => hnew ((cb_iff h (t : Int) b3).2 hc)
  omega
theorem chg_one : chg N O 1 = 0 := by
  rw [chg_succ, if_neg (by omega)]
  rfl
theorem chg_first (h : OK C N n) : ∀ t, chg N (ob C N n 0) t = 0 := by
  intro t
  cases t with
  | zero => rfl
  | succ t =>
    induction t with
    | zero => exact chg_one
    | succ t ih =>
      rcases chg_step (N := N) (O := ob C N n 0) t with h1 | h1
      · rw [h1]; exact ih
      · exact absurd h1.1 (turn_first h t)
theorem chg_few (h : OK C N n) {rule : Int} (hr : rule = 1 ∨ rule = 2) : ∀ t, chg N (ob C N n rule) (t + 1) ≤ mx 0 ((cb C n (t : Int) : Int) - 1) := by
  intro t
  induction t with
  | zero => rw [chg_one]; exact (mx_ge _ _).1
  | succ t ih =>
    have hm := cb_mono h (s := (t : Int)) (t := ((t + 1 : Nat) : Int)) (by omega)
    rcases chg_step (N := N) (O := ob C N n rule) t with h1 | h1
    · rw [h1]
      refine Int.le_trans ih ?_
      unfold mx
      split <;> split <;> omega
    · have := turn_new h hr h1.1
      rw [h1.2]
      unfold mx at ih ⊢
      split at ih <;> split <;> omega
theorem chg_most (h : OK C N n) {rule : Int} (hr : rule = 1 ∨ rule = 2) (T : Nat) : chg N (ob C N n rule) T ≤ mx ((n : Int) - 1) 0 := by
  cases T with
  | zero => exact (mx_ge _ _).2.1
  | succ t =>
    have h1 := chg_few h hr t
    have h2 := cb_le (C := C) (n := n) (t : Int)
    refine Int.le_trans h1 ?_
    unfold mx
    split <;> split <;> omega
end
end Go.Proofs.Ytkkfobdoliimiaa.Math
