/- Plain facts on work: how much there is at each time, and the orders that rules tell. No program in sight; no conditions beyond those typed. -/
import Derived.Test.YtillelkfmebfiaaMathB
namespace Go.Proofs.Ytillelkfmebfiaa.Math
open Go.RowKit Go.Proofs.YtillelkfmebfiaaW.PrintWords Go.Proofs.YtillelkfmebfiaaW.PrintMore
set_option linter.unusedVariables false
section
variable {C N : Nat → Int} {n : Nat}
/-- What those who come at the time t need. -/
def arr (C N : Nat → Int) (n t : Nat) : Int := sm (fun i => if C i = (t : Int) then N i else 0) n
/-- The work at the beginning of each unit. -/
def wk (C N : Nat → Int) (n : Nat) : Nat → Int
  | 0 => arr C N n 0
  | t + 1 => mx 0 (wk C N n t - 1) + arr C N n (t + 1)
theorem wk_zero : wk C N n 0 = arr C N n 0 := rfl
theorem wk_succ (t : Nat) : wk C N n (t + 1) = mx 0 (wk C N n t - 1) + arr C N n (t + 1) := rfl
theorem LL_le (h : OK C N n) : ∀ d m, m + d ≤ n → LL C N m ≤ LL C N (m + d) := by
  intro d
  induction d with
  | zero => intro m _; exact Int.le_refl _
  | succ d ih =>
    intro m hm
    have h1 := ih m (by omega)
    have h2 := h.need (i := m + d) (by omega)
    have h3 := mx_ge (LL C N (m + d)) (C (m + d))
    rw [show m + (d + 1) = (m + d) + 1 from by omega, LL_succ]
    omega
theorem LL_mono (h : OK C N n) {a b : Nat} (hab : a ≤ b) (hb : b ≤ n) : LL C N a ≤ LL C N b := by
  have := LL_le h (b - a) a (by omega)
  rwa [show a + (b - a) = b from by omega] at this
theorem LL_come (h : OK C N n) {i : Nat} (hi : i < n) : C i + N i ≤ LL C N (i + 1) := by
  have := mx_ge (LL C N i) (C i)
  rw [LL_succ]
  omega
/-- How many have come by the time t. -/
def cb (C : Nat → Int) (n : Nat) (t : Int) : Nat := fa C t n 0
theorem cb_le (t : Int) : cb C n t ≤ n := by have := (fa_spec C t n 0).2.1; unfold cb; omega
theorem cb_iff (h : OK C N n) (t : Int) {i : Nat} (hi : i < n) : C i ≤ t ↔ i < cb C n t := by
  obtain ⟨h1, h2, h3, h4⟩ := fa_spec C t n 0
  unfold cb
  constructor
  · intro hc
    by_cases hh : i < fa C t n 0
    · exact hh
    · have h5 := h4 (by omega)
      have h6 := h.le (i := fa C t n 0) (j := i) (by omega) hi
      omega
  · intro hc
    exact h3 i (Nat.zero_le _) hc
theorem cb_mono (h : OK C N n) {s t : Int} (hst : s ≤ t) : cb C n s ≤ cb C n t := by
  by_cases hh : cb C n s ≤ cb C n t
  · exact hh
  · have h1 : cb C n t < n := by have := cb_le (C := C) (n := n) s; omega
    have h2 := (cb_iff h s h1).2 (by omega)
    have h3 := (cb_iff h t h1).1 (by omega)
    omega
theorem sm_part (f : Nat → Int) {a b : Nat} (hab : a ≤ b) : ∀ m, sm (fun i => if a ≤ i ∧ i < b then f i else 0) m = if m ≤ a then 0 else if m ≤ b then sm f m - sm f a else sm f b - sm f a := by
  intro m
  induction m with
  | zero => rw [sm_zero, if_pos (by omega)]
  | succ m ih =>
    rw [sm_succ, ih]
    by_cases h1 : m + 1 ≤ a
    · rw [if_pos (by omega), if_pos h1, if_neg (by omega)]; omega
    · by_cases h2 : m + 1 ≤ b
      · rw [if_neg h1, if_pos h2, if_pos (show a ≤ m ∧ m < b from ⟨by omega, by omega⟩), sm_succ]
        by_cases h3 : m ≤ a
        · rw [if_pos h3, show a = m from by omega]; omega
        · rw [if_neg h3, if_pos (by omega)]; omega
      · rw [if_neg h1, if_neg h2, if_neg (show ¬ (a ≤ m ∧ m < b) from by omega)]
        by_cases h3 : m ≤ a
        · rw [if_pos h3, show a = b from by omega]; omega
        · rw [if_neg h3]
          by_cases h4 : m ≤ b
          · rw [if_pos h4, show m = b from by omega]; omega
          · rw [if_neg h4]; omega
theorem sm_upto (f : Nat → Int) {b m : Nat} (hb : b ≤ m) : sm (fun i => if i < b then f i else 0) m = sm f b := by
  have := sm_part f (Nat.zero_le b) m
  rw [sm_congr (g := fun i => if i < b then f i else 0) (fun i _ => by by_cases h : i < b; (rw [if_pos h, if_pos ⟨by omega, h⟩]); (rw [if_neg h, if_neg (fun hh => h hh.2)]))] at this
  rw [this]
  by_cases h0 : m ≤ 0
  · rw [if_pos h0, show b = 0 from by omega, sm_zero]
  · rw [if_neg h0]
    by_cases h1 : m ≤ b
    · rw [if_pos h1, show m = b from by omega, sm_zero]; omega
    · rw [if_neg h1, sm_zero]; omega
/-- What comes at a time is what has come by it, less what had come before. -/
theorem arr_zero (h : OK C N n) : arr C N n 0 = sm N (cb C n 0) := by
  unfold arr
  rw [sm_congr (g := fun i => if i < cb C n 0 then N i else 0) (fun i hi => by
    have h1 := cb_iff h 0 hi
    have h2 := h.come hi
    by_cases hc : i < cb C n 0
    · rw [if_pos hc, if_pos (by have := h1.2 hc; omega)]
    · rw [if_neg hc, if_neg (fun hh => hc (h1.1 (by omega)))]), sm_upto N (cb_le _)]
theorem arr_succ (h : OK C N n) (t : Nat) : arr C N n (t + 1) = sm N (cb C n ((t + 1 : Nat) : Int)) - sm N (cb C n (t : Int)) := by
  have hm := cb_mono h (s := (t : Int)) (t := ((t + 1 : Nat) : Int)) (by omega)
  have hl := cb_le (C := C) (n := n) ((t + 1 : Nat) : Int)
  unfold arr
  rw [sm_congr (g := fun i => if cb C n (t : Int) ≤ i ∧ i < cb C n ((t + 1 : Nat) : Int) then N i else 0) (fun i hi => by
    have h1 := cb_iff h (t : Int) hi
    have h2 := cb_iff h ((t + 1 : Nat) : Int) hi
    by_cases hc : cb C n (t : Int) ≤ i ∧ i < cb C n ((t + 1 : Nat) : Int)
    · rw [if_pos hc, if_pos (by
        have a1 := h2.2 hc.2
        by_cases a2 : C i ≤ (t : Int)
        · have := h1.1 a2; omega
        · omega)]
    · rw [if_neg hc, if_neg (fun hh => hc ⟨by
        by_cases a2 : i < cb C n (t : Int)
        · have := h1.2 a2; omega
        · omega, h2.1 (by omega)⟩)]), sm_part N hm]
  by_cases h0 : n ≤ cb C n (t : Int)
  · rw [if_pos h0, show cb C n ((t + 1 : Nat) : Int) = cb C n (t : Int) from by omega]; omega
  · rw [if_neg h0]
    by_cases h1 : n ≤ cb C n ((t + 1 : Nat) : Int)
    · have e : cb C n ((t + 1 : Nat) : Int) = n := by omega
      rw [if_pos h1, e]
    · rw [if_neg h1]
theorem burst (h : OK C N n) {s : Int} {a : Nat} : ∀ d, a + d ≤ n → (∀ i, a ≤ i → i < a + d → C i = s) → mx 0 (LL C N (a + d) - s) = mx 0 (LL C N a - s) + (sm N (a + d) - sm N a) := by
  intro d
  induction d with
  | zero => intro _ _; rw [Nat.add_zero]; omega
  | succ d ih =>
    intro hd hc
    have e := ih (by omega) (fun i h1 h2 => hc i h1 (by omega))
    have hC := hc (a + d) (by omega) (by omega)
    have hN := h.need (i := a + d) (by omega)
    rw [show a + (d + 1) = (a + d) + 1 from by omega, LL_succ, sm_succ, hC]
    generalize mx 0 (LL C N a - s) = q at *
    unfold mx at *
    revert e
    (repeat' split) <;> intro e <;> omega
/-- The work at a time: what the least time at which those who have come may be served is ahead. -/
theorem wk_LL (h : OK C N n) : ∀ t, wk C N n t = mx 0 (LL C N (cb C n (t : Int)) - (t : Int)) := by
  intro t
  induction t with
  | zero =>
    rw [wk_zero, arr_zero h]
    have e := burst h (s := 0) (a := 0) (cb C n 0) (by have := cb_le (C := C) (n := n) 0; omega) (fun i _ hi => by
      have h1 := cb_le (C := C) (n := n) 0
      have h2 := (cb_iff h 0 (i := i) (by omega)).2 (by omega)
      have h3 := h.come (i := i) (by omega)
      omega)
    rw [Nat.zero_add, LL_zero, sm_zero] at e
    show sm N (cb C n 0) = mx 0 (LL C N (cb C n 0) - 0)
    rw [e]
    unfold mx
    split <;> omega
  | succ t ih =>
    rw [wk_succ, ih, arr_succ h]
    have hm := cb_mono h (s := (t : Int)) (t := ((t + 1 : Nat) : Int)) (by omega)
    have hl := cb_le (C := C) (n := n) ((t + 1 : Nat) : Int)
    have e := burst h (s := ((t + 1 : Nat) : Int)) (a := cb C n (t : Int)) (cb C n ((t + 1 : Nat) : Int) - cb C n (t : Int)) (by omega) (fun i h1 h2 => by
      have h3 := (cb_iff h ((t + 1 : Nat) : Int) (i := i) (by omega)).2 (by omega)
      by_cases a2 : C i ≤ (t : Int)
      · have := (cb_iff h (t : Int) (i := i) (by omega)).1 a2; omega
      · omega)
    rw [show cb C n (t : Int) + (cb C n ((t + 1 : Nat) : Int) - cb C n (t : Int)) = cb C n ((t + 1 : Nat) : Int) from by omega] at e
    rw [e]
    unfold mx
    (repeat' split) <;> omega
theorem wk_rng (h : OK C N n) (t : Nat) : 0 ≤ wk C N n t ∧ wk C N n t ≤ 200 := by
  have h1 := cb_le (C := C) (n := n) (t : Int)
  have h2 := LL_rng h (cb C n (t : Int)) h1
  have h3 := h.sum0 h1
  rw [wk_LL h t]
  unfold mx
  split <;> omega
theorem wk_end (h : OK C N n) {t : Nat} (ht : LL C N n ≤ (t : Int)) : wk C N n t = 0 := by
  have h1 := cb_le (C := C) (n := n) (t : Int)
  have h2 := LL_mono h h1 (Nat.le_refl _)
  rw [wk_LL h t]
  unfold mx
  split <;> omega
theorem LL_top (h : OK C N n) : 0 ≤ LL C N n ∧ LL C N n ≤ 132 := by
  have h1 := LL_rng h n (Nat.le_refl _)
  have h2 := h.sum0 (Nat.le_refl n)
  omega
/-- Who is served by a rule, of the first m. -/
def pk (C L : Nat → Int) (t rule : Int) : Nat → Int
  | 0 => -1
  | m + 1 => if t < C m ∨ L m = 0 then pk C L t rule m else if pk C L t rule m < 0 ∨ rule = 1 ∨ (rule = 2 ∧ L m < L (pk C L t rule m).toNat) ∨ (rule = 3 ∧ L (pk C L t rule m).toNat < L m) then (m : Int) else pk C L t rule m
theorem pk_succ (C L : Nat → Int) (t rule : Int) (m : Nat) : pk C L t rule (m + 1) = if t < C m ∨ L m = 0 then pk C L t rule m else if pk C L t rule m < 0 ∨ rule = 1 ∨ (rule = 2 ∧ L m < L (pk C L t rule m).toNat) ∨ (rule = 3 ∧ L (pk C L t rule m).toNat < L m) then (m : Int) else pk C L t rule m := rfl
theorem pk_rng (C L : Nat → Int) (t rule : Int) : ∀ m, -1 ≤ pk C L t rule m ∧ pk C L t rule m < (m : Int) := by
  intro m
  induction m with
  | zero => exact ⟨by show (-1 : Int) ≤ -1; omega, by show (-1 : Int) < 0; omega⟩
  | succ m ih =>
    rw [pk_succ]
    split
    · omega
    · split <;> omega
theorem pk_avail (C L : Nat → Int) (t rule : Int) : ∀ m, 0 ≤ pk C L t rule m → C (pk C L t rule m).toNat ≤ t ∧ L (pk C L t rule m).toNat ≠ 0 := by
  intro m
  induction m with
  | zero => intro h; exact absurd h (by show ¬ (0 : Int) ≤ -1; omega)
  | succ m ih =>
    rw [pk_succ]
    by_cases h1 : t < C m ∨ L m = 0
    · rw [if_pos h1]; exact ih
    · rw [if_neg h1]
      split
      · intro _; rw [Int.toNat_natCast]; exact ⟨Int.not_lt.1 (fun hh => h1 (Or.inl hh)), fun hh => h1 (Or.inr hh)⟩
      · exact ih
theorem pk_none (C L : Nat → Int) (t rule : Int) : ∀ m, pk C L t rule m < 0 → ∀ i, i < m → t < C i ∨ L i = 0 := by
  intro m
  induction m with
  | zero => intro _ i hi; omega
  | succ m ih =>
    rw [pk_succ]
    intro h i hi
    by_cases h1 : t < C m ∨ L m = 0
    · rw [if_pos h1] at h
      by_cases e : i = m
      · subst e; exact h1
      · exact ih h i (by omega)
    · rw [if_neg h1] at h
      by_cases h2 : pk C L t rule m < 0
      · rw [if_pos (Or.inl h2)] at h; omega
      · split at h <;> omega
theorem pk_least (C L : Nat → Int) (t : Int) : ∀ m, 0 ≤ pk C L t 0 m → ∀ i : Nat, (i : Int) < pk C L t 0 m → t < C i ∨ L i = 0 := by
  intro m
  induction m with
  | zero => intro h; exact absurd h (by show ¬ (0 : Int) ≤ -1; omega)
  | succ m ih =>
    rw [pk_succ]
    by_cases h1 : t < C m ∨ L m = 0
    · rw [if_pos h1]; exact ih
    · rw [if_neg h1]
      by_cases h2 : pk C L t 0 m < 0
      · rw [if_pos (Or.inl h2)]
        intro _ i hi
        exact pk_none C L t 0 m h2 i (by omega)
      · rw [if_neg (by omega)]
        exact ih
theorem pk_greatest (C L : Nat → Int) (t : Int) : ∀ m i, i < m → pk C L t 1 m < (i : Int) → t < C i ∨ L i = 0 := by
  intro m
  induction m with
  | zero => intro i hi; omega
  | succ m ih =>
    intro i hi
    rw [pk_succ]
    by_cases h1 : t < C m ∨ L m = 0
    · rw [if_pos h1]
      intro h
      by_cases e : i = m
      · subst e; exact h1
      · exact ih i (by omega) h
    · rw [if_neg h1, if_pos (Or.inr (Or.inl rfl))]
      intro h; omega
theorem pk_fewest (C L : Nat → Int) (t : Int) : ∀ m i, i < m → ¬ (t < C i ∨ L i = 0) → L (pk C L t 2 m).toNat ≤ L i := by
  intro m
  induction m with
  | zero => intro i hi; omega
  | succ m ih =>
    intro i hi ha
    rw [pk_succ]
    by_cases h1 : t < C m ∨ L m = 0
    · rw [if_pos h1]
      by_cases e : i = m
      · subst e; exact absurd h1 ha
      · exact ih i (by omega) ha
    · rw [if_neg h1]
      by_cases h2 : pk C L t 2 m < 0
      · rw [if_pos (Or.inl h2), Int.toNat_natCast]
        by_cases e : i = m
        · subst e; omega
        · exact absurd (pk_none C L t 2 m h2 i (by omega)) ha
      · by_cases h3 : L m < L (pk C L t 2 m).toNat
        · rw [if_pos (Or.inr (Or.inr (Or.inl ⟨rfl, h3⟩))), Int.toNat_natCast]
          by_cases e : i = m
          · subst e; omega
          · have := ih i (by omega) ha; omega
        · rw [if_neg (by omega)]
          by_cases e : i = m
          · subst e; omega
          · exact ih i (by omega) ha
/-- What each has left at a time by a rule. -/
def lf (C N : Nat → Int) (n : Nat) (rule : Int) : Nat → Nat → Int
  | 0 => N
  | t + 1 => fun i => lf C N n rule t i - if pk C (lf C N n rule t) (t : Int) rule n = (i : Int) then 1 else 0
/-- Who is served in the unit t by a rule. -/
def ob (C N : Nat → Int) (n : Nat) (rule : Int) (t : Nat) : Int := pk C (lf C N n rule t) (t : Int) rule n
theorem lf_succ (rule : Int) (t i : Nat) : lf C N n rule (t + 1) i = lf C N n rule t i - if ob C N n rule t = (i : Int) then 1 else 0 := rfl
theorem lf_cnt (rule : Int) (i : Nat) : ∀ t, lf C N n rule t i = N i - cnt (ob C N n rule) i t := by
  intro t
  induction t with
  | zero => rw [cnt_zero]; show N i = N i - 0; omega
  | succ t ih => rw [lf_succ, cnt_succ, ih]; omega
theorem lf_nonneg (h : OK C N n) (rule : Int) : ∀ t i, i < n → 0 ≤ lf C N n rule t i := by
  intro t
  induction t with
  | zero => intro i hi; have := h.need hi; show 0 ≤ N i; omega
  | succ t ih =>
    intro i hi
    rw [lf_succ]
    have h1 := ih i hi
    by_cases e : ob C N n rule t = (i : Int)
    · rw [if_pos e]
      have h2 := (pk_avail C (lf C N n rule t) (t : Int) rule n (by show 0 ≤ ob C N n rule t; omega)).2
      rw [show (pk C (lf C N n rule t) (t : Int) rule n).toNat = i from by show (ob C N n rule t).toNat = i; omega] at h2
      omega
    · rw [if_neg e]; omega
theorem lf_before (rule : Int) (i : Nat) : ∀ t : Nat, (t : Int) ≤ C i → lf C N n rule t i = N i := by
  intro t
  induction t with
  | zero => intro _; rfl
  | succ t ih =>
    intro ht
    rw [lf_succ, ih (by omega)]
    by_cases e : ob C N n rule t = (i : Int)
    · have h2 := (pk_avail C (lf C N n rule t) (t : Int) rule n (by show 0 ≤ ob C N n rule t; omega)).1
      rw [show (pk C (lf C N n rule t) (t : Int) rule n).toNat = i from by show (ob C N n rule t).toNat = i; omega] at h2
      omega
    · rw [if_neg e]; omega
/-- What those who have come have left together. -/
def rest (C N : Nat → Int) (n : Nat) (rule : Int) (t : Nat) : Int := sm (fun i => if C i ≤ (t : Int) then lf C N n rule t i else 0) n
theorem sm_one (w : Nat) : ∀ m, sm (fun i => if (w : Int) = (i : Int) then 1 else 0) m = if w < m then 1 else 0 := by
  intro m
  induction m with
  | zero => rw [sm_zero, if_neg (by omega)]
  | succ m ih =>
    rw [sm_succ, ih]
    by_cases e : w = m
    · subst e; rw [if_neg (by omega), if_pos rfl, if_pos (by omega)]; omega
    · rw [if_neg (show ¬ ((w : Int) = (m : Int)) from by omega)]
      by_cases h : w < m
      · rw [if_pos h, if_pos (by omega)]; omega
      · rw [if_neg h, if_neg (by omega)]; omega
theorem sm_add (f g : Nat → Int) : ∀ m, sm (fun i => f i + g i) m = sm f m + sm g m := by
  intro m
  induction m with
  | zero => rfl
  | succ m ih => rw [sm_succ, sm_succ, sm_succ, ih]; omega
theorem sm_sub (f g : Nat → Int) : ∀ m, sm (fun i => f i - g i) m = sm f m - sm g m := by
  intro m
  induction m with
  | zero => rfl
  | succ m ih => rw [sm_succ, sm_succ, sm_succ, ih]; omega
theorem sm_zeros {f : Nat → Int} : ∀ m, (∀ i, i < m → f i = 0) → sm f m = 0 := by
  intro m
  induction m with
  | zero => intro _; rfl
  | succ m ih => intro h; rw [sm_succ, ih (fun i hi => h i (by omega)), h m (by omega)]; omega
theorem sm_ge {f : Nat → Int} : ∀ m, (∀ i, i < m → 0 ≤ f i) → 0 ≤ sm f m ∧ ∀ i, i < m → f i ≤ sm f m := by
  intro m
  induction m with
  | zero => intro _; exact ⟨Int.le_refl _, fun i hi => by omega⟩
  | succ m ih =>
    intro h
    obtain ⟨h1, h2⟩ := ih (fun i hi => h i (by omega))
    have h3 := h m (by omega)
    rw [sm_succ]
    refine ⟨by omega, fun i hi => ?_⟩
    by_cases e : i = m
    · subst e; omega
    · have := h2 i (by omega); omega
theorem rest_pos (h : OK C N n) (rule : Int) (t : Nat) : 0 ≤ rest C N n rule t ∧ (0 < rest C N n rule t ↔ 0 ≤ ob C N n rule t) := by
  have hg := sm_ge (f := fun i => if C i ≤ (t : Int) then lf C N n rule t i else 0) n (fun i hi => by have := lf_nonneg h rule t i hi; split <;> omega)
  refine ⟨hg.1, fun hp => ?_, fun hp => ?_⟩
  · by_cases hh : 0 ≤ ob C N n rule t
    · exact hh
    · have h1 := pk_none C (lf C N n rule t) (t : Int) rule n (by show ob C N n rule t < 0; omega)
      have : rest C N n rule t = 0 := sm_zeros n (fun i hi => by
        rcases h1 i hi with h2 | h2
        · exact if_neg (by omega)
        · simp only [h2]; split <;> rfl)
      omega
  · obtain ⟨a1, a2⟩ := pk_avail C (lf C N n rule t) (t : Int) rule n hp
    obtain ⟨b1, b2⟩ := pk_rng C (lf C N n rule t) (t : Int) rule n
    have hp' : 0 ≤ pk C (lf C N n rule t) (t : Int) rule n := hp
    have h3 := hg.2 (pk C (lf C N n rule t) (t : Int) rule n).toNat (by omega)
    have h4 := lf_nonneg h rule t (pk C (lf C N n rule t) (t : Int) rule n).toNat (by omega)
    simp only [if_pos a1] at h3
    show 0 < sm _ n
    omega
/-- What is left of those who have come is the work. -/
theorem rest_wk (h : OK C N n) (rule : Int) : ∀ t, rest C N n rule t = wk C N n t := by
  intro t
  induction t with
  | zero =>
    rw [wk_zero]
    exact sm_congr (fun i hi => by
      have := h.come hi
      by_cases hc : C i ≤ ((0 : Nat) : Int)
      · rw [if_pos hc, if_pos (by omega)]; rfl
      · rw [if_neg hc, if_neg (by omega)])
  | succ t ih =>
    have hp := rest_pos h rule t
    have e1 : rest C N n rule (t + 1) = sm (fun i => ((if C i ≤ (t : Int) then lf C N n rule t i else 0) - if ob C N n rule t = (i : Int) then 1 else 0) + if C i = ((t + 1 : Nat) : Int) then N i else 0) n := sm_congr (fun i hi => by
      by_cases hc : C i ≤ (t : Int)
      · rw [if_pos (by omega), if_pos hc, if_neg (show ¬ C i = ((t + 1 : Nat) : Int) from by omega), lf_succ]; omega
      · have hne : ¬ ob C N n rule t = (i : Int) := fun e => by
          have h2 := (pk_avail C (lf C N n rule t) (t : Int) rule n (by show 0 ≤ ob C N n rule t; omega)).1
          rw [show (pk C (lf C N n rule t) (t : Int) rule n).toNat = i from by show (ob C N n rule t).toNat = i; omega] at h2
          omega
        rw [if_neg hc, if_neg hne]
        by_cases hc2 : C i = ((t + 1 : Nat) : Int)
        · rw [if_pos (by omega), if_pos hc2, lf_before rule i (t + 1) (by omega)]; omega
        · rw [if_neg (by omega), if_neg hc2]; omega)
    rw [e1, sm_add, sm_sub, wk_succ, ← ih]
    have e2 : sm (fun i => if ob C N n rule t = (i : Int) then 1 else 0) n = if 0 ≤ ob C N n rule t then 1 else 0 := by
      by_cases ho : 0 ≤ ob C N n rule t
      · have hr := (pk_rng C (lf C N n rule t) (t : Int) rule n).2
        have hr' : ob C N n rule t < (n : Int) := hr
        obtain ⟨w, hw⟩ : ∃ w : Nat, ob C N n rule t = (w : Int) := ⟨(ob C N n rule t).toNat, by omega⟩
        rw [if_pos ho, hw, sm_one, if_pos (by omega)]
      · rw [if_neg ho]
        exact sm_zeros n (fun i hi => if_neg (by omega))
    rw [e2]
    show rest C N n rule t - _ + arr C N n (t + 1) = _
    by_cases ho : 0 ≤ ob C N n rule t
    · have := hp.2.2 ho
      rw [if_pos ho]
      unfold mx
      split <;> omega
    · have : rest C N n rule t = 0 := by
        have := hp.1
        by_cases h0 : 0 < rest C N n rule t
        · exact absurd (hp.2.1 h0) ho
        · omega
      rw [if_neg ho, this]
      unfold mx
      split <;> omega
/-- Somebody is served exactly if there is work. -/
theorem ob_busy (h : OK C N n) (rule : Int) (t : Nat) : 0 ≤ ob C N n rule t ↔ 0 < wk C N n t := by
  rw [← rest_wk h rule t]
  exact (rest_pos h rule t).2.symm
theorem lf_end (h : OK C N n) (rule : Int) {i : Nat} (hi : i < n) {t : Nat} (ht : LL C N n ≤ (t : Int)) : lf C N n rule t i = 0 := by
  have h1 := rest_wk h rule t
  rw [wk_end h ht] at h1
  have hg := sm_ge (f := fun i => if C i ≤ (t : Int) then lf C N n rule t i else 0) n (fun i hi => by have := lf_nonneg h rule t i hi; split <;> omega)
  have h2 := hg.2 i hi
  have h3 := LL_come h hi
  have h4 := LL_mono h (show i + 1 ≤ n from hi) (Nat.le_refl _)
  have h5 := h.need hi
  simp only [if_pos (show C i ≤ (t : Int) from by omega)] at h2
  have h6 := lf_nonneg h rule t i hi
  have h7 : sm (fun i => if C i ≤ (t : Int) then lf C N n rule t i else 0) n = 0 := h1
  omega
/-- What a rule tells is an order. -/
theorem ob_ord (h : OK C N n) (rule : Int) {T : Nat} (hT : (T : Int) = LL C N n) : Ord C N n (ob C N n rule) T := by
  have ht := LL_top h
  refine ⟨h, by omega, fun t _ => ?_, fun i hi => ?_⟩
  · have h1 := pk_rng C (lf C N n rule t) (t : Int) rule n
    exact ⟨h1.1, h1.2, fun h0 => (pk_avail C (lf C N n rule t) (t : Int) rule n h0).1⟩
  · have h1 := lf_end h rule hi (t := T) (by omega)
    rw [lf_cnt] at h1
    omega
end
end Go.Proofs.Ytillelkfmebfiaa.Math
