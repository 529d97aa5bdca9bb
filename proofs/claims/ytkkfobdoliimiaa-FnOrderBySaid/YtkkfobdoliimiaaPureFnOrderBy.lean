/- The pure statement of the law FnOrderBy: about numbers and lists alone, over the functions that print.sh has written. No conditions beyond those typed. -/
import Derived.Test.YtkkfobdoliimiaaPFnOrderByx9
import Derived.Test.YtkkfobdoliimiaaMath0
import Derived.Test.YtkkfobdoliimiaaMathA
import Derived.Test.YtkkfobdoliimiaaMathW
import Derived.Test.YtkkfobdoliimiaaMathB
import Derived.Test.YtkkfobdoliimiaaMathD
import Derived.Test.YtkkfobdoliimiaaMathR
namespace Go.Proofs.Ytkkfobdoliimiaa.Pure
open Go.RowKit Go.Proofs.Ytkkfobdoliimiaa.PFnOrderBy Go.Proofs.YtkkfobdoliimiaaW.PrintWords Go.Proofs.YtkkfobdoliimiaaW.PrintLast Go.Proofs.YtkkfobdoliimiaaW.PrintMore Go.Proofs.Ytkkfobdoliimiaa.Math
set_option linter.unusedVariables false
set_option linter.unusedSimpArgs false
namespace FnOrderByX
/-- When the customer at place i comes, what this one needs. -/
def cm (l : List S43) (i : Nat) : Int := (rd_T43 l (i : Int)).f0
def nd (l : List S43) (i : Nat) : Int := (rd_T43 l (i : Int)).f1
theorem cm_eq (l : List S43) (i : Nat) : (rd_T43 l (i : Int)).f0 = cm l i := rfl
theorem nd_eq (l : List S43) (i : Nat) : (rd_T43 l (i : Int)).f1 = nd l i := rfl
theorem cm_eq0 (l : List S43) : (rd_T43 l 0).f0 = cm l 0 := rfl
theorem nd_eq0 (l : List S43) : (rd_T43 l 0).f1 = nd l 0 := rfl
theorem rd_get (l : List S43) (i : Nat) (h : i < l.length) : rd_T43 l (i : Int) = l[i] := by simp [rd_T43, h]
theorem rd_take (l : List S43) (m i : Nat) (h : i < m) : rd_T43 (l.take m) (i : Int) = rd_T43 l (i : Int) := by simp [rd_T43, List.getElem?_take, h]
theorem rd_drop (l : List S43) (m i : Nat) : rd_T43 (l.drop m) (i : Int) = rd_T43 l ((i + m : Nat) : Int) := by
  unfold rd_T43
  rw [List.getD_eq_getElem?_getD, List.getD_eq_getElem?_getD, List.getElem?_drop, Int.toNat_natCast, Int.toNat_natCast, Nat.add_comm]
theorem cm_take (l : List S43) (m i : Nat) (h : i < m) : cm (l.take m) i = cm l i := by unfold cm; rw [rd_take l m i h]
theorem nd_take (l : List S43) (m i : Nat) (h : i < m) : nd (l.take m) i = nd l i := by unfold nd; rw [rd_take l m i h]
theorem cm_drop (l : List S43) (m i : Nat) : cm (l.drop m) i = cm l (i + m) := by unfold cm; rw [rd_drop l m i]
theorem nd_drop (l : List S43) (m i : Nat) : nd (l.drop m) i = nd l (i + m) := by unfold nd; rw [rd_drop l m i]
/-- These are customers. -/
def ok (l : List S43) : Prop := OK (cm l) (nd l) l.length
theorem ok_take {l : List S43} (h : ok l) (m : Nat) (hm : m ≤ l.length) : ok (l.take m) := by
  have e : (l.take m).length = m := by rw [List.length_take]; omega
  unfold ok
  rw [e]
  exact OK.congr (fun i hi => (cm_take l m i hi).symm) (fun i hi => (nd_take l m i hi).symm) (OK.pre h hm)
theorem sm_take (l : List S43) (m j : Nat) (hj : j ≤ m) : sm (nd (l.take m)) j = sm (nd l) j := sm_congr (fun i hi => nd_take l m i (by omega))
theorem sm_drop (l : List S43) (m j : Nat) : sm (nd (l.drop m)) j = sm (nd l) (j + m) - sm (nd l) m := by
  rw [← sm_shift]
  exact sm_congr (fun i _ => nd_drop l m i)
theorem st {i : Nat} {n : Nat} (h : i < n) (hn : n ≤ 9000000000000000000) : wrap64 ((i : Int) + 1) = ((i + 1 : Nat) : Int) := by rw [wr (by omega) (by omega)]; simp
theorem pd {i : Nat} (h0 : 0 < i) (hn : i ≤ 9000000000000000000) : wrap64 ((i : Int) - 1) = ((i - 1 : Nat) : Int) := by rw [wr (by omega) (by omega)]; omega
theorem ext_list {a b : List S43} (hl : a.length = b.length) (h : ∀ i : Nat, i < a.length → cm a i = cm b i ∧ nd a i = nd b i) : a = b := by
  apply List.ext_getElem hl
  intro i h1 h2
  obtain ⟨e1, e2⟩ := h i h1
  unfold cm at e1
  unfold nd at e2
  rw [rd_get a i h1, rd_get b i h2] at e1 e2
  cases ha : a[i] with | mk x y =>
  cases hb : b[i] with | mk x' y' =>
  rw [ha, hb] at e1 e2
  simp only at e1 e2
  rw [e1, e2]
/-- The bytes that are drawn from. -/
structure Src (b : List Int) : Prop where
  byte : ∀ x ∈ b, 0 ≤ x ∧ x ≤ 255
  len : b.length ≤ 2000
theorem split_w (x : Int) : x < 0 ∨ ∃ w : Nat, x = (w : Int) := by
  by_cases h : x < 0
  · exact Or.inl h
  · exact Or.inr ⟨x.toNat, by omega⟩

theorem impl_CustomersOk_l (l : List S43) (hl : l.length ≤ 9000000000000000000) : ∀ (d k i : Nat), i + d = l.length → d < k →
    ∃ b, impl_CustomersOk.l0 k l l (l.length : Int) (i : Int) = some b ∧ (b = true ↔ l.length ≤ 8 ∧ ∀ j, i ≤ j → j < l.length → okAt (cm l) (nd l) j) := by
  intro d
  induction d with
  | zero =>
    intro k i hi hk
    obtain ⟨k, rfl⟩ : ∃ m, k = m + 1 := ⟨k - 1, by omega⟩
    simp only [impl_CustomersOk.l0]
    rw [if_neg (by omega)]
    exact ⟨_, rfl, by rw [decide_eq_true_iff]; exact ⟨fun h => ⟨by omega, fun j h1 h2 => absurd h1 (by omega)⟩, fun h => by have := h.1; omega⟩⟩
  | succ d ih =>
    intro k i hi hk
    obtain ⟨k, rfl⟩ : ∃ m, k = m + 1 := ⟨k - 1, by omega⟩
    obtain ⟨b, hb, hbt⟩ := ih k (i + 1) (by omega) (by omega)
    have no : (¬ okAt (cm l) (nd l) i) → (∃ b, some false = some b ∧ (b = true ↔ l.length ≤ 8 ∧ ∀ j, i ≤ j → j < l.length → okAt (cm l) (nd l) j)) := fun h => ⟨false, rfl, ⟨fun h0 => (by cases h0), fun h0 => absurd (h0.2 i (by omega) (by omega)) h⟩⟩
    have yes : okAt (cm l) (nd l) i → (∃ b, impl_CustomersOk.l0 k l l (l.length : Int) ((i + 1 : Nat) : Int) = some b ∧ (b = true ↔ l.length ≤ 8 ∧ ∀ j, i ≤ j → j < l.length → okAt (cm l) (nd l) j)) := fun h => by
      refine ⟨b, hb, hbt.trans ⟨fun h0 => ⟨h0.1, fun j h1 h2 => ?_⟩, fun h0 => ⟨h0.1, fun j h1 h2 => h0.2 j (by omega) h2⟩⟩⟩
      by_cases e : j = i
      · subst e; exact h
      · exact h0.2 j (by omega) h2
    simp only [impl_CustomersOk.l0]
    rw [if_pos (by omega), if_pos (by omega), if_pos (by omega), st (n := l.length) (by omega) hl]
    rw [cm_eq l i, nd_eq l i]
    by_cases h1 : cm l i < 0
    · rw [if_pos h1]; exact no (fun h => by have := h.1; omega)
    rw [if_neg h1]
    by_cases h2 : cm l i > 60
    · rw [if_pos h2]; exact no (fun h => by have := h.2.1; omega)
    rw [if_neg h2]
    by_cases h0 : i = 0
    · subst h0
      rw [if_neg (by simp)]
      by_cases h3 : nd l 0 < 1
      · rw [if_pos h3]; exact no (fun h => by have := h.2.2.1; omega)
      rw [if_neg h3]
      by_cases h4 : nd l 0 > 9
      · rw [if_pos h4]; exact no (fun h => by have := h.2.2.2.1; omega)
      rw [if_neg h4]
      exact yes ⟨by omega, by omega, by omega, by omega, fun h => by omega⟩
    · rw [if_pos (by omega), pd (by omega) (by omega), if_pos (by omega), if_pos (by omega)]
      rw [cm_eq l (i - 1)]
      by_cases h5 : cm l i < cm l (i - 1)
      · rw [if_pos h5]; exact no (fun h => by have := h.2.2.2.2 (by omega); omega)
      rw [if_neg h5]
      by_cases h3 : nd l i < 1
      · rw [if_pos h3]; exact no (fun h => by have := h.2.2.1; omega)
      rw [if_neg h3]
      by_cases h4 : nd l i > 9
      · rw [if_pos h4]; exact no (fun h => by have := h.2.2.2.1; omega)
      rw [if_neg h4]
      exact yes ⟨by omega, by omega, by omega, by omega, fun h => by omega⟩
theorem impl_CustomersOk_e (l : List S43) (hl : l.length ≤ 9000000000000000000) {k : Nat} (hk : l.length < k) : ∃ b, impl_CustomersOk.f k l = some b ∧ (b = true ↔ ok l) := by
  obtain ⟨b, h1, h2⟩ := impl_CustomersOk_l l hl l.length k 0 (by omega) hk
  exact ⟨b, h1, h2.trans ⟨fun h => ⟨h.1, fun i hi => h.2 i (Nat.zero_le _) hi⟩, fun h => ⟨h.1, fun i _ hi => h.2 i hi⟩⟩⟩
theorem impl_CustomersOk_t {l : List S43} (h : ok l) {k : Nat} (hk : l.length < k) : impl_CustomersOk.f k l = some true := by
  obtain ⟨b, h1, h2⟩ := impl_CustomersOk_e l (by have := h.1; omega) hk
  rw [h1, h2.2 h]
theorem impl_CustomersOk_n {l : List S43} (hl : l.length ≤ 9000000000000000000) (h : ¬ ok l) {k : Nat} (hk : l.length < k) : impl_CustomersOk.f k l = some false := by
  obtain ⟨b, h1, h2⟩ := impl_CustomersOk_e l hl hk
  rw [h1]
  cases b with
  | true => exact absurd (h2.1 rfl) h
  | false => rfl

theorem impl_leftOf_l {l : List S43} (hl : l.length ≤ 1048576) : ∀ (d k i : Nat), i + d = l.length → d < k → impl_leftOf.l0 k (tab (nd l) i) l (l.length : Int) (i : Int) = some (tab (nd l) l.length) := by
  intro d
  induction d with
  | zero =>
    intro k i hi hk
    obtain ⟨k, rfl⟩ : ∃ m, k = m + 1 := ⟨k - 1, by omega⟩
    simp only [impl_leftOf.l0]
    rw [if_neg (by omega), show i = l.length from by omega]
  | succ d ih =>
    intro k i hi hk
    obtain ⟨k, rfl⟩ : ∃ m, k = m + 1 := ⟨k - 1, by omega⟩
    simp only [impl_leftOf.l0]
    rw [if_pos (by omega), if_pos (by omega), if_pos (by omega), tab_length, if_pos (by omega), nd_eq, st (n := l.length) (by omega) (by omega), ← tab_snoc]
    exact ih k (i + 1) (by omega) (by omega)
theorem impl_leftOf_e {l : List S43} (hl : l.length ≤ 1048576) {k : Nat} (hk : l.length < k) : impl_leftOf.f k l = some (tab (nd l) l.length) :=
  impl_leftOf_l hl l.length k 0 (by omega) hk

theorem impl_needOf_l {l : List S43} (hn : l.length ≤ 8) (hb : ∀ i, i < l.length → 1 ≤ nd l i ∧ nd l i ≤ 9) : ∀ (d k i : Nat), i + d = l.length → d < k → impl_needOf.l0 k (sm (nd l) i) l (l.length : Int) (i : Int) = some (sm (nd l) l.length) := by
  intro d
  induction d with
  | zero =>
    intro k i hi hk
    obtain ⟨k, rfl⟩ : ∃ m, k = m + 1 := ⟨k - 1, by omega⟩
    simp only [impl_needOf.l0]
    rw [if_neg (by omega), show i = l.length from by omega]
  | succ d ih =>
    intro k i hi hk
    obtain ⟨k, rfl⟩ : ∃ m, k = m + 1 := ⟨k - 1, by omega⟩
    have h1 := sm_range (f := nd l) (n := l.length) hb i 0 (by omega)
    have h2 := hb i (by omega)
    rw [Nat.zero_add, sm_zero] at h1
    simp only [impl_needOf.l0]
    rw [if_pos (by omega), if_pos (by omega), if_pos (by omega), st (n := l.length) (by omega) (by omega), nd_eq, wr (by omega) (by omega), ← sm_succ]
    exact ih k (i + 1) (by omega) (by omega)
theorem impl_needOf_b {l : List S43} (hn : l.length ≤ 8) (hb : ∀ i, i < l.length → 1 ≤ nd l i ∧ nd l i ≤ 9) {k : Nat} (hk : l.length < k) : impl_needOf.f k l = some (sm (nd l) l.length) :=
  impl_needOf_l hn hb l.length k 0 (by omega) hk
theorem impl_needOf_e {l : List S43} (h : ok l) {k : Nat} (hk : l.length < k) : impl_needOf.f k l = some (sm (nd l) l.length) :=
  impl_needOf_b h.len (fun i hi => h.need hi) hk
theorem impl_needOf_take {l : List S43} (h : ok l) {m : Nat} (hm : m ≤ l.length) {k : Nat} (hk : l.length < k) : impl_needOf.f k (l.take m) = some (sm (nd l) m) := by
  have e : (l.take m).length = m := by rw [List.length_take]; omega
  rw [impl_needOf_e (ok_take h m hm) (by omega), e, sm_take l m m (Nat.le_refl _)]
theorem impl_needOf_drop {l : List S43} (h : ok l) {m : Nat} (hm : m ≤ l.length) {k : Nat} (hk : l.length < k) : impl_needOf.f k (l.drop m) = some (sm (nd l) l.length - sm (nd l) m) := by
  have e : (l.drop m).length = l.length - m := List.length_drop ..
  rw [impl_needOf_b (by have := h.len; omega) (fun i hi => by rw [nd_drop]; exact h.need (by omega)) (by omega), sm_drop, e, show l.length - m + m = l.length from by omega]
theorem impl_needOf_part {l : List S43} (h : ok l) {i m : Nat} (hi : i ≤ m) (hm : m ≤ l.length) {k : Nat} (hk : l.length < k) : impl_needOf.f k ((l.take m).drop i) = some (sm (nd l) m - sm (nd l) i) := by
  have e : (l.take m).length = m := by rw [List.length_take]; omega
  rw [impl_needOf_drop (ok_take h m hm) (by omega) (by omega), e, sm_take l m m (Nat.le_refl _), sm_take l m i hi]

-- MATH A
theorem impl_lastLeave_l {l : List S43} (h : ok l) : ∀ (d k i : Nat), i + d = l.length → d + 10 < k →
    impl_lastLeave.l0 k l (mxs (fun j => cm l j + (sm (nd l) l.length - sm (nd l) j)) i) l (l.length : Int) (i : Int) = some (mxs (fun j => cm l j + (sm (nd l) l.length - sm (nd l) j)) l.length) := by
  intro d
  induction d with
  | zero =>
    intro k i hi hk
    obtain ⟨k, rfl⟩ : ∃ m, k = m + 1 := ⟨k - 1, by omega⟩
    simp only [impl_lastLeave.l0]
    rw [if_neg (by omega), show i = l.length from by omega]
  | succ d ih =>
    intro k i hi hk
    obtain ⟨k, rfl⟩ : ∃ m, k = m + 1 := ⟨k - 1, by omega⟩
    have hl := h.len
    have h1 := h.sum (i := i) (j := l.length) (by omega) (by omega)
    have h5 := h.come (i := i) (by omega)
    simp only [impl_lastLeave.l0]
    rw [if_pos (by omega), if_pos (by omega), if_pos (by omega), if_pos (by omega), Int.toNat_natCast, impl_needOf_drop h (by omega) (by omega)]
    simp only [bs]
    rw [cm_eq, st (n := l.length) (by omega) (by omega), wr (by omega) (by omega), ← mxs_succ (fun j => cm l j + (sm (nd l) l.length - sm (nd l) j)) i]
    exact ih k (i + 1) (by omega) (by omega)
theorem impl_lastLeave_e {l : List S43} (h : ok l) {k : Nat} (hk : l.length + 20 < k) : impl_lastLeave.f k l = some (LL (cm l) (nd l) l.length) := by
  unfold impl_lastLeave.f
  have := impl_lastLeave_l h l.length k 0 (by omega) (by omega)
  rw [mxs_zero, LL_sums h l.length (Nat.le_refl _)] at this
  exact this

-- MATH W
theorem impl_OrderBy_p {l : List S43} (hl : l.length ≤ 8) (L : Nat → Int) (rule : Int) (out : List Int) (T t : Int) : ∀ (d k i : Nat), i + d = l.length → 2 * d < k →
    impl_OrderBy.l1 k l rule (tab L l.length) out t (pk (cm l) L t rule i) T t l (l.length : Int) (i : Int) = impl_OrderBy.l1 (k - 2 * d) l rule (tab L l.length) out t (pk (cm l) L t rule l.length) T t l (l.length : Int) (l.length : Int) := by
  intro d
  induction d with
  | zero =>
    intro k i hi hk
    rw [show i = l.length from by omega]
    rfl
  | succ d ih =>
    intro k i hi hk
    obtain ⟨k, rfl⟩ : ∃ m, k = m + 1 + 1 := ⟨k - 2, by omega⟩
    have e := ih k (i + 1) (by omega) (by omega)
    have hp := pk_succ (cm l) L t rule i
    obtain ⟨r1, r2⟩ := pk_rng (cm l) L t rule i
    rw [show k + 1 + 1 - 2 * (d + 1) = k - 2 * d from by omega, ← e]
    simp only [impl_OrderBy.l1, impl_OrderBy.j3]
    rw [if_pos (by omega), if_pos (by omega), if_pos (by omega), cm_eq, st (n := l.length) (by omega) (by omega), tab_length, tab_rd L (show i < l.length from by omega)]
    by_cases c1 : cm l i > t
    · rw [if_pos (Or.inl (by omega))] at hp
      rw [if_pos c1, if_pos (by first | rfl | trivial), hp]
    rw [if_neg c1, if_pos (show (i : Int) < (l.length : Int) from by omega)]
    by_cases c2 : L i = 0
    · rw [if_pos (Or.inr c2)] at hp
      rw [show (L i == 0) = true from by rw [beq_iff_eq]; exact c2, if_pos (by first | rfl | trivial), hp]
    rw [if_neg (by omega)] at hp
    rw [show (L i == 0) = false from by rw [beq_eq_false_iff_ne]; exact c2, if_neg (by simp)]
    by_cases c3 : pk (cm l) L t rule i < 0
    · rw [if_pos (Or.inl c3)] at hp
      rw [if_pos c3, hp]
    obtain ⟨w, hw⟩ : ∃ w : Nat, pk (cm l) L t rule i = (w : Int) := ⟨(pk (cm l) L t rule i).toNat, by omega⟩
    rw [if_neg c3]
    by_cases c4 : rule = 1
    · rw [if_pos (Or.inr (Or.inl c4))] at hp
      rw [if_pos c4, hp]
    rw [if_neg c4]
    rw [hw, Int.toNat_natCast] at hp
    rw [hw, tab_rd L (show w < l.length from by omega)]
    by_cases c5 : rule = 2
    · rw [if_pos c5, if_pos (show (0 : Int) ≤ (i : Int) from by omega), if_pos (show (i : Int) < (l.length : Int) from by omega), if_pos (show (0 : Int) ≤ (w : Int) from by omega), if_pos (show (w : Int) < (l.length : Int) from by omega)]
      by_cases c6 : L i < L w
      · rw [if_pos (Or.inr (Or.inr (Or.inl ⟨c5, c6⟩)))] at hp
        rw [if_pos c6, hp]
      · rw [if_neg (by omega)] at hp
        rw [if_neg c6, if_neg (by omega), hp]
    rw [if_neg c5]
    by_cases c7 : rule = 3
    · rw [if_pos c7, if_pos (show (0 : Int) ≤ (i : Int) from by omega), if_pos (show (i : Int) < (l.length : Int) from by omega), if_pos (show (0 : Int) ≤ (w : Int) from by omega), if_pos (show (w : Int) < (l.length : Int) from by omega)]
      by_cases c8 : L i > L w
      · rw [if_pos (Or.inr (Or.inr (Or.inr ⟨c7, by omega⟩)))] at hp
        rw [if_pos c8, hp]
      · rw [if_neg (by omega)] at hp
        rw [if_neg c8, hp]
    · rw [if_neg (by omega)] at hp
      rw [if_neg c7, hp]
theorem lf_step {l : List S43} (rule : Int) (t : Nat) {w : Nat} (hw : ob (cm l) (nd l) l.length rule t = (w : Int)) :
    tab (fun j => if j = w then lf (cm l) (nd l) l.length rule t w - 1 else lf (cm l) (nd l) l.length rule t j) l.length = tab (lf (cm l) (nd l) l.length rule (t + 1)) l.length :=
  tab_congr (fun j _ => by
    rw [lf_succ, hw]
    by_cases e : j = w
    · subst e; rw [if_pos rfl, if_pos rfl]
    · rw [if_neg e, if_neg (by omega)]; omega)
theorem lf_stay {l : List S43} (rule : Int) (t : Nat) (hw : ob (cm l) (nd l) l.length rule t < 0) :
    tab (lf (cm l) (nd l) l.length rule t) l.length = tab (lf (cm l) (nd l) l.length rule (t + 1)) l.length :=
  tab_congr (fun j _ => by rw [lf_succ, if_neg (by omega)]; omega)
theorem lf_small {l : List S43} (h : ok l) (rule : Int) (t : Nat) {w : Nat} (hw : w < l.length) : 0 ≤ lf (cm l) (nd l) l.length rule t w ∧ lf (cm l) (nd l) l.length rule t w ≤ 9 := by
  have h1 := lf_nonneg h rule t w hw
  have h2 := lf_cnt (C := cm l) (N := nd l) (n := l.length) rule w t
  have h3 := cnt_rng (O := ob (cm l) (nd l) l.length rule) w t
  have h4 := h.need hw
  omega
theorem impl_OrderBy_l {l : List S43} (h : ok l) (rule : Int) {T : Nat} (hT : T ≤ 200) : ∀ (d k t : Nat), t + d = T → d * 20 < k →
    impl_OrderBy.l0 k l rule (tab (lf (cm l) (nd l) l.length rule t) l.length) (tab (ob (cm l) (nd l) l.length rule) t) (T : Int) (t : Int) = some (tab (ob (cm l) (nd l) l.length rule) T) := by
  intro d
  have hl := h.len
  induction d with
  | zero =>
    intro k t ht hk
    obtain ⟨k, rfl⟩ : ∃ m, k = m + 1 := ⟨k - 1, by omega⟩
    simp only [impl_OrderBy.l0]
    rw [if_neg (by omega), show t = T from by omega]
  | succ d ih =>
    intro k t ht hk
    obtain ⟨k, rfl⟩ : ∃ m, k = m + 1 := ⟨k - 1, by omega⟩
    simp only [impl_OrderBy.l0]
    rw [if_pos (by omega)]
    have e := impl_OrderBy_p (l := l) (by omega) (lf (cm l) (nd l) l.length rule t) rule (tab (ob (cm l) (nd l) l.length rule) t) (T : Int) (t : Int) l.length k 0 (by omega) (by omega)
    refine Eq.trans e ?_
    obtain ⟨m, hm⟩ : ∃ m, k - 2 * l.length = m + 1 := ⟨k - 2 * l.length - 1, by omega⟩
    rw [hm, show pk (cm l) (lf (cm l) (nd l) l.length rule t) (t : Int) rule l.length = ob (cm l) (nd l) l.length rule t from rfl]
    simp only [impl_OrderBy.l1]
    have hr := pk_rng (cm l) (lf (cm l) (nd l) l.length rule t) (t : Int) rule l.length
    rw [show pk (cm l) (lf (cm l) (nd l) l.length rule t) (t : Int) rule l.length = ob (cm l) (nd l) l.length rule t from rfl] at hr
    rw [if_neg (by omega), tab_length, tab_length, st (n := T) (by omega) (by omega)]
    rcases split_w (ob (cm l) (nd l) l.length rule t) with h3 | ⟨w, hw⟩
    · rw [if_neg (by omega), if_pos (by omega), lf_stay rule t h3, ← tab_snoc]
      exact ih m (t + 1) (by omega) (by omega)
    · have hs := lf_small h rule t (w := w) (by omega)
      have et : tab (ob (cm l) (nd l) l.length rule) t ++ [(w : Int)] = tab (ob (cm l) (nd l) l.length rule) (t + 1) := by rw [tab_snoc, hw]
      rw [hw, if_pos (by omega), if_pos (by omega), if_pos (by omega), if_pos (by omega), tab_rd _ (by omega), Int.toNat_natCast, wr (by omega) (by omega), tab_set, lf_step rule t hw, et]
      exact ih m (t + 1) (by omega) (by omega)
theorem impl_OrderBy_t {l : List S43} (h : ok l) {rule : Int} (hr : 0 ≤ rule ∧ rule ≤ 3) {T : Nat} (hT : (T : Int) = LL (cm l) (nd l) l.length) {k : Nat} (hk : 3000 < k) : impl_OrderBy.f k l rule = some (tab (ob (cm l) (nd l) l.length rule) T) := by
  have hl := h.len
  have ht := LL_top h
  unfold impl_OrderBy.f
  obtain ⟨k, rfl⟩ : ∃ m, k = m + 1 := ⟨k - 1, by omega⟩
  rw [impl_CustomersOk_t h (by omega), bs, if_pos rfl, if_neg (by omega), decide_eq_false (by omega)]
  simp only [impl_OrderBy.j0, Bool.false_eq_true, if_false]
  rw [impl_leftOf_e (by omega) (by omega), bs, impl_lastLeave_e h (by omega), bs, ← hT]
  exact impl_OrderBy_l h rule (T := T) (by omega) T k 0 (by omega) (by omega)
theorem impl_OrderBy_n {l : List S43} (hl : l.length ≤ 9000000000000000000) {rule : Int} (h : ¬ (ok l ∧ 0 ≤ rule ∧ rule ≤ 3)) {k : Nat} (hk : l.length + 1 < k) : impl_OrderBy.f k l rule = some [] := by
  unfold impl_OrderBy.f
  obtain ⟨k, rfl⟩ : ∃ m, k = m + 1 := ⟨k - 1, by omega⟩
  by_cases ho : ok l
  · rw [impl_CustomersOk_t ho (by omega), bs, if_pos rfl]
    simp only [impl_OrderBy.j0]
    by_cases h0 : rule < 0
    · rw [if_pos h0]; simp
    · rw [if_neg h0, decide_eq_true (by refine Int.not_lt.1 (fun hh => h ⟨ho, by omega, by omega⟩)), if_pos rfl]
  · rw [impl_CustomersOk_n hl ho (by omega), bs, if_neg (by simp)]
    simp [impl_OrderBy.j0]

theorem laws_alive_e {k : Nat} (hk : 2 < k) : laws_alive.f k = some true := by
  unfold laws_alive.f
  have h1 : ok [(⟨0, 1⟩ : S43)] := by
    refine ⟨by simp, fun i hi => ?_⟩
    obtain rfl : i = 0 := by simp at hi; omega
    refine ⟨by simp [cm, rd_T43], by simp [cm, rd_T43], by simp [nd, rd_T43], by simp [nd, rd_T43], fun h => by omega⟩
  have h2 : ¬ ok [(⟨0, 0⟩ : S43)] := by
    intro h
    have := (h.2 0 (by simp)).2.2.1
    simp [nd, rd_T43] at this
  rw [impl_CustomersOk_t h1 (by simp; omega), impl_CustomersOk_n (by simp) h2 (by simp; omega)]
  simp

-- MATH B
/-- Who is served in the unit t. -/
def od (o : List Int) (t : Nat) : Int := rd o (t : Int)
theorem od_eq (o : List Int) (t : Nat) : rd o (t : Int) = od o t := rfl
/-- This is an order of these customers. -/
def ordok (l : List S43) (o : List Int) : Prop := Ord (cm l) (nd l) l.length (od o) o.length
/-- In the unit t somebody is served who has come, or nobody. -/
def okU (l : List S43) (o : List Int) (t : Nat) : Prop := -1 ≤ od o t ∧ od o t < (l.length : Int) ∧ (0 ≤ od o t → cm l (od o t).toNat ≤ (t : Int))
theorem ordok_iff (l : List S43) (o : List Int) : ordok l o ↔ ok l ∧ o.length ≤ 200 ∧ (∀ t, t < o.length → okU l o t) ∧ ∀ i, i < l.length → cnt (od o) i o.length = nd l i :=
  ⟨fun h => ⟨h.cust, h.units, h.who, h.need⟩, fun h => ⟨h.1, h.2.1, h.2.2.1, h.2.2.2⟩⟩
theorem left_step (l : List S43) (o : List Int) (t : Nat) {w : Nat} (hw : od o t = (w : Int)) (n : Nat) :
    tab (fun j => if j = w then nd l w - cnt (od o) w t - 1 else nd l j - cnt (od o) j t) n = tab (fun j => nd l j - cnt (od o) j (t + 1)) n :=
  tab_congr (fun j _ => by
    rw [cnt_succ, hw]
    by_cases e : j = w
    · subst e; rw [if_pos rfl, if_pos rfl]; omega
    · rw [if_neg e, if_neg (by omega)]; omega)
theorem left_stay (l : List S43) (o : List Int) (t : Nat) (hw : od o t < 0) (n : Nat) :
    tab (fun j => nd l j - cnt (od o) j t) n = tab (fun j => nd l j - cnt (od o) j (t + 1)) n :=
  tab_congr (fun j _ => by rw [cnt_succ, if_neg (by omega)]; omega)
theorem split_who (x : Int) : x < 0 ∨ ∃ w : Nat, x = (w : Int) := by
  by_cases h : x < 0
  · exact Or.inl h
  · exact Or.inr ⟨x.toNat, by omega⟩

-- PRE order0
theorem impl_OrderOk_l1 (f : Nat → Int) (n : Nat) (hn : n ≤ 1048576) : ∀ (d k i : Nat), i + d = n → d < k → ∃ b, impl_OrderOk.l1 k (tab f n) (n : Int) (i : Int) = some b ∧ (b = true ↔ ∀ j, i ≤ j → j < n → f j = 0) := by
  intro d
  induction d with
  | zero =>
    intro k i hi hk
    obtain ⟨k, rfl⟩ : ∃ m, k = m + 1 := ⟨k - 1, by omega⟩
    simp only [impl_OrderOk.l1]
    rw [if_neg (by omega)]
    exact ⟨true, rfl, ⟨fun _ j h1 h2 => absurd h1 (by omega), fun _ => rfl⟩⟩
  | succ d ih =>
    intro k i hi hk
    obtain ⟨k, rfl⟩ : ∃ m, k = m + 1 := ⟨k - 1, by omega⟩
    simp only [impl_OrderOk.l1]
    rw [if_pos (by omega), if_pos (by omega), tab_length, if_pos (by omega), tab_rd f (by omega), st (n := n) (by omega) (by omega)]
    by_cases h : f i = 0
    · rw [if_pos h]
      obtain ⟨b, e, hb⟩ := ih k (i + 1) (by omega) (by omega)
      refine ⟨b, e, hb.trans ⟨fun h0 j h1 h2 => ?_, fun h0 j h1 h2 => h0 j (by omega) h2⟩⟩
      by_cases ej : j = i
      · subst ej; exact h
      · exact h0 j (by omega) h2
    · rw [if_neg h]
      exact ⟨false, rfl, ⟨fun h0 => (by cases h0), fun h0 => absurd (h0 i (Nat.le_refl _) (by omega)) h⟩⟩
theorem impl_OrderOk_l {l : List S43} {o : List Int} (h : ok l) (hT : o.length ≤ 200) : ∀ (d k t : Nat), t + d = o.length → 2 * d + l.length + 10 < k →
    ∃ b, impl_OrderOk.l0 k l (tab (fun i => nd l i - cnt (od o) i t) l.length) o (o.length : Int) (t : Int) = some b ∧ (b = true ↔ (∀ s, t ≤ s → s < o.length → okU l o s) ∧ ∀ i, i < l.length → cnt (od o) i o.length = nd l i) := by
  intro d
  have hl := h.len
  induction d with
  | zero =>
    intro k t ht hk
    obtain ⟨k, rfl⟩ : ∃ m, k = m + 1 := ⟨k - 1, by omega⟩
    simp only [impl_OrderOk.l0]
    rw [if_neg (by omega), tab_length]
    obtain ⟨b, e, hb⟩ := impl_OrderOk_l1 (fun i => nd l i - cnt (od o) i t) l.length (by omega) l.length k 0 (by omega) (by omega)
    refine ⟨b, e, hb.trans ⟨fun h0 => ⟨fun s h1 h2 => absurd h1 (by omega), fun i hi => ?_⟩, fun h0 j _ hj => ?_⟩⟩
    · have : nd l i - cnt (od o) i t = 0 := h0 i (Nat.zero_le _) hi
      rw [← show t = o.length from by omega]
      omega
    · have := h0.2 j hj
      rw [← show t = o.length from by omega] at this
      show nd l j - cnt (od o) j t = 0
      omega
  | succ d ih =>
    intro k t ht hk
    obtain ⟨k, rfl⟩ : ∃ m, k = m + 1 + 1 := ⟨k - 2, by omega⟩
    have no : ¬ okU l o t → ∃ b, some false = some b ∧ (b = true ↔ (∀ s, t ≤ s → s < o.length → okU l o s) ∧ ∀ i, i < l.length → cnt (od o) i o.length = nd l i) := fun hn => ⟨false, rfl, ⟨fun h0 => (by cases h0), fun h0 => absurd (h0.1 t (Nat.le_refl _) (by omega)) hn⟩⟩
    have yes : okU l o t → ∃ b, impl_OrderOk.l0 k l (tab (fun i => nd l i - cnt (od o) i (t + 1)) l.length) o (o.length : Int) ((t + 1 : Nat) : Int) = some b ∧ (b = true ↔ (∀ s, t ≤ s → s < o.length → okU l o s) ∧ ∀ i, i < l.length → cnt (od o) i o.length = nd l i) := fun hy => by
      obtain ⟨b, e, hb⟩ := ih k (t + 1) (by omega) (by omega)
      refine ⟨b, e, hb.trans ⟨fun h0 => ⟨fun s h1 h2 => ?_, h0.2⟩, fun h0 => ⟨fun s h1 h2 => h0.1 s (by omega) h2, h0.2⟩⟩⟩
      by_cases es : s = t
      · subst es; exact hy
      · exact h0.1 s (by omega) h2
    simp only [impl_OrderOk.l0, impl_OrderOk.j2]
    rw [if_pos (by omega), if_pos (by omega), if_pos (by omega), od_eq, st (n := o.length) (by omega) (by omega)]
    by_cases h1 : od o t < -1
    · rw [if_pos h1, if_pos (by first | rfl | trivial)]; exact no (fun hh => by have := hh.1; omega)
    rw [if_neg h1]
    by_cases h2 : od o t ≥ (l.length : Int)
    · rw [if_pos h2, if_pos (by first | rfl | trivial)]; exact no (fun hh => by have := hh.2.1; omega)
    rw [if_neg h2]
    rcases split_who (od o t) with h3 | ⟨w, hw⟩
    · rw [if_neg (show ¬ od o t ≥ 0 from by omega), if_neg (by simp), if_neg (show ¬ od o t ≥ 0 from by omega), left_stay l o t h3]
      exact yes ⟨by omega, by omega, fun hh => by omega⟩
    · have hwl : w < l.length := by omega
      rw [hw, if_pos (by omega), if_pos (by omega), if_pos (by omega), cm_eq]
      by_cases h4 : cm l w > (t : Int)
      · rw [decide_eq_true h4, if_pos rfl]; exact no (fun hh => by have := hh.2.2 (by omega); rw [hw, Int.toNat_natCast] at this; omega)
      · rw [decide_eq_false h4, if_neg (by simp), if_pos (by omega), if_pos (by omega), tab_length, if_pos (by omega), tab_rd _ hwl, Int.toNat_natCast]
        have h5 := h.need hwl
        have h6 := cnt_rng (O := od o) w t
        rw [wr (by omega) (by omega), tab_set, left_step l o t hw]
        exact yes ⟨by omega, by omega, fun _ => by rw [hw, Int.toNat_natCast]; omega⟩
theorem impl_OrderOk_e (l : List S43) (o : List Int) (hl : l.length ≤ 9000000000000000000) {k : Nat} (hk : 2 * 200 + 2 * l.length + 40 < k) : ∃ b, impl_OrderOk.f k l o = some b ∧ (b = true ↔ ordok l o) := by
  unfold impl_OrderOk.f
  obtain ⟨k, rfl⟩ : ∃ m, k = m + 1 := ⟨k - 1, by omega⟩
  by_cases h : ok l
  · have hl8 := h.len
    rw [impl_CustomersOk_t h (by omega)]
    simp only [bs, if_true, impl_OrderOk.j0]
    by_cases hT : (o.length : Int) > 200
    · rw [decide_eq_true hT, if_pos rfl]
      exact ⟨false, rfl, ⟨fun h0 => (by cases h0), fun h0 => by have := h0.units; omega⟩⟩
    · rw [decide_eq_false hT, if_neg (by simp), impl_leftOf_e (by omega) (by omega)]
      simp only [bs]
      rw [tab_congr (f := nd l) (g := fun i => nd l i - cnt (od o) i 0) (fun i _ => by rw [cnt_zero]; omega)]
      obtain ⟨b, e, hb⟩ := impl_OrderOk_l h (o := o) (by omega) o.length k 0 (by omega) (by omega)
      refine ⟨b, e, hb.trans ?_⟩
      rw [ordok_iff]
      exact ⟨fun h0 => ⟨h, by omega, fun t ht => h0.1 t (Nat.zero_le _) ht, h0.2⟩, fun h0 => ⟨fun s _ hs => h0.2.2.1 s hs, h0.2.2.2⟩⟩
  · rw [impl_CustomersOk_n hl h (by omega)]
    simp only [bs, impl_OrderOk.j0]
    exact ⟨false, rfl, ⟨fun h0 => (by cases h0), fun h0 => absurd h0.cust h⟩⟩
theorem impl_OrderOk_t {l : List S43} {o : List Int} (h : ordok l o) {k : Nat} (hk : 500 < k) : impl_OrderOk.f k l o = some true := by
  have hl := h.cust.len
  obtain ⟨b, e, hb⟩ := impl_OrderOk_e l o (by omega) (k := k) (by omega)
  rw [e, hb.2 h]
theorem impl_OrderOk_n {l : List S43} {o : List Int} (h : ¬ ordok l o) (hl : l.length ≤ 9000000000000000000) {k : Nat} (hk : 2 * 200 + 2 * l.length + 40 < k) : impl_OrderOk.f k l o = some false := by
  obtain ⟨b, e, hb⟩ := impl_OrderOk_e l o hl hk
  rw [e]
  cases b with
  | true => exact absurd (hb.1 rfl) h
  | false => rfl

-- PRE order0
theorem lst_step (o : List Int) (t : Nat) {w : Nat} (hw : od o t = (w : Int)) (n : Nat) :
    tab (fun j => if j = w then ((t + 1 : Nat) : Int) else lst (od o) j t) n = tab (fun j => lst (od o) j (t + 1)) n :=
  tab_congr (fun j _ => by
    rw [lst_succ, hw]
    by_cases e : j = w
    · subst e; rw [if_pos rfl, if_pos rfl]; omega
    · rw [if_neg e, if_neg (by omega)])
theorem lst_stay (o : List Int) (t : Nat) (hw : od o t < 0) (n : Nat) : tab (fun j => lst (od o) j t) n = tab (fun j => lst (od o) j (t + 1)) n :=
  tab_congr (fun j _ => by rw [lst_succ, if_neg (by omega)])
theorem impl_endsOf_l {l : List S43} {o : List Int} (h : ordok l o) : ∀ (d k t : Nat), t + d = o.length → d < k → impl_endsOf.l0 k (tab (fun i => lst (od o) i t) l.length) o (o.length : Int) (t : Int) = some (tab (fun i => lst (od o) i o.length) l.length) := by
  intro d
  have hT := h.units
  induction d with
  | zero =>
    intro k t ht hk
    obtain ⟨k, rfl⟩ : ∃ m, k = m + 1 := ⟨k - 1, by omega⟩
    simp only [impl_endsOf.l0]
    rw [if_neg (by omega), show t = o.length from by omega]
  | succ d ih =>
    intro k t ht hk
    obtain ⟨k, rfl⟩ : ∃ m, k = m + 1 := ⟨k - 1, by omega⟩
    obtain ⟨h1, h2, _⟩ := h.who t (by omega)
    simp only [impl_endsOf.l0]
    rw [if_pos (by omega), if_pos (by omega), if_pos (by omega), od_eq, st (n := o.length) (by omega) (by omega)]
    rcases split_who (od o t) with h3 | ⟨w, hw⟩
    · rw [if_neg (by omega), lst_stay o t h3]
      exact ih k (t + 1) (by omega) (by omega)
    · rw [hw, if_pos (by omega), if_pos (by omega), tab_length, if_pos (by omega), Int.toNat_natCast, tab_set, lst_step o t hw]
      exact ih k (t + 1) (by omega) (by omega)
theorem impl_endsOf_e {l : List S43} {o : List Int} (h : ordok l o) {k : Nat} (hk : o.length < k) : impl_endsOf.f k l o = some (tab (fun i => lst (od o) i o.length) l.length) := by
  have hl := h.cust.len
  unfold impl_endsOf.f
  rw [if_pos (by omega), Int.toNat_natCast, if_pos (by omega)]
  rw [show List.replicate l.length (0 : Int) = tab (fun i => lst (od o) i 0) l.length from by
    apply List.ext_getElem (by rw [List.length_replicate, tab_length])
    intro i h1 h2
    simp [tab, lst_zero]]
  exact impl_endsOf_l h o.length k 0 (by omega) hk

theorem impl_EndsOf_t {l : List S43} {o : List Int} (h : ordok l o) {k : Nat} (hk : 500 < k) : impl_EndsOf.f k l o = some (tab (fun i => lst (od o) i o.length) l.length) := by
  have hT := h.units
  unfold impl_EndsOf.f
  rw [impl_OrderOk_t h hk, bs, if_pos rfl, impl_endsOf_e h (by omega), bs]
theorem impl_EndsOf_n {l : List S43} {o : List Int} (h : ¬ ordok l o) (hl : l.length ≤ 9000000000000000000) {k : Nat} (hk : 2 * 200 + 2 * l.length + 40 < k) : impl_EndsOf.f k l o = some [] := by
  unfold impl_EndsOf.f
  rw [impl_OrderOk_n h hl hk, bs, if_neg (by simp)]

theorem laws_sameInts_l (a : List Int) (ha : a.length ≤ 9000000000000000000) : ∀ (d k i : Nat), i + d = a.length → d < k → laws_sameInts.l0 k a a (i : Int) = some true := by
  intro d
  induction d with
  | zero =>
    intro k i hi hk
    obtain ⟨k, rfl⟩ : ∃ m, k = m + 1 := ⟨k - 1, by omega⟩
    simp only [laws_sameInts.l0]
    rw [if_neg (by omega)]
  | succ d ih =>
    intro k i hi hk
    obtain ⟨k, rfl⟩ : ∃ m, k = m + 1 := ⟨k - 1, by omega⟩
    simp only [laws_sameInts.l0]
    rw [if_pos (by omega), if_pos (by omega), if_pos (by omega), st (n := a.length) (by omega) (by omega)]
    simp only [if_true]
    exact ih k (i + 1) (by omega) (by omega)
theorem laws_sameInts_e (a : List Int) (ha : a.length ≤ 9000000000000000000) {k : Nat} (hk : a.length < k) : laws_sameInts.f k a a = some true := by
  unfold laws_sameInts.f
  rw [if_pos rfl]
  exact laws_sameInts_l a ha a.length k 0 (by omega) hk

theorem spec_l1In_e (a b c : Int) : ∃ r, spec_l1In.f a b c = some r ∧ (r = true ↔ b ≤ a ∧ a ≤ c) := by
  unfold spec_l1In.f
  by_cases h : a ≥ b
  · rw [if_pos h]; exact ⟨_, rfl, by rw [decide_eq_true_iff]; exact ⟨fun h1 => ⟨h, h1⟩, fun h1 => h1.2⟩⟩
  · rw [if_neg h]; exact ⟨false, rfl, ⟨fun h1 => (by cases h1), fun h1 => absurd h1.1 h⟩⟩
theorem spec_l1In_t {a b c : Int} (h0 : b ≤ a) (h1 : a ≤ c) : spec_l1In.f a b c = some true := by
  unfold spec_l1In.f
  rw [if_pos h0, decide_eq_true h1]
theorem spec_l1In_n {a b c : Int} (h : ¬ (b ≤ a ∧ a ≤ c)) : spec_l1In.f a b c = some false := by
  unfold spec_l1In.f
  by_cases h0 : a ≥ b
  · rw [if_pos h0, decide_eq_false (fun h1 => h ⟨h0, h1⟩)]
  · rw [if_neg h0]
theorem spec_CustomersOk_l (l : List S43) (hl : l.length ≤ 9000000000000000000) : ∀ (d k i : Nat), i + d = l.length → d < k →
    ∃ b, spec_CustomersOk.l0 k l (i : Int) = some b ∧ (b = true ↔ l.length ≤ 8 ∧ ∀ j, i ≤ j → j < l.length → okAt (cm l) (nd l) j) := by
  intro d
  induction d with
  | zero =>
    intro k i hi hk
    obtain ⟨k, rfl⟩ : ∃ m, k = m + 1 := ⟨k - 1, by omega⟩
    simp only [spec_CustomersOk.l0]
    rw [if_neg (by omega)]
    exact ⟨_, rfl, by rw [decide_eq_true_iff]; exact ⟨fun h => ⟨by omega, fun j h1 h2 => absurd h1 (by omega)⟩, fun h => by have := h.1; omega⟩⟩
  | succ d ih =>
    intro k i hi hk
    obtain ⟨k, rfl⟩ : ∃ m, k = m + 1 := ⟨k - 1, by omega⟩
    obtain ⟨b, hb, hbt⟩ := ih k (i + 1) (by omega) (by omega)
    have no : (¬ okAt (cm l) (nd l) i) → (∃ b, some false = some b ∧ (b = true ↔ l.length ≤ 8 ∧ ∀ j, i ≤ j → j < l.length → okAt (cm l) (nd l) j)) := fun h => ⟨false, rfl, ⟨fun h0 => (by cases h0), fun h0 => absurd (h0.2 i (by omega) (by omega)) h⟩⟩
    have yes : okAt (cm l) (nd l) i → (∃ b, spec_CustomersOk.l0 k l ((i + 1 : Nat) : Int) = some b ∧ (b = true ↔ l.length ≤ 8 ∧ ∀ j, i ≤ j → j < l.length → okAt (cm l) (nd l) j)) := fun h => by
      refine ⟨b, hb, hbt.trans ⟨fun h0 => ⟨h0.1, fun j h1 h2 => ?_⟩, fun h0 => ⟨h0.1, fun j h1 h2 => h0.2 j (by omega) h2⟩⟩⟩
      by_cases e : j = i
      · subst e; exact h
      · exact h0.2 j (by omega) h2
    simp only [spec_CustomersOk.l0]
    rw [if_pos (by omega), if_pos (by omega), st (n := l.length) (by omega) hl]
    rw [cm_eq l i, nd_eq l i]
    by_cases h1 : 0 ≤ cm l i ∧ cm l i ≤ 60
    · rw [spec_l1In_t h1.1 h1.2]
      simp only [bs, if_true]
      by_cases h2 : 1 ≤ nd l i ∧ nd l i ≤ 9
      · rw [spec_l1In_t h2.1 h2.2]
        simp only [bs, if_true]
        by_cases h0 : i = 0
        · subst h0
          rw [if_neg (by simp)]
          exact yes ⟨by omega, by omega, by omega, by omega, fun h => by omega⟩
        · rw [if_pos (by omega), pd (by omega) (by omega), if_pos (by omega), if_pos (by omega)]
          rw [cm_eq l (i - 1)]
          by_cases h5 : cm l i < cm l (i - 1)
          · rw [if_pos h5]; exact no (fun h => by have := h.2.2.2.2 (by omega); omega)
          rw [if_neg h5]
          exact yes ⟨by omega, by omega, by omega, by omega, fun h => by omega⟩
      · rw [spec_l1In_n h2]
        exact no (fun h => h2 ⟨h.2.2.1, h.2.2.2.1⟩)
    · rw [spec_l1In_n h1]
      exact no (fun h => h1 ⟨h.1, h.2.1⟩)
theorem spec_CustomersOk_e (l : List S43) (hl : l.length ≤ 9000000000000000000) {k : Nat} (hk : l.length < k) : ∃ b, spec_CustomersOk.f k l = some b ∧ (b = true ↔ ok l) := by
  obtain ⟨b, h1, h2⟩ := spec_CustomersOk_l l hl l.length k 0 (by omega) hk
  exact ⟨b, h1, h2.trans ⟨fun h => ⟨h.1, fun i hi => h.2 i (Nat.zero_le _) hi⟩, fun h => ⟨h.1, fun i _ hi => h.2 i hi⟩⟩⟩
theorem spec_CustomersOk_t {l : List S43} (h : ok l) {k : Nat} (hk : l.length < k) : spec_CustomersOk.f k l = some true := by
  obtain ⟨b, h1, h2⟩ := spec_CustomersOk_e l (by have := h.1; omega) hk
  rw [h1, h2.2 h]
theorem spec_CustomersOk_n {l : List S43} (hl : l.length ≤ 9000000000000000000) (h : ¬ ok l) {k : Nat} (hk : l.length < k) : spec_CustomersOk.f k l = some false := by
  obtain ⟨b, h1, h2⟩ := spec_CustomersOk_e l hl hk
  rw [h1]
  cases b with
  | true => exact absurd (h2.1 rfl) h
  | false => rfl

-- MATH A
theorem spec_LastLeave_l {l : List S43} (h : ok l) : ∀ (i k : Nat) (b : Int), i ≤ l.length → i < k → 0 ≤ b → b ≤ 200 →
    spec_LastLeave.l0 k l b (sm (nd l) l.length - sm (nd l) i) ((i : Int) - 1) = some (mx b (mxs (fun j => cm l j + (sm (nd l) l.length - sm (nd l) j)) i)) := by
  intro i
  induction i with
  | zero =>
    intro k b hi hk hb hb'
    obtain ⟨k, rfl⟩ : ∃ m, k = m + 1 := ⟨k - 1, by omega⟩
    simp only [spec_LastLeave.l0]
    rw [if_neg (by omega), mxs_zero]
    unfold mx
    rw [if_neg (by omega)]
  | succ i ih =>
    intro k b hi hk hb hb'
    obtain ⟨k, rfl⟩ : ∃ m, k = m + 1 := ⟨k - 1, by omega⟩
    have hl := h.len
    have h1 := h.sum (i := i) (j := l.length) (by omega) (by omega)
    have h2 := h.sum (i := i + 1) (j := l.length) (by omega) (by omega)
    have h5 := h.come (i := i) (by omega)
    have e := sm_succ (nd l) i
    simp only [spec_LastLeave.l0]
    rw [show ((i + 1 : Nat) : Int) - 1 = (i : Int) from by omega]
    rw [if_pos (by omega), if_pos (by omega), if_pos (by omega), nd_eq, cm_eq]
    rw [wr (x := sm (nd l) l.length - sm (nd l) (i + 1) + nd l i) (by omega) (by omega), show sm (nd l) l.length - sm (nd l) (i + 1) + nd l i = sm (nd l) l.length - sm (nd l) i from by omega]
    rw [wr (x := cm l i + (sm (nd l) l.length - sm (nd l) i)) (by omega) (by omega), wr (x := (i : Int) - 1) (by omega) (by omega)]
    have hm := mx_ge b (cm l i + (sm (nd l) l.length - sm (nd l) i))
    rw [ih k _ (by omega) (by omega) (by omega) (by omega), mxs_succ]
    congr 1
    unfold mx
    repeat' split
    all_goals omega
theorem spec_LastLeave_t {l : List S43} (h : ok l) {k : Nat} (hk : l.length + 20 < k) : spec_LastLeave.f k l = some (LL (cm l) (nd l) l.length) := by
  unfold spec_LastLeave.f
  have hl := h.len
  rw [spec_CustomersOk_t h (by omega)]
  simp only [bs, if_true]
  have := spec_LastLeave_l h l.length k 0 (Nat.le_refl _) (by omega) (by omega) (by omega)
  rw [Int.sub_self] at this
  rw [wr (by omega) (by omega), this, LL_sums h l.length (Nat.le_refl _)]
  have h1 := LL_rng h l.length (Nat.le_refl _)
  have h2 := h.sum0 (Nat.le_refl _)
  congr 1
  unfold mx
  split <;> omega
theorem spec_LastLeave_n {l : List S43} (hl : l.length ≤ 9000000000000000000) (h : ¬ ok l) {k : Nat} (hk : l.length < k) : spec_LastLeave.f k l = some (-1) := by
  unfold spec_LastLeave.f
  rw [spec_CustomersOk_n hl h hk]
  simp

-- MATH W
theorem spec_l4Pick_p {l : List S43} (hl : l.length ≤ 8) (L : Nat → Int) (rule t : Int) : ∀ (d k i : Nat), i + d = l.length → 3 * d < k →
    spec_l4Pick.l0 k l (tab L l.length) t rule (pk (cm l) L t rule i) (i : Int) = some (pk (cm l) L t rule l.length) := by
  intro d
  induction d with
  | zero =>
    intro k i hi hk
    obtain ⟨k, rfl⟩ : ∃ m, k = m + 1 := ⟨k - 1, by omega⟩
    simp only [spec_l4Pick.l0]
    rw [if_neg (by omega), show i = l.length from by omega]
  | succ d ih =>
    intro k i hi hk
    obtain ⟨k, rfl⟩ : ∃ m, k = m + 1 + 1 + 1 := ⟨k - 3, by omega⟩
    have hp := pk_succ (cm l) L t rule i
    obtain ⟨r1, r2⟩ := pk_rng (cm l) L t rule i
    have e1 : ∀ m, k ≤ m → spec_l4Pick.l0 m l (tab L l.length) t rule (pk (cm l) L t rule (i + 1)) ((i + 1 : Nat) : Int) = some (pk (cm l) L t rule l.length) := fun m hm => ih m (i + 1) (by omega) (by omega)
    rw [spec_l4Pick.l0, if_pos (by omega), if_pos (by omega), cm_eq, tab_length, tab_rd L (show i < l.length from by omega)]
    by_cases c1 : cm l i > t
    · rw [if_pos (Or.inl (by omega))] at hp
      rw [if_pos c1, spec_l4Pick.j1, if_pos rfl, st (n := l.length) (by omega) (by omega), ← hp]
      exact e1 _ (by omega)
    rw [if_neg c1, if_pos (show (i : Int) < (l.length : Int) from by omega)]
    by_cases c2 : L i = 0
    · rw [if_pos (Or.inr c2)] at hp
      rw [show (L i == 0) = true from by rw [beq_iff_eq]; exact c2, spec_l4Pick.j1, if_pos rfl, st (n := l.length) (by omega) (by omega), ← hp]
      exact e1 _ (by omega)
    rw [if_neg (by omega)] at hp
    rw [show (L i == 0) = false from by rw [beq_eq_false_iff_ne]; exact c2, spec_l4Pick.j1, if_neg (by simp), st (n := l.length) (by omega) (by omega), tab_length]
    by_cases c3 : pk (cm l) L t rule i < 0
    · rw [if_pos (Or.inl c3)] at hp
      rw [if_pos c3, ← hp]
      exact e1 _ (by omega)
    obtain ⟨w, hw⟩ : ∃ w : Nat, pk (cm l) L t rule i = (w : Int) := ⟨(pk (cm l) L t rule i).toNat, by omega⟩
    rw [if_neg c3]
    by_cases c4 : rule = 1
    · rw [if_pos (Or.inr (Or.inl c4))] at hp
      rw [if_pos c4, ← hp]
      exact e1 _ (by omega)
    rw [if_neg c4]
    rw [hw, Int.toNat_natCast] at hp
    rw [hw, tab_rd L (show i < l.length from by omega), tab_rd L (show w < l.length from by omega)]
    by_cases c5 : rule = 2
    · rw [if_pos c5, if_pos (show (0 : Int) ≤ (i : Int) from by omega), if_pos (show (i : Int) < (l.length : Int) from by omega), if_pos (show (0 : Int) ≤ (w : Int) from by omega), if_pos (show (w : Int) < (l.length : Int) from by omega)]
      by_cases c6 : L i < L w
      · rw [if_pos (Or.inr (Or.inr (Or.inl ⟨c5, c6⟩)))] at hp
        rw [decide_eq_true c6, spec_l4Pick.j2, if_pos rfl, st (n := l.length) (by omega) (by omega), ← hp]
        exact e1 _ (by omega)
      · rw [if_neg (by omega)] at hp
        rw [decide_eq_false c6, spec_l4Pick.j2, if_neg (by simp), if_neg (show ¬ rule = 3 from by omega), st (n := l.length) (by omega) (by omega), ← hp]
        exact e1 _ (by omega)
    rw [if_neg c5, spec_l4Pick.j2, if_neg (by simp), st (n := l.length) (by omega) (by omega), tab_length, tab_rd L (show i < l.length from by omega), tab_rd L (show w < l.length from by omega)]
    by_cases c7 : rule = 3
    · rw [if_pos c7, if_pos (show (0 : Int) ≤ (i : Int) from by omega), if_pos (show (i : Int) < (l.length : Int) from by omega), if_pos (show (0 : Int) ≤ (w : Int) from by omega), if_pos (show (w : Int) < (l.length : Int) from by omega)]
      by_cases c8 : L i > L w
      · rw [if_pos (Or.inr (Or.inr (Or.inr ⟨c7, by omega⟩)))] at hp
        rw [if_pos c8, ← hp]
        exact e1 _ (by omega)
      · rw [if_neg (by omega)] at hp
        rw [if_neg c8, ← hp]
        exact e1 _ (by omega)
    · rw [if_neg (by omega)] at hp
      rw [if_neg c7, ← hp]
      exact e1 _ (by omega)
theorem spec_l4Pick_e {l : List S43} (hl : l.length ≤ 8) (L : Nat → Int) (rule t : Int) {k : Nat} (hk : 30 < k) : spec_l4Pick.f k l (tab L l.length) t rule = some (pk (cm l) L t rule l.length) := by
  unfold spec_l4Pick.f
  exact spec_l4Pick_p hl L rule t l.length k 0 (by omega) (by omega)

-- MATH W
theorem slf_step {l : List S43} (rule : Int) (t : Nat) {w : Nat} (hw : ob (cm l) (nd l) l.length rule t = (w : Int)) :
    tab (fun j => if j = w then lf (cm l) (nd l) l.length rule t w - 1 else lf (cm l) (nd l) l.length rule t j) l.length = tab (lf (cm l) (nd l) l.length rule (t + 1)) l.length :=
  tab_congr (fun j _ => by
    rw [lf_succ, hw]
    by_cases e : j = w
    · subst e; rw [if_pos rfl, if_pos rfl]
    · rw [if_neg e, if_neg (by omega)]; omega)
theorem slf_stay {l : List S43} (rule : Int) (t : Nat) (hw : ob (cm l) (nd l) l.length rule t < 0) :
    tab (lf (cm l) (nd l) l.length rule t) l.length = tab (lf (cm l) (nd l) l.length rule (t + 1)) l.length :=
  tab_congr (fun j _ => by rw [lf_succ, if_neg (by omega)]; omega)
theorem slf_small {l : List S43} (h : ok l) (rule : Int) (t : Nat) {w : Nat} (hw : w < l.length) : 0 ≤ lf (cm l) (nd l) l.length rule t w ∧ lf (cm l) (nd l) l.length rule t w ≤ 9 := by
  have h1 := lf_nonneg h rule t w hw
  have h2 := lf_cnt (C := cm l) (N := nd l) (n := l.length) rule w t
  have h3 := cnt_rng (O := ob (cm l) (nd l) l.length rule) w t
  have h4 := h.need hw
  omega
theorem spec_OrderBy_l1 {l : List S43} (h : ok l) (rule : Int) {T : Nat} (hT : (T : Int) = LL (cm l) (nd l) l.length) : ∀ (d k t : Nat), t + d = T → d + 60 < k →
    spec_OrderBy.l1 k l rule (tab (ob (cm l) (nd l) l.length rule) t) (tab (lf (cm l) (nd l) l.length rule t) l.length) (t : Int) = some (tab (ob (cm l) (nd l) l.length rule) T) := by
  intro d
  have hl := h.len
  have hl2 := LL_top h
  induction d with
  | zero =>
    intro k t ht hk
    obtain ⟨k, rfl⟩ : ∃ m, k = m + 1 := ⟨k - 1, by omega⟩
    simp only [spec_OrderBy.l1]
    rw [spec_LastLeave_t h (by omega), bs, ← hT, if_neg (by omega), show t = T from by omega]
  | succ d ih =>
    intro k t ht hk
    obtain ⟨k, rfl⟩ : ∃ m, k = m + 1 := ⟨k - 1, by omega⟩
    have hr := pk_rng (cm l) (lf (cm l) (nd l) l.length rule t) (t : Int) rule l.length
    simp only [spec_OrderBy.l1]
    rw [spec_LastLeave_t h (by omega), bs, ← hT, if_pos (by omega), spec_l4Pick_e (by omega) _ rule (t : Int) (by omega), bs, tab_length, tab_length, if_pos (by omega), bs, st (n := T) (by omega) (by omega)]
    rw [show pk (cm l) (lf (cm l) (nd l) l.length rule t) (t : Int) rule l.length = ob (cm l) (nd l) l.length rule t from rfl] at hr ⊢
    rw [← tab_snoc]
    rcases split_w (ob (cm l) (nd l) l.length rule t) with h3 | ⟨w, hw⟩
    · rw [if_neg (by omega), slf_stay rule t h3]
      exact ih k (t + 1) (by omega) (by omega)
    · have hs := slf_small h rule t (w := w) (by omega)
      rw [hw, if_pos (by omega), if_pos (by omega), if_pos (by omega), tab_rd _ (by omega), Int.toNat_natCast, wr (by omega) (by omega), tab_set, slf_step rule t hw]
      exact ih k (t + 1) (by omega) (by omega)
theorem spec_OrderBy_l0 {l : List S43} (h : ok l) (rule : Int) (x : List Int) : ∀ (d k i : Nat), i + d = l.length → d < k →
    spec_OrderBy.l0 k l rule x (tab (nd l) i) (i : Int) = spec_OrderBy.l1 (k - (d + 1)) l rule x (tab (nd l) l.length) 0 := by
  intro d
  have hl := h.len
  induction d with
  | zero =>
    intro k i hi hk
    obtain ⟨k, rfl⟩ : ∃ m, k = m + 1 := ⟨k - 1, by omega⟩
    simp only [spec_OrderBy.l0]
    rw [if_neg (by omega), show i = l.length from by omega]
    rfl
  | succ d ih =>
    intro k i hi hk
    obtain ⟨k, rfl⟩ : ∃ m, k = m + 1 := ⟨k - 1, by omega⟩
    simp only [spec_OrderBy.l0]
    rw [if_pos (by omega), if_pos (by omega), tab_length, if_pos (by omega), nd_eq, st (n := l.length) (by omega) (by omega), ← tab_snoc, show k + 1 - (d + 1 + 1) = k - (d + 1) from by omega]
    exact ih k (i + 1) (by omega) (by omega)
theorem spec_OrderBy_t {l : List S43} (h : ok l) {rule : Int} (hr : 0 ≤ rule ∧ rule ≤ 3) {T : Nat} (hT : (T : Int) = LL (cm l) (nd l) l.length) {k : Nat} (hk : 400 < k) : spec_OrderBy.f k l rule = some (tab (ob (cm l) (nd l) l.length rule) T) := by
  have hl := h.len
  have hl2 := LL_top h
  unfold spec_OrderBy.f
  obtain ⟨k, rfl⟩ : ∃ m, k = m + 1 := ⟨k - 1, by omega⟩
  rw [bs, spec_CustomersOk_t h (by omega), bs, if_pos rfl, spec_l1In_t hr.1 hr.2, bs]
  simp only [spec_OrderBy.j0, Bool.not_true, Bool.false_eq_true, if_false]
  have e : spec_OrderBy.l0 k l rule [] [] 0 = spec_OrderBy.l1 (k - (l.length + 1)) l rule [] (tab (nd l) l.length) 0 := spec_OrderBy_l0 h rule [] l.length k 0 (by omega) (by omega)
  rw [e]
  exact spec_OrderBy_l1 h rule hT T (k - (l.length + 1)) 0 (by omega) (by omega)
theorem spec_OrderBy_n {l : List S43} (hl : l.length ≤ 9000000000000000000) {rule : Int} (h : ¬ (ok l ∧ 0 ≤ rule ∧ rule ≤ 3)) {k : Nat} (hk : l.length + 1 < k) : spec_OrderBy.f k l rule = some [] := by
  unfold spec_OrderBy.f
  obtain ⟨k, rfl⟩ : ∃ m, k = m + 1 := ⟨k - 1, by omega⟩
  by_cases ho : ok l
  · rw [bs, spec_CustomersOk_t ho (by omega), bs, if_pos rfl, spec_l1In_n (fun hh => h ⟨ho, hh⟩), bs]
    simp [spec_OrderBy.j0]
  · rw [bs, spec_CustomersOk_n hl ho (by omega), bs, if_neg (by simp)]
    simp [spec_OrderBy.j0]

theorem l20Open_e (l : List Int) (h : ∀ x ∈ l, (Lit.int .u8 x).wf = true) : ∃ b, spec_l20Open.f l = some (b, 0) ∧ Src b := by
  have hb := bytes_of h
  unfold spec_l20Open.f
  by_cases h1 : (l.length : Int) > 2000
  · rw [if_pos h1, if_pos (by omega)]
    exact ⟨_, rfl, ⟨fun x hx => hb x (List.mem_of_mem_take hx), by rw [List.length_take]; omega⟩⟩
  · rw [if_neg h1]
    exact ⟨_, rfl, ⟨hb, by omega⟩⟩

-- MATH D
theorem pick_e {b : List Int} (hb : Src b) {p n : Int} (hp : 0 ≤ p ∧ p ≤ 1000000) (hn : n ≤ 1000000) {k : Nat} (hk : 0 < k) :
    ∃ r, spec_l20Rd_pick.f k b p n = some (r, p + 1) ∧ 0 ≤ r ∧ (1 ≤ n → r < n) ∧ (n < 1 → r = 0) := by
  obtain ⟨k, rfl⟩ : ∃ m, k = m + 1 := ⟨k - 1, by omega⟩
  have hlen := hb.len
  unfold spec_l20Rd_pick.f
  rw [wr (x := p + 1) (by omega) (by omega)]
  by_cases h1 : n < 1
  · rw [if_pos h1]
    simp only [spec_l20Rd_pick.j0, if_true]
    exact ⟨0, rfl, by omega, by omega, fun _ => rfl⟩
  rw [if_neg h1]
  by_cases h2 : b.length = 0
  · rw [show ((b.length : Int) == 0) = true from by rw [beq_iff_eq]; omega]
    simp only [spec_l20Rd_pick.j0, if_true]
    exact ⟨0, rfl, by omega, by omega, fun _ => rfl⟩
  rw [show ((b.length : Int) == 0) = false from by rw [beq_eq_false_iff_ne]; omega]
  simp only [spec_l20Rd_pick.j0, Bool.false_eq_true, if_false]
  rw [wr (x := p + 1 - 1) (by omega) (by omega), show p + 1 - 1 = p from by omega]
  by_cases h3 : p < (b.length : Int)
  · rw [if_pos h3, if_pos hp.1, if_neg (by omega)]
    have hr := rd_rng hb.byte p
    rw [wr (by omega) (by omega)]
    have ht := tmod_rng (a := rd b p) (n := n) hr.1 (by omega)
    exact ⟨_, rfl, ht.1, fun _ => ht.2, fun h => absurd h h1⟩
  · have hL : (0 : Int) < (b.length : Int) := by omega
    have m1 := tmod_rng (a := p) (n := (b.length : Int)) hp.1 hL
    rw [wr (x := p * 7) (by omega) (by omega), wr (x := p * 7 + 3) (by omega) (by omega)]
    have m2 := tmod_rng (a := p * 7 + 3) (n := (b.length : Int)) (by omega) hL
    rw [if_neg h3, if_neg (by omega), if_pos m1.1, if_pos m1.2, if_pos m2.1, if_pos m2.2, if_neg (by omega)]
    have r1 := rd_rng hb.byte (Int.tmod p (b.length : Int))
    have r2 := rd_rng hb.byte (Int.tmod (p * 7 + 3) (b.length : Int))
    have d1 := tdiv_rng (a := p) (n := (b.length : Int)) hp.1 hL
    generalize rd b (Int.tmod p (b.length : Int)) = u at *
    generalize rd b (Int.tmod (p * 7 + 3) (b.length : Int)) = v at *
    generalize Int.tdiv p (b.length : Int) = d at *
    rw [wr (x := u) (by omega) (by omega), wr (x := v) (by omega) (by omega), wr (x := d) (by omega) (by omega)]
    rw [wr (x := u * 131) (by omega) (by omega), wr (x := v * 1117) (by omega) (by omega), wr (x := p * 29) (by omega) (by omega), wr (x := d * 53) (by omega) (by omega)]
    rw [wr (x := u * 131 + v * 1117) (by omega) (by omega), wr (x := u * 131 + v * 1117 + p * 29) (by omega) (by omega), wr (x := u * 131 + v * 1117 + p * 29 + d * 53) (by omega) (by omega)]
    have hx0 : 0 ≤ u * 131 + v * 1117 + p * 29 + d * 53 := by omega
    have hx1 : u * 131 + v * 1117 + p * 29 + d * 53 < 1099511627776 := by omega
    generalize u * 131 + v * 1117 + p * 29 + d * 53 = x at *
    have d2 := tdiv_rng (a := x) (n := 64) hx0 (by omega)
    rw [wr (x := Int.tdiv x 64) (by omega) (by omega)]
    have hx := xor_rng hx0 hx1 d2.1 (by omega)
    have ht := tmod_rng (a := Go.bits .xor .i64 x (Int.tdiv x 64)) (n := n) hx.1 (by omega)
    exact ⟨_, rfl, ht.1, fun _ => ht.2, fun h => absurd h h1⟩

theorem odd_e {b : List Int} (hb : Src b) {p n : Int} (hp : 0 ≤ p ∧ p ≤ 1000000) (hn : n ≤ 1000000) (hn0 : 0 ≤ n) {k : Nat} (hk : 0 < k) :
    ∃ r q, spec_l20Rd_odd.f k b p n = some (r, q) ∧ p ≤ q ∧ q ≤ p + 1 := by
  unfold spec_l20Rd_odd.f
  by_cases h : n > 0
  · obtain ⟨r, h1, _⟩ := pick_e hb hp hn hk
    rw [if_pos h, h1]
    exact ⟨_, _, rfl, by simp only; omega, by simp only; omega⟩
  · rw [if_neg h]
    exact ⟨_, _, rfl, by omega, by omega⟩

/-- Customers as they are drawn: few, and all their numbers small. -/
structure Drawn (l : List S43) : Prop where
  len : l.length ≤ 20
  come : ∀ i : Nat, i < l.length → -1 ≤ cm l i ∧ cm l i ≤ 100
  need : ∀ i : Nat, i < l.length → 0 ≤ nd l i ∧ nd l i ≤ 10
theorem Drawn.snoc {l : List S43} (h : Drawn l) (hl : l.length < 20) {a b : Int} (ha : -1 ≤ a ∧ a ≤ 100) (hb : 0 ≤ b ∧ b ≤ 10) : Drawn (l ++ [(⟨a, b⟩ : S43)]) := by
  have e : ∀ i : Nat, i < (l ++ [(⟨a, b⟩ : S43)]).length → rd_T43 (l ++ [(⟨a, b⟩ : S43)]) (i : Int) = if i < l.length then rd_T43 l (i : Int) else ⟨a, b⟩ := by
    intro i hi
    rw [List.length_append, List.length_singleton] at hi
    unfold rd_T43
    rw [List.getD_eq_getElem?_getD, List.getD_eq_getElem?_getD, Int.toNat_natCast]
    by_cases h0 : i < l.length
    · rw [if_pos h0, List.getElem?_append_left h0]
    · rw [if_neg h0, show i = l.length from by omega]
      simp
  refine ⟨by simp; omega, fun i hi => ?_, fun i hi => ?_⟩
  · unfold cm
    rw [e i hi]
    by_cases h0 : i < l.length
    · rw [if_pos h0]; exact h.come i h0
    · rw [if_neg h0]; exact ha
  · unfold nd
    rw [e i hi]
    by_cases h0 : i < l.length
    · rw [if_pos h0]; exact h.need i h0
    · rw [if_neg h0]; exact hb
theorem Drawn.nil : Drawn ([] : List S43) := ⟨by simp, fun i hi => absurd hi (by simp), fun i hi => absurd hi (by simp)⟩
theorem Drawn.one {a b : Int} (ha : -1 ≤ a ∧ a ≤ 100) (hb : 0 ≤ b ∧ b ≤ 10) : Drawn [(⟨a, b⟩ : S43)] := Drawn.snoc Drawn.nil (by simp) ha hb
theorem l20Customers_l {b : List Int} (hb : Src b) {n : Int} (hn0 : 0 ≤ n) (hn : n ≤ 1000000) {w high : Int} (hw : 1 ≤ w ∧ w ≤ 5) (hh : 3 ≤ high ∧ high ≤ 9) : ∀ (d k : Nat) (l : List S43) (t p : Int), d ≤ 8 → d + 1 < k → l.length + d ≤ 8 → Drawn l →
    0 ≤ t → t + 6 * d ≤ 60 → 0 ≤ p → p + 2 * d ≤ 900000 → ∃ r q, spec_l20Customers.l0 k n l t w high (d : Int) b p = some (r, q) ∧ Drawn r ∧ p ≤ q ∧ q ≤ p + 2 * d + 10 := by
  intro d
  induction d with
  | zero =>
    intro k l t p _ hk hl hD ht ht' hp hp'
    obtain ⟨k, rfl⟩ : ∃ m, k = m + 1 := ⟨k - 1, by omega⟩
    simp only [spec_l20Customers.l0]
    rw [if_neg (by omega)]
    obtain ⟨s, q, e, hq, hq'⟩ := odd_e hb (p := p) (n := n) (by omega) hn hn0 (k := k) (by omega)
    rw [e]
    simp only [bs]
    cases s with
    | false =>
      rw [if_neg (by simp)]
      exact ⟨_, _, rfl, hD, by omega, by omega⟩
    | true =>
      rw [if_pos rfl]
      obtain ⟨r1, e1, h0, h1, _⟩ := pick_e hb (p := q) (n := 3) (by omega) (by omega) (k := k) (by omega)
      rw [e1]
      simp only [bs]
      by_cases c0 : r1 = 0
      · rw [if_pos c0]
        exact ⟨_, _, rfl, Drawn.snoc (Drawn.one (by omega) (by omega)) (by simp) (by omega) (by omega), by omega, by omega⟩
      rw [if_neg c0]
      by_cases c1 : r1 = 1
      · rw [if_pos c1, if_pos (by omega)]
        exact ⟨_, _, rfl, Drawn.snoc hD (by omega) (by omega) (by omega), by omega, by omega⟩
      rw [if_neg c1]
      obtain ⟨r2, e2, g0, g1, _⟩ := pick_e hb (p := q + 1) (n := 2) (by omega) (by omega) (k := k) (by omega)
      rw [e2]
      simp only [bs]
      rw [if_pos g0, if_pos (by simp; omega)]
      refine ⟨_, _, rfl, Drawn.one ?_ (by omega), by omega, by omega⟩
      rcases (show r2 = 0 ∨ r2 = 1 from by omega) with c | c <;> subst c <;> simp [rd]
  | succ d ih =>
    intro k l t p hd hk hl hD ht ht' hp hp'
    obtain ⟨k, rfl⟩ : ∃ m, k = m + 1 := ⟨k - 1, by omega⟩
    simp only [spec_l20Customers.l0]
    rw [if_pos (by omega)]
    obtain ⟨r1, e1, h0, h1, _⟩ := pick_e hb (p := p) (n := high) (by omega) (by omega) (k := k) (by omega)
    rw [e1]
    simp only [bs]
    rw [if_pos (by omega), wr (x := w + 1) (by omega) (by omega)]
    obtain ⟨r2, e2, g0, g1, _⟩ := pick_e hb (p := p + 1) (n := w + 1) (by omega) (by omega) (k := k) (by omega)
    rw [e2]
    simp only [bs]
    rw [wr (x := 1 + r1) (by omega) (by omega), wr (x := t + r2) (by omega) (by omega), wr (x := ((d + 1 : Nat) : Int) - 1) (by omega) (by omega), show ((d + 1 : Nat) : Int) - 1 = (d : Int) from by omega]
    obtain ⟨r, q, e, hr, hq, hq'⟩ := ih k (l ++ [(⟨t, 1 + r1⟩ : S43)]) (t + r2) (p + 1 + 1) (by omega) (by omega) (by simp; omega) (Drawn.snoc hD (by omega) (by omega) (by omega)) (by omega) (by omega) (by omega) (by omega)
    exact ⟨r, q, e, hr, by omega, by omega⟩
theorem l20Customers_e {b : List Int} (hb : Src b) {n p : Int} (hn0 : 0 ≤ n) (hn : n ≤ 1000000) (hp : 0 ≤ p ∧ p ≤ 100000) {k : Nat} (hk : 20 < k) : ∃ r q, spec_l20Customers.f k b p n = some (r, q) ∧ Drawn r ∧ p ≤ q ∧ q ≤ p + 100 := by
  unfold spec_l20Customers.f
  obtain ⟨r1, e1, a0, a1, _⟩ := pick_e hb (p := p) (n := 3) (by omega) (by omega) (k := k) (by omega)
  obtain ⟨r2, e2, b0, b1, _⟩ := pick_e hb (p := p + 1) (n := 5) (by omega) (by omega) (k := k) (by omega)
  obtain ⟨r3, e3, c0, c1, _⟩ := pick_e hb (p := p + 1 + 1) (n := 2) (by omega) (by omega) (k := k) (by omega)
  obtain ⟨r4, e4, d0, d1, _⟩ := pick_e hb (p := p + 1 + 1 + 1) (n := 9) (by omega) (by omega) (k := k) (by omega)
  rw [e1]; simp only [bs]
  rw [e2]; simp only [bs]
  rw [e3]; simp only [bs]
  rw [if_pos c0, if_pos (by simp; omega), e4]
  simp only [bs]
  rw [wr (x := 1 + r2) (by omega) (by omega)]
  have hh : 3 ≤ rd [3, 9] r3 ∧ rd [3, 9] r3 ≤ 9 := by
    rcases (show r3 = 0 ∨ r3 = 1 from by omega) with c | c <;> subst c <;> simp [rd]
  obtain ⟨d, rfl⟩ := Int.eq_ofNat_of_zero_le d0
  obtain ⟨r, q, e, hr, hq, hq'⟩ := l20Customers_l hb hn0 hn (w := 1 + r2) (high := rd [3, 9] r3) (by omega) hh d k [] r1 (p + 1 + 1 + 1 + 1) (by omega) (by omega) (by simp; omega) Drawn.nil (by omega) (by omega) (by omega) (by omega)
  exact ⟨r, q, e, hr, by omega, by omega⟩

theorem spec_DrawOrderBy_e (l : List Int) (h : ∀ x ∈ l, (Lit.int .u8 x).wf = true) {k : Nat} (hk : 20 < k) : ∃ r t, spec_DrawOrderBy.f k l = some (r, t) ∧ Drawn r := by
  obtain ⟨b, e, hb⟩ := l20Open_e l h
  unfold spec_DrawOrderBy.f
  obtain ⟨r, q, e0, hr, hq, hq'⟩ := l20Customers_e hb (n := 12) (p := 0) (by omega) (by omega) (by omega) hk
  obtain ⟨r1, e1, a0, a1, _⟩ := pick_e hb (p := q) (n := 4) (by omega) (by omega) (k := k) (by omega)
  obtain ⟨r2, e2, b0, b1, _⟩ := pick_e hb (p := q + 1) (n := 20) (by omega) (by omega) (k := k) (by omega)
  obtain ⟨r3, e3, c0, c1, _⟩ := pick_e hb (p := q + 1 + 1) (n := 30) (by omega) (by omega) (k := k) (by omega)
  rw [e]; simp only [bs]
  rw [e0]; simp only [bs]
  rw [e1]; simp only [bs]
  rw [e2]; simp only [bs]
  rw [e3]; simp only [bs]
  exact ⟨_, _, rfl, hr⟩

-- MATH A
theorem impl_WaitsOf_l {l : List S43} (h : ok l) : ∀ (d k i : Nat), i + d = l.length → d < k → impl_WaitsOf.l0 k l (tab (wt (cm l) (nd l)) i) l (l.length : Int) (i : Int) = some (tab (wt (cm l) (nd l)) l.length) := by
  intro d
  induction d with
  | zero =>
    intro k i hi hk
    obtain ⟨k, rfl⟩ : ∃ m, k = m + 1 := ⟨k - 1, by omega⟩
    simp only [impl_WaitsOf.l0]
    rw [if_neg (by omega), show i = l.length from by omega]
  | succ d ih =>
    intro k i hi hk
    obtain ⟨k, rfl⟩ : ∃ m, k = m + 1 := ⟨k - 1, by omega⟩
    have hl := h.len
    simp only [impl_WaitsOf.l0]
    rw [if_pos (by omega), if_pos (by omega), if_pos (by omega), tab_length, st (n := l.length) (by omega) (by omega), if_pos (show i < 17592186044416 from by omega)]
    cases i with
    | zero =>
      rw [if_neg (by omega)]
      exact ih k 1 (by omega) (by omega)
    | succ i =>
      have h1 := h.come (i := i) (by omega)
      have h2 := h.come (i := i + 1) (by omega)
      have h3 := h.need (i := i) (by omega)
      have h4 := wt_rng h i (by omega)
      have h5 := h.sum0 (j := i) (by omega)
      rw [if_pos (by omega), pd (by omega) (by omega), if_pos (by omega), if_pos (by omega), if_pos (by omega), show i + 1 - 1 = i from by omega, tab_rd _ (by omega), cm_eq, cm_eq, nd_eq]
      rw [wr (x := wt (cm l) (nd l) i + nd l i) (by omega) (by omega), wr (x := cm l (i + 1) - cm l i) (by omega) (by omega), wr (by omega) (by omega), ← wt_succ, ← tab_snoc]
      exact ih k (i + 2) (by omega) (by omega)
theorem impl_WaitsOf_t {l : List S43} (h : ok l) {k : Nat} (hk : l.length < k) : impl_WaitsOf.f k l = some (tab (wt (cm l) (nd l)) l.length) := by
  unfold impl_WaitsOf.f
  rw [impl_CustomersOk_t h hk]
  simp only [bs, if_true]
  exact impl_WaitsOf_l h l.length k 0 (by omega) hk
theorem impl_WaitsOf_n {l : List S43} (hl : l.length ≤ 9000000000000000000) (h : ¬ ok l) {k : Nat} (hk : l.length < k) : impl_WaitsOf.f k l = some [] := by
  unfold impl_WaitsOf.f
  rw [impl_CustomersOk_n hl h hk]
  simp

theorem impl_LeavesOf_l {l : List S43} (h : ok l) : ∀ (d k i : Nat), i + d = l.length → d < k → impl_LeavesOf.l0 k (tab (fun j => if j < i then LL (cm l) (nd l) (j + 1) else wt (cm l) (nd l) j) l.length) l (l.length : Int) (i : Int) = some (tab (fun j => LL (cm l) (nd l) (j + 1)) l.length) := by
  intro d
  induction d with
  | zero =>
    intro k i hi hk
    obtain ⟨k, rfl⟩ : ∃ m, k = m + 1 := ⟨k - 1, by omega⟩
    simp only [impl_LeavesOf.l0]
    rw [if_neg (by omega)]
    congr 1
    exact tab_congr (fun j hj => by rw [if_pos (by omega)])
  | succ d ih =>
    intro k i hi hk
    obtain ⟨k, rfl⟩ : ∃ m, k = m + 1 := ⟨k - 1, by omega⟩
    have hl := h.len
    have h1 := h.come (i := i) (by omega)
    have h3 := h.need (i := i) (by omega)
    have h4 := wt_rng h i (by omega)
    have h5 := h.sum0 (j := i) (by omega)
    have h6 := wt_LL h i (by omega)
    simp only [impl_LeavesOf.l0]
    rw [if_pos (by omega), if_pos (by omega), if_pos (by omega), tab_length, if_pos (by omega), st (n := l.length) (by omega) (by omega), tab_rd _ (by omega), cm_eq, nd_eq, if_neg (by omega), wr (x := cm l i + nd l i) (by omega) (by omega), wr (by omega) (by omega), Int.toNat_natCast, tab_set]
    rw [tab_congr (g := fun j => if j < i + 1 then LL (cm l) (nd l) (j + 1) else wt (cm l) (nd l) j) (fun j hj => by
      by_cases e : j = i
      · subst e; rw [if_pos rfl, if_pos (by omega)]; omega
      · rw [if_neg e]
        by_cases e2 : j < i
        · rw [if_pos e2, if_pos (by omega)]
        · rw [if_neg e2, if_neg (by omega)])]
    exact ih k (i + 1) (by omega) (by omega)
theorem impl_LeavesOf_t {l : List S43} (h : ok l) {k : Nat} (hk : l.length < k) : impl_LeavesOf.f k l = some (tab (fun j => LL (cm l) (nd l) (j + 1)) l.length) := by
  unfold impl_LeavesOf.f
  rw [impl_CustomersOk_t h hk]
  simp only [bs, if_true]
  rw [impl_WaitsOf_t h hk]
  simp only [bs]
  rw [tab_congr (g := fun j => if j < 0 then LL (cm l) (nd l) (j + 1) else wt (cm l) (nd l) j) (fun j _ => by rw [if_neg (by omega)])]
  exact impl_LeavesOf_l h l.length k 0 (by omega) hk
theorem impl_LeavesOf_n {l : List S43} (hl : l.length ≤ 9000000000000000000) (h : ¬ ok l) {k : Nat} (hk : l.length < k) : impl_LeavesOf.f k l = some [] := by
  unfold impl_LeavesOf.f
  rw [impl_CustomersOk_n hl h hk]
  simp

-- PRE order0
-- MATH R
theorem ord_cut {C N : Nat → Int} {n : Nat} {O O' : Nat → Int} {T : Nat} (h : Ord C N n O T) (hO : ∀ t, t < T → O' t = O t) : Ord C N n O' T :=
  ⟨h.cust, h.units, fun t ht => by rw [hO t ht]; exact h.who t ht, fun i hi => by rw [cnt_congr i T hO]; exact h.need i hi⟩
/-- What a rule tells is an order of these customers. -/
theorem ordok_ob {l : List S43} (h : ok l) (rule : Int) {T : Nat} (hT : (T : Int) = LL (cm l) (nd l) l.length) : ordok l (tab (ob (cm l) (nd l) l.length rule) T) := by
  have h1 := ob_ord h rule hT
  show Ord (cm l) (nd l) l.length (od (tab (ob (cm l) (nd l) l.length rule) T)) (tab (ob (cm l) (nd l) l.length rule) T).length
  rw [tab_length]
  exact ord_cut h1 (fun t ht => tab_rd _ ht)

end FnOrderByX
open FnOrderByX
-- PRE ordob
theorem FnOrderBy_l {l : List S43} (h : ok l) (rule : Int) {T : Nat} (hT : (T : Int) = LL (cm l) (nd l) l.length) : ∀ (d k t : Nat), t + d = T → d + 700 < k →
    laws_FnOrderBy.l0 k l (tab (ob (cm l) (nd l) l.length rule) T) (tab (ob (cm l) (nd l) l.length 0) T) (t : Int) = some true := by
  intro d
  have hl := h.len
  have hl2 := LL_top h
  induction d with
  | zero =>
    intro k t ht hk
    obtain ⟨k, rfl⟩ : ∃ m, k = m + 1 := ⟨k - 1, by omega⟩
    simp only [laws_FnOrderBy.l0]
    rw [tab_length, if_neg (by omega), impl_EndsOf_t (ordok_ob h 0 hT) (by omega), bs, impl_LeavesOf_t h (by omega), bs, tab_length]
    rw [tab_congr (f := fun i => lst (od (tab (ob (cm l) (nd l) l.length 0) T)) i T) (g := fun j => LL (cm l) (nd l) (j + 1)) (fun i hi => by
      rw [lst_congr (O := od (tab (ob (cm l) (nd l) l.length 0) T)) (O' := ob (cm l) (nd l) l.length 0) i T (fun s hs => tab_rd _ hs)]
      exact lst_first h (by omega) hi)]
    rw [laws_sameInts_e _ (by rw [tab_length]; omega) (by rw [tab_length]; omega), bs, if_pos rfl, laws_alive_e (by omega), bs]
  | succ d ih =>
    intro k t ht hk
    obtain ⟨k, rfl⟩ : ∃ m, k = m + 1 := ⟨k - 1, by omega⟩
    have b1 := ob_busy h rule t
    have b2 := ob_busy h 0 t
    simp only [laws_FnOrderBy.l0]
    rw [tab_length, tab_length, if_pos (by omega), if_pos (by omega), if_pos (by omega), tab_rd _ (show t < T from by omega), tab_rd _ (show t < T from by omega), st (n := T) (by omega) (by omega)]
    rw [show decide (ob (cm l) (nd l) l.length rule t ≥ 0) = decide (ob (cm l) (nd l) l.length 0 t ≥ 0) from by
      rw [decide_eq_decide]; exact b1.trans b2.symm, bne_self_eq_false, if_neg (by simp)]
    exact ih k (t + 1) (by omega) (by omega)
theorem FnOrderBy : laws_FnOrderBy.Pure := by
  intro l0 hm hs hw
  refine ⟨6000, ?_⟩
  unfold laws_FnOrderBy.f
  by_cases hg : (l0.length : Int) > 1048576
  · rw [if_pos hg]
  rw [if_neg hg]
  obtain ⟨l, r, e, hD⟩ := spec_DrawOrderBy_e l0 hw (k := 6000) (by omega)
  rw [e]
  have hlen := hD.len
  simp only [bs]
  by_cases h : ok l ∧ 0 ≤ r ∧ r ≤ 3
  · have hl := h.1.len
    have ht := LL_top h.1
    obtain ⟨T, hT⟩ := Int.eq_ofNat_of_zero_le ht.1
    rw [impl_OrderBy_t h.1 h.2 hT.symm (by omega), spec_OrderBy_t h.1 h.2 hT.symm (by omega)]
    simp only [bs]
    rw [laws_sameInts_e _ (by rw [tab_length]; omega) (by rw [tab_length]; omega), bs, if_pos rfl, tab_length]
    by_cases hz : (T : Int) = 0
    · rw [if_pos hz, laws_alive_e (by omega), bs]
    · rw [if_neg hz, impl_OrderBy_t h.1 (rule := 0) (by omega) hT.symm (by omega), bs, tab_length, if_pos rfl]
      exact FnOrderBy_l h.1 r hT.symm T 6000 0 (by omega) (by omega)
  · rw [impl_OrderBy_n (by omega) h (by omega), spec_OrderBy_n (by omega) h (by omega)]
    simp only [bs]
    rw [laws_sameInts_e _ (by simp) (by simp), bs, if_pos rfl, if_pos (by simp), laws_alive_e (by omega), bs]

end Go.Proofs.Ytkkfobdoliimiaa.Pure
