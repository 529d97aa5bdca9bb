/- The pure statement of the law FnExactOrderBy: about numbers and lists alone, over the functions that print.sh has written. No conditions beyond those typed. -/
import Derived.Test.YtkkfobdoliimiaaPFnExactOrderByx7
import Derived.Test.YtkkfobdoliimiaaMath0
import Derived.Test.YtkkfobdoliimiaaMathA
import Derived.Test.YtkkfobdoliimiaaMathW
namespace Go.Proofs.Ytkkfobdoliimiaa.Pure
open Go.RowKit Go.Proofs.Ytkkfobdoliimiaa.PFnExactOrderBy Go.Proofs.YtkkfobdoliimiaaW.PrintWords Go.Proofs.YtkkfobdoliimiaaW.PrintLast Go.Proofs.YtkkfobdoliimiaaW.PrintMore Go.Proofs.Ytkkfobdoliimiaa.Math
set_option linter.unusedVariables false
set_option linter.unusedSimpArgs false
namespace FnExactOrderByX
/-- When the customer at place i comes, what this one needs. -/
def cm (l : List S43) (i : Nat) : Int := (rd_T43 l (i : Int)).f0
def nd (l : List S43) (i : Nat) : Int := (rd_T43 l (i : Int)).f1
theorem cm_eq (l : List S43) (i : Nat) : (rd_T43 l (i : Int)).f0 = cm l i := rfl
theorem nd_eq (l : List S43) (i : Nat) : (rd_T43 l (i : Int)).f1 = nd l i := rfl
theorem cm_eq0 (l : List S43) : (rd_T43 l 0).f0 = cm l 0 := rfl
theorem nd_eq0 (l : List S43) : (rd_T43 l 0).f1 = nd l 0 := rfl
theorem rd_get (l : List S43) (i : Nat) (h : i < l.length) : rd_T43 l (i : Int) = l[i] := by simp [rd_T43, h]
theorem rd_take (l : List S43) (m i : Nat) (h : i < m) : rd_T43 (l.take m) (i : Int) = rd_T43 l (i : Int) := by simp [rd_T43, List.getElem?_take, h]
theorem rd_drop (l : List S43) (m i : Nat) : rd_T43 (l.drop m) (i : Int) = rd_T43 l ((i + m : Nat) : Int) := by
  unfold rd_T43
  rw [List.getD_eq_getElem?_getD, List.getD_eq_getElem?_getD, List.getElem?_drop, Int.toNat_natCast, Int.toNat_natCast, Nat.add_comm]
theorem cm_take (l : List S43) (m i : Nat) (h : i < m) : cm (l.take m) i = cm l i := by unfold cm; rw [rd_take l m i h]
theorem nd_take (l : List S43) (m i : Nat) (h : i < m) : nd (l.take m) i = nd l i := by unfold nd; rw [rd_take l m i h]
theorem cm_drop (l : List S43) (m i : Nat) : cm (l.drop m) i = cm l (i + m) := by unfold cm; rw [rd_drop l m i]
theorem nd_drop (l : List S43) (m i : Nat) : nd (l.drop m) i = nd l (i + m) := by unfold nd; rw [rd_drop l m i]
/-- These are customers. -/
def ok (l : List S43) : Prop := OK (cm l) (nd l) l.length
theorem ok_take {l : List S43} (h : ok l) (m : Nat) (hm : m ≤ l.length) : ok (l.take m) := by
  have e : (l.take m).length = m := by rw [List.length_take]; omega
  unfold ok
  rw [e]
  exact OK.congr (fun i hi => (cm_take l m i hi).symm) (fun i hi => (nd_take l m i hi).symm) (OK.pre h hm)
theorem sm_take (l : List S43) (m j : Nat) (hj : j ≤ m) : sm (nd (l.take m)) j = sm (nd l) j := sm_congr (fun i hi => nd_take l m i (by omega))
theorem sm_drop (l : List S43) (m j : Nat) : sm (nd (l.drop m)) j = sm (nd l) (j + m) - sm (nd l) m := by
  rw [← sm_shift]
  exact sm_congr (fun i _ => nd_drop l m i)
theorem st {i : Nat} {n : Nat} (h : i < n) (hn : n ≤ 9000000000000000000) : wrap64 ((i : Int) + 1) = ((i + 1 : Nat) : Int) := by rw [wr (by omega) (by omega)]; simp
theorem pd {i : Nat} (h0 : 0 < i) (hn : i ≤ 9000000000000000000) : wrap64 ((i : Int) - 1) = ((i - 1 : Nat) : Int) := by rw [wr (by omega) (by omega)]; omega
theorem ext_list {a b : List S43} (hl : a.length = b.length) (h : ∀ i : Nat, i < a.length → cm a i = cm b i ∧ nd a i = nd b i) : a = b := by
  apply List.ext_getElem hl
  intro i h1 h2
  obtain ⟨e1, e2⟩ := h i h1
  unfold cm at e1
  unfold nd at e2
  rw [rd_get a i h1, rd_get b i h2] at e1 e2
  cases ha : a[i] with | mk x y =>
  cases hb : b[i] with | mk x' y' =>
  rw [ha, hb] at e1 e2
  simp only at e1 e2
  rw [e1, e2]
/-- The bytes that are drawn from. -/
structure Src (b : List Int) : Prop where
  byte : ∀ x ∈ b, 0 ≤ x ∧ x ≤ 255
  len : b.length ≤ 2000
theorem split_w (x : Int) : x < 0 ∨ ∃ w : Nat, x = (w : Int) := by
  by_cases h : x < 0
  · exact Or.inl h
  · exact Or.inr ⟨x.toNat, by omega⟩

/-- Customers of the law, as the program's. -/
def cv (l : List S54) : List S43 := l.map fun x => ⟨x.f0, x.f1⟩
theorem cv_length (l : List S54) : (cv l).length = l.length := List.length_map ..
theorem laws_szCustomerS_e (l : List S54) (hl : l.length ≤ 9223372036854775807) : laws_szCustomerS.f l 1048576 = some (if l.length ≤ 1048576 then 1048576 - (l.length : Int) else -1) := by
  unfold laws_szCustomerS.f
  rw [wr (by omega) (by omega)]
  by_cases h : l.length ≤ 1048576
  · rw [if_neg (by omega), if_pos h]
  · rw [if_pos (by omega), if_neg h]
theorem laws_toCustomerS_l (l : List S54) (hl : l.length ≤ 1048576) : ∀ (d k i : Nat) (o : List S43), i + d = l.length → d < k → o.length = l.length →
    (∀ j : Nat, j < i → o[j]? = (cv l)[j]?) → laws_toCustomerS.l0 k l o (i : Int) = some (cv l) := by
  intro d
  induction d with
  | zero =>
    intro k i o hi hk ho h
    obtain ⟨k, rfl⟩ : ∃ m, k = m + 1 := ⟨k - 1, by omega⟩
    simp only [laws_toCustomerS.l0]
    rw [if_neg (by omega)]
    congr 1
    apply List.ext_getElem?
    intro j
    by_cases hj : j < i
    · exact h j hj
    · rw [List.getElem?_eq_none (by omega), List.getElem?_eq_none (by rw [cv_length]; omega)]
  | succ d ih =>
    intro k i o hi hk ho h
    obtain ⟨k, rfl⟩ : ∃ m, k = m + 1 := ⟨k - 1, by omega⟩
    simp only [laws_toCustomerS.l0, laws_toCustomer.f, bs]
    rw [if_pos (by omega), if_pos (by omega), if_pos (by omega), st (n := l.length) (by omega) (by omega)]
    refine ih k (i + 1) _ (by omega) (by omega) (by rw [List.length_set]; exact ho) (fun j hj => ?_)
    rw [Int.toNat_natCast]
    by_cases e : j = i
    · subst e
      rw [List.getElem?_set_self (by omega)]
      unfold cv
      rw [List.getElem?_map, List.getElem?_eq_getElem (by omega)]
      simp [rd_T54, show j < l.length from by omega]
    · rw [List.getElem?_set_ne (Ne.symm e)]
      exact h j (by omega)
theorem laws_toCustomerS_e (l : List S54) (hl : l.length ≤ 1048576) {k : Nat} (hk : l.length < k) : laws_toCustomerS.f k l = some (cv l) := by
  unfold laws_toCustomerS.f
  rw [if_pos (by omega), Int.toNat_natCast, if_pos (by omega)]
  exact laws_toCustomerS_l l hl l.length k 0 _ (by omega) hk (by simp) (fun j hj => absurd hj (by omega))
theorem laws_eqCustomerS_l (a : List S43) (ha : a.length ≤ 1048576) : ∀ (d k i : Nat), i + d = a.length → d < k → laws_eqCustomerS.l0 k a a (i : Int) = some true := by
  intro d
  induction d with
  | zero =>
    intro k i hi hk
    obtain ⟨k, rfl⟩ : ∃ m, k = m + 1 := ⟨k - 1, by omega⟩
    simp only [laws_eqCustomerS.l0]
    rw [if_neg (by omega)]
  | succ d ih =>
    intro k i hi hk
    obtain ⟨k, rfl⟩ : ∃ m, k = m + 1 := ⟨k - 1, by omega⟩
    simp only [laws_eqCustomerS.l0, laws_eqCustomer.f]
    rw [if_pos (by omega), if_pos (by omega), if_pos (by omega), st (n := a.length) (by omega) (by omega)]
    simp only [bs, if_true]
    exact ih k (i + 1) (by omega) (by omega)
theorem laws_eqCustomerS_e (a : List S43) (ha : a.length ≤ 1048576) {k : Nat} (hk : a.length < k) : laws_eqCustomerS.f k a a = some true := by
  unfold laws_eqCustomerS.f
  rw [if_pos rfl]
  exact laws_eqCustomerS_l a ha a.length k 0 (by omega) hk

theorem impl_CustomersOk_l (l : List S43) (hl : l.length ≤ 9000000000000000000) : ∀ (d k i : Nat), i + d = l.length → d < k →
    ∃ b, impl_CustomersOk.l0 k l l (l.length : Int) (i : Int) = some b ∧ (b = true ↔ l.length ≤ 8 ∧ ∀ j, i ≤ j → j < l.length → okAt (cm l) (nd l) j) := by
  intro d
  induction d with
  | zero =>
    intro k i hi hk
    obtain ⟨k, rfl⟩ : ∃ m, k = m + 1 := ⟨k - 1, by omega⟩
    simp only [impl_CustomersOk.l0]
    rw [if_neg (by omega)]
    exact ⟨_, rfl, by rw [decide_eq_true_iff]; exact ⟨fun h => ⟨by omega, fun j h1 h2 => absurd h1 (by omega)⟩, fun h => by have := h.1; omega⟩⟩
  | succ d ih =>
    intro k i hi hk
    obtain ⟨k, rfl⟩ : ∃ m, k = m + 1 := ⟨k - 1, by omega⟩
    obtain ⟨b, hb, hbt⟩ := ih k (i + 1) (by omega) (by omega)
    have no : (¬ okAt (cm l) (nd l) i) → (∃ b, some false = some b ∧ (b = true ↔ l.length ≤ 8 ∧ ∀ j, i ≤ j → j < l.length → okAt (cm l) (nd l) j)) := fun h => ⟨false, rfl, ⟨fun h0 => (by cases h0), fun h0 => absurd (h0.2 i (by omega) (by omega)) h⟩⟩
    have yes : okAt (cm l) (nd l) i → (∃ b, impl_CustomersOk.l0 k l l (l.length : Int) ((i + 1 : Nat) : Int) = some b ∧ (b = true ↔ l.length ≤ 8 ∧ ∀ j, i ≤ j → j < l.length → okAt (cm l) (nd l) j)) := fun h => by
      refine ⟨b, hb, hbt.trans ⟨fun h0 => ⟨h0.1, fun j h1 h2 => ?_⟩, fun h0 => ⟨h0.1, fun j h1 h2 => h0.2 j (by omega) h2⟩⟩⟩
      by_cases e : j = i
      · subst e; exact h
      · exact h0.2 j (by omega) h2
    simp only [impl_CustomersOk.l0]
    rw [if_pos (by omega), if_pos (by omega), if_pos (by omega), st (n := l.length) (by omega) hl]
    rw [cm_eq l i, nd_eq l i]
    by_cases h1 : cm l i < 0
    · rw [if_pos h1]; exact no (fun h => by have := h.1; omega)
    rw [if_neg h1]
    by_cases h2 : cm l i > 60
    · rw [if_pos h2]; exact no (fun h => by have := h.2.1; omega)
    rw [if_neg h2]
    by_cases h0 : i = 0
    · subst h0
      rw [if_neg (by simp)]
      by_cases h3 : nd l 0 < 1
      · rw [if_pos h3]; exact no (fun h => by have := h.2.2.1; omega)
      rw [if_neg h3]
      by_cases h4 : nd l 0 > 9
      · rw [if_pos h4]; exact no (fun h => by have := h.2.2.2.1; omega)
      rw [if_neg h4]
      exact yes ⟨by omega, by omega, by omega, by omega, fun h => by omega⟩
    · rw [if_pos (by omega), pd (by omega) (by omega), if_pos (by omega), if_pos (by omega)]
      rw [cm_eq l (i - 1)]
      by_cases h5 : cm l i < cm l (i - 1)
      · rw [if_pos h5]; exact no (fun h => by have := h.2.2.2.2 (by omega); omega)
      rw [if_neg h5]
      by_cases h3 : nd l i < 1
      · rw [if_pos h3]; exact no (fun h => by have := h.2.2.1; omega)
      rw [if_neg h3]
      by_cases h4 : nd l i > 9
      · rw [if_pos h4]; exact no (fun h => by have := h.2.2.2.1; omega)
      rw [if_neg h4]
      exact yes ⟨by omega, by omega, by omega, by omega, fun h => by omega⟩
theorem impl_CustomersOk_e (l : List S43) (hl : l.length ≤ 9000000000000000000) {k : Nat} (hk : l.length < k) : ∃ b, impl_CustomersOk.f k l = some b ∧ (b = true ↔ ok l) := by
  obtain ⟨b, h1, h2⟩ := impl_CustomersOk_l l hl l.length k 0 (by omega) hk
  exact ⟨b, h1, h2.trans ⟨fun h => ⟨h.1, fun i hi => h.2 i (Nat.zero_le _) hi⟩, fun h => ⟨h.1, fun i _ hi => h.2 i hi⟩⟩⟩
theorem impl_CustomersOk_t {l : List S43} (h : ok l) {k : Nat} (hk : l.length < k) : impl_CustomersOk.f k l = some true := by
  obtain ⟨b, h1, h2⟩ := impl_CustomersOk_e l (by have := h.1; omega) hk
  rw [h1, h2.2 h]
theorem impl_CustomersOk_n {l : List S43} (hl : l.length ≤ 9000000000000000000) (h : ¬ ok l) {k : Nat} (hk : l.length < k) : impl_CustomersOk.f k l = some false := by
  obtain ⟨b, h1, h2⟩ := impl_CustomersOk_e l hl hk
  rw [h1]
  cases b with
  | true => exact absurd (h2.1 rfl) h
  | false => rfl

theorem impl_leftOf_l {l : List S43} (hl : l.length ≤ 1048576) : ∀ (d k i : Nat), i + d = l.length → d < k → impl_leftOf.l0 k (tab (nd l) i) l (l.length : Int) (i : Int) = some (tab (nd l) l.length) := by
  intro d
  induction d with
  | zero =>
    intro k i hi hk
    obtain ⟨k, rfl⟩ : ∃ m, k = m + 1 := ⟨k - 1, by omega⟩
    simp only [impl_leftOf.l0]
    rw [if_neg (by omega), show i = l.length from by omega]
  | succ d ih =>
    intro k i hi hk
    obtain ⟨k, rfl⟩ : ∃ m, k = m + 1 := ⟨k - 1, by omega⟩
    simp only [impl_leftOf.l0]
    rw [if_pos (by omega), if_pos (by omega), if_pos (by omega), tab_length, if_pos (by omega), nd_eq, st (n := l.length) (by omega) (by omega), ← tab_snoc]
    exact ih k (i + 1) (by omega) (by omega)
theorem impl_leftOf_e {l : List S43} (hl : l.length ≤ 1048576) {k : Nat} (hk : l.length < k) : impl_leftOf.f k l = some (tab (nd l) l.length) :=
  impl_leftOf_l hl l.length k 0 (by omega) hk

theorem impl_needOf_l {l : List S43} (hn : l.length ≤ 8) (hb : ∀ i, i < l.length → 1 ≤ nd l i ∧ nd l i ≤ 9) : ∀ (d k i : Nat), i + d = l.length → d < k → impl_needOf.l0 k (sm (nd l) i) l (l.length : Int) (i : Int) = some (sm (nd l) l.length) := by
  intro d
  induction d with
  | zero =>
    intro k i hi hk
    obtain ⟨k, rfl⟩ : ∃ m, k = m + 1 := ⟨k - 1, by omega⟩
    simp only [impl_needOf.l0]
    rw [if_neg (by omega), show i = l.length from by omega]
  | succ d ih =>
    intro k i hi hk
    obtain ⟨k, rfl⟩ : ∃ m, k = m + 1 := ⟨k - 1, by omega⟩
    have h1 := sm_range (f := nd l) (n := l.length) hb i 0 (by omega)
    have h2 := hb i (by omega)
    rw [Nat.zero_add, sm_zero] at h1
    simp only [impl_needOf.l0]
    rw [if_pos (by omega), if_pos (by omega), if_pos (by omega), st (n := l.length) (by omega) (by omega), nd_eq, wr (by omega) (by omega), ← sm_succ]
    exact ih k (i + 1) (by omega) (by omega)
theorem impl_needOf_b {l : List S43} (hn : l.length ≤ 8) (hb : ∀ i, i < l.length → 1 ≤ nd l i ∧ nd l i ≤ 9) {k : Nat} (hk : l.length < k) : impl_needOf.f k l = some (sm (nd l) l.length) :=
  impl_needOf_l hn hb l.length k 0 (by omega) hk
theorem impl_needOf_e {l : List S43} (h : ok l) {k : Nat} (hk : l.length < k) : impl_needOf.f k l = some (sm (nd l) l.length) :=
  impl_needOf_b h.len (fun i hi => h.need hi) hk
theorem impl_needOf_take {l : List S43} (h : ok l) {m : Nat} (hm : m ≤ l.length) {k : Nat} (hk : l.length < k) : impl_needOf.f k (l.take m) = some (sm (nd l) m) := by
  have e : (l.take m).length = m := by rw [List.length_take]; omega
  rw [impl_needOf_e (ok_take h m hm) (by omega), e, sm_take l m m (Nat.le_refl _)]
theorem impl_needOf_drop {l : List S43} (h : ok l) {m : Nat} (hm : m ≤ l.length) {k : Nat} (hk : l.length < k) : impl_needOf.f k (l.drop m) = some (sm (nd l) l.length - sm (nd l) m) := by
  have e : (l.drop m).length = l.length - m := List.length_drop ..
  rw [impl_needOf_b (by have := h.len; omega) (fun i hi => by rw [nd_drop]; exact h.need (by omega)) (by omega), sm_drop, e, show l.length - m + m = l.length from by omega]
theorem impl_needOf_part {l : List S43} (h : ok l) {i m : Nat} (hi : i ≤ m) (hm : m ≤ l.length) {k : Nat} (hk : l.length < k) : impl_needOf.f k ((l.take m).drop i) = some (sm (nd l) m - sm (nd l) i) := by
  have e : (l.take m).length = m := by rw [List.length_take]; omega
  rw [impl_needOf_drop (ok_take h m hm) (by omega) (by omega), e, sm_take l m m (Nat.le_refl _), sm_take l m i hi]

-- MATH A
theorem impl_lastLeave_l {l : List S43} (h : ok l) : ∀ (d k i : Nat), i + d = l.length → d + 10 < k →
    impl_lastLeave.l0 k l (mxs (fun j => cm l j + (sm (nd l) l.length - sm (nd l) j)) i) l (l.length : Int) (i : Int) = some (mxs (fun j => cm l j + (sm (nd l) l.length - sm (nd l) j)) l.length) := by
  intro d
  induction d with
  | zero =>
    intro k i hi hk
    obtain ⟨k, rfl⟩ : ∃ m, k = m + 1 := ⟨k - 1, by omega⟩
    simp only [impl_lastLeave.l0]
    rw [if_neg (by omega), show i = l.length from by omega]
  | succ d ih =>
    intro k i hi hk
    obtain ⟨k, rfl⟩ : ∃ m, k = m + 1 := ⟨k - 1, by omega⟩
    have hl := h.len
    have h1 := h.sum (i := i) (j := l.length) (by omega) (by omega)
    have h5 := h.come (i := i) (by omega)
    simp only [impl_lastLeave.l0]
    rw [if_pos (by omega), if_pos (by omega), if_pos (by omega), if_pos (by omega), Int.toNat_natCast, impl_needOf_drop h (by omega) (by omega)]
    simp only [bs]
    rw [cm_eq, st (n := l.length) (by omega) (by omega), wr (by omega) (by omega), ← mxs_succ (fun j => cm l j + (sm (nd l) l.length - sm (nd l) j)) i]
    exact ih k (i + 1) (by omega) (by omega)
theorem impl_lastLeave_e {l : List S43} (h : ok l) {k : Nat} (hk : l.length + 20 < k) : impl_lastLeave.f k l = some (LL (cm l) (nd l) l.length) := by
  unfold impl_lastLeave.f
  have := impl_lastLeave_l h l.length k 0 (by omega) (by omega)
  rw [mxs_zero, LL_sums h l.length (Nat.le_refl _)] at this
  exact this

-- MATH W
theorem impl_OrderBy_p {l : List S43} (hl : l.length ≤ 8) (L : Nat → Int) (rule : Int) (out : List Int) (T t : Int) : ∀ (d k i : Nat), i + d = l.length → 2 * d < k →
    impl_OrderBy.l1 k l rule (tab L l.length) out t (pk (cm l) L t rule i) T t l (l.length : Int) (i : Int) = impl_OrderBy.l1 (k - 2 * d) l rule (tab L l.length) out t (pk (cm l) L t rule l.length) T t l (l.length : Int) (l.length : Int) := by
  intro d
  induction d with
  | zero =>
    intro k i hi hk
    rw [show i = l.length from by omega]
    rfl
  | succ d ih =>
    intro k i hi hk
    obtain ⟨k, rfl⟩ : ∃ m, k = m + 1 + 1 := ⟨k - 2, by omega⟩
    have e := ih k (i + 1) (by omega) (by omega)
    have hp := pk_succ (cm l) L t rule i
    obtain ⟨r1, r2⟩ := pk_rng (cm l) L t rule i
    rw [show k + 1 + 1 - 2 * (d + 1) = k - 2 * d from by omega, ← e]
    simp only [impl_OrderBy.l1, impl_OrderBy.j3]
    rw [if_pos (by omega), if_pos (by omega), if_pos (by omega), cm_eq, st (n := l.length) (by omega) (by omega), tab_length, tab_rd L (show i < l.length from by omega)]
    by_cases c1 : cm l i > t
    · rw [if_pos (Or.inl (by omega))] at hp
      rw [if_pos c1, if_pos (by first | rfl | trivial), hp]
    rw [if_neg c1, if_pos (show (i : Int) < (l.length : Int) from by omega)]
    by_cases c2 : L i = 0
    · rw [if_pos (Or.inr c2)] at hp
      rw [show (L i == 0) = true from by rw [beq_iff_eq]; exact c2, if_pos (by first | rfl | trivial), hp]
    rw [if_neg (by omega)] at hp
    rw [show (L i == 0) = false from by rw [beq_eq_false_iff_ne]; exact c2, if_neg (by simp)]
    by_cases c3 : pk (cm l) L t rule i < 0
    · rw [if_pos (Or.inl c3)] at hp
      rw [if_pos c3, hp]
    obtain ⟨w, hw⟩ : ∃ w : Nat, pk (cm l) L t rule i = (w : Int) := ⟨(pk (cm l) L t rule i).toNat, by omega⟩
    rw [if_neg c3]
    by_cases c4 : rule = 1
    · rw [if_pos (Or.inr (Or.inl c4))] at hp
      rw [if_pos c4, hp]
    rw [if_neg c4]
    rw [hw, Int.toNat_natCast] at hp
    rw [hw, tab_rd L (show w < l.length from by omega)]
    by_cases c5 : rule = 2
    · rw [if_pos c5, if_pos (show (0 : Int) ≤ (i : Int) from by omega), if_pos (show (i : Int) < (l.length : Int) from by omega), if_pos (show (0 : Int) ≤ (w : Int) from by omega), if_pos (show (w : Int) < (l.length : Int) from by omega)]
      by_cases c6 : L i < L w
      · rw [if_pos (Or.inr (Or.inr (Or.inl ⟨c5, c6⟩)))] at hp
        rw [if_pos c6, hp]
      · rw [if_neg (by omega)] at hp
        rw [if_neg c6, if_neg (by omega), hp]
    rw [if_neg c5]
    by_cases c7 : rule = 3
    · rw [if_pos c7, if_pos (show (0 : Int) ≤ (i : Int) from by omega), if_pos (show (i : Int) < (l.length : Int) from by omega), if_pos (show (0 : Int) ≤ (w : Int) from by omega), if_pos (show (w : Int) < (l.length : Int) from by omega)]
      by_cases c8 : L i > L w
      · rw [if_pos (Or.inr (Or.inr (Or.inr ⟨c7, by omega⟩)))] at hp
        rw [if_pos c8, hp]
      · rw [if_neg (by omega)] at hp
        rw [if_neg c8, hp]
    · rw [if_neg (by omega)] at hp
      rw [if_neg c7, hp]
theorem lf_step {l : List S43} (rule : Int) (t : Nat) {w : Nat} (hw : ob (cm l) (nd l) l.length rule t = (w : Int)) :
    tab (fun j => if j = w then lf (cm l) (nd l) l.length rule t w - 1 else lf (cm l) (nd l) l.length rule t j) l.length = tab (lf (cm l) (nd l) l.length rule (t + 1)) l.length :=
  tab_congr (fun j _ => by
    rw [lf_succ, hw]
    by_cases e : j = w
    · subst e; rw [if_pos rfl, if_pos rfl]
    · rw [if_neg e, if_neg (by omega)]; omega)
theorem lf_stay {l : List S43} (rule : Int) (t : Nat) (hw : ob (cm l) (nd l) l.length rule t < 0) :
    tab (lf (cm l) (nd l) l.length rule t) l.length = tab (lf (cm l) (nd l) l.length rule (t + 1)) l.length :=
  tab_congr (fun j _ => by rw [lf_succ, if_neg (by omega)]; omega)
theorem lf_small {l : List S43} (h : ok l) (rule : Int) (t : Nat) {w : Nat} (hw : w < l.length) : 0 ≤ lf (cm l) (nd l) l.length rule t w ∧ lf (cm l) (nd l) l.length rule t w ≤ 9 := by
  have h1 := lf_nonneg h rule t w hw
  have h2 := lf_cnt (C := cm l) (N := nd l) (n := l.length) rule w t
  have h3 := cnt_rng (O := ob (cm l) (nd l) l.length rule) w t
  have h4 := h.need hw
  omega
theorem impl_OrderBy_l {l : List S43} (h : ok l) (rule : Int) {T : Nat} (hT : T ≤ 200) : ∀ (d k t : Nat), t + d = T → d * 20 < k →
    impl_OrderBy.l0 k l rule (tab (lf (cm l) (nd l) l.length rule t) l.length) (tab (ob (cm l) (nd l) l.length rule) t) (T : Int) (t : Int) = some (tab (ob (cm l) (nd l) l.length rule) T) := by
  intro d
  have hl := h.len
  induction d with
  | zero =>
    intro k t ht hk
    obtain ⟨k, rfl⟩ : ∃ m, k = m + 1 := ⟨k - 1, by omega⟩
    simp only [impl_OrderBy.l0]
    rw [if_neg (by omega), show t = T from by omega]
  | succ d ih =>
    intro k t ht hk
    obtain ⟨k, rfl⟩ : ∃ m, k = m + 1 := ⟨k - 1, by omega⟩
    simp only [impl_OrderBy.l0]
    rw [if_pos (by omega)]
    have e := impl_OrderBy_p (l := l) (by omega) (lf (cm l) (nd l) l.length rule t) rule (tab (ob (cm l) (nd l) l.length rule) t) (T : Int) (t : Int) l.length k 0 (by omega) (by omega)
    refine Eq.trans e ?_
    obtain ⟨m, hm⟩ : ∃ m, k - 2 * l.length = m + 1 := ⟨k - 2 * l.length - 1, by omega⟩
    rw [hm, show pk (cm l) (lf (cm l) (nd l) l.length rule t) (t : Int) rule l.length = ob (cm l) (nd l) l.length rule t from rfl]
    simp only [impl_OrderBy.l1]
    have hr := pk_rng (cm l) (lf (cm l) (nd l) l.length rule t) (t : Int) rule l.length
    rw [show pk (cm l) (lf (cm l) (nd l) l.length rule t) (t : Int) rule l.length = ob (cm l) (nd l) l.length rule t from rfl] at hr
    rw [if_neg (by omega), tab_length, tab_length, st (n := T) (by omega) (by omega)]
    rcases split_w (ob (cm l) (nd l) l.length rule t) with h3 | ⟨w, hw⟩
    · rw [if_neg (by omega), if_pos (by omega), lf_stay rule t h3, ← tab_snoc]
      exact ih m (t + 1) (by omega) (by omega)
    · have hs := lf_small h rule t (w := w) (by omega)
      have et : tab (ob (cm l) (nd l) l.length rule) t ++ [(w : Int)] = tab (ob (cm l) (nd l) l.length rule) (t + 1) := by rw [tab_snoc, hw]
      rw [hw, if_pos (by omega), if_pos (by omega), if_pos (by omega), if_pos (by omega), tab_rd _ (by omega), Int.toNat_natCast, wr (by omega) (by omega), tab_set, lf_step rule t hw, et]
      exact ih m (t + 1) (by omega) (by omega)
theorem impl_OrderBy_t {l : List S43} (h : ok l) {rule : Int} (hr : 0 ≤ rule ∧ rule ≤ 3) {T : Nat} (hT : (T : Int) = LL (cm l) (nd l) l.length) {k : Nat} (hk : 3000 < k) : impl_OrderBy.f k l rule = some (tab (ob (cm l) (nd l) l.length rule) T) := by
  have hl := h.len
  have ht := LL_top h
  unfold impl_OrderBy.f
  obtain ⟨k, rfl⟩ : ∃ m, k = m + 1 := ⟨k - 1, by omega⟩
  rw [impl_CustomersOk_t h (by omega), bs, if_pos rfl, if_neg (by omega), decide_eq_false (by omega)]
  simp only [impl_OrderBy.j0, Bool.false_eq_true, if_false]
  rw [impl_leftOf_e (by omega) (by omega), bs, impl_lastLeave_e h (by omega), bs, ← hT]
  exact impl_OrderBy_l h rule (T := T) (by omega) T k 0 (by omega) (by omega)
theorem impl_OrderBy_n {l : List S43} (hl : l.length ≤ 9000000000000000000) {rule : Int} (h : ¬ (ok l ∧ 0 ≤ rule ∧ rule ≤ 3)) {k : Nat} (hk : l.length + 1 < k) : impl_OrderBy.f k l rule = some [] := by
  unfold impl_OrderBy.f
  obtain ⟨k, rfl⟩ : ∃ m, k = m + 1 := ⟨k - 1, by omega⟩
  by_cases ho : ok l
  · rw [impl_CustomersOk_t ho (by omega), bs, if_pos rfl]
    simp only [impl_OrderBy.j0]
    by_cases h0 : rule < 0
    · rw [if_pos h0]; simp
    · rw [if_neg h0, decide_eq_true (by refine Int.not_lt.1 (fun hh => h ⟨ho, by omega, by omega⟩)), if_pos rfl]
  · rw [impl_CustomersOk_n hl ho (by omega), bs, if_neg (by simp)]
    simp [impl_OrderBy.j0]

theorem spec_l1In_e (a b c : Int) : ∃ r, spec_l1In.f a b c = some r ∧ (r = true ↔ b ≤ a ∧ a ≤ c) := by
  unfold spec_l1In.f
  by_cases h : a ≥ b
  · rw [if_pos h]; exact ⟨_, rfl, by rw [decide_eq_true_iff]; exact ⟨fun h1 => ⟨h, h1⟩, fun h1 => h1.2⟩⟩
  · rw [if_neg h]; exact ⟨false, rfl, ⟨fun h1 => (by cases h1), fun h1 => absurd h1.1 h⟩⟩
theorem spec_l1In_t {a b c : Int} (h0 : b ≤ a) (h1 : a ≤ c) : spec_l1In.f a b c = some true := by
  unfold spec_l1In.f
  rw [if_pos h0, decide_eq_true h1]
theorem spec_l1In_n {a b c : Int} (h : ¬ (b ≤ a ∧ a ≤ c)) : spec_l1In.f a b c = some false := by
  unfold spec_l1In.f
  by_cases h0 : a ≥ b
  · rw [if_pos h0, decide_eq_false (fun h1 => h ⟨h0, h1⟩)]
  · rw [if_neg h0]
theorem spec_CustomersOk_l (l : List S43) (hl : l.length ≤ 9000000000000000000) : ∀ (d k i : Nat), i + d = l.length → d < k →
    ∃ b, spec_CustomersOk.l0 k l (i : Int) = some b ∧ (b = true ↔ l.length ≤ 8 ∧ ∀ j, i ≤ j → j < l.length → okAt (cm l) (nd l) j) := by
  intro d
  induction d with
  | zero =>
    intro k i hi hk
    obtain ⟨k, rfl⟩ : ∃ m, k = m + 1 := ⟨k - 1, by omega⟩
    simp only [spec_CustomersOk.l0]
    rw [if_neg (by omega)]
    exact ⟨_, rfl, by rw [decide_eq_true_iff]; exact ⟨fun h => ⟨by omega, fun j h1 h2 => absurd h1 (by omega)⟩, fun h => by have := h.1; omega⟩⟩
  | succ d ih =>
    intro k i hi hk
    obtain ⟨k, rfl⟩ : ∃ m, k = m + 1 := ⟨k - 1, by omega⟩
    obtain ⟨b, hb, hbt⟩ := ih k (i + 1) (by omega) (by omega)
    have no : (¬ okAt (cm l) (nd l) i) → (∃ b, some false = some b ∧ (b = true ↔ l.length ≤ 8 ∧ ∀ j, i ≤ j → j < l.length → okAt (cm l) (nd l) j)) := fun h => ⟨false, rfl, ⟨fun h0 => (by cases h0), fun h0 => absurd (h0.2 i (by omega) (by omega)) h⟩⟩
    have yes : okAt (cm l) (nd l) i → (∃ b, spec_CustomersOk.l0 k l ((i + 1 : Nat) : Int) = some b ∧ (b = true ↔ l.length ≤ 8 ∧ ∀ j, i ≤ j → j < l.length → okAt (cm l) (nd l) j)) := fun h => by
      refine ⟨b, hb, hbt.trans ⟨fun h0 => ⟨h0.1, fun j h1 h2 => ?_⟩, fun h0 => ⟨h0.1, fun j h1 h2 => h0.2 j (by omega) h2⟩⟩⟩
      by_cases e : j = i
      · subst e; exact h
      · exact h0.2 j (by omega) h2
    simp only [spec_CustomersOk.l0]
    rw [if_pos (by omega), if_pos (by omega), st (n := l.length) (by omega) hl]
    rw [cm_eq l i, nd_eq l i]
    by_cases h1 : 0 ≤ cm l i ∧ cm l i ≤ 60
    · rw [spec_l1In_t h1.1 h1.2]
      simp only [bs, if_true]
      by_cases h2 : 1 ≤ nd l i ∧ nd l i ≤ 9
      · rw [spec_l1In_t h2.1 h2.2]
        simp only [bs, if_true]
        by_cases h0 : i = 0
        · subst h0
          rw [if_neg (by simp)]
          exact yes ⟨by omega, by omega, by omega, by omega, fun h => by omega⟩
        · rw [if_pos (by omega), pd (by omega) (by omega), if_pos (by omega), if_pos (by omega)]
          rw [cm_eq l (i - 1)]
          by_cases h5 : cm l i < cm l (i - 1)
          · rw [if_pos h5]; exact no (fun h => by have := h.2.2.2.2 (by omega); omega)
          rw [if_neg h5]
          exact yes ⟨by omega, by omega, by omega, by omega, fun h => by omega⟩
      · rw [spec_l1In_n h2]
        exact no (fun h => h2 ⟨h.2.2.1, h.2.2.2.1⟩)
    · rw [spec_l1In_n h1]
      exact no (fun h => h1 ⟨h.1, h.2.1⟩)
theorem spec_CustomersOk_e (l : List S43) (hl : l.length ≤ 9000000000000000000) {k : Nat} (hk : l.length < k) : ∃ b, spec_CustomersOk.f k l = some b ∧ (b = true ↔ ok l) := by
  obtain ⟨b, h1, h2⟩ := spec_CustomersOk_l l hl l.length k 0 (by omega) hk
  exact ⟨b, h1, h2.trans ⟨fun h => ⟨h.1, fun i hi => h.2 i (Nat.zero_le _) hi⟩, fun h => ⟨h.1, fun i _ hi => h.2 i hi⟩⟩⟩
theorem spec_CustomersOk_t {l : List S43} (h : ok l) {k : Nat} (hk : l.length < k) : spec_CustomersOk.f k l = some true := by
  obtain ⟨b, h1, h2⟩ := spec_CustomersOk_e l (by have := h.1; omega) hk
  rw [h1, h2.2 h]
theorem spec_CustomersOk_n {l : List S43} (hl : l.length ≤ 9000000000000000000) (h : ¬ ok l) {k : Nat} (hk : l.length < k) : spec_CustomersOk.f k l = some false := by
  obtain ⟨b, h1, h2⟩ := spec_CustomersOk_e l hl hk
  rw [h1]
  cases b with
  | true => exact absurd (h2.1 rfl) h
  | false => rfl

-- MATH A
theorem spec_LastLeave_l {l : List S43} (h : ok l) : ∀ (i k : Nat) (b : Int), i ≤ l.length → i < k → 0 ≤ b → b ≤ 200 →
    spec_LastLeave.l0 k l b (sm (nd l) l.length - sm (nd l) i) ((i : Int) - 1) = some (mx b (mxs (fun j => cm l j + (sm (nd l) l.length - sm (nd l) j)) i)) := by
  intro i
  induction i with
  | zero =>
    intro k b hi hk hb hb'
    obtain ⟨k, rfl⟩ : ∃ m, k = m + 1 := ⟨k - 1, by omega⟩
    simp only [spec_LastLeave.l0]
    rw [if_neg (by omega), mxs_zero]
    unfold mx
    rw [if_neg (by omega)]
  | succ i ih =>
    intro k b hi hk hb hb'
    obtain ⟨k, rfl⟩ : ∃ m, k = m + 1 := ⟨k - 1, by omega⟩
    have hl := h.len
    have h1 := h.sum (i := i) (j := l.length) (by omega) (by omega)
    have h2 := h.sum (i := i + 1) (j := l.length) (by omega) (by omega)
    have h5 := h.come (i := i) (by omega)
    have e := sm_succ (nd l) i
    simp only [spec_LastLeave.l0]
    rw [show ((i + 1 : Nat) : Int) - 1 = (i : Int) from by omega]
    rw [if_pos (by omega), if_pos (by omega), if_pos (by omega), nd_eq, cm_eq]
    rw [wr (x := sm (nd l) l.length - sm (nd l) (i + 1) + nd l i) (by omega) (by omega), show sm (nd l) l.length - sm (nd l) (i + 1) + nd l i = sm (nd l) l.length - sm (nd l) i from by omega]
    rw [wr (x := cm l i + (sm (nd l) l.length - sm (nd l) i)) (by omega) (by omega), wr (x := (i : Int) - 1) (by omega) (by omega)]
    have hm := mx_ge b (cm l i + (sm (nd l) l.length - sm (nd l) i))
    rw [ih k _ (by omega) (by omega) (by omega) (by omega), mxs_succ]
    congr 1
    unfold mx
    repeat' split
    all_goals omega
theorem spec_LastLeave_t {l : List S43} (h : ok l) {k : Nat} (hk : l.length + 20 < k) : spec_LastLeave.f k l = some (LL (cm l) (nd l) l.length) := by
  unfold spec_LastLeave.f
  have hl := h.len
  rw [spec_CustomersOk_t h (by omega)]
  simp only [bs, if_true]
  have := spec_LastLeave_l h l.length k 0 (Nat.le_refl _) (by omega) (by omega) (by omega)
  rw [Int.sub_self] at this
  rw [wr (by omega) (by omega), this, LL_sums h l.length (Nat.le_refl _)]
  have h1 := LL_rng h l.length (Nat.le_refl _)
  have h2 := h.sum0 (Nat.le_refl _)
  congr 1
  unfold mx
  split <;> omega
theorem spec_LastLeave_n {l : List S43} (hl : l.length ≤ 9000000000000000000) (h : ¬ ok l) {k : Nat} (hk : l.length < k) : spec_LastLeave.f k l = some (-1) := by
  unfold spec_LastLeave.f
  rw [spec_CustomersOk_n hl h hk]
  simp

-- MATH W
theorem spec_l4Pick_p {l : List S43} (hl : l.length ≤ 8) (L : Nat → Int) (rule t : Int) : ∀ (d k i : Nat), i + d = l.length → 3 * d < k →
    spec_l4Pick.l0 k l (tab L l.length) t rule (pk (cm l) L t rule i) (i : Int) = some (pk (cm l) L t rule l.length) := by
  intro d
  induction d with
  | zero =>
    intro k i hi hk
    obtain ⟨k, rfl⟩ : ∃ m, k = m + 1 := ⟨k - 1, by omega⟩
    simp only [spec_l4Pick.l0]
    rw [if_neg (by omega), show i = l.length from by omega]
  | succ d ih =>
    intro k i hi hk
    obtain ⟨k, rfl⟩ : ∃ m, k = m + 1 + 1 + 1 := ⟨k - 3, by omega⟩
    have hp := pk_succ (cm l) L t rule i
    obtain ⟨r1, r2⟩ := pk_rng (cm l) L t rule i
    have e1 : ∀ m, k ≤ m → spec_l4Pick.l0 m l (tab L l.length) t rule (pk (cm l) L t rule (i + 1)) ((i + 1 : Nat) : Int) = some (pk (cm l) L t rule l.length) := fun m hm => ih m (i + 1) (by omega) (by omega)
    rw [spec_l4Pick.l0, if_pos (by omega), if_pos (by omega), cm_eq, tab_length, tab_rd L (show i < l.length from by omega)]
    by_cases c1 : cm l i > t
    · rw [if_pos (Or.inl (by omega))] at hp
      rw [if_pos c1, spec_l4Pick.j1, if_pos rfl, st (n := l.length) (by omega) (by omega), ← hp]
      exact e1 _ (by omega)
    rw [if_neg c1, if_pos (show (i : Int) < (l.length : Int) from by omega)]
    by_cases c2 : L i = 0
    · rw [if_pos (Or.inr c2)] at hp
      rw [show (L i == 0) = true from by rw [beq_iff_eq]; exact c2, spec_l4Pick.j1, if_pos rfl, st (n := l.length) (by omega) (by omega), ← hp]
      exact e1 _ (by omega)
    rw [if_neg (by omega)] at hp
    rw [show (L i == 0) = false from by rw [beq_eq_false_iff_ne]; exact c2, spec_l4Pick.j1, if_neg (by simp), st (n := l.length) (by omega) (by omega), tab_length]
    by_cases c3 : pk (cm l) L t rule i < 0
    · rw [if_pos (Or.inl c3)] at hp
      rw [if_pos c3, ← hp]
      exact e1 _ (by omega)
    obtain ⟨w, hw⟩ : ∃ w : Nat, pk (cm l) L t rule i = (w : Int) := ⟨(pk (cm l) L t rule i).toNat, by omega⟩
    rw [if_neg c3]
    by_cases c4 : rule = 1
    · rw [if_pos (Or.inr (Or.inl c4))] at hp
      rw [if_pos c4, ← hp]
      exact e1 _ (by omega)
    rw [if_neg c4]
    rw [hw, Int.toNat_natCast] at hp
    rw [hw, tab_rd L (show i < l.length from by omega), tab_rd L (show w < l.length from by omega)]
    by_cases c5 : rule = 2
    · rw [if_pos c5, if_pos (show (0 : Int) ≤ (i : Int) from by omega), if_pos (show (i : Int) < (l.length : Int) from by omega), if_pos (show (0 : Int) ≤ (w : Int) from by omega), if_pos (show (w : Int) < (l.length : Int) from by omega)]
      by_cases c6 : L i < L w
      · rw [if_pos (Or.inr (Or.inr (Or.inl ⟨c5, c6⟩)))] at hp
        rw [decide_eq_true c6, spec_l4Pick.j2, if_pos rfl, st (n := l.length) (by omega) (by omega), ← hp]
        exact e1 _ (by omega)
      · rw [if_neg (by omega)] at hp
        rw [decide_eq_false c6, spec_l4Pick.j2, if_neg (by simp), if_neg (show ¬ rule = 3 from by omega), st (n := l.length) (by omega) (by omega), ← hp]
        exact e1 _ (by omega)
    rw [if_neg c5, spec_l4Pick.j2, if_neg (by simp), st (n := l.length) (by omega) (by omega), tab_length, tab_rd L (show i < l.length from by omega), tab_rd L (show w < l.length from by omega)]
    by_cases c7 : rule = 3
    · rw [if_pos c7, if_pos (show (0 : Int) ≤ (i : Int) from by omega), if_pos (show (i : Int) < (l.length : Int) from by omega), if_pos (show (0 : Int) ≤ (w : Int) from by omega), if_pos (show (w : Int) < (l.length : Int) from by omega)]
      by_cases c8 : L i > L w
      · rw [if_pos (Or.inr (Or.inr (Or.inr ⟨c7, by omega⟩)))] at hp
        rw [if_pos c8, ← hp]
        exact e1 _ (by omega)
      · rw [if_neg (by omega)] at hp
        rw [if_neg c8, ← hp]
        exact e1 _ (by omega)
    · rw [if_neg (by omega)] at hp
      rw [if_neg c7, ← hp]
      exact e1 _ (by omega)
theorem spec_l4Pick_e {l : List S43} (hl : l.length ≤ 8) (L : Nat → Int) (rule t : Int) {k : Nat} (hk : 30 < k) : spec_l4Pick.f k l (tab L l.length) t rule = some (pk (cm l) L t rule l.length) := by
  unfold spec_l4Pick.f
  exact spec_l4Pick_p hl L rule t l.length k 0 (by omega) (by omega)

-- MATH W
theorem slf_step {l : List S43} (rule : Int) (t : Nat) {w : Nat} (hw : ob (cm l) (nd l) l.length rule t = (w : Int)) :
    tab (fun j => if j = w then lf (cm l) (nd l) l.length rule t w - 1 else lf (cm l) (nd l) l.length rule t j) l.length = tab (lf (cm l) (nd l) l.length rule (t + 1)) l.length :=
  tab_congr (fun j _ => by
    rw [lf_succ, hw]
    by_cases e : j = w
    · subst e; rw [if_pos rfl, if_pos rfl]
    · rw [if_neg e, if_neg (by omega)]; omega)
theorem slf_stay {l : List S43} (rule : Int) (t : Nat) (hw : ob (cm l) (nd l) l.length rule t < 0) :
    tab (lf (cm l) (nd l) l.length rule t) l.length = tab (lf (cm l) (nd l) l.length rule (t + 1)) l.length :=
  tab_congr (fun j _ => by rw [lf_succ, if_neg (by omega)]; omega)
theorem slf_small {l : List S43} (h : ok l) (rule : Int) (t : Nat) {w : Nat} (hw : w < l.length) : 0 ≤ lf (cm l) (nd l) l.length rule t w ∧ lf (cm l) (nd l) l.length rule t w ≤ 9 := by
  have h1 := lf_nonneg h rule t w hw
  have h2 := lf_cnt (C := cm l) (N := nd l) (n := l.length) rule w t
  have h3 := cnt_rng (O := ob (cm l) (nd l) l.length rule) w t
  have h4 := h.need hw
  omega
theorem spec_OrderBy_l1 {l : List S43} (h : ok l) (rule : Int) {T : Nat} (hT : (T : Int) = LL (cm l) (nd l) l.length) : ∀ (d k t : Nat), t + d = T → d + 60 < k →
    spec_OrderBy.l1 k l rule (tab (ob (cm l) (nd l) l.length rule) t) (tab (lf (cm l) (nd l) l.length rule t) l.length) (t : Int) = some (tab (ob (cm l) (nd l) l.length rule) T) := by
  intro d
  have hl := h.len
  have hl2 := LL_top h
  induction d with
  | zero =>
    intro k t ht hk
    obtain ⟨k, rfl⟩ : ∃ m, k = m + 1 := ⟨k - 1, by omega⟩
    simp only [spec_OrderBy.l1]
    rw [spec_LastLeave_t h (by omega), bs, ← hT, if_neg (by omega), show t = T from by omega]
  | succ d ih =>
    intro k t ht hk
    obtain ⟨k, rfl⟩ : ∃ m, k = m + 1 := ⟨k - 1, by omega⟩
    have hr := pk_rng (cm l) (lf (cm l) (nd l) l.length rule t) (t : Int) rule l.length
    simp only [spec_OrderBy.l1]
    rw [spec_LastLeave_t h (by omega), bs, ← hT, if_pos (by omega), spec_l4Pick_e (by omega) _ rule (t : Int) (by omega), bs, tab_length, tab_length, if_pos (by omega), bs, st (n := T) (by omega) (by omega)]
    rw [show pk (cm l) (lf (cm l) (nd l) l.length rule t) (t : Int) rule l.length = ob (cm l) (nd l) l.length rule t from rfl] at hr ⊢
    rw [← tab_snoc]
    rcases split_w (ob (cm l) (nd l) l.length rule t) with h3 | ⟨w, hw⟩
    · rw [if_neg (by omega), slf_stay rule t h3]
      exact ih k (t + 1) (by omega) (by omega)
    · have hs := slf_small h rule t (w := w) (by omega)
      rw [hw, if_pos (by omega), if_pos (by omega), if_pos (by omega), tab_rd _ (by omega), Int.toNat_natCast, wr (by omega) (by omega), tab_set, slf_step rule t hw]
      exact ih k (t + 1) (by omega) (by omega)
theorem spec_OrderBy_l0 {l : List S43} (h : ok l) (rule : Int) (x : List Int) : ∀ (d k i : Nat), i + d = l.length → d < k →
    spec_OrderBy.l0 k l rule x (tab (nd l) i) (i : Int) = spec_OrderBy.l1 (k - (d + 1)) l rule x (tab (nd l) l.length) 0 := by
  intro d
  have hl := h.len
  induction d with
  | zero =>
    intro k i hi hk
    obtain ⟨k, rfl⟩ : ∃ m, k = m + 1 := ⟨k - 1, by omega⟩
    simp only [spec_OrderBy.l0]
    rw [if_neg (by omega), show i = l.length from by omega]
    rfl
  | succ d ih =>
    intro k i hi hk
    obtain ⟨k, rfl⟩ : ∃ m, k = m + 1 := ⟨k - 1, by omega⟩
    simp only [spec_OrderBy.l0]
    rw [if_pos (by omega), if_pos (by omega), tab_length, if_pos (by omega), nd_eq, st (n := l.length) (by omega) (by omega), ← tab_snoc, show k + 1 - (d + 1 + 1) = k - (d + 1) from by omega]
    exact ih k (i + 1) (by omega) (by omega)
theorem spec_OrderBy_t {l : List S43} (h : ok l) {rule : Int} (hr : 0 ≤ rule ∧ rule ≤ 3) {T : Nat} (hT : (T : Int) = LL (cm l) (nd l) l.length) {k : Nat} (hk : 400 < k) : spec_OrderBy.f k l rule = some (tab (ob (cm l) (nd l) l.length rule) T) := by
  have hl := h.len
  have hl2 := LL_top h
  unfold spec_OrderBy.f
  obtain ⟨k, rfl⟩ : ∃ m, k = m + 1 := ⟨k - 1, by omega⟩
  rw [bs, spec_CustomersOk_t h (by omega), bs, if_pos rfl, spec_l1In_t hr.1 hr.2, bs]
  simp only [spec_OrderBy.j0, Bool.not_true, Bool.false_eq_true, if_false]
  have e : spec_OrderBy.l0 k l rule [] [] 0 = spec_OrderBy.l1 (k - (l.length + 1)) l rule [] (tab (nd l) l.length) 0 := spec_OrderBy_l0 h rule [] l.length k 0 (by omega) (by omega)
  rw [e]
  exact spec_OrderBy_l1 h rule hT T (k - (l.length + 1)) 0 (by omega) (by omega)
theorem spec_OrderBy_n {l : List S43} (hl : l.length ≤ 9000000000000000000) {rule : Int} (h : ¬ (ok l ∧ 0 ≤ rule ∧ rule ≤ 3)) {k : Nat} (hk : l.length + 1 < k) : spec_OrderBy.f k l rule = some [] := by
  unfold spec_OrderBy.f
  obtain ⟨k, rfl⟩ : ∃ m, k = m + 1 := ⟨k - 1, by omega⟩
  by_cases ho : ok l
  · rw [bs, spec_CustomersOk_t ho (by omega), bs, if_pos rfl, spec_l1In_n (fun hh => h ⟨ho, hh⟩), bs]
    simp [spec_OrderBy.j0]
  · rw [bs, spec_CustomersOk_n hl ho (by omega), bs, if_neg (by simp)]
    simp [spec_OrderBy.j0]

theorem laws_eqIntS_l (a : List Int) (ha : a.length ≤ 9000000000000000000) : ∀ (d k i : Nat), i + d = a.length → d < k → laws_eqIntS.l0 k a a (i : Int) = some true := by
  intro d
  induction d with
  | zero =>
    intro k i hi hk
    obtain ⟨k, rfl⟩ : ∃ m, k = m + 1 := ⟨k - 1, by omega⟩
    simp only [laws_eqIntS.l0]
    rw [if_neg (by omega)]
  | succ d ih =>
    intro k i hi hk
    obtain ⟨k, rfl⟩ : ∃ m, k = m + 1 := ⟨k - 1, by omega⟩
    simp only [laws_eqIntS.l0]
    rw [if_pos (by omega), if_pos (by omega), if_pos (by omega), st (n := a.length) (by omega) (by omega)]
    simp only [if_true]
    exact ih k (i + 1) (by omega) (by omega)
theorem laws_eqIntS_e (a : List Int) (ha : a.length ≤ 9000000000000000000) {k : Nat} (hk : a.length < k) : laws_eqIntS.f k a a = some true := by
  unfold laws_eqIntS.f
  rw [if_pos rfl]
  exact laws_eqIntS_l a ha a.length k 0 (by omega) hk
/-- A row that is marked: the numbers from 1 on. -/
theorem laws_markIntS_l : ∀ (d k i : Nat) (o : List Int), o.length ≤ 4000000000000000000 → i + d = o.length → d < k → (∀ j : Nat, j < i → rd o (j : Int) = (j : Int) + 1) →
    ∃ o', laws_markIntS.l0 k o ((i : Int) + 1) (i : Int) = some ((o.length : Int) + 1, o') ∧ o'.length = o.length ∧ ∀ j : Nat, j < o.length → rd o' (j : Int) = (j : Int) + 1 := by
  intro d
  induction d with
  | zero =>
    intro k i o ho hi hk h
    obtain ⟨k, rfl⟩ : ∃ m, k = m + 1 := ⟨k - 1, by omega⟩
    simp only [laws_markIntS.l0]
    rw [if_neg (by omega), show (i : Int) = (o.length : Int) from by omega]
    exact ⟨o, rfl, rfl, fun j hj => h j (by omega)⟩
  | succ d ih =>
    intro k i o ho hi hk h
    obtain ⟨k, rfl⟩ : ∃ m, k = m + 1 := ⟨k - 1, by omega⟩
    simp only [laws_markIntS.l0]
    rw [if_pos (by omega), if_pos (by omega), st (n := o.length) (by omega) (by omega), wr (by omega) (by omega), Int.toNat_natCast, show (i : Int) + 1 + 1 = ((i + 1 : Nat) : Int) + 1 from by omega]
    have e : (o.set i ((i : Int) + 1)).length = o.length := List.length_set ..
    obtain ⟨o', h1, h2, h3⟩ := ih k (i + 1) (o.set i ((i : Int) + 1)) (by omega) (by omega) (by omega) (fun j hj => by
      by_cases ej : j = i
      · subst ej; simp [rd, show j < o.length from by omega]
      · have := h j (by omega)
        unfold rd at *
        rw [List.getD_eq_getElem?_getD] at *
        rw [List.getElem?_set_ne (by rw [Int.toNat_natCast]; omega)]
        exact this)
    rw [e] at h1 h2 h3
    exact ⟨o', h1, h2, h3⟩
theorem laws_heldIntS_l (o : List Int) (ho : o.length ≤ 4000000000000000000) (h : ∀ j : Nat, j < o.length → rd o (j : Int) = (j : Int) + 1) : ∀ (d k i : Nat), i + d = o.length → d < k → laws_heldIntS.l0 k o ((i : Int) + 1) (i : Int) = some ((o.length : Int) + 1) := by
  intro d
  induction d with
  | zero =>
    intro k i hi hk
    obtain ⟨k, rfl⟩ : ∃ m, k = m + 1 := ⟨k - 1, by omega⟩
    simp only [laws_heldIntS.l0]
    rw [if_neg (by omega), show (i : Int) = (o.length : Int) from by omega]
  | succ d ih =>
    intro k i hi hk
    obtain ⟨k, rfl⟩ : ∃ m, k = m + 1 := ⟨k - 1, by omega⟩
    simp only [laws_heldIntS.l0]
    rw [if_pos (by omega), if_pos (by omega), h i (by omega), if_pos rfl, st (n := o.length) (by omega) (by omega), wr (by omega) (by omega), show (i : Int) + 1 + 1 = ((i + 1 : Nat) : Int) + 1 from by omega]
    exact ih k (i + 1) (by omega) (by omega)
theorem laws_marks (o : List Int) (ho : o.length ≤ 4000000000000000000) {k : Nat} (hk : o.length < k) :
    ∃ o', laws_markIntS.f k o 1 = some ((o.length : Int) + 1, o') ∧ ∀ k', o.length < k' → laws_heldIntS.f k' o' 1 = some ((o.length : Int) + 1) := by
  obtain ⟨o', h1, h2, h3⟩ := laws_markIntS_l o.length k 0 o ho (by omega) hk (fun j hj => absurd hj (by omega))
  refine ⟨o', h1, fun k' hk' => ?_⟩
  have := laws_heldIntS_l o' (by omega) (by rw [h2]; exact h3) o'.length k' 0 (by omega) (by omega)
  rw [h2] at this
  exact this
theorem laws_markCustomerS_l : ∀ (d k i : Nat) (o : List S43), o.length ≤ 4000000000000000000 → i + d = o.length → d < k →
    ∃ o', laws_markCustomerS.l0 k o (2 * (i : Int) + 1) (i : Int) = some (2 * (o.length : Int) + 1, o') := by
  intro d
  induction d with
  | zero =>
    intro k i o ho hi hk
    obtain ⟨k, rfl⟩ : ∃ m, k = m + 1 := ⟨k - 1, by omega⟩
    simp only [laws_markCustomerS.l0]
    rw [if_neg (by omega), show (i : Int) = (o.length : Int) from by omega]
    exact ⟨o, rfl⟩
  | succ d ih =>
    intro k i o ho hi hk
    obtain ⟨k, rfl⟩ : ∃ m, k = m + 1 := ⟨k - 1, by omega⟩
    simp only [laws_markCustomerS.l0]
    rw [if_pos (by omega), if_pos (by omega)]
    simp only [bs]
    rw [st (n := o.length) (by omega) (by omega), wr (x := 2 * (i : Int) + 1 + 1) (by omega) (by omega), wr (by omega) (by omega), show 2 * (i : Int) + 1 + 1 + 1 = 2 * ((i + 1 : Nat) : Int) + 1 from by omega]
    obtain ⟨o', h1⟩ := ih k (i + 1) (List.set (List.set o ((i : Int)).toNat ⟨2 * (i : Int) + 1, (rd_T43 o (i : Int)).f1⟩) ((i : Int)).toNat ⟨(rd_T43 (List.set o ((i : Int)).toNat ⟨2 * (i : Int) + 1, (rd_T43 o (i : Int)).f1⟩) (i : Int)).f0, 2 * (i : Int) + 1 + 1⟩) (by simp; omega) (by simp; omega) (by omega)
    simp only [List.length_set] at h1
    exact ⟨o', h1⟩
theorem laws_markCustomerS_e (o : List S43) (ho : o.length ≤ 4000000000000000000) {k : Nat} (hk : o.length < k) : ∃ o', laws_markCustomerS.f k o 1 = some (2 * (o.length : Int) + 1, o') := by
  obtain ⟨o', h⟩ := laws_markCustomerS_l o.length k 0 o ho (by omega) hk
  exact ⟨o', h⟩

end FnExactOrderByX
open FnExactOrderByX
-- ALSO marks
theorem FnExactOrderBy (l0 : List S54) (hm : l0.length ≤ maxLen) (hw : ∀ x ∈ l0, (Lit.int .i64 x.f0).wf = true ∧ (Lit.int .i64 x.f1).wf = true) (a1 : Int) (hw1 : (Lit.int .i64 a1).wf = true) : ∃ k, laws_FnExactOrderBy.f k l0 a1 = some true := by
  refine ⟨l0.length + 3501, ?_⟩
  unfold laws_FnExactOrderBy.f
  rw [laws_szCustomerS_e l0 (by unfold maxLen at hm; exact hm)]
  simp only [bs]
  by_cases h : l0.length ≤ 1048576
  · rw [if_pos h, if_neg (by omega), laws_toCustomerS_e l0 h (by omega)]
    have hc := cv_length l0
    have e : ∃ r, r.length ≤ 1000 ∧ (∀ k, l0.length + 3200 < k → spec_OrderBy.f k (cv l0) a1 = some r) ∧ (∀ k, l0.length + 3200 < k → impl_OrderBy.f k (cv l0) a1 = some r) := by
      by_cases hk : ok (cv l0) ∧ 0 ≤ a1 ∧ a1 ≤ 3
      · have ht := LL_top hk.1
        obtain ⟨T, hT⟩ := Int.eq_ofNat_of_zero_le ht.1
        exact ⟨tab (ob (cm (cv l0)) (nd (cv l0)) (cv l0).length a1) T, by rw [tab_length]; omega, fun k hk' => spec_OrderBy_t hk.1 hk.2 hT.symm (by omega), fun k hk' => impl_OrderBy_t hk.1 hk.2 hT.symm (by omega)⟩
      · exact ⟨[], by simp, fun k hk' => spec_OrderBy_n (by omega) hk (by omega), fun k hk' => impl_OrderBy_n (by omega) hk (by omega)⟩
    obtain ⟨r, hr, e1, e2⟩ := e
    simp only [bs]
    rw [e1 _ (by omega), e2 _ (by omega)]
    simp only [bs]
    rw [laws_eqIntS_e r (by omega) (by omega), laws_eqCustomerS_e (cv l0) (by omega) (by omega)]
    obtain ⟨o', hmk⟩ := laws_markCustomerS_e (cv l0) (by omega) (k := l0.length + 3501) (by omega)
    simp only [bs, if_true, hmk]
    rw [if_neg (by omega)]
    simp only [Bool.not_true, laws_FnExactOrderBy.j0, Bool.false_eq_true, if_false]
    obtain ⟨o2, hm1, hm2⟩ := laws_marks r (by omega) (k := l0.length + 3500) (by omega)
    rw [hm1]
    simp only [bs]
    rw [hm2 _ (by omega)]
    simp only [bs]
    rw [if_neg (by omega), laws_toCustomerS_e l0 h (by omega)]
    simp only [bs, if_true]
    rw [e2 _ (by omega)]
    simp only [bs]
    rw [laws_eqIntS_e r (by omega) (by omega)]
    simp only [bs, if_true]
    rw [if_neg (by omega)]
  · rw [if_neg h, if_pos (by omega)]

end Go.Proofs.Ytkkfobdoliimiaa.Pure
