/- The pure statement of the law FnExactNeedingMore: about numbers and lists alone, over the functions that print.sh has written. No conditions beyond those typed. -/
import Derived.Test.YtkfaeagkiocebaaQFnExactNeedingMorex5
import Derived.Test.YtkfaeagkiocebaaMath0
import Derived.Test.YtkfaeagkiocebaaMathA
namespace Go.Proofs.Ytkfaeagkiocebaa.Pure
open Go.RowKit Go.Proofs.Ytkfaeagkiocebaa.QFnExactNeedingMore Go.Proofs.YtkfaeagkiocebaaW.PrintWords Go.Proofs.YtkfaeagkiocebaaW.PrintLast Go.Proofs.YtkfaeagkiocebaaW.PrintMore Go.Proofs.Ytkfaeagkiocebaa.Math
set_option linter.unusedVariables false
set_option linter.unusedSimpArgs false
namespace FnExactNeedingMoreX
/-- When the customer at place i comes, what this one needs. -/
def cm (l : List S40) (i : Nat) : Int := (rd_T40 l (i : Int)).f0
def nd (l : List S40) (i : Nat) : Int := (rd_T40 l (i : Int)).f1
theorem cm_eq (l : List S40) (i : Nat) : (rd_T40 l (i : Int)).f0 = cm l i := rfl
theorem nd_eq (l : List S40) (i : Nat) : (rd_T40 l (i : Int)).f1 = nd l i := rfl
theorem rd_get (l : List S40) (i : Nat) (h : i < l.length) : rd_T40 l (i : Int) = l[i] := by simp [rd_T40, h]
theorem rd_take (l : List S40) (m i : Nat) (h : i < m) : rd_T40 (l.take m) (i : Int) = rd_T40 l (i : Int) := by simp [rd_T40, List.getElem?_take, h]
theorem rd_drop (l : List S40) (m i : Nat) : rd_T40 (l.drop m) (i : Int) = rd_T40 l ((i + m : Nat) : Int) := by
  unfold rd_T40
  rw [List.getD_eq_getElem?_getD, List.getD_eq_getElem?_getD, List.getElem?_drop, Int.toNat_natCast, Int.toNat_natCast, Nat.add_comm]
theorem cm_take (l : List S40) (m i : Nat) (h : i < m) : cm (l.take m) i = cm l i := by unfold cm; rw [rd_take l m i h]
theorem nd_take (l : List S40) (m i : Nat) (h : i < m) : nd (l.take m) i = nd l i := by unfold nd; rw [rd_take l m i h]
theorem cm_drop (l : List S40) (m i : Nat) : cm (l.drop m) i = cm l (i + m) := by unfold cm; rw [rd_drop l m i]
theorem nd_drop (l : List S40) (m i : Nat) : nd (l.drop m) i = nd l (i + m) := by unfold nd; rw [rd_drop l m i]
/-- These are customers. -/
def ok (l : List S40) : Prop := OK (cm l) (nd l) l.length
theorem ok_take {l : List S40} (h : ok l) (m : Nat) (hm : m ≤ l.length) : ok (l.take m) := by
  have e : (l.take m).length = m := by rw [List.length_take]; omega
  unfold ok
  rw [e]
  exact OK.congr (fun i hi => (cm_take l m i hi).symm) (fun i hi => (nd_take l m i hi).symm) (OK.pre h hm)
theorem sm_take (l : List S40) (m j : Nat) (hj : j ≤ m) : sm (nd (l.take m)) j = sm (nd l) j := sm_congr (fun i hi => nd_take l m i (by omega))
theorem sm_drop (l : List S40) (m j : Nat) : sm (nd (l.drop m)) j = sm (nd l) (j + m) - sm (nd l) m := by
  rw [← sm_shift]
  exact sm_congr (fun i _ => nd_drop l m i)
theorem st {i : Nat} {n : Nat} (h : i < n) (hn : n ≤ 9000000000000000000) : wrap64 ((i : Int) + 1) = ((i + 1 : Nat) : Int) := by rw [wr (by omega) (by omega)]; simp
theorem pd {i : Nat} (h0 : 0 < i) (hn : i ≤ 9000000000000000000) : wrap64 ((i : Int) - 1) = ((i - 1 : Nat) : Int) := by rw [wr (by omega) (by omega)]; omega
theorem ext_list {a b : List S40} (hl : a.length = b.length) (h : ∀ i : Nat, i < a.length → cm a i = cm b i ∧ nd a i = nd b i) : a = b := by
  apply List.ext_getElem hl
  intro i h1 h2
  obtain ⟨e1, e2⟩ := h i h1
  unfold cm at e1
  unfold nd at e2
  rw [rd_get a i h1, rd_get b i h2] at e1 e2
  cases ha : a[i] with | mk x y =>
  cases hb : b[i] with | mk x' y' =>
  rw [ha, hb] at e1 e2
  simp only at e1 e2
  rw [e1, e2]
/-- The bytes that are drawn from. -/
structure Src (b : List Int) : Prop where
  byte : ∀ x ∈ b, 0 ≤ x ∧ x ≤ 255
  len : b.length ≤ 2000

/-- Customers of the law, as the program's. -/
def cv (l : List S48) : List S40 := l.map fun x => ⟨x.f0, x.f1⟩
theorem cv_length (l : List S48) : (cv l).length = l.length := List.length_map ..
theorem laws_szCustomerS_e (l : List S48) (hl : l.length ≤ 9223372036854775807) : laws_szCustomerS.f l 1048576 = some (if l.length ≤ 1048576 then 1048576 - (l.length : Int) else -1) := by
  unfold laws_szCustomerS.f
  rw [wr (by omega) (by omega)]
  by_cases h : l.length ≤ 1048576
  · rw [if_neg (by omega), if_pos h]
  · rw [if_pos (by omega), if_neg h]
theorem laws_toCustomerS_l (l : List S48) (hl : l.length ≤ 1048576) : ∀ (d k i : Nat) (o : List S40), i + d = l.length → d < k → o.length = l.length →
    (∀ j : Nat, j < i → o[j]? = (cv l)[j]?) → laws_toCustomerS.l0 k l o (i : Int) = some (cv l) := by
  intro d
  induction d with
  | zero =>
    intro k i o hi hk ho h
    obtain ⟨k, rfl⟩ : ∃ m, k = m + 1 := ⟨k - 1, by omega⟩
    simp only [laws_toCustomerS.l0]
    rw [if_neg (by omega)]
    congr 1
    apply List.ext_getElem?
    intro j
    by_cases hj : j < i
    · exact h j hj
    · rw [List.getElem?_eq_none (by omega), List.getElem?_eq_none (by rw [cv_length]; omega)]
  | succ d ih =>
    intro k i o hi hk ho h
    obtain ⟨k, rfl⟩ : ∃ m, k = m + 1 := ⟨k - 1, by omega⟩
    simp only [laws_toCustomerS.l0, laws_toCustomer.f, bs]
    rw [if_pos (by omega), if_pos (by omega), if_pos (by omega), st (n := l.length) (by omega) (by omega)]
    refine ih k (i + 1) _ (by omega) (by omega) (by rw [List.length_set]; exact ho) (fun j hj => ?_)
    rw [Int.toNat_natCast]
    by_cases e : j = i
    · subst e
      rw [List.getElem?_set_self (by omega)]
      unfold cv
      rw [List.getElem?_map, List.getElem?_eq_getElem (by omega)]
      simp [rd_T48, show j < l.length from by omega]
    · rw [List.getElem?_set_ne (Ne.symm e)]
      exact h j (by omega)
theorem laws_toCustomerS_e (l : List S48) (hl : l.length ≤ 1048576) {k : Nat} (hk : l.length < k) : laws_toCustomerS.f k l = some (cv l) := by
  unfold laws_toCustomerS.f
  rw [if_pos (by omega), Int.toNat_natCast, if_pos (by omega)]
  exact laws_toCustomerS_l l hl l.length k 0 _ (by omega) hk (by simp) (fun j hj => absurd hj (by omega))
theorem laws_eqCustomerS_l (a : List S40) (ha : a.length ≤ 1048576) : ∀ (d k i : Nat), i + d = a.length → d < k → laws_eqCustomerS.l0 k a a (i : Int) = some true := by
  intro d
  induction d with
  | zero =>
    intro k i hi hk
    obtain ⟨k, rfl⟩ : ∃ m, k = m + 1 := ⟨k - 1, by omega⟩
    simp only [laws_eqCustomerS.l0]
    rw [if_neg (by omega)]
  | succ d ih =>
    intro k i hi hk
    obtain ⟨k, rfl⟩ : ∃ m, k = m + 1 := ⟨k - 1, by omega⟩
    simp only [laws_eqCustomerS.l0, laws_eqCustomer.f]
    rw [if_pos (by omega), if_pos (by omega), if_pos (by omega), st (n := a.length) (by omega) (by omega)]
    simp only [bs, if_true]
    exact ih k (i + 1) (by omega) (by omega)
theorem laws_eqCustomerS_e (a : List S40) (ha : a.length ≤ 1048576) {k : Nat} (hk : a.length < k) : laws_eqCustomerS.f k a a = some true := by
  unfold laws_eqCustomerS.f
  rw [if_pos rfl]
  exact laws_eqCustomerS_l a ha a.length k 0 (by omega) hk

theorem spec_l1In_e (a b c : Int) : ∃ r, spec_l1In.f a b c = some r ∧ (r = true ↔ b ≤ a ∧ a ≤ c) := by
  unfold spec_l1In.f
  by_cases h : a ≥ b
  · rw [if_pos h]; exact ⟨_, rfl, by rw [decide_eq_true_iff]; exact ⟨fun h1 => ⟨h, h1⟩, fun h1 => h1.2⟩⟩
  · rw [if_neg h]; exact ⟨false, rfl, ⟨fun h1 => (by cases h1), fun h1 => absurd h1.1 h⟩⟩
theorem spec_l1In_t {a b c : Int} (h0 : b ≤ a) (h1 : a ≤ c) : spec_l1In.f a b c = some true := by
  unfold spec_l1In.f
  rw [if_pos h0, decide_eq_true h1]
theorem spec_l1In_n {a b c : Int} (h : ¬ (b ≤ a ∧ a ≤ c)) : spec_l1In.f a b c = some false := by
  unfold spec_l1In.f
  by_cases h0 : a ≥ b
  · rw [if_pos h0, decide_eq_false (fun h1 => h ⟨h0, h1⟩)]
  · rw [if_neg h0]
theorem spec_CustomersOk_l (l : List S40) (hl : l.length ≤ 9000000000000000000) : ∀ (d k i : Nat), i + d = l.length → d < k →
    ∃ b, spec_CustomersOk.l0 k l (i : Int) = some b ∧ (b = true ↔ l.length ≤ 8 ∧ ∀ j, i ≤ j → j < l.length → okAt (cm l) (nd l) j) := by
  intro d
  induction d with
  | zero =>
    intro k i hi hk
    obtain ⟨k, rfl⟩ : ∃ m, k = m + 1 := ⟨k - 1, by omega⟩
    simp only [spec_CustomersOk.l0]
    rw [if_neg (by omega)]
    exact ⟨_, rfl, by rw [decide_eq_true_iff]; exact ⟨fun h => ⟨by omega, fun j h1 h2 => absurd h1 (by omega)⟩, fun h => by have := h.1; omega⟩⟩
  | succ d ih =>
    intro k i hi hk
    obtain ⟨k, rfl⟩ : ∃ m, k = m + 1 := ⟨k - 1, by omega⟩
    obtain ⟨b, hb, hbt⟩ := ih k (i + 1) (by omega) (by omega)
    have no : (¬ okAt (cm l) (nd l) i) → (∃ b, some false = some b ∧ (b = true ↔ l.length ≤ 8 ∧ ∀ j, i ≤ j → j < l.length → okAt (cm l) (nd l) j)) := fun h => ⟨false, rfl, ⟨fun h0 => (by cases h0), fun h0 => absurd (h0.2 i (by omega) (by omega)) h⟩⟩
    have yes : okAt (cm l) (nd l) i → (∃ b, spec_CustomersOk.l0 k l ((i + 1 : Nat) : Int) = some b ∧ (b = true ↔ l.length ≤ 8 ∧ ∀ j, i ≤ j → j < l.length → okAt (cm l) (nd l) j)) := fun h => by
      refine ⟨b, hb, hbt.trans ⟨fun h0 => ⟨h0.1, fun j h1 h2 => ?_⟩, fun h0 => ⟨h0.1, fun j h1 h2 => h0.2 j (by omega) h2⟩⟩⟩
      by_cases e : j = i
      · subst e; exact h
      · exact h0.2 j (by omega) h2
    simp only [spec_CustomersOk.l0]
    rw [if_pos (by omega), if_pos (by omega), st (n := l.length) (by omega) hl]
    rw [cm_eq l i, nd_eq l i]
    by_cases h1 : 0 ≤ cm l i ∧ cm l i ≤ 60
    · rw [spec_l1In_t h1.1 h1.2]
      simp only [bs, if_true]
      by_cases h2 : 1 ≤ nd l i ∧ nd l i ≤ 9
      · rw [spec_l1In_t h2.1 h2.2]
        simp only [bs, if_true]
        by_cases h0 : i = 0
        · subst h0
          rw [if_neg (by simp)]
          exact yes ⟨by omega, by omega, by omega, by omega, fun h => by omega⟩
        · rw [if_pos (by omega), pd (by omega) (by omega), if_pos (by omega), if_pos (by omega)]
          rw [cm_eq l (i - 1)]
          by_cases h5 : cm l i < cm l (i - 1)
          · rw [if_pos h5]; exact no (fun h => by have := h.2.2.2.2 (by omega); omega)
          rw [if_neg h5]
          exact yes ⟨by omega, by omega, by omega, by omega, fun h => by omega⟩
      · rw [spec_l1In_n h2]
        exact no (fun h => h2 ⟨h.2.2.1, h.2.2.2.1⟩)
    · rw [spec_l1In_n h1]
      exact no (fun h => h1 ⟨h.1, h.2.1⟩)
theorem spec_CustomersOk_e (l : List S40) (hl : l.length ≤ 9000000000000000000) {k : Nat} (hk : l.length < k) : ∃ b, spec_CustomersOk.f k l = some b ∧ (b = true ↔ ok l) := by
  obtain ⟨b, h1, h2⟩ := spec_CustomersOk_l l hl l.length k 0 (by omega) hk
  exact ⟨b, h1, h2.trans ⟨fun h => ⟨h.1, fun i hi => h.2 i (Nat.zero_le _) hi⟩, fun h => ⟨h.1, fun i _ hi => h.2 i hi⟩⟩⟩
theorem spec_CustomersOk_t {l : List S40} (h : ok l) {k : Nat} (hk : l.length < k) : spec_CustomersOk.f k l = some true := by
  obtain ⟨b, h1, h2⟩ := spec_CustomersOk_e l (by have := h.1; omega) hk
  rw [h1, h2.2 h]
theorem spec_CustomersOk_n {l : List S40} (hl : l.length ≤ 9000000000000000000) (h : ¬ ok l) {k : Nat} (hk : l.length < k) : spec_CustomersOk.f k l = some false := by
  obtain ⟨b, h1, h2⟩ := spec_CustomersOk_e l hl hk
  rw [h1]
  cases b with
  | true => exact absurd (h2.1 rfl) h
  | false => rfl

-- MATH A
/-- Customers of whom the one at place a needs one unit more. -/
def nm (l : List S40) (a : Nat) : List S40 := l.set a ⟨cm l a, wrap64 (nd l a + 1)⟩
theorem nm_length (l : List S40) (a : Nat) : (nm l a).length = l.length := List.length_set ..
theorem nm_rd (l : List S40) {a : Nat} (h : a < l.length) (j : Nat) : rd_T40 (nm l a) (j : Int) = if j = a then ⟨cm l a, wrap64 (nd l a + 1)⟩ else rd_T40 l (j : Int) := by
  unfold nm rd_T40
  rw [List.getD_eq_getElem?_getD, List.getD_eq_getElem?_getD, Int.toNat_natCast]
  by_cases e : j = a
  · subst e
    rw [List.getElem?_set_self h, if_pos rfl]
    rfl
  · rw [List.getElem?_set_ne (Ne.symm e), if_neg e]
theorem nm_cm (l : List S40) {a : Nat} (h : a < l.length) (j : Nat) : cm (nm l a) j = cm l j := by
  unfold cm
  rw [nm_rd l h]
  by_cases e : j = a
  · subst e; rw [if_pos rfl]; rfl
  · rw [if_neg e]
theorem nm_nd {l : List S40} (ho : ok l) {a : Nat} (h : a < l.length) (j : Nat) : nd (nm l a) j = if j = a then nd l a + 1 else nd l j := by
  have := ho.need h
  unfold nd
  rw [nm_rd l h]
  by_cases e : j = a
  · subst e; rw [if_pos rfl, if_pos rfl]; exact wr (by show _ ≤ nd l j + 1; omega) (by show nd l j + 1 ≤ _; omega)
  · rw [if_neg e, if_neg e]
theorem nm_ok {l : List S40} (ho : ok l) {a : Nat} (h : a < l.length) : ok (nm l a) ↔ ¬ nd l a = 9 := by
  have hn := ho.need h
  have e := nm_nd ho h a
  rw [if_pos rfl] at e
  constructor
  · intro hk
    have h2 := hk.need (i := a) (by rw [nm_length]; exact h)
    omega
  · intro hne
    refine ⟨by rw [nm_length]; exact ho.1, fun i hi => ?_⟩
    rw [nm_length] at hi
    obtain ⟨h1, h2, h3, h4, h5⟩ := ho.2 i hi
    refine ⟨by rw [nm_cm l h]; exact h1, by rw [nm_cm l h]; exact h2, ?_, ?_, fun h0 => by rw [nm_cm l h, nm_cm l h]; exact h5 h0⟩
    · rw [nm_nd ho h]; split <;> omega
    · rw [nm_nd ho h]; split <;> omega

-- PRE more
theorem spec_NeedingMore_s {l : List S40} (h : ok l) {a : Nat} (ha : a < l.length) {k : Nat} (hk : l.length + 20 < k) : spec_NeedingMore.f k l (a : Int) = (spec_CustomersOk.f (k - 1) (nm l a)).bind fun t => if t = true then some (nm l a, true) else some ([], false) := by
  have hl := h.len
  unfold spec_NeedingMore.f
  obtain ⟨k, rfl⟩ : ∃ m, k = m + 1 := ⟨k - 1, by omega⟩
  rw [spec_CustomersOk_t h (by omega), wr (by omega) (by omega), spec_l1In_t (by omega) (by omega)]
  simp only [bs, if_true, spec_NeedingMore.j0, Bool.not_true, Bool.false_eq_true, if_false, List.nil_append, List.length_nil]
  rw [if_pos (by omega), if_pos (by omega), if_pos (by omega), Int.toNat_natCast]
  rfl
theorem spec_NeedingMore_t {l : List S40} (h : ok l) {a : Nat} (ha : a < l.length) (h9 : ¬ nd l a = 9) {k : Nat} (hk : l.length + 20 < k) : spec_NeedingMore.f k l (a : Int) = some (nm l a, true) := by
  have hc := nm_length l a
  rw [spec_NeedingMore_s h ha hk, spec_CustomersOk_t ((nm_ok h ha).2 h9) (by omega), bs, if_pos rfl]
theorem spec_NeedingMore_n {l : List S40} (hl : l.length ≤ 9000000000000000000) {t : Int} (h : ¬ (ok l ∧ 0 ≤ t ∧ t < (l.length : Int) ∧ ¬ nd l t.toNat = 9)) {k : Nat} (hk : l.length + 20 < k) : spec_NeedingMore.f k l t = some ([], false) := by
  by_cases ho : ok l
  · by_cases hr : 0 ≤ t ∧ t < (l.length : Int)
    · obtain ⟨a, rfl⟩ := Int.eq_ofNat_of_zero_le hr.1
      have ha : a < l.length := by omega
      have hc := nm_length l a
      rw [spec_NeedingMore_s ho ha hk, spec_CustomersOk_n (by omega) (fun hk2 => h ⟨ho, by omega, by omega, by rw [Int.toNat_natCast]; exact (nm_ok ho ha).1 hk2⟩) (by omega), bs, if_neg (by simp)]
    · unfold spec_NeedingMore.f
      obtain ⟨k, rfl⟩ : ∃ m, k = m + 1 := ⟨k - 1, by omega⟩
      rw [spec_CustomersOk_t ho (by omega), wr (by omega) (by omega), spec_l1In_n (fun hh => hr ⟨hh.1, by omega⟩)]
      simp [spec_NeedingMore.j0]
  · unfold spec_NeedingMore.f
    obtain ⟨k, rfl⟩ : ∃ m, k = m + 1 := ⟨k - 1, by omega⟩
    rw [spec_CustomersOk_n hl ho (by omega)]
    simp only [bs, spec_NeedingMore.j0, if_true, Bool.false_eq_true, if_false]

theorem impl_CustomersOk_l (l : List S40) (hl : l.length ≤ 9000000000000000000) : ∀ (d k i : Nat), i + d = l.length → d < k →
    ∃ b, impl_CustomersOk.l0 k l l (l.length : Int) (i : Int) = some b ∧ (b = true ↔ l.length ≤ 8 ∧ ∀ j, i ≤ j → j < l.length → okAt (cm l) (nd l) j) := by
  intro d
  induction d with
  | zero =>
    intro k i hi hk
    obtain ⟨k, rfl⟩ : ∃ m, k = m + 1 := ⟨k - 1, by omega⟩
    simp only [impl_CustomersOk.l0]
    rw [if_neg (by omega)]
    exact ⟨_, rfl, by rw [decide_eq_true_iff]; exact ⟨fun h => ⟨by omega, fun j h1 h2 => absurd h1 (by omega)⟩, fun h => by have := h.1; omega⟩⟩
  | succ d ih =>
    intro k i hi hk
    obtain ⟨k, rfl⟩ : ∃ m, k = m + 1 := ⟨k - 1, by omega⟩
    obtain ⟨b, hb, hbt⟩ := ih k (i + 1) (by omega) (by omega)
    have no : (¬ okAt (cm l) (nd l) i) → (∃ b, some false = some b ∧ (b = true ↔ l.length ≤ 8 ∧ ∀ j, i ≤ j → j < l.length → okAt (cm l) (nd l) j)) := fun h => ⟨false, rfl, ⟨fun h0 => (by cases h0), fun h0 => absurd (h0.2 i (by omega) (by omega)) h⟩⟩
    have yes : okAt (cm l) (nd l) i → (∃ b, impl_CustomersOk.l0 k l l (l.length : Int) ((i + 1 : Nat) : Int) = some b ∧ (b = true ↔ l.length ≤ 8 ∧ ∀ j, i ≤ j → j < l.length → okAt (cm l) (nd l) j)) := fun h => by
      refine ⟨b, hb, hbt.trans ⟨fun h0 => ⟨h0.1, fun j h1 h2 => ?_⟩, fun h0 => ⟨h0.1, fun j h1 h2 => h0.2 j (by omega) h2⟩⟩⟩
      by_cases e : j = i
      · subst e; exact h
      · exact h0.2 j (by omega) h2
    simp only [impl_CustomersOk.l0]
    rw [if_pos (by omega), if_pos (by omega), if_pos (by omega), st (n := l.length) (by omega) hl]
    rw [cm_eq l i, nd_eq l i]
    by_cases h1 : cm l i < 0
    · rw [if_pos h1]; exact no (fun h => by have := h.1; omega)
    rw [if_neg h1]
    by_cases h2 : cm l i > 60
    · rw [if_pos h2]; exact no (fun h => by have := h.2.1; omega)
    rw [if_neg h2]
    by_cases h0 : i = 0
    · subst h0
      rw [if_neg (by simp)]
      by_cases h3 : nd l 0 < 1
      · rw [if_pos h3]; exact no (fun h => by have := h.2.2.1; omega)
      rw [if_neg h3]
      by_cases h4 : nd l 0 > 9
      · rw [if_pos h4]; exact no (fun h => by have := h.2.2.2.1; omega)
      rw [if_neg h4]
      exact yes ⟨by omega, by omega, by omega, by omega, fun h => by omega⟩
    · rw [if_pos (by omega), pd (by omega) (by omega), if_pos (by omega), if_pos (by omega)]
      rw [cm_eq l (i - 1)]
      by_cases h5 : cm l i < cm l (i - 1)
      · rw [if_pos h5]; exact no (fun h => by have := h.2.2.2.2 (by omega); omega)
      rw [if_neg h5]
      by_cases h3 : nd l i < 1
      · rw [if_pos h3]; exact no (fun h => by have := h.2.2.1; omega)
      rw [if_neg h3]
      by_cases h4 : nd l i > 9
      · rw [if_pos h4]; exact no (fun h => by have := h.2.2.2.1; omega)
      rw [if_neg h4]
      exact yes ⟨by omega, by omega, by omega, by omega, fun h => by omega⟩
theorem impl_CustomersOk_e (l : List S40) (hl : l.length ≤ 9000000000000000000) {k : Nat} (hk : l.length < k) : ∃ b, impl_CustomersOk.f k l = some b ∧ (b = true ↔ ok l) := by
  obtain ⟨b, h1, h2⟩ := impl_CustomersOk_l l hl l.length k 0 (by omega) hk
  exact ⟨b, h1, h2.trans ⟨fun h => ⟨h.1, fun i hi => h.2 i (Nat.zero_le _) hi⟩, fun h => ⟨h.1, fun i _ hi => h.2 i hi⟩⟩⟩
theorem impl_CustomersOk_t {l : List S40} (h : ok l) {k : Nat} (hk : l.length < k) : impl_CustomersOk.f k l = some true := by
  obtain ⟨b, h1, h2⟩ := impl_CustomersOk_e l (by have := h.1; omega) hk
  rw [h1, h2.2 h]
theorem impl_CustomersOk_n {l : List S40} (hl : l.length ≤ 9000000000000000000) (h : ¬ ok l) {k : Nat} (hk : l.length < k) : impl_CustomersOk.f k l = some false := by
  obtain ⟨b, h1, h2⟩ := impl_CustomersOk_e l hl hk
  rw [h1]
  cases b with
  | true => exact absurd (h2.1 rfl) h
  | false => rfl

theorem impl_Customer_e (l : List S40) (h : l.length < 8796093022208) : impl_Customer.f l = some l := by
  unfold impl_Customer.f
  rw [bs, if_pos (by simp; omega)]
  rfl

-- PRE more
theorem impl_NeedingMore_t {l : List S40} (h : ok l) {a : Nat} (ha : a < l.length) (h9 : ¬ nd l a = 9) {k : Nat} (hk : l.length + 20 < k) : impl_NeedingMore.f k l (a : Int) = some (nm l a, true) := by
  have hl := h.len
  unfold impl_NeedingMore.f
  rw [impl_CustomersOk_t h (by omega)]
  simp only [bs, if_true]
  rw [if_neg (by omega), if_neg (by omega), if_pos (by omega), if_pos (by omega), nd_eq, if_neg h9, impl_Customer_e l (by omega)]
  simp only [bs]
  rw [if_pos (by omega), Int.toNat_natCast]
  rfl
theorem impl_NeedingMore_n {l : List S40} (hl : l.length ≤ 9000000000000000000) {t : Int} (h : ¬ (ok l ∧ 0 ≤ t ∧ t < (l.length : Int) ∧ ¬ nd l t.toNat = 9)) {k : Nat} (hk : l.length + 20 < k) : impl_NeedingMore.f k l t = some ([], false) := by
  unfold impl_NeedingMore.f
  by_cases ho : ok l
  · rw [impl_CustomersOk_t ho (by omega)]
    simp only [bs, if_true]
    by_cases h0 : t < 0
    · rw [if_pos h0]
    rw [if_neg h0]
    by_cases h1 : t ≥ (l.length : Int)
    · rw [if_pos h1]
    obtain ⟨a, rfl⟩ := Int.eq_ofNat_of_zero_le (show 0 ≤ t from by omega)
    rw [if_neg h1, if_pos (by omega), if_pos (by omega), nd_eq]
    by_cases h9 : nd l a = 9
    · rw [if_pos h9]
    · exact absurd ⟨ho, by omega, by omega, by rw [Int.toNat_natCast]; exact h9⟩ h
  · rw [impl_CustomersOk_n hl ho (by omega)]
    simp

theorem rd_set (o : List S40) (i j : Nat) (v : S40) (hi : i < o.length) : rd_T40 (o.set i v) (j : Int) = if j = i then v else rd_T40 o (j : Int) := by
  unfold rd_T40
  rw [List.getD_eq_getElem?_getD, List.getD_eq_getElem?_getD, Int.toNat_natCast]
  by_cases e : j = i
  · subst e
    rw [List.getElem?_set_self hi, if_pos rfl]
    rfl
  · rw [List.getElem?_set_ne (Ne.symm e), if_neg e]
theorem laws_markCustomerS_m : ∀ (d k i : Nat) (o : List S40), o.length ≤ 4000000000000000000 → i + d = o.length → d < k → (∀ j : Nat, j < i → cm o j = 2 * (j : Int) + 1 ∧ nd o j = 2 * (j : Int) + 2) →
    ∃ o', laws_markCustomerS.l0 k o (2 * (i : Int) + 1) (i : Int) = some (2 * (o.length : Int) + 1, o') ∧ o'.length = o.length ∧ ∀ j : Nat, j < o.length → cm o' j = 2 * (j : Int) + 1 ∧ nd o' j = 2 * (j : Int) + 2 := by
  intro d
  induction d with
  | zero =>
    intro k i o ho hi hk h
    obtain ⟨k, rfl⟩ : ∃ m, k = m + 1 := ⟨k - 1, by omega⟩
    simp only [laws_markCustomerS.l0]
    rw [if_neg (by omega), show (i : Int) = (o.length : Int) from by omega]
    exact ⟨o, rfl, rfl, fun j hj => h j (by omega)⟩
  | succ d ih =>
    intro k i o ho hi hk h
    obtain ⟨k, rfl⟩ : ∃ m, k = m + 1 := ⟨k - 1, by omega⟩
    simp only [laws_markCustomerS.l0]
    rw [if_pos (by omega), if_pos (by omega)]
    simp only [bs]
    rw [st (n := o.length) (by omega) (by omega), wr (x := 2 * (i : Int) + 1 + 1) (by omega) (by omega), wr (by omega) (by omega), show 2 * (i : Int) + 1 + 1 + 1 = 2 * ((i + 1 : Nat) : Int) + 1 from by omega, Int.toNat_natCast, List.set_set, rd_set o i i _ (by omega), if_pos rfl]
    have e : (o.set i (⟨2 * (i : Int) + 1, 2 * (i : Int) + 1 + 1⟩ : S40)).length = o.length := List.length_set ..
    obtain ⟨o', h1, h2, h3⟩ := ih k (i + 1) (o.set i (⟨2 * (i : Int) + 1, 2 * (i : Int) + 1 + 1⟩ : S40)) (by omega) (by omega) (by omega) (fun j hj => by
      unfold cm nd
      rw [rd_set o i j _ (by omega)]
      by_cases ej : j = i
      · subst ej; rw [if_pos rfl]; exact ⟨rfl, by simp only; omega⟩
      · rw [if_neg ej]; exact h j (by omega))
    rw [e] at h1 h2 h3
    exact ⟨o', h1, h2, h3⟩
theorem laws_heldCustomerS_l (o : List S40) (ho : o.length ≤ 4000000000000000000) (h : ∀ j : Nat, j < o.length → cm o j = 2 * (j : Int) + 1 ∧ nd o j = 2 * (j : Int) + 2) : ∀ (d k i : Nat), i + d = o.length → d < k → laws_heldCustomerS.l0 k o (2 * (i : Int) + 1) (i : Int) = some (2 * (o.length : Int) + 1) := by
  intro d
  induction d with
  | zero =>
    intro k i hi hk
    obtain ⟨k, rfl⟩ : ∃ m, k = m + 1 := ⟨k - 1, by omega⟩
    simp only [laws_heldCustomerS.l0]
    rw [if_neg (by omega), show (i : Int) = (o.length : Int) from by omega]
  | succ d ih =>
    intro k i hi hk
    obtain ⟨k, rfl⟩ : ∃ m, k = m + 1 := ⟨k - 1, by omega⟩
    obtain ⟨h1, h2⟩ := h i (by omega)
    simp only [laws_heldCustomerS.l0]
    rw [if_pos (by omega), if_pos (by omega), cm_eq, nd_eq, if_pos h1, wr (x := 2 * (i : Int) + 1 + 1) (by omega) (by omega), if_pos (by omega), st (n := o.length) (by omega) (by omega), wr (by omega) (by omega), show 2 * (i : Int) + 1 + 1 + 1 = 2 * ((i + 1 : Nat) : Int) + 1 from by omega]
    exact ih k (i + 1) (by omega) (by omega)
theorem laws_marksC (o : List S40) (ho : o.length ≤ 4000000000000000000) {k : Nat} (hk : o.length < k) :
    ∃ o', laws_markCustomerS.f k o 1 = some (2 * (o.length : Int) + 1, o') ∧ ∀ k', o.length < k' → laws_heldCustomerS.f k' o' 1 = some (2 * (o.length : Int) + 1) := by
  obtain ⟨o', h1, h2, h3⟩ := laws_markCustomerS_m o.length k 0 o ho (by omega) hk (fun j hj => absurd hj (by omega))
  refine ⟨o', h1, fun k' hk' => ?_⟩
  have := laws_heldCustomerS_l o' (by omega) (by rw [h2]; exact h3) o'.length k' 0 (by omega) (by omega)
  rw [h2] at this
  exact this

end FnExactNeedingMoreX
open FnExactNeedingMoreX
-- ALSO marksC
theorem FnExactNeedingMore (l0 : List S48) (hm : l0.length ≤ maxLen) (hw : ∀ x ∈ l0, (Lit.int .i64 x.f0).wf = true ∧ (Lit.int .i64 x.f1).wf = true) (a1 : Int) (hw1 : (Lit.int .i64 a1).wf = true) : ∃ k, laws_FnExactNeedingMore.f k l0 a1 = some true := by
  refine ⟨2 * l0.length + 103, ?_⟩
  unfold laws_FnExactNeedingMore.f
  rw [laws_szCustomerS_e l0 (by unfold maxLen at hm; exact hm)]
  simp only [bs]
  by_cases h : l0.length ≤ 1048576
  · rw [if_pos h, if_neg (by omega), laws_toCustomerS_e l0 h (by omega)]
    have hc := cv_length l0
    have e : ∃ r c, r.length ≤ 1048576 ∧ r.length ≤ l0.length ∧ (∀ k, 2 * l0.length + 90 < k → spec_NeedingMore.f k (cv l0) a1 = some (r, c)) ∧ (∀ k, 2 * l0.length + 90 < k → impl_NeedingMore.f k (cv l0) a1 = some (r, c)) := by
      by_cases hk : ok (cv l0) ∧ 0 ≤ a1 ∧ a1 < ((cv l0).length : Int) ∧ ¬ nd (cv l0) a1.toNat = 9
      · obtain ⟨a, rfl⟩ := Int.eq_ofNat_of_zero_le hk.2.1
        have hlc := nm_length (cv l0) a
        have h9 := hk.2.2.2
        rw [Int.toNat_natCast] at h9
        exact ⟨_, _, by omega, by omega, fun k hk' => spec_NeedingMore_t hk.1 (by omega) h9 (by omega), fun k hk' => impl_NeedingMore_t hk.1 (by omega) h9 (by omega)⟩
      · exact ⟨_, _, by simp, by simp, fun k hk' => spec_NeedingMore_n (by omega) hk (by omega), fun k hk' => impl_NeedingMore_n (by omega) hk (by omega)⟩
    obtain ⟨r, c, hr, hr', e1, e2⟩ := e
    obtain ⟨o', hm1, hm2⟩ := laws_marksC (cv l0) (by omega) (k := 2 * l0.length + 102) (by omega)
    obtain ⟨o2, hm3, hm4⟩ := laws_marksC r (by omega) (k := 2 * l0.length + 101) (by omega)
    simp only [bs]
    rw [e1 _ (by omega), e2 _ (by omega)]
    simp only [bs]
    rw [laws_eqCustomerS_e r hr (by omega), bs, if_pos rfl, bne_self_eq_false]
    simp only [laws_FnExactNeedingMore.j0, Bool.false_eq_true, if_false]
    rw [laws_toCustomerS_e l0 h (by omega), bs, laws_eqCustomerS_e (cv l0) (by omega) (by omega), bs, if_pos rfl, hm1, bs, if_neg (by simp only; omega), laws_eqCustomerS_e r hr (by omega), bs, if_pos rfl, bne_self_eq_false]
    simp only [laws_FnExactNeedingMore.j1, Bool.false_eq_true, if_false]
    rw [hm3]
    simp only [bs]
    rw [hm4 _ (by omega)]
    simp only [bs]
    rw [if_neg (by omega), laws_toCustomerS_e l0 h (by omega)]
    simp only [bs, if_true]
    rw [e2 _ (by omega)]
    simp only [bs]
    rw [laws_eqCustomerS_e r hr (by omega), bs, if_pos rfl, bne_self_eq_false]
    simp only [laws_FnExactNeedingMore.j2, Bool.false_eq_true, if_false]
    rw [hm4 _ (by omega)]
    simp only [bs]
    rw [if_neg (by omega)]
    simp
  · rw [if_neg h, if_pos (by omega)]

end Go.Proofs.Ytkfaeagkiocebaa.Pure
