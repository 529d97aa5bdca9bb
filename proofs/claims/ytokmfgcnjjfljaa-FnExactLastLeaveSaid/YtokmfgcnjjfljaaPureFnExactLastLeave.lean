/- The pure statement of the law FnExactLastLeave: about numbers and lists alone, over the functions that print.sh has written. No conditions beyond those typed. -/
import Derived.Test.YtokmfgcnjjfljaaPFnExactLastLeavex4
import Derived.Test.YtokmfgcnjjfljaaMath0
import Derived.Test.YtokmfgcnjjfljaaMathA
namespace Go.Proofs.Ytokmfgcnjjfljaa.Pure
open Go.RowKit Go.Proofs.Ytokmfgcnjjfljaa.PFnExactLastLeave Go.Proofs.YtokmfgcnjjfljaaW.PrintWords Go.Proofs.YtokmfgcnjjfljaaW.PrintLast Go.Proofs.YtokmfgcnjjfljaaW.PrintMore Go.Proofs.Ytokmfgcnjjfljaa.Math
set_option linter.unusedVariables false
set_option linter.unusedSimpArgs false
namespace FnExactLastLeaveX
/-- When the customer at place i comes, what this one needs. -/
def cm (l : List S33) (i : Nat) : Int := (rd_T33 l (i : Int)).f0
def nd (l : List S33) (i : Nat) : Int := (rd_T33 l (i : Int)).f1
theorem cm_eq (l : List S33) (i : Nat) : (rd_T33 l (i : Int)).f0 = cm l i := rfl
theorem nd_eq (l : List S33) (i : Nat) : (rd_T33 l (i : Int)).f1 = nd l i := rfl
theorem rd_get (l : List S33) (i : Nat) (h : i < l.length) : rd_T33 l (i : Int) = l[i] := by simp [rd_T33, h]
theorem rd_take (l : List S33) (m i : Nat) (h : i < m) : rd_T33 (l.take m) (i : Int) = rd_T33 l (i : Int) := by simp [rd_T33, List.getElem?_take, h]
theorem rd_drop (l : List S33) (m i : Nat) : rd_T33 (l.drop m) (i : Int) = rd_T33 l ((i + m : Nat) : Int) := by
  unfold rd_T33
  rw [List.getD_eq_getElem?_getD, List.getD_eq_getElem?_getD, List.getElem?_drop, Int.toNat_natCast, Int.toNat_natCast, Nat.add_comm]
theorem cm_take (l : List S33) (m i : Nat) (h : i < m) : cm (l.take m) i = cm l i := by unfold cm; rw [rd_take l m i h]
theorem nd_take (l : List S33) (m i : Nat) (h : i < m) : nd (l.take m) i = nd l i := by unfold nd; rw [rd_take l m i h]
theorem cm_drop (l : List S33) (m i : Nat) : cm (l.drop m) i = cm l (i + m) := by unfold cm; rw [rd_drop l m i]
theorem nd_drop (l : List S33) (m i : Nat) : nd (l.drop m) i = nd l (i + m) := by unfold nd; rw [rd_drop l m i]
/-- These are customers. -/
def ok (l : List S33) : Prop := OK (cm l) (nd l) l.length
theorem ok_take {l : List S33} (h : ok l) (m : Nat) (hm : m ≤ l.length) : ok (l.take m) := by
  have e : (l.take m).length = m := by rw [List.length_take]; omega
  unfold ok
  rw [e]
  exact OK.congr (fun i hi => (cm_take l m i hi).symm) (fun i hi => (nd_take l m i hi).symm) (OK.pre h hm)
theorem sm_take (l : List S33) (m j : Nat) (hj : j ≤ m) : sm (nd (l.take m)) j = sm (nd l) j := sm_congr (fun i hi => nd_take l m i (by omega))
theorem sm_drop (l : List S33) (m j : Nat) : sm (nd (l.drop m)) j = sm (nd l) (j + m) - sm (nd l) m := by
  rw [← sm_shift]
  exact sm_congr (fun i _ => nd_drop l m i)
theorem st {i : Nat} {n : Nat} (h : i < n) (hn : n ≤ 9000000000000000000) : wrap64 ((i : Int) + 1) = ((i + 1 : Nat) : Int) := by rw [wr (by omega) (by omega)]; simp
theorem pd {i : Nat} (h0 : 0 < i) (hn : i ≤ 9000000000000000000) : wrap64 ((i : Int) - 1) = ((i - 1 : Nat) : Int) := by rw [wr (by omega) (by omega)]; omega
theorem ext_list {a b : List S33} (hl : a.length = b.length) (h : ∀ i : Nat, i < a.length → cm a i = cm b i ∧ nd a i = nd b i) : a = b := by
  apply List.ext_getElem hl
  intro i h1 h2
  obtain ⟨e1, e2⟩ := h i h1
  unfold cm at e1
  unfold nd at e2
  rw [rd_get a i h1, rd_get b i h2] at e1 e2
  cases ha : a[i] with | mk x y =>
  cases hb : b[i] with | mk x' y' =>
  rw [ha, hb] at e1 e2
  simp only at e1 e2
  rw [e1, e2]

/-- Customers of the law, as the program's. -/
def cv (l : List S48) : List S33 := l.map fun x => ⟨x.f0, x.f1⟩
theorem cv_length (l : List S48) : (cv l).length = l.length := List.length_map ..
theorem laws_szCustomerS_e (l : List S48) (hl : l.length ≤ 9223372036854775807) : laws_szCustomerS.f l 1048576 = some (if l.length ≤ 1048576 then 1048576 - (l.length : Int) else -1) := by
  unfold laws_szCustomerS.f
  rw [wr (by omega) (by omega)]
  by_cases h : l.length ≤ 1048576
  · rw [if_neg (by omega), if_pos h]
  · rw [if_pos (by omega), if_neg h]
theorem laws_toCustomerS_l (l : List S48) (hl : l.length ≤ 1048576) : ∀ (d k i : Nat) (o : List S33), i + d = l.length → d < k → o.length = l.length →
    (∀ j : Nat, j < i → o[j]? = (cv l)[j]?) → laws_toCustomerS.l0 k l o (i : Int) = some (cv l) := by
  intro d
  induction d with
  | zero =>
    intro k i o hi hk ho h
    obtain ⟨k, rfl⟩ : ∃ m, k = m + 1 := ⟨k - 1, by omega⟩
    simp only [laws_toCustomerS.l0]
    rw [if_neg (by omega)]
    congr 1
    apply List.ext_getElem?
    intro j
    by_cases hj : j < i
    · exact h j hj
    · rw [List.getElem?_eq_none (by omega), List.getElem?_eq_none (by rw [cv_length]; omega)]
  | succ d ih =>
    intro k i o hi hk ho h
    obtain ⟨k, rfl⟩ : ∃ m, k = m + 1 := ⟨k - 1, by omega⟩
    simp only [laws_toCustomerS.l0, laws_toCustomer.f, Option.bind_some]
    rw [if_pos (by omega), if_pos (by omega), if_pos (by omega), st (n := l.length) (by omega) (by omega)]
    refine ih k (i + 1) _ (by omega) (by omega) (by rw [List.length_set]; exact ho) (fun j hj => ?_)
    rw [Int.toNat_natCast]
    by_cases e : j = i
    · subst e
      rw [List.getElem?_set_self (by omega)]
      unfold cv
      rw [List.getElem?_map, List.getElem?_eq_getElem (by omega)]
      simp [rd_T48, show j < l.length from by omega]
    · rw [List.getElem?_set_ne (Ne.symm e)]
      exact h j (by omega)
theorem laws_toCustomerS_e (l : List S48) (hl : l.length ≤ 1048576) {k : Nat} (hk : l.length < k) : laws_toCustomerS.f k l = some (cv l) := by
  unfold laws_toCustomerS.f
  rw [if_pos (by omega), Int.toNat_natCast, if_pos (by omega)]
  exact laws_toCustomerS_l l hl l.length k 0 _ (by omega) hk (by simp) (fun j hj => absurd hj (by omega))
theorem laws_eqCustomerS_l (a : List S33) (ha : a.length ≤ 1048576) : ∀ (d k i : Nat), i + d = a.length → d < k → laws_eqCustomerS.l0 k a a (i : Int) = some true := by
  intro d
  induction d with
  | zero =>
    intro k i hi hk
    obtain ⟨k, rfl⟩ : ∃ m, k = m + 1 := ⟨k - 1, by omega⟩
    simp only [laws_eqCustomerS.l0]
    rw [if_neg (by omega)]
  | succ d ih =>
    intro k i hi hk
    obtain ⟨k, rfl⟩ : ∃ m, k = m + 1 := ⟨k - 1, by omega⟩
    simp only [laws_eqCustomerS.l0, laws_eqCustomer.f]
    rw [if_pos (by omega), if_pos (by omega), if_pos (by omega), st (n := a.length) (by omega) (by omega)]
    simp only [Option.bind_some, if_true]
    exact ih k (i + 1) (by omega) (by omega)
theorem laws_eqCustomerS_e (a : List S33) (ha : a.length ≤ 1048576) {k : Nat} (hk : a.length < k) : laws_eqCustomerS.f k a a = some true := by
  unfold laws_eqCustomerS.f
  rw [if_pos rfl]
  exact laws_eqCustomerS_l a ha a.length k 0 (by omega) hk

theorem spec_l1In_e (a b c : Int) : ∃ r, spec_l1In.f a b c = some r ∧ (r = true ↔ b ≤ a ∧ a ≤ c) := by
  unfold spec_l1In.f
  by_cases h : a ≥ b
  · rw [if_pos h]; exact ⟨_, rfl, by rw [decide_eq_true_iff]; exact ⟨fun h1 => ⟨h, h1⟩, fun h1 => h1.2⟩⟩
  · rw [if_neg h]; exact ⟨false, rfl, ⟨fun h1 => (by cases h1), fun h1 => absurd h1.1 h⟩⟩
theorem spec_l1In_t {a b c : Int} (h0 : b ≤ a) (h1 : a ≤ c) : spec_l1In.f a b c = some true := by
  unfold spec_l1In.f
  rw [if_pos h0, decide_eq_true h1]
theorem spec_l1In_n {a b c : Int} (h : ¬ (b ≤ a ∧ a ≤ c)) : spec_l1In.f a b c = some false := by
  unfold spec_l1In.f
  by_cases h0 : a ≥ b
  · rw [if_pos h0, decide_eq_false (fun h1 => h ⟨h0, h1⟩)]
  · rw [if_neg h0]
theorem spec_CustomersOk_l (l : List S33) (hl : l.length ≤ 9000000000000000000) : ∀ (d k i : Nat), i + d = l.length → d < k →
    ∃ b, spec_CustomersOk.l0 k l (i : Int) = some b ∧ (b = true ↔ l.length ≤ 8 ∧ ∀ j, i ≤ j → j < l.length → okAt (cm l) (nd l) j) := by
  intro d
  induction d with
  | zero =>
    intro k i hi hk
    obtain ⟨k, rfl⟩ : ∃ m, k = m + 1 := ⟨k - 1, by omega⟩
    simp only [spec_CustomersOk.l0]
    rw [if_neg (by omega)]
    exact ⟨_, rfl, by rw [decide_eq_true_iff]; exact ⟨fun h => ⟨by omega, fun j h1 h2 => absurd h1 (by omega)⟩, fun h => by have := h.1; omega⟩⟩
  | succ d ih =>
    intro k i hi hk
    obtain ⟨k, rfl⟩ : ∃ m, k = m + 1 := ⟨k - 1, by omega⟩
    obtain ⟨b, hb, hbt⟩ := ih k (i + 1) (by omega) (by omega)
    have no : (¬ okAt (cm l) (nd l) i) → (∃ b, some false = some b ∧ (b = true ↔ l.length ≤ 8 ∧ ∀ j, i ≤ j → j < l.length → okAt (cm l) (nd l) j)) := fun h => ⟨false, rfl, ⟨fun h0 => (by cases h0), fun h0 => absurd (h0.2 i (by omega) (by omega)) h⟩⟩
    have yes : okAt (cm l) (nd l) i → (∃ b, spec_CustomersOk.l0 k l ((i + 1 : Nat) : Int) = some b ∧ (b = true ↔ l.length ≤ 8 ∧ ∀ j, i ≤ j → j < l.length → okAt (cm l) (nd l) j)) := fun h => by
      refine ⟨b, hb, hbt.trans ⟨fun h0 => ⟨h0.1, fun j h1 h2 => ?_⟩, fun h0 => ⟨h0.1, fun j h1 h2 => h0.2 j (by omega) h2⟩⟩⟩
      by_cases e : j = i
      · subst e; exact h
      · exact h0.2 j (by omega) h2
    simp only [spec_CustomersOk.l0]
    rw [if_pos (by omega), if_pos (by omega), st (n := l.length) (by omega) hl]
    rw [cm_eq l i, nd_eq l i]
    by_cases h1 : 0 ≤ cm l i ∧ cm l i ≤ 60
    · rw [spec_l1In_t h1.1 h1.2]
      simp only [Option.bind_some, if_true]
      by_cases h2 : 1 ≤ nd l i ∧ nd l i ≤ 9
      · rw [spec_l1In_t h2.1 h2.2]
        simp only [Option.bind_some, if_true]
        by_cases h0 : i = 0
        · subst h0
          rw [if_neg (by simp)]
          exact yes ⟨by omega, by omega, by omega, by omega, fun h => by omega⟩
        · rw [if_pos (by omega), pd (by omega) (by omega), if_pos (by omega), if_pos (by omega)]
          rw [cm_eq l (i - 1)]
          by_cases h5 : cm l i < cm l (i - 1)
          · rw [if_pos h5]; exact no (fun h => by have := h.2.2.2.2 (by omega); omega)
          rw [if_neg h5]
          exact yes ⟨by omega, by omega, by omega, by omega, fun h => by omega⟩
      · rw [spec_l1In_n h2]
        exact no (fun h => h2 ⟨h.2.2.1, h.2.2.2.1⟩)
    · rw [spec_l1In_n h1]
      exact no (fun h => h1 ⟨h.1, h.2.1⟩)
theorem spec_CustomersOk_e (l : List S33) (hl : l.length ≤ 9000000000000000000) {k : Nat} (hk : l.length < k) : ∃ b, spec_CustomersOk.f k l = some b ∧ (b = true ↔ ok l) := by
  obtain ⟨b, h1, h2⟩ := spec_CustomersOk_l l hl l.length k 0 (by omega) hk
  exact ⟨b, h1, h2.trans ⟨fun h => ⟨h.1, fun i hi => h.2 i (Nat.zero_le _) hi⟩, fun h => ⟨h.1, fun i _ hi => h.2 i hi⟩⟩⟩
theorem spec_CustomersOk_t {l : List S33} (h : ok l) {k : Nat} (hk : l.length < k) : spec_CustomersOk.f k l = some true := by
  obtain ⟨b, h1, h2⟩ := spec_CustomersOk_e l (by have := h.1; omega) hk
  rw [h1, h2.2 h]
theorem spec_CustomersOk_n {l : List S33} (hl : l.length ≤ 9000000000000000000) (h : ¬ ok l) {k : Nat} (hk : l.length < k) : spec_CustomersOk.f k l = some false := by
  obtain ⟨b, h1, h2⟩ := spec_CustomersOk_e l hl hk
  rw [h1]
  cases b with
  | true => exact absurd (h2.1 rfl) h
  | false => rfl

-- MATH A
theorem spec_LastLeave_l {l : List S33} (h : ok l) : ∀ (i k : Nat) (b : Int), i ≤ l.length → i < k → 0 ≤ b → b ≤ 200 →
    spec_LastLeave.l0 k l b (sm (nd l) l.length - sm (nd l) i) ((i : Int) - 1) = some (mx b (mxs (fun j => cm l j + (sm (nd l) l.length - sm (nd l) j)) i)) := by
  intro i
  induction i with
  | zero =>
    intro k b hi hk hb hb'
    obtain ⟨k, rfl⟩ : ∃ m, k = m + 1 := ⟨k - 1, by omega⟩
    simp only [spec_LastLeave.l0]
    rw [if_neg (by omega), mxs_zero]
    unfold mx
    rw [if_neg (by omega)]
  | succ i ih =>
    intro k b hi hk hb hb'
    obtain ⟨k, rfl⟩ : ∃ m, k = m + 1 := ⟨k - 1, by omega⟩
    have hl := h.len
    have h1 := h.sum (i := i) (j := l.length) (by omega) (by omega)
    have h2 := h.sum (i := i + 1) (j := l.length) (by omega) (by omega)
    have h5 := h.come (i := i) (by omega)
    have e := sm_succ (nd l) i
    simp only [spec_LastLeave.l0]
    rw [show ((i + 1 : Nat) : Int) - 1 = (i : Int) from by omega]
    rw [if_pos (by omega), if_pos (by omega), if_pos (by omega), nd_eq, cm_eq]
    rw [wr (x := sm (nd l) l.length - sm (nd l) (i + 1) + nd l i) (by omega) (by omega), show sm (nd l) l.length - sm (nd l) (i + 1) + nd l i = sm (nd l) l.length - sm (nd l) i from by omega]
    rw [wr (x := cm l i + (sm (nd l) l.length - sm (nd l) i)) (by omega) (by omega), wr (x := (i : Int) - 1) (by omega) (by omega)]
    have hm := mx_ge b (cm l i + (sm (nd l) l.length - sm (nd l) i))
    rw [ih k _ (by omega) (by omega) (by omega) (by omega), mxs_succ]
    congr 1
    unfold mx
    repeat' split
    all_goals omega
theorem spec_LastLeave_t {l : List S33} (h : ok l) {k : Nat} (hk : l.length + 20 < k) : spec_LastLeave.f k l = some (LL (cm l) (nd l) l.length) := by
  unfold spec_LastLeave.f
  have hl := h.len
  rw [spec_CustomersOk_t h (by omega)]
  simp only [Option.bind_some, if_true]
  have := spec_LastLeave_l h l.length k 0 (Nat.le_refl _) (by omega) (by omega) (by omega)
  rw [Int.sub_self] at this
  rw [wr (by omega) (by omega), this, LL_sums h l.length (Nat.le_refl _)]
  have h1 := LL_rng h l.length (Nat.le_refl _)
  have h2 := h.sum0 (Nat.le_refl _)
  congr 1
  unfold mx
  split <;> omega
theorem spec_LastLeave_n {l : List S33} (hl : l.length ≤ 9000000000000000000) (h : ¬ ok l) {k : Nat} (hk : l.length < k) : spec_LastLeave.f k l = some (-1) := by
  unfold spec_LastLeave.f
  rw [spec_CustomersOk_n hl h hk]
  simp

theorem impl_CustomersOk_l (l : List S33) (hl : l.length ≤ 9000000000000000000) : ∀ (d k i : Nat), i + d = l.length → d < k →
    ∃ b, impl_CustomersOk.l0 k l l (l.length : Int) (i : Int) = some b ∧ (b = true ↔ l.length ≤ 8 ∧ ∀ j, i ≤ j → j < l.length → okAt (cm l) (nd l) j) := by
  intro d
  induction d with
  | zero =>
    intro k i hi hk
    obtain ⟨k, rfl⟩ : ∃ m, k = m + 1 := ⟨k - 1, by omega⟩
    simp only [impl_CustomersOk.l0]
    rw [if_neg (by omega)]
    exact ⟨_, rfl, by rw [decide_eq_true_iff]; exact ⟨fun h => ⟨by omega, fun j h1 h2 => absurd h1 (by omega)⟩, fun h => by have := h.1; omega⟩⟩
  | succ d ih =>
    intro k i hi hk
    obtain ⟨k, rfl⟩ : ∃ m, k = m + 1 := ⟨k - 1, by omega⟩
    obtain ⟨b, hb, hbt⟩ := ih k (i + 1) (by omega) (by omega)
    have no : (¬ okAt (cm l) (nd l) i) → (∃ b, some false = some b ∧ (b = true ↔ l.length ≤ 8 ∧ ∀ j, i ≤ j → j < l.length → okAt (cm l) (nd l) j)) := fun h => ⟨false, rfl, ⟨fun h0 => (by cases h0), fun h0 => absurd (h0.2 i (by omega) (by omega)) h⟩⟩
    have yes : okAt (cm l) (nd l) i → (∃ b, impl_CustomersOk.l0 k l l (l.length : Int) ((i + 1 : Nat) : Int) = some b ∧ (b = true ↔ l.length ≤ 8 ∧ ∀ j, i ≤ j → j < l.length → okAt (cm l) (nd l) j)) := fun h => by
      refine ⟨b, hb, hbt.trans ⟨fun h0 => ⟨h0.1, fun j h1 h2 => ?_⟩, fun h0 => ⟨h0.1, fun j h1 h2 => h0.2 j (by omega) h2⟩⟩⟩
      by_cases e : j = i
      · subst e; exact h
      · exact h0.2 j (by omega) h2
    simp only [impl_CustomersOk.l0]
    rw [if_pos (by omega), if_pos (by omega), if_pos (by omega), st (n := l.length) (by omega) hl]
    rw [cm_eq l i, nd_eq l i]
    by_cases h1 : cm l i < 0
    · rw [if_pos h1]; exact no (fun h => by have := h.1; omega)
    rw [if_neg h1]
    by_cases h2 : cm l i > 60
    · rw [if_pos h2]; exact no (fun h => by have := h.2.1; omega)
    rw [if_neg h2]
    by_cases h0 : i = 0
    · subst h0
      rw [if_neg (by simp)]
      by_cases h3 : nd l 0 < 1
      · rw [if_pos h3]; exact no (fun h => by have := h.2.2.1; omega)
      rw [if_neg h3]
      by_cases h4 : nd l 0 > 9
      · rw [if_pos h4]; exact no (fun h => by have := h.2.2.2.1; omega)
      rw [if_neg h4]
      exact yes ⟨by omega, by omega, by omega, by omega, fun h => by omega⟩
    · rw [if_pos (by omega), pd (by omega) (by omega), if_pos (by omega), if_pos (by omega)]
      rw [cm_eq l (i - 1)]
      by_cases h5 : cm l i < cm l (i - 1)
      · rw [if_pos h5]; exact no (fun h => by have := h.2.2.2.2 (by omega); omega)
      rw [if_neg h5]
      by_cases h3 : nd l i < 1
      · rw [if_pos h3]; exact no (fun h => by have := h.2.2.1; omega)
      rw [if_neg h3]
      by_cases h4 : nd l i > 9
      · rw [if_pos h4]; exact no (fun h => by have := h.2.2.2.1; omega)
      rw [if_neg h4]
      exact yes ⟨by omega, by omega, by omega, by omega, fun h => by omega⟩
theorem impl_CustomersOk_e (l : List S33) (hl : l.length ≤ 9000000000000000000) {k : Nat} (hk : l.length < k) : ∃ b, impl_CustomersOk.f k l = some b ∧ (b = true ↔ ok l) := by
  obtain ⟨b, h1, h2⟩ := impl_CustomersOk_l l hl l.length k 0 (by omega) hk
  exact ⟨b, h1, h2.trans ⟨fun h => ⟨h.1, fun i hi => h.2 i (Nat.zero_le _) hi⟩, fun h => ⟨h.1, fun i _ hi => h.2 i hi⟩⟩⟩
theorem impl_CustomersOk_t {l : List S33} (h : ok l) {k : Nat} (hk : l.length < k) : impl_CustomersOk.f k l = some true := by
  obtain ⟨b, h1, h2⟩ := impl_CustomersOk_e l (by have := h.1; omega) hk
  rw [h1, h2.2 h]
theorem impl_CustomersOk_n {l : List S33} (hl : l.length ≤ 9000000000000000000) (h : ¬ ok l) {k : Nat} (hk : l.length < k) : impl_CustomersOk.f k l = some false := by
  obtain ⟨b, h1, h2⟩ := impl_CustomersOk_e l hl hk
  rw [h1]
  cases b with
  | true => exact absurd (h2.1 rfl) h
  | false => rfl

theorem impl_needOf_l {l : List S33} (hn : l.length ≤ 8) (hb : ∀ i, i < l.length → 1 ≤ nd l i ∧ nd l i ≤ 9) : ∀ (d k i : Nat), i + d = l.length → d < k → impl_needOf.l0 k (sm (nd l) i) l (l.length : Int) (i : Int) = some (sm (nd l) l.length) := by
  intro d
  induction d with
  | zero =>
    intro k i hi hk
    obtain ⟨k, rfl⟩ : ∃ m, k = m + 1 := ⟨k - 1, by omega⟩
    simp only [impl_needOf.l0]
    rw [if_neg (by omega), show i = l.length from by omega]
  | succ d ih =>
    intro k i hi hk
    obtain ⟨k, rfl⟩ : ∃ m, k = m + 1 := ⟨k - 1, by omega⟩
    have h1 := sm_range (f := nd l) (n := l.length) hb i 0 (by omega)
    have h2 := hb i (by omega)
    rw [Nat.zero_add, sm_zero] at h1
    simp only [impl_needOf.l0]
    rw [if_pos (by omega), if_pos (by omega), if_pos (by omega), st (n := l.length) (by omega) (by omega), nd_eq, wr (by omega) (by omega), ← sm_succ]
    exact ih k (i + 1) (by omega) (by omega)
theorem impl_needOf_b {l : List S33} (hn : l.length ≤ 8) (hb : ∀ i, i < l.length → 1 ≤ nd l i ∧ nd l i ≤ 9) {k : Nat} (hk : l.length < k) : impl_needOf.f k l = some (sm (nd l) l.length) :=
  impl_needOf_l hn hb l.length k 0 (by omega) hk
theorem impl_needOf_e {l : List S33} (h : ok l) {k : Nat} (hk : l.length < k) : impl_needOf.f k l = some (sm (nd l) l.length) :=
  impl_needOf_b h.len (fun i hi => h.need hi) hk
theorem impl_needOf_take {l : List S33} (h : ok l) {m : Nat} (hm : m ≤ l.length) {k : Nat} (hk : l.length < k) : impl_needOf.f k (l.take m) = some (sm (nd l) m) := by
  have e : (l.take m).length = m := by rw [List.length_take]; omega
  rw [impl_needOf_e (ok_take h m hm) (by omega), e, sm_take l m m (Nat.le_refl _)]
theorem impl_needOf_drop {l : List S33} (h : ok l) {m : Nat} (hm : m ≤ l.length) {k : Nat} (hk : l.length < k) : impl_needOf.f k (l.drop m) = some (sm (nd l) l.length - sm (nd l) m) := by
  have e : (l.drop m).length = l.length - m := List.length_drop ..
  rw [impl_needOf_b (by have := h.len; omega) (fun i hi => by rw [nd_drop]; exact h.need (by omega)) (by omega), sm_drop, e, show l.length - m + m = l.length from by omega]
theorem impl_needOf_part {l : List S33} (h : ok l) {i m : Nat} (hi : i ≤ m) (hm : m ≤ l.length) {k : Nat} (hk : l.length < k) : impl_needOf.f k ((l.take m).drop i) = some (sm (nd l) m - sm (nd l) i) := by
  have e : (l.take m).length = m := by rw [List.length_take]; omega
  rw [impl_needOf_drop (ok_take h m hm) (by omega) (by omega), e, sm_take l m m (Nat.le_refl _), sm_take l m i hi]

-- MATH A
theorem impl_lastLeave_l {l : List S33} (h : ok l) : ∀ (d k i : Nat), i + d = l.length → d + 10 < k →
    impl_lastLeave.l0 k l (mxs (fun j => cm l j + (sm (nd l) l.length - sm (nd l) j)) i) l (l.length : Int) (i : Int) = some (mxs (fun j => cm l j + (sm (nd l) l.length - sm (nd l) j)) l.length) := by
  intro d
  induction d with
  | zero =>
    intro k i hi hk
    obtain ⟨k, rfl⟩ : ∃ m, k = m + 1 := ⟨k - 1, by omega⟩
    simp only [impl_lastLeave.l0]
    rw [if_neg (by omega), show i = l.length from by omega]
  | succ d ih =>
    intro k i hi hk
    obtain ⟨k, rfl⟩ : ∃ m, k = m + 1 := ⟨k - 1, by omega⟩
    have hl := h.len
    have h1 := h.sum (i := i) (j := l.length) (by omega) (by omega)
    have h5 := h.come (i := i) (by omega)
    simp only [impl_lastLeave.l0]
    rw [if_pos (by omega), if_pos (by omega), if_pos (by omega), if_pos (by omega), Int.toNat_natCast, impl_needOf_drop h (by omega) (by omega)]
    simp only [Option.bind_some]
    rw [cm_eq, st (n := l.length) (by omega) (by omega), wr (by omega) (by omega), ← mxs_succ (fun j => cm l j + (sm (nd l) l.length - sm (nd l) j)) i]
    exact ih k (i + 1) (by omega) (by omega)
theorem impl_lastLeave_e {l : List S33} (h : ok l) {k : Nat} (hk : l.length + 20 < k) : impl_lastLeave.f k l = some (LL (cm l) (nd l) l.length) := by
  unfold impl_lastLeave.f
  have := impl_lastLeave_l h l.length k 0 (by omega) (by omega)
  rw [mxs_zero, LL_sums h l.length (Nat.le_refl _)] at this
  exact this

theorem impl_LastLeave_t {l : List S33} (h : ok l) {k : Nat} (hk : l.length + 20 < k) : impl_LastLeave.f k l = some (LL (cm l) (nd l) l.length) := by
  unfold impl_LastLeave.f
  rw [impl_CustomersOk_t h (by omega)]
  simp only [Option.bind_some, if_true]
  rw [impl_lastLeave_e h hk]
  rfl
theorem impl_LastLeave_n {l : List S33} (hl : l.length ≤ 9000000000000000000) (h : ¬ ok l) {k : Nat} (hk : l.length < k) : impl_LastLeave.f k l = some (-1) := by
  unfold impl_LastLeave.f
  rw [impl_CustomersOk_n hl h hk]
  simp

end FnExactLastLeaveX
open FnExactLastLeaveX
theorem FnExactLastLeave (l0 : List S48) (hm : l0.length ≤ maxLen) (hw : ∀ x ∈ l0, (Lit.int .i64 x.f0).wf = true ∧ (Lit.int .i64 x.f1).wf = true) : ∃ k, laws_FnExactLastLeave.f k l0 = some true := by
  refine ⟨l0.length + 30, ?_⟩
  unfold laws_FnExactLastLeave.f
  rw [laws_szCustomerS_e l0 (by unfold maxLen at hm; exact hm)]
  simp only [Option.bind_some]
  by_cases h : l0.length ≤ 1048576
  · rw [if_pos h, if_neg (by omega), laws_toCustomerS_e l0 h (by omega)]
    have hc := cv_length l0
    have e : impl_LastLeave.f (l0.length + 30) (cv l0) = spec_LastLeave.f (l0.length + 30) (cv l0) ∧ ∃ r, spec_LastLeave.f (l0.length + 30) (cv l0) = some r := by
      by_cases hk : ok (cv l0)
      · rw [impl_LastLeave_t hk (by omega), spec_LastLeave_t hk (by omega)]; exact ⟨rfl, _, rfl⟩
      · rw [impl_LastLeave_n (by omega) hk (by omega), spec_LastLeave_n (by omega) hk (by omega)]; exact ⟨rfl, _, rfl⟩
    obtain ⟨e1, r, e2⟩ := e
    simp only [Option.bind_some, e1, e2, laws_eqCustomerS_e (cv l0) (by omega) (k := l0.length + 30) (by omega), if_true]
  · rw [if_neg h, if_pos (by omega)]

end Go.Proofs.Ytokmfgcnjjfljaa.Pure
