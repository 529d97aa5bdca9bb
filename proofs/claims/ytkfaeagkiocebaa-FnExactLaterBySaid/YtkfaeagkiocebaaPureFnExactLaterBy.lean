/- The pure statement of the law FnExactLaterBy: about numbers and lists alone, over the functions that print.sh has written. No conditions beyond those typed. -/
import Derived.Test.YtkfaeagkiocebaaQFnExactLaterByx4
import Derived.Test.YtkfaeagkiocebaaMath0
namespace Go.Proofs.Ytkfaeagkiocebaa.Pure
open Go.RowKit Go.Proofs.Ytkfaeagkiocebaa.QFnExactLaterBy Go.Proofs.YtkfaeagkiocebaaW.PrintWords Go.Proofs.YtkfaeagkiocebaaW.PrintLast Go.Proofs.YtkfaeagkiocebaaW.PrintMore Go.Proofs.Ytkfaeagkiocebaa.Math
set_option linter.unusedVariables false
set_option linter.unusedSimpArgs false
namespace FnExactLaterByX
/-- When the customer at place i comes, what this one needs. -/
def cm (l : List S40) (i : Nat) : Int := (rd_T40 l (i : Int)).f0
def nd (l : List S40) (i : Nat) : Int := (rd_T40 l (i : Int)).f1
theorem cm_eq (l : List S40) (i : Nat) : (rd_T40 l (i : Int)).f0 = cm l i := rfl
theorem nd_eq (l : List S40) (i : Nat) : (rd_T40 l (i : Int)).f1 = nd l i := rfl
theorem rd_get (l : List S40) (i : Nat) (h : i < l.length) : rd_T40 l (i : Int) = l[i] := by simp [rd_T40, h]
theorem rd_take (l : List S40) (m i : Nat) (h : i < m) : rd_T40 (l.take m) (i : Int) = rd_T40 l (i : Int) := by simp [rd_T40, List.getElem?_take, h]
theorem rd_drop (l : List S40) (m i : Nat) : rd_T40 (l.drop m) (i : Int) = rd_T40 l ((i + m : Nat) : Int) := by
  unfold rd_T40
  rw [List.getD_eq_getElem?_getD, List.getD_eq_getElem?_getD, List.getElem?_drop, Int.toNat_natCast, Int.toNat_natCast, Nat.add_comm]
theorem cm_take (l : List S40) (m i : Nat) (h : i < m) : cm (l.take m) i = cm l i := by unfold cm; rw [rd_take l m i h]
theorem nd_take (l : List S40) (m i : Nat) (h : i < m) : nd (l.take m) i = nd l i := by unfold nd; rw [rd_take l m i h]
theorem cm_drop (l : List S40) (m i : Nat) : cm (l.drop m) i = cm l (i + m) := by unfold cm; rw [rd_drop l m i]
theorem nd_drop (l : List S40) (m i : Nat) : nd (l.drop m) i = nd l (i + m) := by unfold nd; rw [rd_drop l m i]
/-- These are customers. -/
def ok (l : List S40) : Prop := OK (cm l) (nd l) l.length
theorem ok_take {l : List S40} (h : ok l) (m : Nat) (hm : m ≤ l.length) : ok (l.take m) := by
  have e : (l.take m).length = m := by rw [List.length_take]; omega
  unfold ok
  rw [e]
  exact OK.congr (fun i hi => (cm_take l m i hi).symm) (fun i hi => (nd_take l m i hi).symm) (OK.pre h hm)
theorem sm_take (l : List S40) (m j : Nat) (hj : j ≤ m) : sm (nd (l.take m)) j = sm (nd l) j := sm_congr (fun i hi => nd_take l m i (by omega))
theorem sm_drop (l : List S40) (m j : Nat) : sm (nd (l.drop m)) j = sm (nd l) (j + m) - sm (nd l) m := by
  rw [← sm_shift]
  exact sm_congr (fun i _ => nd_drop l m i)
theorem st {i : Nat} {n : Nat} (h : i < n) (hn : n ≤ 9000000000000000000) : wrap64 ((i : Int) + 1) = ((i + 1 : Nat) : Int) := by rw [wr (by omega) (by omega)]; simp
theorem pd {i : Nat} (h0 : 0 < i) (hn : i ≤ 9000000000000000000) : wrap64 ((i : Int) - 1) = ((i - 1 : Nat) : Int) := by rw [wr (by omega) (by omega)]; omega
theorem ext_list {a b : List S40} (hl : a.length = b.length) (h : ∀ i : Nat, i < a.length → cm a i = cm b i ∧ nd a i = nd b i) : a = b := by
  apply List.ext_getElem hl
  intro i h1 h2
  obtain ⟨e1, e2⟩ := h i h1
  unfold cm at e1
  unfold nd at e2
  rw [rd_get a i h1, rd_get b i h2] at e1 e2
  cases ha : a[i] with | mk x y =>
  cases hb : b[i] with | mk x' y' =>
  rw [ha, hb] at e1 e2
  simp only at e1 e2
  rw [e1, e2]
/-- The bytes that are drawn from. -/
structure Src (b : List Int) : Prop where
  byte : ∀ x ∈ b, 0 ≤ x ∧ x ≤ 255
  len : b.length ≤ 2000

/-- Customers of the law, as the program's. -/
def cv (l : List S48) : List S40 := l.map fun x => ⟨x.f0, x.f1⟩
theorem cv_length (l : List S48) : (cv l).length = l.length := List.length_map ..
theorem laws_szCustomerS_e (l : List S48) (hl : l.length ≤ 9223372036854775807) : laws_szCustomerS.f l 1048576 = some (if l.length ≤ 1048576 then 1048576 - (l.length : Int) else -1) := by
  unfold laws_szCustomerS.f
  rw [wr (by omega) (by omega)]
  by_cases h : l.length ≤ 1048576
  · rw [if_neg (by omega), if_pos h]
  · rw [if_pos (by omega), if_neg h]
theorem laws_toCustomerS_l (l : List S48) (hl : l.length ≤ 1048576) : ∀ (d k i : Nat) (o : List S40), i + d = l.length → d < k → o.length = l.length →
    (∀ j : Nat, j < i → o[j]? = (cv l)[j]?) → laws_toCustomerS.l0 k l o (i : Int) = some (cv l) := by
  intro d
  induction d with
  | zero =>
    intro k i o hi hk ho h
    obtain ⟨k, rfl⟩ : ∃ m, k = m + 1 := ⟨k - 1, by omega⟩
    simp only [laws_toCustomerS.l0]
    rw [if_neg (by omega)]
    congr 1
    apply List.ext_getElem?
    intro j
    by_cases hj : j < i
    · exact h j hj
    · rw [List.getElem?_eq_none (by omega), List.getElem?_eq_none (by rw [cv_length]; omega)]
  | succ d ih =>
    intro k i o hi hk ho h
    obtain ⟨k, rfl⟩ : ∃ m, k = m + 1 := ⟨k - 1, by omega⟩
    simp only [laws_toCustomerS.l0, laws_toCustomer.f, bs]
    rw [if_pos (by omega), if_pos (by omega), if_pos (by omega), st (n := l.length) (by omega) (by omega)]
    refine ih k (i + 1) _ (by omega) (by omega) (by rw [List.length_set]; exact ho) (fun j hj => ?_)
    rw [Int.toNat_natCast]
    by_cases e : j = i
    · subst e
      rw [List.getElem?_set_self (by omega)]
      unfold cv
      rw [List.getElem?_map, List.getElem?_eq_getElem (by omega)]
      simp [rd_T48, show j < l.length from by omega]
    · rw [List.getElem?_set_ne (Ne.symm e)]
      exact h j (by omega)
theorem laws_toCustomerS_e (l : List S48) (hl : l.length ≤ 1048576) {k : Nat} (hk : l.length < k) : laws_toCustomerS.f k l = some (cv l) := by
  unfold laws_toCustomerS.f
  rw [if_pos (by omega), Int.toNat_natCast, if_pos (by omega)]
  exact laws_toCustomerS_l l hl l.length k 0 _ (by omega) hk (by simp) (fun j hj => absurd hj (by omega))
theorem laws_eqCustomerS_l (a : List S40) (ha : a.length ≤ 1048576) : ∀ (d k i : Nat), i + d = a.length → d < k → laws_eqCustomerS.l0 k a a (i : Int) = some true := by
  intro d
  induction d with
  | zero =>
    intro k i hi hk
    obtain ⟨k, rfl⟩ : ∃ m, k = m + 1 := ⟨k - 1, by omega⟩
    simp only [laws_eqCustomerS.l0]
    rw [if_neg (by omega)]
  | succ d ih =>
    intro k i hi hk
    obtain ⟨k, rfl⟩ : ∃ m, k = m + 1 := ⟨k - 1, by omega⟩
    simp only [laws_eqCustomerS.l0, laws_eqCustomer.f]
    rw [if_pos (by omega), if_pos (by omega), if_pos (by omega), st (n := a.length) (by omega) (by omega)]
    simp only [bs, if_true]
    exact ih k (i + 1) (by omega) (by omega)
theorem laws_eqCustomerS_e (a : List S40) (ha : a.length ≤ 1048576) {k : Nat} (hk : a.length < k) : laws_eqCustomerS.f k a a = some true := by
  unfold laws_eqCustomerS.f
  rw [if_pos rfl]
  exact laws_eqCustomerS_l a ha a.length k 0 (by omega) hk

theorem spec_l1In_e (a b c : Int) : ∃ r, spec_l1In.f a b c = some r ∧ (r = true ↔ b ≤ a ∧ a ≤ c) := by
  unfold spec_l1In.f
  by_cases h : a ≥ b
  · rw [if_pos h]; exact ⟨_, rfl, by rw [decide_eq_true_iff]; exact ⟨fun h1 => ⟨h, h1⟩, fun h1 => h1.2⟩⟩
  · rw [if_neg h]; exact ⟨false, rfl, ⟨fun h1 => (by cases h1), fun h1 => absurd h1.1 h⟩⟩
theorem spec_l1In_t {a b c : Int} (h0 : b ≤ a) (h1 : a ≤ c) : spec_l1In.f a b c = some true := by
  unfold spec_l1In.f
  rw [if_pos h0, decide_eq_true h1]
theorem spec_l1In_n {a b c : Int} (h : ¬ (b ≤ a ∧ a ≤ c)) : spec_l1In.f a b c = some false := by
  unfold spec_l1In.f
  by_cases h0 : a ≥ b
  · rw [if_pos h0, decide_eq_false (fun h1 => h ⟨h0, h1⟩)]
  · rw [if_neg h0]
theorem spec_CustomersOk_l (l : List S40) (hl : l.length ≤ 9000000000000000000) : ∀ (d k i : Nat), i + d = l.length → d < k →
    ∃ b, spec_CustomersOk.l0 k l (i : Int) = some b ∧ (b = true ↔ l.length ≤ 8 ∧ ∀ j, i ≤ j → j < l.length → okAt (cm l) (nd l) j) := by
  intro d
  induction d with
  | zero =>
    intro k i hi hk
    obtain ⟨k, rfl⟩ : ∃ m, k = m + 1 := ⟨k - 1, by omega⟩
    simp only [spec_CustomersOk.l0]
    rw [if_neg (by omega)]
    exact ⟨_, rfl, by rw [decide_eq_true_iff]; exact ⟨fun h => ⟨by omega, fun j h1 h2 => absurd h1 (by omega)⟩, fun h => by have := h.1; omega⟩⟩
  | succ d ih =>
    intro k i hi hk
    obtain ⟨k, rfl⟩ : ∃ m, k = m + 1 := ⟨k - 1, by omega⟩
    obtain ⟨b, hb, hbt⟩ := ih k (i + 1) (by omega) (by omega)
    have no : (¬ okAt (cm l) (nd l) i) → (∃ b, some false = some b ∧ (b = true ↔ l.length ≤ 8 ∧ ∀ j, i ≤ j → j < l.length → okAt (cm l) (nd l) j)) := fun h => ⟨false, rfl, ⟨fun h0 => (by cases h0), fun h0 => absurd (h0.2 i (by omega) (by omega)) h⟩⟩
    have yes : okAt (cm l) (nd l) i → (∃ b, spec_CustomersOk.l0 k l ((i + 1 : Nat) : Int) = some b ∧ (b = true ↔ l.length ≤ 8 ∧ ∀ j, i ≤ j → j < l.length → okAt (cm l) (nd l) j)) := fun h => by
      refine ⟨b, hb, hbt.trans ⟨fun h0 => ⟨h0.1, fun j h1 h2 => ?_⟩, fun h0 => ⟨h0.1, fun j h1 h2 => h0.2 j (by omega) h2⟩⟩⟩
      by_cases e : j = i
      · subst e; exact h
      · exact h0.2 j (by omega) h2
    simp only [spec_CustomersOk.l0]
    rw [if_pos (by omega), if_pos (by omega), st (n := l.length) (by omega) hl]
    rw [cm_eq l i, nd_eq l i]
    by_cases h1 : 0 ≤ cm l i ∧ cm l i ≤ 60
    · rw [spec_l1In_t h1.1 h1.2]
      simp only [bs, if_true]
      by_cases h2 : 1 ≤ nd l i ∧ nd l i ≤ 9
      · rw [spec_l1In_t h2.1 h2.2]
        simp only [bs, if_true]
        by_cases h0 : i = 0
        · subst h0
          rw [if_neg (by simp)]
          exact yes ⟨by omega, by omega, by omega, by omega, fun h => by omega⟩
        · rw [if_pos (by omega), pd (by omega) (by omega), if_pos (by omega), if_pos (by omega)]
          rw [cm_eq l (i - 1)]
          by_cases h5 : cm l i < cm l (i - 1)
          · rw [if_pos h5]; exact no (fun h => by have := h.2.2.2.2 (by omega); omega)
          rw [if_neg h5]
          exact yes ⟨by omega, by omega, by omega, by omega, fun h => by omega⟩
      · rw [spec_l1In_n h2]
        exact no (fun h => h2 ⟨h.2.2.1, h.2.2.2.1⟩)
    · rw [spec_l1In_n h1]
      exact no (fun h => h1 ⟨h.1, h.2.1⟩)
theorem spec_CustomersOk_e (l : List S40) (hl : l.length ≤ 9000000000000000000) {k : Nat} (hk : l.length < k) : ∃ b, spec_CustomersOk.f k l = some b ∧ (b = true ↔ ok l) := by
  obtain ⟨b, h1, h2⟩ := spec_CustomersOk_l l hl l.length k 0 (by omega) hk
  exact ⟨b, h1, h2.trans ⟨fun h => ⟨h.1, fun i hi => h.2 i (Nat.zero_le _) hi⟩, fun h => ⟨h.1, fun i _ hi => h.2 i hi⟩⟩⟩
theorem spec_CustomersOk_t {l : List S40} (h : ok l) {k : Nat} (hk : l.length < k) : spec_CustomersOk.f k l = some true := by
  obtain ⟨b, h1, h2⟩ := spec_CustomersOk_e l (by have := h.1; omega) hk
  rw [h1, h2.2 h]
theorem spec_CustomersOk_n {l : List S40} (hl : l.length ≤ 9000000000000000000) (h : ¬ ok l) {k : Nat} (hk : l.length < k) : spec_CustomersOk.f k l = some false := by
  obtain ⟨b, h1, h2⟩ := spec_CustomersOk_e l hl hk
  rw [h1]
  cases b with
  | true => exact absurd (h2.1 rfl) h
  | false => rfl

/-- Customers who all come so much later. -/
def lat (l : List S40) (b : Int) : List S40 := l.map fun x => ⟨wrap64 (x.f0 + b), x.f1⟩
theorem lat_length (l : List S40) (b : Int) : (lat l b).length = l.length := List.length_map ..
theorem lat_get (l : List S40) (b : Int) {i : Nat} (h : i < l.length) : (lat l b)[i]? = some ⟨wrap64 (cm l i + b), nd l i⟩ := by
  unfold lat cm nd
  rw [List.getElem?_map, List.getElem?_eq_getElem h, rd_get l i h]
  rfl
theorem lat_rd (l : List S40) (b : Int) {i : Nat} (h : i < l.length) : rd_T40 (lat l b) (i : Int) = ⟨wrap64 (cm l i + b), nd l i⟩ := by
  unfold rd_T40
  rw [List.getD_eq_getElem?_getD, Int.toNat_natCast, lat_get l b h]
  rfl
theorem lat_cm (l : List S40) {b : Int} (hb : 0 ≤ b ∧ b ≤ 60) (ho : ok l) {i : Nat} (h : i < l.length) : cm (lat l b) i = cm l i + b := by
  have := ho.come h
  show (rd_T40 (lat l b) (i : Int)).f0 = _
  rw [lat_rd l b h]
  exact wr (by omega) (by omega)
theorem lat_nd (l : List S40) (b : Int) {i : Nat} (h : i < l.length) : nd (lat l b) i = nd l i := by
  show (rd_T40 (lat l b) (i : Int)).f1 = _
  rw [lat_rd l b h]

-- PRE later
theorem spec_LaterBy_l {l : List S40} (hl : l.length ≤ 1048576) (b : Int) : ∀ (d k i : Nat), i + d = l.length → d < k →
    spec_LaterBy.l0 k l b ((lat l b).take i) (i : Int) = (spec_CustomersOk.f (k - (d + 1)) l).bind fun t128 => if t128 = true then (spec_CustomersOk.f (k - (d + 1)) (lat l b)).bind fun t129 => if t129 = true then (spec_l1In.f b 0 60).bind fun t130 => if t130 = true then some (lat l b, true) else some ([], false) else some ([], false) else some ([], false) := by
  intro d
  have hc := lat_length l b
  induction d with
  | zero =>
    intro k i hi hk
    obtain ⟨k, rfl⟩ : ∃ m, k = m + 1 := ⟨k - 1, by omega⟩
    simp only [spec_LaterBy.l0]
    rw [if_neg (by omega), List.take_of_length_le (by omega)]
    rfl
  | succ d ih =>
    intro k i hi hk
    obtain ⟨k, rfl⟩ : ∃ m, k = m + 1 := ⟨k - 1, by omega⟩
    simp only [spec_LaterBy.l0]
    rw [if_pos (by omega), if_pos (by omega), if_pos (by rw [List.length_take]; omega), st (n := l.length) (by omega) (by omega), show k + 1 - (d + 1 + 1) = k - (d + 1) from by omega]
    have e : (lat l b).take i ++ [(⟨wrap64 ((rd_T40 l (i : Int)).f0 + b), (rd_T40 l (i : Int)).f1⟩ : S40)] = (lat l b).take (i + 1) := by
      rw [List.take_add_one, lat_get l b (by omega)]
      rfl
    rw [e]
    exact ih k (i + 1) (by omega) (by omega)
theorem spec_LaterBy_s {l : List S40} (hl : l.length ≤ 1048576) (b : Int) {k : Nat} (hk : l.length < k) : spec_LaterBy.f k l b = (spec_CustomersOk.f (k - (l.length + 1)) l).bind fun t128 => if t128 = true then (spec_CustomersOk.f (k - (l.length + 1)) (lat l b)).bind fun t129 => if t129 = true then (spec_l1In.f b 0 60).bind fun t130 => if t130 = true then some (lat l b, true) else some ([], false) else some ([], false) else some ([], false) := by
  unfold spec_LaterBy.f
  exact spec_LaterBy_l hl b l.length k 0 (by omega) hk
theorem spec_LaterBy_t {l : List S40} (h : ok l) {b : Int} (h0 : 0 ≤ b ∧ b ≤ 60) (h1 : ok (lat l b)) {k : Nat} (hk : 2 * l.length + 60 < k) : spec_LaterBy.f k l b = some (lat l b, true) := by
  have hc := lat_length l b
  have hl := h.len
  rw [spec_LaterBy_s (by omega) b (by omega), spec_CustomersOk_t h (by omega), bs, if_pos rfl, spec_CustomersOk_t h1 (by omega), bs, if_pos rfl, spec_l1In_t h0.1 h0.2, bs, if_pos rfl]
theorem spec_LaterBy_n {l : List S40} (hl : l.length ≤ 1048576) {b : Int} (h : ¬ (ok l ∧ (0 ≤ b ∧ b ≤ 60) ∧ ok (lat l b))) {k : Nat} (hk : 2 * l.length + 60 < k) : spec_LaterBy.f k l b = some ([], false) := by
  have hc := lat_length l b
  rw [spec_LaterBy_s hl b (by omega)]
  by_cases ho : ok l
  · rw [spec_CustomersOk_t ho (by omega), bs, if_pos rfl]
    by_cases h1 : ok (lat l b)
    · rw [spec_CustomersOk_t h1 (by omega), bs, if_pos rfl, spec_l1In_n (fun hb => h ⟨ho, hb, h1⟩), bs, if_neg (by simp)]
    · rw [spec_CustomersOk_n (by omega) h1 (by omega), bs, if_neg (by simp)]
  · rw [spec_CustomersOk_n (by omega) ho (by omega), bs, if_neg (by simp)]

theorem impl_CustomersOk_l (l : List S40) (hl : l.length ≤ 9000000000000000000) : ∀ (d k i : Nat), i + d = l.length → d < k →
    ∃ b, impl_CustomersOk.l0 k l l (l.length : Int) (i : Int) = some b ∧ (b = true ↔ l.length ≤ 8 ∧ ∀ j, i ≤ j → j < l.length → okAt (cm l) (nd l) j) := by
  intro d
  induction d with
  | zero =>
    intro k i hi hk
    obtain ⟨k, rfl⟩ : ∃ m, k = m + 1 := ⟨k - 1, by omega⟩
    simp only [impl_CustomersOk.l0]
    rw [if_neg (by omega)]
    exact ⟨_, rfl, by rw [decide_eq_true_iff]; exact ⟨fun h => ⟨by omega, fun j h1 h2 => absurd h1 (by omega)⟩, fun h => by have := h.1; omega⟩⟩
  | succ d ih =>
    intro k i hi hk
    obtain ⟨k, rfl⟩ : ∃ m, k = m + 1 := ⟨k - 1, by omega⟩
    obtain ⟨b, hb, hbt⟩ := ih k (i + 1) (by omega) (by omega)
    have no : (¬ okAt (cm l) (nd l) i) → (∃ b, some false = some b ∧ (b = true ↔ l.length ≤ 8 ∧ ∀ j, i ≤ j → j < l.length → okAt (cm l) (nd l) j)) := fun h => ⟨false, rfl, ⟨fun h0 => (by cases h0), fun h0 => absurd (h0.2 i (by omega) (by omega)) h⟩⟩
    have yes : okAt (cm l) (nd l) i → (∃ b, impl_CustomersOk.l0 k l l (l.length : Int) ((i + 1 : Nat) : Int) = some b ∧ (b = true ↔ l.length ≤ 8 ∧ ∀ j, i ≤ j → j < l.length → okAt (cm l) (nd l) j)) := fun h => by
      refine ⟨b, hb, hbt.trans ⟨fun h0 => ⟨h0.1, fun j h1 h2 => ?_⟩, fun h0 => ⟨h0.1, fun j h1 h2 => h0.2 j (by omega) h2⟩⟩⟩
      by_cases e : j = i
      · subst e; exact h
      · exact h0.2 j (by omega) h2
    simp only [impl_CustomersOk.l0]
    rw [if_pos (by omega), if_pos (by omega), if_pos (by omega), st (n := l.length) (by omega) hl]
    rw [cm_eq l i, nd_eq l i]
    by_cases h1 : cm l i < 0
    · rw [if_pos h1]; exact no (fun h => by have := h.1; omega)
    rw [if_neg h1]
    by_cases h2 : cm l i > 60
    · rw [if_pos h2]; exact no (fun h => by have := h.2.1; omega)
    rw [if_neg h2]
    by_cases h0 : i = 0
    · subst h0
      rw [if_neg (by simp)]
      by_cases h3 : nd l 0 < 1
      · rw [if_pos h3]; exact no (fun h => by have := h.2.2.1; omega)
      rw [if_neg h3]
      by_cases h4 : nd l 0 > 9
      · rw [if_pos h4]; exact no (fun h => by have := h.2.2.2.1; omega)
      rw [if_neg h4]
      exact yes ⟨by omega, by omega, by omega, by omega, fun h => by omega⟩
    · rw [if_pos (by omega), pd (by omega) (by omega), if_pos (by omega), if_pos (by omega)]
      rw [cm_eq l (i - 1)]
      by_cases h5 : cm l i < cm l (i - 1)
      · rw [if_pos h5]; exact no (fun h => by have := h.2.2.2.2 (by omega); omega)
      rw [if_neg h5]
      by_cases h3 : nd l i < 1
      · rw [if_pos h3]; exact no (fun h => by have := h.2.2.1; omega)
      rw [if_neg h3]
      by_cases h4 : nd l i > 9
      · rw [if_pos h4]; exact no (fun h => by have := h.2.2.2.1; omega)
      rw [if_neg h4]
      exact yes ⟨by omega, by omega, by omega, by omega, fun h => by omega⟩
theorem impl_CustomersOk_e (l : List S40) (hl : l.length ≤ 9000000000000000000) {k : Nat} (hk : l.length < k) : ∃ b, impl_CustomersOk.f k l = some b ∧ (b = true ↔ ok l) := by
  obtain ⟨b, h1, h2⟩ := impl_CustomersOk_l l hl l.length k 0 (by omega) hk
  exact ⟨b, h1, h2.trans ⟨fun h => ⟨h.1, fun i hi => h.2 i (Nat.zero_le _) hi⟩, fun h => ⟨h.1, fun i _ hi => h.2 i hi⟩⟩⟩
theorem impl_CustomersOk_t {l : List S40} (h : ok l) {k : Nat} (hk : l.length < k) : impl_CustomersOk.f k l = some true := by
  obtain ⟨b, h1, h2⟩ := impl_CustomersOk_e l (by have := h.1; omega) hk
  rw [h1, h2.2 h]
theorem impl_CustomersOk_n {l : List S40} (hl : l.length ≤ 9000000000000000000) (h : ¬ ok l) {k : Nat} (hk : l.length < k) : impl_CustomersOk.f k l = some false := by
  obtain ⟨b, h1, h2⟩ := impl_CustomersOk_e l hl hk
  rw [h1]
  cases b with
  | true => exact absurd (h2.1 rfl) h
  | false => rfl

theorem impl_Customer_e (l : List S40) (h : l.length < 8796093022208) : impl_Customer.f l = some l := by
  unfold impl_Customer.f
  rw [bs, if_pos (by simp; omega)]
  rfl

-- PRE later
theorem impl_LaterBy_l {l : List S40} (hl : l.length ≤ 8) (b : Int) : ∀ (d k i : Nat) (o : List S40), i + d = l.length → d + 20 < k → o.length = l.length → (∀ j : Nat, o[j]? = if j < i then (lat l b)[j]? else l[j]?) →
    impl_LaterBy.l0 k b o (l.length : Int) (i : Int) = (impl_CustomersOk.f (k - (d + 1)) (lat l b)).bind fun t => if t = true then some (lat l b, true) else some ([], false) := by
  intro d
  induction d with
  | zero =>
    intro k i o hi hk ho h
    obtain ⟨k, rfl⟩ : ∃ m, k = m + 1 := ⟨k - 1, by omega⟩
    have e : o = lat l b := by
      apply List.ext_getElem?
      intro j
      rw [h j]
      by_cases hj : j < i
      · rw [if_pos hj]
      · rw [if_neg hj, List.getElem?_eq_none (by omega), List.getElem?_eq_none (by rw [lat_length]; omega)]
    subst e
    simp only [impl_LaterBy.l0]
    rw [if_neg (by omega)]
    rfl
  | succ d ih =>
    intro k i o hi hk ho h
    obtain ⟨k, rfl⟩ : ∃ m, k = m + 1 := ⟨k - 1, by omega⟩
    have ei : rd_T40 o (i : Int) = rd_T40 l (i : Int) := by
      unfold rd_T40
      rw [List.getD_eq_getElem?_getD, List.getD_eq_getElem?_getD, Int.toNat_natCast, h i, if_neg (by omega)]
    simp only [impl_LaterBy.l0]
    rw [if_pos (by omega), if_pos (by omega), if_pos (by omega), Int.toNat_natCast, st (n := l.length) (by omega) (by omega), ei, show k + 1 - (d + 1 + 1) = k - (d + 1) from by omega]
    refine ih k (i + 1) _ (by omega) (by omega) (by rw [List.length_set]; exact ho) (fun j => ?_)
    by_cases e : j = i
    · subst e
      rw [List.getElem?_set_self (by omega), if_pos (by omega), lat_get l b (by omega)]
      rfl
    · rw [List.getElem?_set_ne (Ne.symm e), h j]
      by_cases e2 : j < i
      · rw [if_pos e2, if_pos (by omega)]
      · rw [if_neg e2, if_neg (by omega)]
theorem impl_LaterBy_s {l : List S40} (h : ok l) {b : Int} (h0 : 0 ≤ b ∧ b ≤ 60) {k : Nat} (hk : l.length + 40 < k) : impl_LaterBy.f k l b = (impl_CustomersOk.f (k - (l.length + 2)) (lat l b)).bind fun t => if t = true then some (lat l b, true) else some ([], false) := by
  unfold impl_LaterBy.f
  have hl := h.len
  obtain ⟨k, rfl⟩ : ∃ m, k = m + 1 := ⟨k - 1, by omega⟩
  rw [impl_CustomersOk_t h (by omega)]
  simp only [bs, if_true, impl_LaterBy.j0]
  rw [if_neg (by omega), decide_eq_false (by omega), if_neg (by simp), impl_Customer_e l (by omega)]
  simp only [bs]
  have := impl_LaterBy_l hl b l.length k 0 l (by omega) (by omega) rfl (fun j => by rw [if_neg (by omega)])
  rw [show k + 1 - (l.length + 2) = k - (l.length + 1) from by omega]
  exact this
theorem impl_LaterBy_t {l : List S40} (h : ok l) {b : Int} (h0 : 0 ≤ b ∧ b ≤ 60) (h1 : ok (lat l b)) {k : Nat} (hk : 2 * l.length + 60 < k) : impl_LaterBy.f k l b = some (lat l b, true) := by
  have hc := lat_length l b
  rw [impl_LaterBy_s h h0 (by omega), impl_CustomersOk_t h1 (by omega), bs, if_pos rfl]
theorem impl_LaterBy_n {l : List S40} (hl : l.length ≤ 9000000000000000000) {b : Int} (h : ¬ (ok l ∧ (0 ≤ b ∧ b ≤ 60) ∧ ok (lat l b))) {k : Nat} (hk : 2 * l.length + 60 < k) : impl_LaterBy.f k l b = some ([], false) := by
  have hc := lat_length l b
  by_cases ho : ok l
  · by_cases hb : 0 ≤ b ∧ b ≤ 60
    · rw [impl_LaterBy_s ho hb (by omega), impl_CustomersOk_n (by omega) (fun h1 => h ⟨ho, hb, h1⟩) (by omega), bs, if_neg (by simp)]
    · unfold impl_LaterBy.f
      obtain ⟨k, rfl⟩ : ∃ m, k = m + 1 := ⟨k - 1, by omega⟩
      rw [impl_CustomersOk_t ho (by omega)]
      simp only [bs, if_true, impl_LaterBy.j0]
      by_cases h0 : b < 0
      · rw [if_pos h0]
      · rw [if_neg h0, decide_eq_true (by omega), if_pos rfl]
  · unfold impl_LaterBy.f
    obtain ⟨k, rfl⟩ : ∃ m, k = m + 1 := ⟨k - 1, by omega⟩
    rw [impl_CustomersOk_n hl ho (by omega)]
    simp [impl_LaterBy.j0]

theorem rd_set (o : List S40) (i j : Nat) (v : S40) (hi : i < o.length) : rd_T40 (o.set i v) (j : Int) = if j = i then v else rd_T40 o (j : Int) := by
  unfold rd_T40
  rw [List.getD_eq_getElem?_getD, List.getD_eq_getElem?_getD, Int.toNat_natCast]
  by_cases e : j = i
  · subst e
    rw [List.getElem?_set_self hi, if_pos rfl]
    rfl
  · rw [List.getElem?_set_ne (Ne.symm e), if_neg e]
theorem laws_markCustomerS_m : ∀ (d k i : Nat) (o : List S40), o.length ≤ 4000000000000000000 → i + d = o.length → d < k → (∀ j : Nat, j < i → cm o j = 2 * (j : Int) + 1 ∧ nd o j = 2 * (j : Int) + 2) →
    ∃ o', laws_markCustomerS.l0 k o (2 * (i : Int) + 1) (i : Int) = some (2 * (o.length : Int) + 1, o') ∧ o'.length = o.length ∧ ∀ j : Nat, j < o.length → cm o' j = 2 * (j : Int) + 1 ∧ nd o' j = 2 * (j : Int) + 2 := by
  intro d
  induction d with
  | zero =>
    intro k i o ho hi hk h
    obtain ⟨k, rfl⟩ : ∃ m, k = m + 1 := ⟨k - 1, by omega⟩
    simp only [laws_markCustomerS.l0]
    rw [if_neg (by omega), show (i : Int) = (o.length : Int) from by omega]
    exact ⟨o, rfl, rfl, fun j hj => h j (by omega)⟩
  | succ d ih =>
    intro k i o ho hi hk h
    obtain ⟨k, rfl⟩ : ∃ m, k = m + 1 := ⟨k - 1, by omega⟩
    simp only [laws_markCustomerS.l0]
    rw [if_pos (by omega), if_pos (by omega)]
    simp only [bs]
    rw [st (n := o.length) (by omega) (by omega), wr (x := 2 * (i : Int) + 1 + 1) (by omega) (by omega), wr (by omega) (by omega), show 2 * (i : Int) + 1 + 1 + 1 = 2 * ((i + 1 : Nat) : Int) + 1 from by omega, Int.toNat_natCast, List.set_set, rd_set o i i _ (by omega), if_pos rfl]
    have e : (o.set i (⟨2 * (i : Int) + 1, 2 * (i : Int) + 1 + 1⟩ : S40)).length = o.length := List.length_set ..
    obtain ⟨o', h1, h2, h3⟩ := ih k (i + 1) (o.set i (⟨2 * (i : Int) + 1, 2 * (i : Int) + 1 + 1⟩ : S40)) (by omega) (by omega) (by omega) (fun j hj => by
      unfold cm nd
      rw [rd_set o i j _ (by omega)]
      by_cases ej : j = i
      · subst ej; rw [if_pos rfl]; exact ⟨rfl, by simp only; omega⟩
      · rw [if_neg ej]; exact h j (by omega))
    rw [e] at h1 h2 h3
    exact ⟨o', h1, h2, h3⟩
theorem laws_heldCustomerS_l (o : List S40) (ho : o.length ≤ 4000000000000000000) (h : ∀ j : Nat, j < o.length → cm o j = 2 * (j : Int) + 1 ∧ nd o j = 2 * (j : Int) + 2) : ∀ (d k i : Nat), i + d = o.length → d < k → laws_heldCustomerS.l0 k o (2 * (i : Int) + 1) (i : Int) = some (2 * (o.length : Int) + 1) := by
  intro d
  induction d with
  | zero =>
    intro k i hi hk
    obtain ⟨k, rfl⟩ : ∃ m, k = m + 1 := ⟨k - 1, by omega⟩
    simp only [laws_heldCustomerS.l0]
    rw [if_neg (by omega), show (i : Int) = (o.length : Int) from by omega]
  | succ d ih =>
    intro k i hi hk
    obtain ⟨k, rfl⟩ : ∃ m, k = m + 1 := ⟨k - 1, by omega⟩
    obtain ⟨h1, h2⟩ := h i (by omega)
    simp only [laws_heldCustomerS.l0]
    rw [if_pos (by omega), if_pos (by omega), cm_eq, nd_eq, if_pos h1, wr (x := 2 * (i : Int) + 1 + 1) (by omega) (by omega), if_pos (by omega), st (n := o.length) (by omega) (by omega), wr (by omega) (by omega), show 2 * (i : Int) + 1 + 1 + 1 = 2 * ((i + 1 : Nat) : Int) + 1 from by omega]
    exact ih k (i + 1) (by omega) (by omega)
theorem laws_marksC (o : List S40) (ho : o.length ≤ 4000000000000000000) {k : Nat} (hk : o.length < k) :
    ∃ o', laws_markCustomerS.f k o 1 = some (2 * (o.length : Int) + 1, o') ∧ ∀ k', o.length < k' → laws_heldCustomerS.f k' o' 1 = some (2 * (o.length : Int) + 1) := by
  obtain ⟨o', h1, h2, h3⟩ := laws_markCustomerS_m o.length k 0 o ho (by omega) hk (fun j hj => absurd hj (by omega))
  refine ⟨o', h1, fun k' hk' => ?_⟩
  have := laws_heldCustomerS_l o' (by omega) (by rw [h2]; exact h3) o'.length k' 0 (by omega) (by omega)
  rw [h2] at this
  exact this

end FnExactLaterByX
open FnExactLaterByX
-- ALSO marksC
theorem FnExactLaterBy (l0 : List S48) (hm : l0.length ≤ maxLen) (hw : ∀ x ∈ l0, (Lit.int .i64 x.f0).wf = true ∧ (Lit.int .i64 x.f1).wf = true) (a1 : Int) (hw1 : (Lit.int .i64 a1).wf = true) : ∃ k, laws_FnExactLaterBy.f k l0 a1 = some true := by
  refine ⟨2 * l0.length + 103, ?_⟩
  unfold laws_FnExactLaterBy.f
  rw [laws_szCustomerS_e l0 (by unfold maxLen at hm; exact hm)]
  simp only [bs]
  by_cases h : l0.length ≤ 1048576
  · rw [if_pos h, if_neg (by omega), laws_toCustomerS_e l0 h (by omega)]
    have hc := cv_length l0
    have e : ∃ r c, r.length ≤ 1048576 ∧ r.length ≤ l0.length ∧ (∀ k, 2 * l0.length + 90 < k → spec_LaterBy.f k (cv l0) a1 = some (r, c)) ∧ (∀ k, 2 * l0.length + 90 < k → impl_LaterBy.f k (cv l0) a1 = some (r, c)) := by
      have hlc := lat_length (cv l0) a1
      by_cases hk : ok (cv l0) ∧ (0 ≤ a1 ∧ a1 ≤ 60) ∧ ok (lat (cv l0) a1)
      · exact ⟨_, _, by omega, by omega, fun k hk' => spec_LaterBy_t hk.1 hk.2.1 hk.2.2 (by omega), fun k hk' => impl_LaterBy_t hk.1 hk.2.1 hk.2.2 (by omega)⟩
      · exact ⟨_, _, by simp, by simp, fun k hk' => spec_LaterBy_n (by omega) hk (by omega), fun k hk' => impl_LaterBy_n (by omega) hk (by omega)⟩
    obtain ⟨r, c, hr, hr', e1, e2⟩ := e
    obtain ⟨o', hm1, hm2⟩ := laws_marksC (cv l0) (by omega) (k := 2 * l0.length + 102) (by omega)
    obtain ⟨o2, hm3, hm4⟩ := laws_marksC r (by omega) (k := 2 * l0.length + 101) (by omega)
    simp only [bs]
    rw [e1 _ (by omega), e2 _ (by omega)]
    simp only [bs]
    rw [laws_eqCustomerS_e r hr (by omega), bs, if_pos rfl, bne_self_eq_false]
    simp only [laws_FnExactLaterBy.j0, Bool.false_eq_true, if_false]
    rw [laws_toCustomerS_e l0 h (by omega), bs, laws_eqCustomerS_e (cv l0) (by omega) (by omega), bs, if_pos rfl, hm1, bs, if_neg (by simp only; omega), laws_eqCustomerS_e r hr (by omega), bs, if_pos rfl, bne_self_eq_false]
    simp only [laws_FnExactLaterBy.j1, Bool.false_eq_true, if_false]
    rw [hm3]
    simp only [bs]
    rw [hm4 _ (by omega)]
    simp only [bs]
    rw [if_neg (by omega), laws_toCustomerS_e l0 h (by omega)]
    simp only [bs, if_true]
    rw [e2 _ (by omega)]
    simp only [bs]
    rw [laws_eqCustomerS_e r hr (by omega), bs, if_pos rfl, bne_self_eq_false]
    simp only [laws_FnExactLaterBy.j2, Bool.false_eq_true, if_false]
    rw [hm4 _ (by omega)]
    simp only [bs]
    rw [if_neg (by omega)]
    simp
  · rw [if_neg h, if_pos (by omega)]

end Go.Proofs.Ytkfaeagkiocebaa.Pure
