/- The pure statement of the law FnExactIdleUntil: about numbers and lists alone, over the functions that print.sh has written. No conditions beyond those typed. -/
import Derived.Test.YtkfaeagkiocebaaHFnExactIdleUntil
import Derived.Test.YtkfaeagkiocebaaMath0
import Derived.Test.YtkfaeagkiocebaaMathA
namespace Go.Proofs.Ytkfaeagkiocebaa.Pure
open Go.RowKit Go.Proofs.Ytkfaeagkiocebaa.PFnExactIdleUntil Go.Proofs.YtkfaeagkiocebaaW.PrintWords Go.Proofs.YtkfaeagkiocebaaW.PrintLast Go.Proofs.YtkfaeagkiocebaaW.PrintMore Go.Proofs.Ytkfaeagkiocebaa.Math
set_option linter.unusedVariables false
set_option linter.unusedSimpArgs false
namespace FnExactIdleUntilX
/-- When the customer at place i comes, what this one needs. -/
def cm (l : List S40) (i : Nat) : Int := (rd_T40 l (i : Int)).f0
def nd (l : List S40) (i : Nat) : Int := (rd_T40 l (i : Int)).f1
theorem cm_eq (l : List S40) (i : Nat) : (rd_T40 l (i : Int)).f0 = cm l i := rfl
theorem nd_eq (l : List S40) (i : Nat) : (rd_T40 l (i : Int)).f1 = nd l i := rfl
theorem rd_get (l : List S40) (i : Nat) (h : i < l.length) : rd_T40 l (i : Int) = l[i] := by simp [rd_T40, h]
theorem rd_take (l : List S40) (m i : Nat) (h : i < m) : rd_T40 (l.take m) (i : Int) = rd_T40 l (i : Int) := by simp [rd_T40, List.getElem?_take, h]
theorem rd_drop (l : List S40) (m i : Nat) : rd_T40 (l.drop m) (i : Int) = rd_T40 l ((i + m : Nat) : Int) := by
  unfold rd_T40
  rw [List.getD_eq_getElem?_getD, List.getD_eq_getElem?_getD, List.getElem?_drop, Int.toNat_natCast, Int.toNat_natCast, Nat.add_comm]
theorem cm_take (l : List S40) (m i : Nat) (h : i < m) : cm (l.take m) i = cm l i := by unfold cm; rw [rd_take l m i h]
theorem nd_take (l : List S40) (m i : Nat) (h : i < m) : nd (l.take m) i = nd l i := by unfold nd; rw [rd_take l m i h]
theorem cm_drop (l : List S40) (m i : Nat) : cm (l.drop m) i = cm l (i + m) := by unfold cm; rw [rd_drop l m i]
theorem nd_drop (l : List S40) (m i : Nat) : nd (l.drop m) i = nd l (i + m) := by unfold nd; rw [rd_drop l m i]
/-- These are customers. -/
def ok (l : List S40) : Prop := OK (cm l) (nd l) l.length
theorem ok_take {l : List S40} (h : ok l) (m : Nat) (hm : m ≤ l.length) : ok (l.take m) := by
  have e : (l.take m).length = m := by rw [List.length_take]; omega
  unfold ok
  rw [e]
  exact OK.congr (fun i hi => (cm_take l m i hi).symm) (fun i hi => (nd_take l m i hi).symm) (OK.pre h hm)
theorem sm_take (l : List S40) (m j : Nat) (hj : j ≤ m) : sm (nd (l.take m)) j = sm (nd l) j := sm_congr (fun i hi => nd_take l m i (by omega))
theorem sm_drop (l : List S40) (m j : Nat) : sm (nd (l.drop m)) j = sm (nd l) (j + m) - sm (nd l) m := by
  rw [← sm_shift]
  exact sm_congr (fun i _ => nd_drop l m i)
theorem st {i : Nat} {n : Nat} (h : i < n) (hn : n ≤ 9000000000000000000) : wrap64 ((i : Int) + 1) = ((i + 1 : Nat) : Int) := by rw [wr (by omega) (by omega)]; simp
theorem pd {i : Nat} (h0 : 0 < i) (hn : i ≤ 9000000000000000000) : wrap64 ((i : Int) - 1) = ((i - 1 : Nat) : Int) := by rw [wr (by omega) (by omega)]; omega
theorem ext_list {a b : List S40} (hl : a.length = b.length) (h : ∀ i : Nat, i < a.length → cm a i = cm b i ∧ nd a i = nd b i) : a = b := by
  apply List.ext_getElem hl
  intro i h1 h2
  obtain ⟨e1, e2⟩ := h i h1
  unfold cm at e1
  unfold nd at e2
  rw [rd_get a i h1, rd_get b i h2] at e1 e2
  cases ha : a[i] with | mk x y =>
  cases hb : b[i] with | mk x' y' =>
  rw [ha, hb] at e1 e2
  simp only at e1 e2
  rw [e1, e2]
/-- The bytes that are drawn from. -/
structure Src (b : List Int) : Prop where
  byte : ∀ x ∈ b, 0 ≤ x ∧ x ≤ 255
  len : b.length ≤ 2000

/-- Customers of the law, as the program's. -/
def cv (l : List S48) : List S40 := l.map fun x => ⟨x.f0, x.f1⟩
theorem cv_length (l : List S48) : (cv l).length = l.length := List.length_map ..
theorem laws_szCustomerS_e (l : List S48) (hl : l.length ≤ 9223372036854775807) : laws_szCustomerS.f l 1048576 = some (if l.length ≤ 1048576 then 1048576 - (l.length : Int) else -1) := by
  unfold laws_szCustomerS.f
  rw [wr (by omega) (by omega)]
  by_cases h : l.length ≤ 1048576
  · rw [if_neg (by omega), if_pos h]
  · rw [if_pos (by omega), if_neg h]
theorem laws_toCustomerS_l (l : List S48) (hl : l.length ≤ 1048576) : ∀ (d k i : Nat) (o : List S40), i + d = l.length → d < k → o.length = l.length →
    (∀ j : Nat, j < i → o[j]? = (cv l)[j]?) → laws_toCustomerS.l0 k l o (i : Int) = some (cv l) := by
  intro d
  induction d with
  | zero =>
    intro k i o hi hk ho h
    obtain ⟨k, rfl⟩ : ∃ m, k = m + 1 := ⟨k - 1, by omega⟩
    simp only [laws_toCustomerS.l0]
    rw [if_neg (by omega)]
    congr 1
    apply List.ext_getElem?
    intro j
    by_cases hj : j < i
    · exact h j hj
    · rw [List.getElem?_eq_none (by omega), List.getElem?_eq_none (by rw [cv_length]; omega)]
  | succ d ih =>
    intro k i o hi hk ho h
    obtain ⟨k, rfl⟩ : ∃ m, k = m + 1 := ⟨k - 1, by omega⟩
    simp only [laws_toCustomerS.l0, laws_toCustomer.f, bs]
    rw [if_pos (by omega), if_pos (by omega), if_pos (by omega), st (n := l.length) (by omega) (by omega)]
    refine ih k (i + 1) _ (by omega) (by omega) (by rw [List.length_set]; exact ho) (fun j hj => ?_)
    rw [Int.toNat_natCast]
    by_cases e : j = i
    · subst e
      rw [List.getElem?_set_self (by omega)]
      unfold cv
      rw [List.getElem?_map, List.getElem?_eq_getElem (by omega)]
      simp [rd_T48, show j < l.length from by omega]
    · rw [List.getElem?_set_ne (Ne.symm e)]
      exact h j (by omega)
theorem laws_toCustomerS_e (l : List S48) (hl : l.length ≤ 1048576) {k : Nat} (hk : l.length < k) : laws_toCustomerS.f k l = some (cv l) := by
  unfold laws_toCustomerS.f
  rw [if_pos (by omega), Int.toNat_natCast, if_pos (by omega)]
  exact laws_toCustomerS_l l hl l.length k 0 _ (by omega) hk (by simp) (fun j hj => absurd hj (by omega))
theorem laws_eqCustomerS_l (a : List S40) (ha : a.length ≤ 1048576) : ∀ (d k i : Nat), i + d = a.length → d < k → laws_eqCustomerS.l0 k a a (i : Int) = some true := by
  intro d
  induction d with
  | zero =>
    intro k i hi hk
    obtain ⟨k, rfl⟩ : ∃ m, k = m + 1 := ⟨k - 1, by omega⟩
    simp only [laws_eqCustomerS.l0]
    rw [if_neg (by omega)]
  | succ d ih =>
    intro k i hi hk
    obtain ⟨k, rfl⟩ : ∃ m, k = m + 1 := ⟨k - 1, by omega⟩
    simp only [laws_eqCustomerS.l0, laws_eqCustomer.f]
    rw [if_pos (by omega), if_pos (by omega), if_pos (by omega), st (n := a.length) (by omega) (by omega)]
    simp only [bs, if_true]
    exact ih k (i + 1) (by omega) (by omega)
theorem laws_eqCustomerS_e (a : List S40) (ha : a.length ≤ 1048576) {k : Nat} (hk : a.length < k) : laws_eqCustomerS.f k a a = some true := by
  unfold laws_eqCustomerS.f
  rw [if_pos rfl]
  exact laws_eqCustomerS_l a ha a.length k 0 (by omega) hk

theorem spec_l1In_e (a b c : Int) : ∃ r, spec_l1In.f a b c = some r ∧ (r = true ↔ b ≤ a ∧ a ≤ c) := by
  unfold spec_l1In.f
  by_cases h : a ≥ b
  · rw [if_pos h]; exact ⟨_, rfl, by rw [decide_eq_true_iff]; exact ⟨fun h1 => ⟨h, h1⟩, fun h1 => h1.2⟩⟩
  · rw [if_neg h]; exact ⟨false, rfl, ⟨fun h1 => (by cases h1), fun h1 => absurd h1.1 h⟩⟩
theorem spec_l1In_t {a b c : Int} (h0 : b ≤ a) (h1 : a ≤ c) : spec_l1In.f a b c = some true := by
  unfold spec_l1In.f
  rw [if_pos h0, decide_eq_true h1]
theorem spec_l1In_n {a b c : Int} (h : ¬ (b ≤ a ∧ a ≤ c)) : spec_l1In.f a b c = some false := by
  unfold spec_l1In.f
  by_cases h0 : a ≥ b
  · rw [if_pos h0, decide_eq_false (fun h1 => h ⟨h0, h1⟩)]
  · rw [if_neg h0]
theorem spec_CustomersOk_l (l : List S40) (hl : l.length ≤ 9000000000000000000) : ∀ (d k i : Nat), i + d = l.length → d < k →
    ∃ b, spec_CustomersOk.l0 k l (i : Int) = some b ∧ (b = true ↔ l.length ≤ 8 ∧ ∀ j, i ≤ j → j < l.length → okAt (cm l) (nd l) j) := by
  intro d
  induction d with
  | zero =>
    intro k i hi hk
    obtain ⟨k, rfl⟩ : ∃ m, k = m + 1 := ⟨k - 1, by omega⟩
    simp only [spec_CustomersOk.l0]
    rw [if_neg (by omega)]
    exact ⟨_, rfl, by rw [decide_eq_true_iff]; exact ⟨fun h => ⟨by omega, fun j h1 h2 => absurd h1 (by omega)⟩, fun h => by have := h.1; omega⟩⟩
  | succ d ih =>
    intro k i hi hk
    obtain ⟨k, rfl⟩ : ∃ m, k = m + 1 := ⟨k - 1, by omega⟩
    obtain ⟨b, hb, hbt⟩ := ih k (i + 1) (by omega) (by omega)
    have no : (¬ okAt (cm l) (nd l) i) → (∃ b, some false = some b ∧ (b = true ↔ l.length ≤ 8 ∧ ∀ j, i ≤ j → j < l.length → okAt (cm l) (nd l) j)) := fun h => ⟨false, rfl, ⟨fun h0 => (by cases h0), fun h0 => absurd (h0.2 i (by omega) (by omega)) h⟩⟩
    have yes : okAt (cm l) (nd l) i → (∃ b, spec_CustomersOk.l0 k l ((i + 1 : Nat) : Int) = some b ∧ (b = true ↔ l.length ≤ 8 ∧ ∀ j, i ≤ j → j < l.length → okAt (cm l) (nd l) j)) := fun h => by
      refine ⟨b, hb, hbt.trans ⟨fun h0 => ⟨h0.1, fun j h1 h2 => ?_⟩, fun h0 => ⟨h0.1, fun j h1 h2 => h0.2 j (by omega) h2⟩⟩⟩
      by_cases e : j = i
      · subst e; exact h
      · exact h0.2 j (by omega) h2
    simp only [spec_CustomersOk.l0]
    rw [if_pos (by omega), if_pos (by omega), st (n := l.length) (by omega) hl]
    rw [cm_eq l i, nd_eq l i]
    by_cases h1 : 0 ≤ cm l i ∧ cm l i ≤ 60
    · rw [spec_l1In_t h1.1 h1.2]
      simp only [bs, if_true]
      by_cases h2 : 1 ≤ nd l i ∧ nd l i ≤ 9
      · rw [spec_l1In_t h2.1 h2.2]
        simp only [bs, if_true]
        by_cases h0 : i = 0
        · subst h0
          rw [if_neg (by simp)]
          exact yes ⟨by omega, by omega, by omega, by omega, fun h => by omega⟩
        · rw [if_pos (by omega), pd (by omega) (by omega), if_pos (by omega), if_pos (by omega)]
          rw [cm_eq l (i - 1)]
          by_cases h5 : cm l i < cm l (i - 1)
          · rw [if_pos h5]; exact no (fun h => by have := h.2.2.2.2 (by omega); omega)
          rw [if_neg h5]
          exact yes ⟨by omega, by omega, by omega, by omega, fun h => by omega⟩
      · rw [spec_l1In_n h2]
        exact no (fun h => h2 ⟨h.2.2.1, h.2.2.2.1⟩)
    · rw [spec_l1In_n h1]
      exact no (fun h => h1 ⟨h.1, h.2.1⟩)
theorem spec_CustomersOk_e (l : List S40) (hl : l.length ≤ 9000000000000000000) {k : Nat} (hk : l.length < k) : ∃ b, spec_CustomersOk.f k l = some b ∧ (b = true ↔ ok l) := by
  obtain ⟨b, h1, h2⟩ := spec_CustomersOk_l l hl l.length k 0 (by omega) hk
  exact ⟨b, h1, h2.trans ⟨fun h => ⟨h.1, fun i hi => h.2 i (Nat.zero_le _) hi⟩, fun h => ⟨h.1, fun i _ hi => h.2 i hi⟩⟩⟩
theorem spec_CustomersOk_t {l : List S40} (h : ok l) {k : Nat} (hk : l.length < k) : spec_CustomersOk.f k l = some true := by
  obtain ⟨b, h1, h2⟩ := spec_CustomersOk_e l (by have := h.1; omega) hk
  rw [h1, h2.2 h]
theorem spec_CustomersOk_n {l : List S40} (hl : l.length ≤ 9000000000000000000) (h : ¬ ok l) {k : Nat} (hk : l.length < k) : spec_CustomersOk.f k l = some false := by
  obtain ⟨b, h1, h2⟩ := spec_CustomersOk_e l hl hk
  rw [h1]
  cases b with
  | true => exact absurd (h2.1 rfl) h
  | false => rfl

theorem spec_GapsOf_l {l : List S40} (h : ok l) : ∀ (d k i : Nat), i + 1 + d = l.length → d + 10 < k → spec_GapsOf.l0 k l (tab (fun j => cm l (j + 1) - cm l j) i) ((i + 1 : Nat) : Int) = some (tab (fun j => cm l (j + 1) - cm l j) (l.length - 1)) := by
  intro d
  induction d with
  | zero =>
    intro k i hi hk
    obtain ⟨k, rfl⟩ : ∃ m, k = m + 1 := ⟨k - 1, by omega⟩
    simp only [spec_GapsOf.l0]
    rw [if_neg (by omega), show l.length - 1 = i from by omega]
  | succ d ih =>
    intro k i hi hk
    obtain ⟨k, rfl⟩ : ∃ m, k = m + 1 := ⟨k - 1, by omega⟩
    have hl := h.len
    have h1 := h.come (i := i) (by omega)
    have h2 := h.come (i := i + 1) (by omega)
    simp only [spec_GapsOf.l0]
    rw [if_pos (by omega), spec_CustomersOk_t h (by omega)]
    simp only [bs, if_true]
    rw [if_pos (by omega), pd (by omega) (by omega), if_pos (by omega), if_pos (by omega), tab_length, if_pos (by omega), cm_eq, cm_eq, show i + 1 - 1 = i from by omega, wr (by omega) (by omega), st (n := l.length) (by omega) (by omega)]
    rw [← tab_snoc (fun j => cm l (j + 1) - cm l j)]
    exact ih k (i + 1) (by omega) (by omega)
theorem spec_GapsOf_t {l : List S40} (h : ok l) {k : Nat} (hk : l.length + 20 < k) : spec_GapsOf.f k l = some (tab (fun j => cm l (j + 1) - cm l j) (l.length - 1)) := by
  unfold spec_GapsOf.f
  by_cases hz : l.length = 0
  · obtain ⟨k, rfl⟩ : ∃ m, k = m + 1 := ⟨k - 1, by omega⟩
    simp only [spec_GapsOf.l0]
    rw [if_neg (by omega), hz]
    rfl
  · exact spec_GapsOf_l h (l.length - 1) k 0 (by omega) (by omega)
theorem spec_GapsOf_n {l : List S40} (hl : l.length ≤ 9000000000000000000) (h : ¬ ok l) {k : Nat} (hk : l.length + 1 < k) : spec_GapsOf.f k l = some [] := by
  unfold spec_GapsOf.f
  obtain ⟨k, rfl⟩ : ∃ m, k = m + 1 := ⟨k - 1, by omega⟩
  simp only [spec_GapsOf.l0]
  by_cases h1 : (1 : Int) < (l.length : Int)
  · rw [if_pos h1, spec_CustomersOk_n hl h (by omega)]
    simp
  · rw [if_neg h1]

-- MATH A
theorem spec_WaitsOf_l {l : List S40} (h : ok l) : ∀ (d k i : Nat), i + d = l.length → 2 * d + 20 < k → spec_WaitsOf.l0 k l (tab (wt (cm l) (nd l)) i) (tab (fun j => cm l (j + 1) - cm l j) (l.length - 1)) (i : Int) = some (tab (wt (cm l) (nd l)) l.length) := by
  intro d
  induction d with
  | zero =>
    intro k i hi hk
    obtain ⟨k, rfl⟩ : ∃ m, k = m + 1 + 1 := ⟨k - 2, by omega⟩
    simp only [spec_WaitsOf.l0]
    rw [if_neg (by omega)]
    simp only [spec_WaitsOf.j1, Bool.false_eq_true, if_false]
    rw [show i = l.length from by omega]
  | succ d ih =>
    intro k i hi hk
    obtain ⟨k, rfl⟩ : ∃ m, k = m + 1 + 1 := ⟨k - 2, by omega⟩
    have hl := h.len
    simp only [spec_WaitsOf.l0]
    rw [if_pos (by omega), spec_CustomersOk_t h (by omega)]
    simp only [bs, spec_WaitsOf.j1, if_true]
    rw [tab_length, tab_length, st (n := l.length) (by omega) (by omega), if_pos (show i < 17592186044416 from by omega)]
    cases i with
    | zero =>
      rw [if_pos (by omega)]
      exact ih k 1 (by omega) (by omega)
    | succ i =>
      have h1 := h.come (i := i) (by omega)
      have h2 := h.come (i := i + 1) (by omega)
      have h3 := h.need (i := i) (by omega)
      have h4 := wt_rng h i (by omega)
      have h5 := h.sum0 (j := i) (by omega)
      rw [if_neg (by omega), pd (by omega) (by omega), if_pos (by omega), if_pos (by omega), if_pos (by omega), if_pos (by omega), if_pos (by omega), show i + 1 - 1 = i from by omega, tab_rd _ (by omega), tab_rd _ (by omega), nd_eq]
      rw [wr (x := wt (cm l) (nd l) i + nd l i) (by omega) (by omega), wr (by omega) (by omega)]
      have e : mx (wt (cm l) (nd l) i + nd l i - (cm l (i + 1) - cm l i)) 0 = wt (cm l) (nd l) (i + 1) := by
        rw [wt_succ]
        unfold mx
        split <;> split <;> omega
      rw [e, ← tab_snoc]
      exact ih k (i + 2) (by omega) (by omega)
theorem spec_WaitsOf_t {l : List S40} (h : ok l) {k : Nat} (hk : 3 * l.length + 40 < k) : spec_WaitsOf.f k l = some (tab (wt (cm l) (nd l)) l.length) := by
  unfold spec_WaitsOf.f
  rw [spec_GapsOf_t h (by omega)]
  simp only [bs]
  exact spec_WaitsOf_l h l.length k 0 (by omega) (by omega)
theorem spec_WaitsOf_n {l : List S40} (hl : l.length ≤ 9000000000000000000) (h : ¬ ok l) {k : Nat} (hk : l.length + 10 < k) : spec_WaitsOf.f k l = some [] := by
  unfold spec_WaitsOf.f
  rw [spec_GapsOf_n hl h (by omega)]
  obtain ⟨k, rfl⟩ : ∃ m, k = m + 1 + 1 := ⟨k - 2, by omega⟩
  simp only [bs, spec_WaitsOf.l0, spec_WaitsOf.j1, Bool.false_eq_true, if_false]
  by_cases h1 : (0 : Int) < (l.length : Int)
  · rw [if_pos h1, spec_CustomersOk_n hl h (by omega)]
    simp
  · rw [if_neg h1]

theorem spec_LeavesOf_l {l : List S40} (h : ok l) : ∀ (d k i : Nat), i + d = l.length → d < k → spec_LeavesOf.l0 k l (tab (fun j => LL (cm l) (nd l) (j + 1)) i) (tab (wt (cm l) (nd l)) l.length) (i : Int) = some (tab (fun j => LL (cm l) (nd l) (j + 1)) l.length) := by
  intro d
  induction d with
  | zero =>
    intro k i hi hk
    obtain ⟨k, rfl⟩ : ∃ m, k = m + 1 := ⟨k - 1, by omega⟩
    simp only [spec_LeavesOf.l0]
    rw [tab_length, if_neg (by omega), show i = l.length from by omega]
  | succ d ih =>
    intro k i hi hk
    obtain ⟨k, rfl⟩ : ∃ m, k = m + 1 := ⟨k - 1, by omega⟩
    have hl := h.len
    have h1 := h.come (i := i) (by omega)
    have h3 := h.need (i := i) (by omega)
    have h4 := wt_rng h i (by omega)
    have h5 := h.sum0 (j := i) (by omega)
    have h6 := wt_LL h i (by omega)
    simp only [spec_LeavesOf.l0]
    rw [tab_length, tab_length, if_pos (by omega), if_pos (by omega), if_pos (by omega), if_pos (by omega), st (n := l.length) (by omega) (by omega), tab_rd _ (by omega), cm_eq, nd_eq, wr (x := cm l i + wt (cm l) (nd l) i) (by omega) (by omega), wr (by omega) (by omega), h6]
    rw [← tab_snoc (fun j => LL (cm l) (nd l) (j + 1))]
    exact ih k (i + 1) (by omega) (by omega)
theorem spec_LeavesOf_t {l : List S40} (h : ok l) {k : Nat} (hk : 3 * l.length + 40 < k) : spec_LeavesOf.f k l = some (tab (fun j => LL (cm l) (nd l) (j + 1)) l.length) := by
  unfold spec_LeavesOf.f
  rw [spec_WaitsOf_t h hk]
  simp only [bs]
  exact spec_LeavesOf_l h l.length k 0 (by omega) (by omega)
theorem spec_LeavesOf_n {l : List S40} (hl : l.length ≤ 9000000000000000000) (h : ¬ ok l) {k : Nat} (hk : l.length + 10 < k) : spec_LeavesOf.f k l = some [] := by
  unfold spec_LeavesOf.f
  rw [spec_WaitsOf_n hl h hk]
  obtain ⟨k, rfl⟩ : ∃ m, k = m + 1 := ⟨k - 1, by omega⟩
  simp only [bs, spec_LeavesOf.l0]
  rw [if_neg (by simp)]

theorem spec_NeedOf_l {l : List S40} (h : ok l) : ∀ (d k i : Nat), i + d = l.length → d < k → spec_NeedOf.l0 k l (sm (nd l) i) (i : Int) = some (sm (nd l) l.length) := by
  intro d
  induction d with
  | zero =>
    intro k i hi hk
    obtain ⟨k, rfl⟩ : ∃ m, k = m + 1 := ⟨k - 1, by omega⟩
    simp only [spec_NeedOf.l0]
    rw [if_neg (by omega), show i = l.length from by omega]
  | succ d ih =>
    intro k i hi hk
    obtain ⟨k, rfl⟩ : ∃ m, k = m + 1 := ⟨k - 1, by omega⟩
    have hl := h.len
    have h1 := h.sum0 (j := i) (by omega)
    have h2 := h.need (i := i) (by omega)
    simp only [spec_NeedOf.l0]
    rw [if_pos (by omega), if_pos (by omega), st (n := l.length) (by omega) (by omega), nd_eq, wr (by omega) (by omega), ← sm_succ]
    exact ih k (i + 1) (by omega) (by omega)
theorem spec_NeedOf_t {l : List S40} (h : ok l) {k : Nat} (hk : l.length < k) : spec_NeedOf.f k l = some (sm (nd l) l.length) := by
  unfold spec_NeedOf.f
  rw [spec_CustomersOk_t h hk]
  simp only [bs, if_true]
  exact spec_NeedOf_l h l.length k 0 (by omega) hk
theorem spec_NeedOf_n {l : List S40} (hl : l.length ≤ 9000000000000000000) (h : ¬ ok l) {k : Nat} (hk : l.length < k) : spec_NeedOf.f k l = some (-1) := by
  unfold spec_NeedOf.f
  rw [spec_CustomersOk_n hl h hk]
  simp

theorem spec_IdleUntil_t {l : List S40} (h : ok l) {k : Nat} (hk : 3 * l.length + 40 < k) : spec_IdleUntil.f k l = some (LL (cm l) (nd l) l.length - sm (nd l) l.length) := by
  unfold spec_IdleUntil.f
  rw [spec_CustomersOk_t h (by omega)]
  simp only [bs, if_true]
  have hl := h.len
  rw [spec_LeavesOf_t h hk]
  simp only [bs]
  rw [tab_length]
  by_cases hz : (l.length : Int) = 0
  · rw [if_pos hz, show l.length = 0 from by omega]
    rfl
  · have h1 := LL_rng h l.length (Nat.le_refl _)
    have h2 := h.sum0 (Nat.le_refl l.length)
    rw [if_neg hz, pd (by omega) (by omega), if_pos (by omega), if_pos (by omega), spec_NeedOf_t h (by omega)]
    simp only [bs]
    rw [tab_rd _ (by omega), show l.length - 1 + 1 = l.length from by omega, wr (by omega) (by omega)]
theorem spec_IdleUntil_n {l : List S40} (hl : l.length ≤ 9000000000000000000) (h : ¬ ok l) {k : Nat} (hk : l.length < k) : spec_IdleUntil.f k l = some (-1) := by
  unfold spec_IdleUntil.f
  rw [spec_CustomersOk_n hl h hk]
  simp

theorem impl_CustomersOk_l (l : List S40) (hl : l.length ≤ 9000000000000000000) : ∀ (d k i : Nat), i + d = l.length → d < k →
    ∃ b, impl_CustomersOk.l0 k l l (l.length : Int) (i : Int) = some b ∧ (b = true ↔ l.length ≤ 8 ∧ ∀ j, i ≤ j → j < l.length → okAt (cm l) (nd l) j) := by
  intro d
  induction d with
  | zero =>
    intro k i hi hk
    obtain ⟨k, rfl⟩ : ∃ m, k = m + 1 := ⟨k - 1, by omega⟩
    simp only [impl_CustomersOk.l0]
    rw [if_neg (by omega)]
    exact ⟨_, rfl, by rw [decide_eq_true_iff]; exact ⟨fun h => ⟨by omega, fun j h1 h2 => absurd h1 (by omega)⟩, fun h => by have := h.1; omega⟩⟩
  | succ d ih =>
    intro k i hi hk
    obtain ⟨k, rfl⟩ : ∃ m, k = m + 1 := ⟨k - 1, by omega⟩
    obtain ⟨b, hb, hbt⟩ := ih k (i + 1) (by omega) (by omega)
    have no : (¬ okAt (cm l) (nd l) i) → (∃ b, some false = some b ∧ (b = true ↔ l.length ≤ 8 ∧ ∀ j, i ≤ j → j < l.length → okAt (cm l) (nd l) j)) := fun h => ⟨false, rfl, ⟨fun h0 => (by cases h0), fun h0 => absurd (h0.2 i (by omega) (by omega)) h⟩⟩
    have yes : okAt (cm l) (nd l) i → (∃ b, impl_CustomersOk.l0 k l l (l.length : Int) ((i + 1 : Nat) : Int) = some b ∧ (b = true ↔ l.length ≤ 8 ∧ ∀ j, i ≤ j → j < l.length → okAt (cm l) (nd l) j)) := fun h => by
      refine ⟨b, hb, hbt.trans ⟨fun h0 => ⟨h0.1, fun j h1 h2 => ?_⟩, fun h0 => ⟨h0.1, fun j h1 h2 => h0.2 j (by omega) h2⟩⟩⟩
      by_cases e : j = i
      · subst e; exact h
      · exact h0.2 j (by omega) h2
    simp only [impl_CustomersOk.l0]
    rw [if_pos (by omega), if_pos (by omega), if_pos (by omega), st (n := l.length) (by omega) hl]
    rw [cm_eq l i, nd_eq l i]
    by_cases h1 : cm l i < 0
    · rw [if_pos h1]; exact no (fun h => by have := h.1; omega)
    rw [if_neg h1]
    by_cases h2 : cm l i > 60
    · rw [if_pos h2]; exact no (fun h => by have := h.2.1; omega)
    rw [if_neg h2]
    by_cases h0 : i = 0
    · subst h0
      rw [if_neg (by simp)]
      by_cases h3 : nd l 0 < 1
      · rw [if_pos h3]; exact no (fun h => by have := h.2.2.1; omega)
      rw [if_neg h3]
      by_cases h4 : nd l 0 > 9
      · rw [if_pos h4]; exact no (fun h => by have := h.2.2.2.1; omega)
      rw [if_neg h4]
      exact yes ⟨by omega, by omega, by omega, by omega, fun h => by omega⟩
    · rw [if_pos (by omega), pd (by omega) (by omega), if_pos (by omega), if_pos (by omega)]
      rw [cm_eq l (i - 1)]
      by_cases h5 : cm l i < cm l (i - 1)
      · rw [if_pos h5]; exact no (fun h => by have := h.2.2.2.2 (by omega); omega)
      rw [if_neg h5]
      by_cases h3 : nd l i < 1
      · rw [if_pos h3]; exact no (fun h => by have := h.2.2.1; omega)
      rw [if_neg h3]
      by_cases h4 : nd l i > 9
      · rw [if_pos h4]; exact no (fun h => by have := h.2.2.2.1; omega)
      rw [if_neg h4]
      exact yes ⟨by omega, by omega, by omega, by omega, fun h => by omega⟩
theorem impl_CustomersOk_e (l : List S40) (hl : l.length ≤ 9000000000000000000) {k : Nat} (hk : l.length < k) : ∃ b, impl_CustomersOk.f k l = some b ∧ (b = true ↔ ok l) := by
  obtain ⟨b, h1, h2⟩ := impl_CustomersOk_l l hl l.length k 0 (by omega) hk
  exact ⟨b, h1, h2.trans ⟨fun h => ⟨h.1, fun i hi => h.2 i (Nat.zero_le _) hi⟩, fun h => ⟨h.1, fun i _ hi => h.2 i hi⟩⟩⟩
theorem impl_CustomersOk_t {l : List S40} (h : ok l) {k : Nat} (hk : l.length < k) : impl_CustomersOk.f k l = some true := by
  obtain ⟨b, h1, h2⟩ := impl_CustomersOk_e l (by have := h.1; omega) hk
  rw [h1, h2.2 h]
theorem impl_CustomersOk_n {l : List S40} (hl : l.length ≤ 9000000000000000000) (h : ¬ ok l) {k : Nat} (hk : l.length < k) : impl_CustomersOk.f k l = some false := by
  obtain ⟨b, h1, h2⟩ := impl_CustomersOk_e l hl hk
  rw [h1]
  cases b with
  | true => exact absurd (h2.1 rfl) h
  | false => rfl

-- MATH A
theorem impl_WaitsOf_l {l : List S40} (h : ok l) : ∀ (d k i : Nat), i + d = l.length → d < k → impl_WaitsOf.l0 k l (tab (wt (cm l) (nd l)) i) l (l.length : Int) (i : Int) = some (tab (wt (cm l) (nd l)) l.length) := by
  intro d
  induction d with
  | zero =>
    intro k i hi hk
    obtain ⟨k, rfl⟩ : ∃ m, k = m + 1 := ⟨k - 1, by omega⟩
    simp only [impl_WaitsOf.l0]
    rw [if_neg (by omega), show i = l.length from by omega]
  | succ d ih =>
    intro k i hi hk
    obtain ⟨k, rfl⟩ : ∃ m, k = m + 1 := ⟨k - 1, by omega⟩
    have hl := h.len
    simp only [impl_WaitsOf.l0]
    rw [if_pos (by omega), if_pos (by omega), if_pos (by omega), tab_length, st (n := l.length) (by omega) (by omega), if_pos (show i < 17592186044416 from by omega)]
    cases i with
    | zero =>
      rw [if_neg (by omega)]
      exact ih k 1 (by omega) (by omega)
    | succ i =>
      have h1 := h.come (i := i) (by omega)
      have h2 := h.come (i := i + 1) (by omega)
      have h3 := h.need (i := i) (by omega)
      have h4 := wt_rng h i (by omega)
      have h5 := h.sum0 (j := i) (by omega)
      rw [if_pos (by omega), pd (by omega) (by omega), if_pos (by omega), if_pos (by omega), if_pos (by omega), show i + 1 - 1 = i from by omega, tab_rd _ (by omega), cm_eq, cm_eq, nd_eq]
      rw [wr (x := wt (cm l) (nd l) i + nd l i) (by omega) (by omega), wr (x := cm l (i + 1) - cm l i) (by omega) (by omega), wr (by omega) (by omega), ← wt_succ, ← tab_snoc]
      exact ih k (i + 2) (by omega) (by omega)
theorem impl_WaitsOf_t {l : List S40} (h : ok l) {k : Nat} (hk : l.length < k) : impl_WaitsOf.f k l = some (tab (wt (cm l) (nd l)) l.length) := by
  unfold impl_WaitsOf.f
  rw [impl_CustomersOk_t h hk]
  simp only [bs, if_true]
  exact impl_WaitsOf_l h l.length k 0 (by omega) hk
theorem impl_WaitsOf_n {l : List S40} (hl : l.length ≤ 9000000000000000000) (h : ¬ ok l) {k : Nat} (hk : l.length < k) : impl_WaitsOf.f k l = some [] := by
  unfold impl_WaitsOf.f
  rw [impl_CustomersOk_n hl h hk]
  simp

theorem impl_LeavesOf_l {l : List S40} (h : ok l) : ∀ (d k i : Nat), i + d = l.length → d < k → impl_LeavesOf.l0 k (tab (fun j => if j < i then LL (cm l) (nd l) (j + 1) else wt (cm l) (nd l) j) l.length) l (l.length : Int) (i : Int) = some (tab (fun j => LL (cm l) (nd l) (j + 1)) l.length) := by
  intro d
  induction d with
  | zero =>
    intro k i hi hk
    obtain ⟨k, rfl⟩ : ∃ m, k = m + 1 := ⟨k - 1, by omega⟩
    simp only [impl_LeavesOf.l0]
    rw [if_neg (by omega)]
    congr 1
    exact tab_congr (fun j hj => by rw [if_pos (by omega)])
  | succ d ih =>
    intro k i hi hk
    obtain ⟨k, rfl⟩ : ∃ m, k = m + 1 := ⟨k - 1, by omega⟩
    have hl := h.len
    have h1 := h.come (i := i) (by omega)
    have h3 := h.need (i := i) (by omega)
    have h4 := wt_rng h i (by omega)
    have h5 := h.sum0 (j := i) (by omega)
    have h6 := wt_LL h i (by omega)
    simp only [impl_LeavesOf.l0]
    rw [if_pos (by omega), if_pos (by omega), if_pos (by omega), tab_length, if_pos (by omega), st (n := l.length) (by omega) (by omega), tab_rd _ (by omega), cm_eq, nd_eq, if_neg (by omega), wr (x := cm l i + nd l i) (by omega) (by omega), wr (by omega) (by omega), Int.toNat_natCast, tab_set]
    rw [tab_congr (g := fun j => if j < i + 1 then LL (cm l) (nd l) (j + 1) else wt (cm l) (nd l) j) (fun j hj => by
      by_cases e : j = i
      · subst e; rw [if_pos rfl, if_pos (by omega)]; omega
      · rw [if_neg e]
        by_cases e2 : j < i
        · rw [if_pos e2, if_pos (by omega)]
        · rw [if_neg e2, if_neg (by omega)])]
    exact ih k (i + 1) (by omega) (by omega)
theorem impl_LeavesOf_t {l : List S40} (h : ok l) {k : Nat} (hk : l.length < k) : impl_LeavesOf.f k l = some (tab (fun j => LL (cm l) (nd l) (j + 1)) l.length) := by
  unfold impl_LeavesOf.f
  rw [impl_CustomersOk_t h hk]
  simp only [bs, if_true]
  rw [impl_WaitsOf_t h hk]
  simp only [bs]
  rw [tab_congr (g := fun j => if j < 0 then LL (cm l) (nd l) (j + 1) else wt (cm l) (nd l) j) (fun j _ => by rw [if_neg (by omega)])]
  exact impl_LeavesOf_l h l.length k 0 (by omega) hk
theorem impl_LeavesOf_n {l : List S40} (hl : l.length ≤ 9000000000000000000) (h : ¬ ok l) {k : Nat} (hk : l.length < k) : impl_LeavesOf.f k l = some [] := by
  unfold impl_LeavesOf.f
  rw [impl_CustomersOk_n hl h hk]
  simp

theorem impl_needOf_l {l : List S40} (hn : l.length ≤ 8) (hb : ∀ i, i < l.length → 1 ≤ nd l i ∧ nd l i ≤ 9) : ∀ (d k i : Nat), i + d = l.length → d < k → impl_needOf.l0 k (sm (nd l) i) l (l.length : Int) (i : Int) = some (sm (nd l) l.length) := by
  intro d
  induction d with
  | zero =>
    intro k i hi hk
    obtain ⟨k, rfl⟩ : ∃ m, k = m + 1 := ⟨k - 1, by omega⟩
    simp only [impl_needOf.l0]
    rw [if_neg (by omega), show i = l.length from by omega]
  | succ d ih =>
    intro k i hi hk
    obtain ⟨k, rfl⟩ : ∃ m, k = m + 1 := ⟨k - 1, by omega⟩
    have h1 := sm_range (f := nd l) (n := l.length) hb i 0 (by omega)
    have h2 := hb i (by omega)
    rw [Nat.zero_add, sm_zero] at h1
    simp only [impl_needOf.l0]
    rw [if_pos (by omega), if_pos (by omega), if_pos (by omega), st (n := l.length) (by omega) (by omega), nd_eq, wr (by omega) (by omega), ← sm_succ]
    exact ih k (i + 1) (by omega) (by omega)
theorem impl_needOf_b {l : List S40} (hn : l.length ≤ 8) (hb : ∀ i, i < l.length → 1 ≤ nd l i ∧ nd l i ≤ 9) {k : Nat} (hk : l.length < k) : impl_needOf.f k l = some (sm (nd l) l.length) :=
  impl_needOf_l hn hb l.length k 0 (by omega) hk
theorem impl_needOf_e {l : List S40} (h : ok l) {k : Nat} (hk : l.length < k) : impl_needOf.f k l = some (sm (nd l) l.length) :=
  impl_needOf_b h.len (fun i hi => h.need hi) hk
theorem impl_needOf_take {l : List S40} (h : ok l) {m : Nat} (hm : m ≤ l.length) {k : Nat} (hk : l.length < k) : impl_needOf.f k (l.take m) = some (sm (nd l) m) := by
  have e : (l.take m).length = m := by rw [List.length_take]; omega
  rw [impl_needOf_e (ok_take h m hm) (by omega), e, sm_take l m m (Nat.le_refl _)]
theorem impl_needOf_drop {l : List S40} (h : ok l) {m : Nat} (hm : m ≤ l.length) {k : Nat} (hk : l.length < k) : impl_needOf.f k (l.drop m) = some (sm (nd l) l.length - sm (nd l) m) := by
  have e : (l.drop m).length = l.length - m := List.length_drop ..
  rw [impl_needOf_b (by have := h.len; omega) (fun i hi => by rw [nd_drop]; exact h.need (by omega)) (by omega), sm_drop, e, show l.length - m + m = l.length from by omega]
theorem impl_needOf_part {l : List S40} (h : ok l) {i m : Nat} (hi : i ≤ m) (hm : m ≤ l.length) {k : Nat} (hk : l.length < k) : impl_needOf.f k ((l.take m).drop i) = some (sm (nd l) m - sm (nd l) i) := by
  have e : (l.take m).length = m := by rw [List.length_take]; omega
  rw [impl_needOf_drop (ok_take h m hm) (by omega) (by omega), e, sm_take l m m (Nat.le_refl _), sm_take l m i hi]

theorem impl_IdleUntil_t {l : List S40} (h : ok l) {k : Nat} (hk : l.length < k) : impl_IdleUntil.f k l = some (LL (cm l) (nd l) l.length - sm (nd l) l.length) := by
  unfold impl_IdleUntil.f
  rw [impl_CustomersOk_t h hk]
  simp only [bs, if_true]
  have hl := h.len
  by_cases hz : (l.length : Int) = 0
  · rw [if_pos hz, show l.length = 0 from by omega]
    rfl
  · have h1 := LL_rng h l.length (Nat.le_refl _)
    have h2 := h.sum0 (Nat.le_refl l.length)
    rw [if_neg hz, impl_LeavesOf_t h hk]
    simp only [bs]
    rw [pd (by omega) (by omega), tab_length, if_pos (by omega), if_pos (by omega), impl_needOf_e h hk]
    simp only [bs]
    rw [tab_rd _ (by omega), show l.length - 1 + 1 = l.length from by omega, wr (by omega) (by omega)]
theorem impl_IdleUntil_n {l : List S40} (hl : l.length ≤ 9000000000000000000) (h : ¬ ok l) {k : Nat} (hk : l.length < k) : impl_IdleUntil.f k l = some (-1) := by
  unfold impl_IdleUntil.f
  rw [impl_CustomersOk_n hl h hk]
  simp

end FnExactIdleUntilX
open FnExactIdleUntilX
theorem FnExactIdleUntil (l0 : List S48) (hm : l0.length ≤ maxLen) (hw : ∀ x ∈ l0, (Lit.int .i64 x.f0).wf = true ∧ (Lit.int .i64 x.f1).wf = true) : ∃ k, laws_FnExactIdleUntil.f k l0 = some true := by
  refine ⟨3 * l0.length + 50, ?_⟩
  unfold laws_FnExactIdleUntil.f
  rw [laws_szCustomerS_e l0 (by unfold maxLen at hm; exact hm)]
  simp only [bs]
  by_cases h : l0.length ≤ 1048576
  · rw [if_pos h, if_neg (by omega), laws_toCustomerS_e l0 h (by omega)]
    have hc := cv_length l0
    have e : impl_IdleUntil.f (3 * l0.length + 50) (cv l0) = spec_IdleUntil.f (3 * l0.length + 50) (cv l0) ∧ ∃ r, spec_IdleUntil.f (3 * l0.length + 50) (cv l0) = some r := by
      by_cases hk : ok (cv l0)
      · rw [impl_IdleUntil_t hk (by omega), spec_IdleUntil_t hk (by omega)]; exact ⟨rfl, _, rfl⟩
      · rw [impl_IdleUntil_n (by omega) hk (by omega), spec_IdleUntil_n (by omega) hk (by omega)]; exact ⟨rfl, _, rfl⟩
    obtain ⟨e1, r, e2⟩ := e
    simp only [bs, e1, e2, laws_eqCustomerS_e (cv l0) (by omega) (k := 3 * l0.length + 50) (by omega), if_true]
  · rw [if_neg h, if_pos (by omega)]

end Go.Proofs.Ytkfaeagkiocebaa.Pure
