/- The pure statement of the law FnExactBusyOk: about numbers and lists alone, over the functions that print.sh has written. No conditions beyond those typed. -/
import Derived.Test.YtillelkfmebfiaaQFnExactBusyOkx7
import Derived.Test.YtillelkfmebfiaaMath0
import Derived.Test.YtillelkfmebfiaaMathV
import Derived.Test.YtillelkfmebfiaaMathB
import Derived.Test.YtillelkfmebfiaaMathA
namespace Go.Proofs.Ytillelkfmebfiaa.Pure
open Go.RowKit Go.Proofs.Ytillelkfmebfiaa.QFnExactBusyOk Go.Proofs.YtillelkfmebfiaaW.PrintWords Go.Proofs.YtillelkfmebfiaaW.PrintLast Go.Proofs.YtillelkfmebfiaaW.PrintMore Go.Proofs.Ytillelkfmebfiaa.Math
set_option linter.unusedVariables false
set_option linter.unusedSimpArgs false
namespace FnExactBusyOkX
/-- When the customer at place i comes, what this one needs. -/
def cm (l : List S46) (i : Nat) : Int := (rd_T46 l (i : Int)).f0
def nd (l : List S46) (i : Nat) : Int := (rd_T46 l (i : Int)).f1
theorem cm_eq (l : List S46) (i : Nat) : (rd_T46 l (i : Int)).f0 = cm l i := rfl
theorem nd_eq (l : List S46) (i : Nat) : (rd_T46 l (i : Int)).f1 = nd l i := rfl
theorem cm_eq0 (l : List S46) : (rd_T46 l 0).f0 = cm l 0 := rfl
theorem nd_eq0 (l : List S46) : (rd_T46 l 0).f1 = nd l 0 := rfl
theorem rd_get (l : List S46) (i : Nat) (h : i < l.length) : rd_T46 l (i : Int) = l[i] := by simp [rd_T46, h]
theorem rd_take (l : List S46) (m i : Nat) (h : i < m) : rd_T46 (l.take m) (i : Int) = rd_T46 l (i : Int) := by simp [rd_T46, List.getElem?_take, h]
theorem rd_drop (l : List S46) (m i : Nat) : rd_T46 (l.drop m) (i : Int) = rd_T46 l ((i + m : Nat) : Int) := by
  unfold rd_T46
  rw [List.getD_eq_getElem?_getD, List.getD_eq_getElem?_getD, List.getElem?_drop, Int.toNat_natCast, Int.toNat_natCast, Nat.add_comm]
theorem cm_take (l : List S46) (m i : Nat) (h : i < m) : cm (l.take m) i = cm l i := by unfold cm; rw [rd_take l m i h]
theorem nd_take (l : List S46) (m i : Nat) (h : i < m) : nd (l.take m) i = nd l i := by unfold nd; rw [rd_take l m i h]
theorem cm_drop (l : List S46) (m i : Nat) : cm (l.drop m) i = cm l (i + m) := by unfold cm; rw [rd_drop l m i]
theorem nd_drop (l : List S46) (m i : Nat) : nd (l.drop m) i = nd l (i + m) := by unfold nd; rw [rd_drop l m i]
/-- These are customers. -/
def ok (l : List S46) : Prop := OK (cm l) (nd l) l.length
theorem ok_take {l : List S46} (h : ok l) (m : Nat) (hm : m ≤ l.length) : ok (l.take m) := by
  have e : (l.take m).length = m := by rw [List.length_take]; omega
  unfold ok
  rw [e]
  exact OK.congr (fun i hi => (cm_take l m i hi).symm) (fun i hi => (nd_take l m i hi).symm) (OK.pre h hm)
theorem sm_take (l : List S46) (m j : Nat) (hj : j ≤ m) : sm (nd (l.take m)) j = sm (nd l) j := sm_congr (fun i hi => nd_take l m i (by omega))
theorem sm_drop (l : List S46) (m j : Nat) : sm (nd (l.drop m)) j = sm (nd l) (j + m) - sm (nd l) m := by
  rw [← sm_shift]
  exact sm_congr (fun i _ => nd_drop l m i)
theorem st {i : Nat} {n : Nat} (h : i < n) (hn : n ≤ 9000000000000000000) : wrap64 ((i : Int) + 1) = ((i + 1 : Nat) : Int) := by rw [wr (by omega) (by omega)]; simp
theorem pd {i : Nat} (h0 : 0 < i) (hn : i ≤ 9000000000000000000) : wrap64 ((i : Int) - 1) = ((i - 1 : Nat) : Int) := by rw [wr (by omega) (by omega)]; omega
theorem ext_list {a b : List S46} (hl : a.length = b.length) (h : ∀ i : Nat, i < a.length → cm a i = cm b i ∧ nd a i = nd b i) : a = b := by
  apply List.ext_getElem hl
  intro i h1 h2
  obtain ⟨e1, e2⟩ := h i h1
  unfold cm at e1
  unfold nd at e2
  rw [rd_get a i h1, rd_get b i h2] at e1 e2
  cases ha : a[i] with | mk x y =>
  cases hb : b[i] with | mk x' y' =>
  rw [ha, hb] at e1 e2
  simp only at e1 e2
  rw [e1, e2]
/-- The bytes that are drawn from. -/
structure Src (b : List Int) : Prop where
  byte : ∀ x ∈ b, 0 ≤ x ∧ x ≤ 255
  len : b.length ≤ 2000
theorem split_w (x : Int) : x < 0 ∨ ∃ w : Nat, x = (w : Int) := by
  by_cases h : x < 0
  · exact Or.inl h
  · exact Or.inr ⟨x.toNat, by omega⟩

/-- Customers of the law, as the program's. -/
def cv (l : List S58) : List S46 := l.map fun x => ⟨x.f0, x.f1⟩
theorem cv_length (l : List S58) : (cv l).length = l.length := List.length_map ..
theorem laws_szCustomerS_e (l : List S58) (hl : l.length ≤ 9223372036854775807) : laws_szCustomerS.f l 1048576 = some (if l.length ≤ 1048576 then 1048576 - (l.length : Int) else -1) := by
  unfold laws_szCustomerS.f
  rw [wr (by omega) (by omega)]
  by_cases h : l.length ≤ 1048576
  · rw [if_neg (by omega), if_pos h]
  · rw [if_pos (by omega), if_neg h]
theorem laws_toCustomerS_l (l : List S58) (hl : l.length ≤ 1048576) : ∀ (d k i : Nat) (o : List S46), i + d = l.length → d < k → o.length = l.length →
    (∀ j : Nat, j < i → o[j]? = (cv l)[j]?) → laws_toCustomerS.l0 k l o (i : Int) = some (cv l) := by
  intro d
  induction d with
  | zero =>
    intro k i o hi hk ho h
    obtain ⟨k, rfl⟩ : ∃ m, k = m + 1 := ⟨k - 1, by omega⟩
    simp only [laws_toCustomerS.l0]
    rw [if_neg (by omega)]
    congr 1
    apply List.ext_getElem?
    intro j
    by_cases hj : j < i
    · exact h j hj
    · rw [List.getElem?_eq_none (by omega), List.getElem?_eq_none (by rw [cv_length]; omega)]
  | succ d ih =>
    intro k i o hi hk ho h
    obtain ⟨k, rfl⟩ : ∃ m, k = m + 1 := ⟨k - 1, by omega⟩
    simp only [laws_toCustomerS.l0, laws_toCustomer.f, bs]
    rw [if_pos (by omega), if_pos (by omega), if_pos (by omega), st (n := l.length) (by omega) (by omega)]
    refine ih k (i + 1) _ (by omega) (by omega) (by rw [List.length_set]; exact ho) (fun j hj => ?_)
    rw [Int.toNat_natCast]
    by_cases e : j = i
    · subst e
      rw [List.getElem?_set_self (by omega)]
      unfold cv
      rw [List.getElem?_map, List.getElem?_eq_getElem (by omega)]
      simp [rd_T58, show j < l.length from by omega]
    · rw [List.getElem?_set_ne (Ne.symm e)]
      exact h j (by omega)
theorem laws_toCustomerS_e (l : List S58) (hl : l.length ≤ 1048576) {k : Nat} (hk : l.length < k) : laws_toCustomerS.f k l = some (cv l) := by
  unfold laws_toCustomerS.f
  rw [if_pos (by omega), Int.toNat_natCast, if_pos (by omega)]
  exact laws_toCustomerS_l l hl l.length k 0 _ (by omega) hk (by simp) (fun j hj => absurd hj (by omega))
theorem laws_eqCustomerS_l (a : List S46) (ha : a.length ≤ 1048576) : ∀ (d k i : Nat), i + d = a.length → d < k → laws_eqCustomerS.l0 k a a (i : Int) = some true := by
  intro d
  induction d with
  | zero =>
    intro k i hi hk
    obtain ⟨k, rfl⟩ : ∃ m, k = m + 1 := ⟨k - 1, by omega⟩
    simp only [laws_eqCustomerS.l0]
    rw [if_neg (by omega)]
  | succ d ih =>
    intro k i hi hk
    obtain ⟨k, rfl⟩ : ∃ m, k = m + 1 := ⟨k - 1, by omega⟩
    simp only [laws_eqCustomerS.l0, laws_eqCustomer.f]
    rw [if_pos (by omega), if_pos (by omega), if_pos (by omega), st (n := a.length) (by omega) (by omega)]
    simp only [bs, if_true]
    exact ih k (i + 1) (by omega) (by omega)
theorem laws_eqCustomerS_e (a : List S46) (ha : a.length ≤ 1048576) {k : Nat} (hk : a.length < k) : laws_eqCustomerS.f k a a = some true := by
  unfold laws_eqCustomerS.f
  rw [if_pos rfl]
  exact laws_eqCustomerS_l a ha a.length k 0 (by omega) hk

-- MATH V
theorem spec_l3Work_l1 {l : List S46} (h : ok l) (A : Int) {x : List Int} (hx : x.length < 17592186044416) {w : Int} (hw : 0 ≤ w ∧ w ≤ 1000) (t : Nat) (ht : t ≤ 1000) : ∀ (d k i : Nat), i + d = l.length → d < k →
    spec_l3Work.l1 k l A x (w + ar (cm l) (nd l) t i) (t : Int) (i : Int) = spec_l3Work.l0 (k - (d + 1)) l A (x ++ [w + arr (cm l) (nd l) l.length t]) (mx 0 (w + arr (cm l) (nd l) l.length t - 1)) ((t + 1 : Nat) : Int) := by
  intro d
  have hl := h.len
  induction d with
  | zero =>
    intro k i hi hk
    obtain ⟨k, rfl⟩ : ∃ m, k = m + 1 := ⟨k - 1, by omega⟩
    have e : i = l.length := by omega
    have hr := ar_rng h t i (by omega)
    simp only [spec_l3Work.l1]
    rw [if_neg (by omega), if_pos hx, wr (x := w + ar (cm l) (nd l) t i - 1) (by omega) (by omega), e, ar_all, mx_comm0, st (n := 2000) (by omega) (by omega)]
    rfl
  | succ d ih =>
    intro k i hi hk
    obtain ⟨k, rfl⟩ : ∃ m, k = m + 1 := ⟨k - 1, by omega⟩
    have e := ih k (i + 1) (by omega) (by omega)
    have hr := ar_rng h t i (by omega)
    have hn := h.need (i := i) (by omega)
    rw [ar_succ] at e
    simp only [spec_l3Work.l1]
    rw [if_pos (by omega), if_pos (by omega), cm_eq, nd_eq, st (n := l.length) (by omega) (by omega), show k + 1 - (d + 1 + 1) = k - (d + 1) from by omega]
    by_cases hc : cm l i = (t : Int)
    · rw [if_pos hc] at e ⊢
      rw [wr (by omega) (by omega), Int.add_assoc]
      exact e
    · rw [if_neg hc] at e ⊢
      rw [Int.add_zero] at e
      exact e
theorem spec_l3Work_l {l : List S46} (h : ok l) (A : Nat) (hA : A ≤ 500) : ∀ (d k t : Nat), t + d = A + 1 → d * 11 + 2 < k → spec_l3Work.l0 k l (A : Int) (tab (wk (cm l) (nd l) l.length) t) (pre (cm l) (nd l) l.length t) (t : Int) = some (tab (wk (cm l) (nd l) l.length) (A + 1)) := by
  intro d
  have hl := h.len
  induction d with
  | zero =>
    intro k t hi hk
    obtain ⟨k, rfl⟩ : ∃ m, k = m + 1 := ⟨k - 1, by omega⟩
    simp only [spec_l3Work.l0]
    rw [if_neg (by omega), show t = A + 1 from by omega]
  | succ d ih =>
    intro k t hi hk
    obtain ⟨k, rfl⟩ : ∃ m, k = m + 1 := ⟨k - 1, by omega⟩
    have hp := pre_rng h t
    simp only [spec_l3Work.l0]
    rw [if_pos (by omega)]
    have e := spec_l3Work_l1 h (A : Int) (x := tab (wk (cm l) (nd l) l.length) t) (by rw [tab_length]; omega) (w := pre (cm l) (nd l) l.length t) (by omega) t (by omega) l.length k 0 (by omega) (by omega)
    rw [ar_zero, Int.add_zero, ← wk_pre, ← tab_snoc (wk (cm l) (nd l) l.length), ← pre_succ] at e
    refine Eq.trans e ?_
    exact ih (k - (l.length + 1)) (t + 1) (by omega) (by omega)
theorem spec_l3Work_t {l : List S46} (h : ok l) (A : Nat) (hA : A ≤ 200) {k : Nat} (hk : 2300 < k) : spec_l3Work.f k l (A : Int) = some (tab (wk (cm l) (nd l) l.length) (A + 1)) :=
  spec_l3Work_l h A (by omega) (A + 1) k 0 (by omega) (by omega)

theorem spec_l1In_e (a b c : Int) : ∃ r, spec_l1In.f a b c = some r ∧ (r = true ↔ b ≤ a ∧ a ≤ c) := by
  unfold spec_l1In.f
  by_cases h : a ≥ b
  · rw [if_pos h]; exact ⟨_, rfl, by rw [decide_eq_true_iff]; exact ⟨fun h1 => ⟨h, h1⟩, fun h1 => h1.2⟩⟩
  · rw [if_neg h]; exact ⟨false, rfl, ⟨fun h1 => (by cases h1), fun h1 => absurd h1.1 h⟩⟩
theorem spec_l1In_t {a b c : Int} (h0 : b ≤ a) (h1 : a ≤ c) : spec_l1In.f a b c = some true := by
  unfold spec_l1In.f
  rw [if_pos h0, decide_eq_true h1]
theorem spec_l1In_n {a b c : Int} (h : ¬ (b ≤ a ∧ a ≤ c)) : spec_l1In.f a b c = some false := by
  unfold spec_l1In.f
  by_cases h0 : a ≥ b
  · rw [if_pos h0, decide_eq_false (fun h1 => h ⟨h0, h1⟩)]
  · rw [if_neg h0]
theorem spec_CustomersOk_l (l : List S46) (hl : l.length ≤ 9000000000000000000) : ∀ (d k i : Nat), i + d = l.length → d < k →
    ∃ b, spec_CustomersOk.l0 k l (i : Int) = some b ∧ (b = true ↔ l.length ≤ 8 ∧ ∀ j, i ≤ j → j < l.length → okAt (cm l) (nd l) j) := by
  intro d
  induction d with
  | zero =>
    intro k i hi hk
    obtain ⟨k, rfl⟩ : ∃ m, k = m + 1 := ⟨k - 1, by omega⟩
    simp only [spec_CustomersOk.l0]
    rw [if_neg (by omega)]
    exact ⟨_, rfl, by rw [decide_eq_true_iff]; exact ⟨fun h => ⟨by omega, fun j h1 h2 => absurd h1 (by omega)⟩, fun h => by have := h.1; omega⟩⟩
  | succ d ih =>
    intro k i hi hk
    obtain ⟨k, rfl⟩ : ∃ m, k = m + 1 := ⟨k - 1, by omega⟩
    obtain ⟨b, hb, hbt⟩ := ih k (i + 1) (by omega) (by omega)
    have no : (¬ okAt (cm l) (nd l) i) → (∃ b, some false = some b ∧ (b = true ↔ l.length ≤ 8 ∧ ∀ j, i ≤ j → j < l.length → okAt (cm l) (nd l) j)) := fun h => ⟨false, rfl, ⟨fun h0 => (by cases h0), fun h0 => absurd (h0.2 i (by omega) (by omega)) h⟩⟩
    have yes : okAt (cm l) (nd l) i → (∃ b, spec_CustomersOk.l0 k l ((i + 1 : Nat) : Int) = some b ∧ (b = true ↔ l.length ≤ 8 ∧ ∀ j, i ≤ j → j < l.length → okAt (cm l) (nd l) j)) := fun h => by
      refine ⟨b, hb, hbt.trans ⟨fun h0 => ⟨h0.1, fun j h1 h2 => ?_⟩, fun h0 => ⟨h0.1, fun j h1 h2 => h0.2 j (by omega) h2⟩⟩⟩
      by_cases e : j = i
      · subst e; exact h
      · exact h0.2 j (by omega) h2
    simp only [spec_CustomersOk.l0]
    rw [if_pos (by omega), if_pos (by omega), st (n := l.length) (by omega) hl]
    rw [cm_eq l i, nd_eq l i]
    by_cases h1 : 0 ≤ cm l i ∧ cm l i ≤ 60
    · rw [spec_l1In_t h1.1 h1.2]
      simp only [bs, if_true]
      by_cases h2 : 1 ≤ nd l i ∧ nd l i ≤ 9
      · rw [spec_l1In_t h2.1 h2.2]
        simp only [bs, if_true]
        by_cases h0 : i = 0
        · subst h0
          rw [if_neg (by simp)]
          exact yes ⟨by omega, by omega, by omega, by omega, fun h => by omega⟩
        · rw [if_pos (by omega), pd (by omega) (by omega), if_pos (by omega), if_pos (by omega)]
          rw [cm_eq l (i - 1)]
          by_cases h5 : cm l i < cm l (i - 1)
          · rw [if_pos h5]; exact no (fun h => by have := h.2.2.2.2 (by omega); omega)
          rw [if_neg h5]
          exact yes ⟨by omega, by omega, by omega, by omega, fun h => by omega⟩
      · rw [spec_l1In_n h2]
        exact no (fun h => h2 ⟨h.2.2.1, h.2.2.2.1⟩)
    · rw [spec_l1In_n h1]
      exact no (fun h => h1 ⟨h.1, h.2.1⟩)
theorem spec_CustomersOk_e (l : List S46) (hl : l.length ≤ 9000000000000000000) {k : Nat} (hk : l.length < k) : ∃ b, spec_CustomersOk.f k l = some b ∧ (b = true ↔ ok l) := by
  obtain ⟨b, h1, h2⟩ := spec_CustomersOk_l l hl l.length k 0 (by omega) hk
  exact ⟨b, h1, h2.trans ⟨fun h => ⟨h.1, fun i hi => h.2 i (Nat.zero_le _) hi⟩, fun h => ⟨h.1, fun i _ hi => h.2 i hi⟩⟩⟩
theorem spec_CustomersOk_t {l : List S46} (h : ok l) {k : Nat} (hk : l.length < k) : spec_CustomersOk.f k l = some true := by
  obtain ⟨b, h1, h2⟩ := spec_CustomersOk_e l (by have := h.1; omega) hk
  rw [h1, h2.2 h]
theorem spec_CustomersOk_n {l : List S46} (hl : l.length ≤ 9000000000000000000) (h : ¬ ok l) {k : Nat} (hk : l.length < k) : spec_CustomersOk.f k l = some false := by
  obtain ⟨b, h1, h2⟩ := spec_CustomersOk_e l hl hk
  rw [h1]
  cases b with
  | true => exact absurd (h2.1 rfl) h
  | false => rfl

-- MATH B
/-- Who is served in the unit t. -/
def od (o : List Int) (t : Nat) : Int := rd o (t : Int)
theorem od_eq (o : List Int) (t : Nat) : rd o (t : Int) = od o t := rfl
/-- This is an order of these customers. -/
def ordok (l : List S46) (o : List Int) : Prop := Ord (cm l) (nd l) l.length (od o) o.length
/-- In the unit t somebody is served who has come, or nobody. -/
def okU (l : List S46) (o : List Int) (t : Nat) : Prop := -1 ≤ od o t ∧ od o t < (l.length : Int) ∧ (0 ≤ od o t → cm l (od o t).toNat ≤ (t : Int))
theorem ordok_iff (l : List S46) (o : List Int) : ordok l o ↔ ok l ∧ o.length ≤ 200 ∧ (∀ t, t < o.length → okU l o t) ∧ ∀ i, i < l.length → cnt (od o) i o.length = nd l i :=
  ⟨fun h => ⟨h.cust, h.units, h.who, h.need⟩, fun h => ⟨h.1, h.2.1, h.2.2.1, h.2.2.2⟩⟩
theorem left_step (l : List S46) (o : List Int) (t : Nat) {w : Nat} (hw : od o t = (w : Int)) (n : Nat) :
    tab (fun j => if j = w then nd l w - cnt (od o) w t - 1 else nd l j - cnt (od o) j t) n = tab (fun j => nd l j - cnt (od o) j (t + 1)) n :=
  tab_congr (fun j _ => by
    rw [cnt_succ, hw]
    by_cases e : j = w
    · subst e; rw [if_pos rfl, if_pos rfl]; omega
    · rw [if_neg e, if_neg (by omega)]; omega)
theorem left_stay (l : List S46) (o : List Int) (t : Nat) (hw : od o t < 0) (n : Nat) :
    tab (fun j => nd l j - cnt (od o) j t) n = tab (fun j => nd l j - cnt (od o) j (t + 1)) n :=
  tab_congr (fun j _ => by rw [cnt_succ, if_neg (by omega)]; omega)
theorem split_who (x : Int) : x < 0 ∨ ∃ w : Nat, x = (w : Int) := by
  by_cases h : x < 0
  · exact Or.inl h
  · exact Or.inr ⟨x.toNat, by omega⟩

-- PRE order0
theorem spec_OrderOk_a (l : List S46) (o : List Int) (hl : l.length ≤ 1048576) : ∀ (d k i : Nat), i + d = l.length → d < k →
    spec_OrderOk.l0 k l o (tab (nd l) i) (i : Int) = spec_OrderOk.l1 (k - (d + 1)) l o (tab (nd l) l.length) 0 := by
  intro d
  induction d with
  | zero =>
    intro k i hi hk
    obtain ⟨k, rfl⟩ : ∃ m, k = m + 1 := ⟨k - 1, by omega⟩
    simp only [spec_OrderOk.l0]
    rw [if_neg (by omega), show i = l.length from by omega]
    rfl
  | succ d ih =>
    intro k i hi hk
    obtain ⟨k, rfl⟩ : ∃ m, k = m + 1 := ⟨k - 1, by omega⟩
    simp only [spec_OrderOk.l0]
    rw [if_pos (by omega), if_pos (by omega), tab_length, if_pos (by omega), nd_eq, st (n := l.length) (by omega) (by omega), ← tab_snoc, show k + 1 - (d + 1 + 1) = k - (d + 1) from by omega]
    exact ih k (i + 1) (by omega) (by omega)
theorem spec_OrderOk_l2n {l : List S46} (o : List Int) (hl : l.length ≤ 1048576) (h : ¬ ok l) (x : List Int) (hx : x.length = l.length) : ∀ (d k i : Nat), i + d = l.length → d + l.length + 1 < k → spec_OrderOk.l2 k l o x (i : Int) = some false := by
  intro d
  induction d with
  | zero =>
    intro k i hi hk
    obtain ⟨k, rfl⟩ : ∃ m, k = m + 1 := ⟨k - 1, by omega⟩
    simp only [spec_OrderOk.l2]
    rw [if_neg (by omega), spec_CustomersOk_n (by omega) h (by omega), bs, if_neg (by simp)]
  | succ d ih =>
    intro k i hi hk
    obtain ⟨k, rfl⟩ : ∃ m, k = m + 1 := ⟨k - 1, by omega⟩
    simp only [spec_OrderOk.l2]
    rw [if_pos (by omega), if_pos (by omega), st (n := l.length) (by omega) (by omega)]
    by_cases h0 : rd x (i : Int) > 0
    · rw [if_pos h0]
    · rw [if_neg h0]
      exact ih k (i + 1) (by omega) (by omega)
theorem spec_OrderOk_l1n {l : List S46} {o : List Int} (hl : l.length ≤ 1048576) (ho : o.length ≤ 1048576) (h : ¬ ok l) : ∀ (d k t : Nat) (x : List Int), t + d = o.length → 2 * d + 2 * l.length + 10 < k → x.length = l.length → spec_OrderOk.l1 k l o x (t : Int) = some false := by
  intro d
  induction d with
  | zero =>
    intro k t x ht hk hx
    obtain ⟨k, rfl⟩ : ∃ m, k = m + 1 := ⟨k - 1, by omega⟩
    simp only [spec_OrderOk.l1]
    rw [if_neg (by omega)]
    exact spec_OrderOk_l2n o hl h x hx l.length k 0 (by omega) (by omega)
  | succ d ih =>
    intro k t x ht hk hx
    obtain ⟨k, rfl⟩ : ∃ m, k = m + 1 + 1 := ⟨k - 2, by omega⟩
    simp only [spec_OrderOk.l1, spec_OrderOk.j2]
    rw [if_pos (by omega), if_pos (by omega), wr (by omega) (by omega), od_eq, st (n := o.length) (by omega) (by omega)]
    by_cases h1 : -1 ≤ od o t ∧ od o t ≤ (l.length : Int) - 1
    · rw [spec_l1In_t h1.1 h1.2, bs, if_pos rfl]
      rcases split_who (od o t) with h3 | ⟨w, hw⟩
      · rw [if_neg (show ¬ od o t ≥ 0 from by omega), if_neg (by simp), if_neg (show ¬ od o t ≥ 0 from by omega)]
        exact ih k (t + 1) x (by omega) (by omega) hx
      · rw [hw, if_pos (by omega), if_pos (by omega), if_pos (by omega), Int.toNat_natCast]
        have go : (if (rd x (w : Int) == 0) = true then some false else if (w : Int) ≥ 0 then if (0 : Int) ≤ (w : Int) then if (w : Int) < (x.length : Int) then spec_OrderOk.l1 k l o (x.set w (wrap64 (rd x (w : Int) - 1))) ((t + 1 : Nat) : Int) else none else none else spec_OrderOk.l1 k l o x ((t + 1 : Nat) : Int)) = some false := by
          by_cases h5 : (rd x (w : Int) == 0) = true
          · rw [if_pos h5]
          · rw [if_neg h5, if_pos (by omega), if_pos (by omega), if_pos (by omega)]
            exact ih k (t + 1) _ (by omega) (by omega) (by rw [List.length_set]; exact hx)
        by_cases h4 : (rd_T46 l (w : Int)).f0 > (t : Int)
        · rw [if_pos h4, if_pos (by first | rfl | trivial)]
        · rw [if_neg h4, if_pos (show ((w : Nat) : Int) < (x.length : Int) from by omega)]
          exact go
    · rw [spec_l1In_n h1, bs, if_neg (by simp), if_pos (by first | rfl | trivial)]
theorem spec_OrderOk_l2 {l : List S46} (o : List Int) (h : ok l) (f : Nat → Int) : ∀ (d k i : Nat), i + d = l.length → d + l.length + 1 < k → ∃ b, spec_OrderOk.l2 k l o (tab f l.length) (i : Int) = some b ∧ (b = true ↔ (∀ j, i ≤ j → j < l.length → f j ≤ 0) ∧ o.length ≤ 200) := by
  intro d
  have hl := h.len
  induction d with
  | zero =>
    intro k i hi hk
    obtain ⟨k, rfl⟩ : ∃ m, k = m + 1 := ⟨k - 1, by omega⟩
    simp only [spec_OrderOk.l2]
    rw [tab_length, if_neg (by omega), spec_CustomersOk_t h (by omega), bs, if_pos rfl]
    exact ⟨_, rfl, by rw [decide_eq_true_iff]; exact ⟨fun h0 => ⟨fun j h1 h2 => absurd h1 (by omega), by omega⟩, fun h0 => by have := h0.2; omega⟩⟩
  | succ d ih =>
    intro k i hi hk
    obtain ⟨k, rfl⟩ : ∃ m, k = m + 1 := ⟨k - 1, by omega⟩
    simp only [spec_OrderOk.l2]
    rw [tab_length, if_pos (by omega), if_pos (by omega), tab_rd f (by omega), st (n := l.length) (by omega) (by omega)]
    by_cases h0 : f i > 0
    · rw [if_pos h0]
      exact ⟨false, rfl, ⟨fun h1 => (by cases h1), fun h1 => by have := h1.1 i (Nat.le_refl _) (by omega); omega⟩⟩
    · rw [if_neg h0]
      obtain ⟨b, e, hb⟩ := ih k (i + 1) (by omega) (by omega)
      refine ⟨b, e, hb.trans ⟨fun h1 => ⟨fun j h2 h3 => ?_, h1.2⟩, fun h1 => ⟨fun j h2 h3 => h1.1 j (by omega) h3, h1.2⟩⟩⟩
      by_cases ej : j = i
      · subst ej; omega
      · exact h1.1 j (by omega) h3
theorem spec_OrderOk_l1 {l : List S46} {o : List Int} (h : ok l) (ho : o.length ≤ 1048576) : ∀ (d k t : Nat), t + d = o.length → 2 * d + 2 * l.length + 10 < k → (∀ i, i < l.length → cnt (od o) i t ≤ nd l i) →
    ∃ b, spec_OrderOk.l1 k l o (tab (fun i => nd l i - cnt (od o) i t) l.length) (t : Int) = some b ∧ (b = true ↔ (∀ s, t ≤ s → s < o.length → okU l o s) ∧ (∀ i, i < l.length → cnt (od o) i o.length = nd l i) ∧ o.length ≤ 200) := by
  intro d
  have hl := h.len
  induction d with
  | zero =>
    intro k t ht hk hc
    obtain ⟨k, rfl⟩ : ∃ m, k = m + 1 := ⟨k - 1, by omega⟩
    have et : t = o.length := by omega
    simp only [spec_OrderOk.l1]
    rw [if_neg (by omega)]
    obtain ⟨b, e, hb⟩ := spec_OrderOk_l2 o h (fun i => nd l i - cnt (od o) i t) l.length k 0 (by omega) (by omega)
    refine ⟨b, e, hb.trans ⟨fun h0 => ⟨fun s h1 h2 => absurd h1 (by omega), fun i hi => ?_, h0.2⟩, fun h0 => ⟨fun j _ hj => ?_, h0.2.2⟩⟩⟩
    · have h1 : nd l i - cnt (od o) i t ≤ 0 := h0.1 i (Nat.zero_le _) hi
      have h2 := hc i hi
      rw [← et]
      omega
    · have := h0.2.1 j hj
      rw [← et] at this
      show nd l j - cnt (od o) j t ≤ 0
      omega
  | succ d ih =>
    intro k t ht hk hc
    obtain ⟨k, rfl⟩ : ∃ m, k = m + 1 + 1 := ⟨k - 2, by omega⟩
    have no : ¬ okU l o t → ∃ b, some false = some b ∧ (b = true ↔ (∀ s, t ≤ s → s < o.length → okU l o s) ∧ (∀ i, i < l.length → cnt (od o) i o.length = nd l i) ∧ o.length ≤ 200) := fun hn => ⟨false, rfl, ⟨fun h0 => (by cases h0), fun h0 => absurd (h0.1 t (Nat.le_refl _) (by omega)) hn⟩⟩
    have yes : okU l o t → (∀ i, i < l.length → cnt (od o) i (t + 1) ≤ nd l i) → ∃ b, spec_OrderOk.l1 k l o (tab (fun i => nd l i - cnt (od o) i (t + 1)) l.length) ((t + 1 : Nat) : Int) = some b ∧ (b = true ↔ (∀ s, t ≤ s → s < o.length → okU l o s) ∧ (∀ i, i < l.length → cnt (od o) i o.length = nd l i) ∧ o.length ≤ 200) := fun hy hcn => by
      obtain ⟨b, e, hb⟩ := ih k (t + 1) (by omega) (by omega) hcn
      refine ⟨b, e, hb.trans ⟨fun h0 => ⟨fun s h1 h2 => ?_, h0.2⟩, fun h0 => ⟨fun s h1 h2 => h0.1 s (by omega) h2, h0.2⟩⟩⟩
      by_cases es : s = t
      · subst es; exact hy
      · exact h0.1 s (by omega) h2
    simp only [spec_OrderOk.l1, spec_OrderOk.j2]
    rw [if_pos (by omega), if_pos (by omega), wr (x := (l.length : Int) - 1) (by omega) (by omega), od_eq, st (n := o.length) (by omega) (by omega)]
    by_cases h1 : -1 ≤ od o t ∧ od o t ≤ (l.length : Int) - 1
    · rw [spec_l1In_t h1.1 h1.2, bs, if_pos rfl]
      rcases split_who (od o t) with h3 | ⟨w, hw⟩
      · rw [if_neg (show ¬ od o t ≥ 0 from by omega), if_neg (by simp), if_neg (show ¬ od o t ≥ 0 from by omega), left_stay l o t h3]
        exact yes ⟨by omega, by omega, fun hh => by omega⟩ (fun i hi => by rw [cnt_succ, if_neg (by omega)]; have := hc i hi; omega)
      · have hwl : w < l.length := by omega
        rw [hw, if_pos (show (w : Int) ≥ 0 from by omega), if_pos (show (0 : Int) ≤ (w : Int) from by omega), if_pos (show (w : Int) < (l.length : Int) from by omega), cm_eq]
        by_cases h4 : cm l w > (t : Int)
        · rw [if_pos h4, if_pos (by first | rfl | trivial)]; exact no (fun hh => by have := hh.2.2 (by omega); rw [hw, Int.toNat_natCast] at this; omega)
        · rw [if_neg h4, tab_length, if_pos (show (w : Int) < (l.length : Int) from by omega), tab_rd _ hwl, Int.toNat_natCast]
          have h5 := h.need hwl
          have h6 := cnt_rng (O := od o) w t
          have h7 := hc w hwl
          by_cases h8 : nd l w - cnt (od o) w t = 0
          · rw [show (nd l w - cnt (od o) w t == 0) = true from by rw [beq_iff_eq]; exact h8, if_pos rfl]
            refine ⟨false, rfl, ⟨fun h0 => (by cases h0), fun h0 => ?_⟩⟩
            have h9 := h0.2.1 w hwl
            have h10 := cnt_le (O := od o) w (show t + 1 ≤ o.length from by omega)
            rw [cnt_succ, if_pos hw] at h10
            omega
          · rw [show (nd l w - cnt (od o) w t == 0) = false from by rw [beq_eq_false_iff_ne]; exact h8, if_neg (by simp), if_pos (show (w : Int) ≥ 0 from by omega), if_pos (show (0 : Int) ≤ (w : Int) from by omega), if_pos (show (w : Int) < (l.length : Int) from by omega)]
            rw [wr (by omega) (by omega), tab_set, left_step l o t hw]
            exact yes ⟨by omega, by omega, fun _ => by rw [hw, Int.toNat_natCast]; omega⟩ (fun i hi => by
              rw [cnt_succ]
              have := hc i hi
              by_cases e : od o t = (i : Int)
              · rw [if_pos e]; obtain rfl : i = w := by omega
                omega
              · rw [if_neg e]; omega)
    · rw [spec_l1In_n h1, bs, if_neg (by simp), if_pos (by first | rfl | trivial)]
      exact no (fun hh => h1 ⟨hh.1, by have := hh.2.1; omega⟩)
theorem spec_OrderOk_e (l : List S46) (o : List Int) (hl : l.length ≤ 1048576) (ho : o.length ≤ 1048576) {k : Nat} (hk : 2 * o.length + 3 * l.length + 40 < k) : ∃ b, spec_OrderOk.f k l o = some b ∧ (b = true ↔ ordok l o) := by
  unfold spec_OrderOk.f
  have ea : spec_OrderOk.l0 k l o [] 0 = spec_OrderOk.l1 (k - (l.length + 1)) l o (tab (nd l) l.length) 0 := spec_OrderOk_a l o hl l.length k 0 (by omega) (by omega)
  rw [ea]
  by_cases h : ok l
  · have hl8 := h.len
    rw [tab_congr (f := nd l) (g := fun i => nd l i - cnt (od o) i 0) (fun i _ => by rw [cnt_zero]; omega)]
    obtain ⟨b, e, hb⟩ := spec_OrderOk_l1 h (o := o) ho o.length (k - (l.length + 1)) 0 (by omega) (by omega) (fun i hi => by rw [cnt_zero]; have := h.need hi; omega)
    refine ⟨b, e, hb.trans ?_⟩
    rw [ordok_iff]
    exact ⟨fun h0 => ⟨h, h0.2.2, fun t ht => h0.1 t (Nat.zero_le _) ht, h0.2.1⟩, fun h0 => ⟨fun s _ hs => h0.2.2.1 s hs, h0.2.2.2, h0.2.1⟩⟩
  · exact ⟨false, spec_OrderOk_l1n hl ho h o.length (k - (l.length + 1)) 0 _ (by omega) (by omega) (tab_length _ _), ⟨fun h0 => (by cases h0), fun h0 => absurd h0.cust h⟩⟩
theorem spec_OrderOk_t {l : List S46} {o : List Int} (h : ordok l o) {k : Nat} (hk : 500 < k) : spec_OrderOk.f k l o = some true := by
  have hl := h.cust.len
  have ho := h.units
  obtain ⟨b, e, hb⟩ := spec_OrderOk_e l o (by omega) (by omega) (k := k) (by omega)
  rw [e, hb.2 h]
theorem spec_OrderOk_n {l : List S46} {o : List Int} (h : ¬ ordok l o) (hl : l.length ≤ 1048576) (ho : o.length ≤ 1048576) {k : Nat} (hk : 2 * o.length + 3 * l.length + 40 < k) : spec_OrderOk.f k l o = some false := by
  obtain ⟨b, e, hb⟩ := spec_OrderOk_e l o hl ho hk
  rw [e]
  cases b with
  | true => exact absurd (hb.1 rfl) h
  | false => rfl

-- MATH A
theorem spec_LastLeave_l {l : List S46} (h : ok l) : ∀ (i k : Nat) (b : Int), i ≤ l.length → i < k → 0 ≤ b → b ≤ 200 →
    spec_LastLeave.l0 k l b (sm (nd l) l.length - sm (nd l) i) ((i : Int) - 1) = some (mx b (mxs (fun j => cm l j + (sm (nd l) l.length - sm (nd l) j)) i)) := by
  intro i
  induction i with
  | zero =>
    intro k b hi hk hb hb'
    obtain ⟨k, rfl⟩ : ∃ m, k = m + 1 := ⟨k - 1, by omega⟩
    simp only [spec_LastLeave.l0]
    rw [if_neg (by omega), mxs_zero]
    unfold mx
    rw [if_neg (by omega)]
  | succ i ih =>
    intro k b hi hk hb hb'
    obtain ⟨k, rfl⟩ : ∃ m, k = m + 1 := ⟨k - 1, by omega⟩
    have hl := h.len
    have h1 := h.sum (i := i) (j := l.length) (by omega) (by omega)
    have h2 := h.sum (i := i + 1) (j := l.length) (by omega) (by omega)
    have h5 := h.come (i := i) (by omega)
    have e := sm_succ (nd l) i
    simp only [spec_LastLeave.l0]
    rw [show ((i + 1 : Nat) : Int) - 1 = (i : Int) from by omega]
    rw [if_pos (by omega), if_pos (by omega), if_pos (by omega), nd_eq, cm_eq]
    rw [wr (x := sm (nd l) l.length - sm (nd l) (i + 1) + nd l i) (by omega) (by omega), show sm (nd l) l.length - sm (nd l) (i + 1) + nd l i = sm (nd l) l.length - sm (nd l) i from by omega]
    rw [wr (x := cm l i + (sm (nd l) l.length - sm (nd l) i)) (by omega) (by omega), wr (x := (i : Int) - 1) (by omega) (by omega)]
    have hm := mx_ge b (cm l i + (sm (nd l) l.length - sm (nd l) i))
    rw [ih k _ (by omega) (by omega) (by omega) (by omega), mxs_succ]
    congr 1
    unfold mx
    repeat' split
    all_goals omega
theorem spec_LastLeave_t {l : List S46} (h : ok l) {k : Nat} (hk : l.length + 20 < k) : spec_LastLeave.f k l = some (LL (cm l) (nd l) l.length) := by
  unfold spec_LastLeave.f
  have hl := h.len
  rw [spec_CustomersOk_t h (by omega)]
  simp only [bs, if_true]
  have := spec_LastLeave_l h l.length k 0 (Nat.le_refl _) (by omega) (by omega) (by omega)
  rw [Int.sub_self] at this
  rw [wr (by omega) (by omega), this, LL_sums h l.length (Nat.le_refl _)]
  have h1 := LL_rng h l.length (Nat.le_refl _)
  have h2 := h.sum0 (Nat.le_refl _)
  congr 1
  unfold mx
  split <;> omega
theorem spec_LastLeave_n {l : List S46} (hl : l.length ≤ 9000000000000000000) (h : ¬ ok l) {k : Nat} (hk : l.length < k) : spec_LastLeave.f k l = some (-1) := by
  unfold spec_LastLeave.f
  rw [spec_CustomersOk_n hl h hk]
  simp

-- PRE order0
-- MATH V
/-- An order that does not idle from the unit i on. -/
def full (l : List S46) (o : List Int) (i : Nat) : Prop := ∀ t, i ≤ t → t < o.length → (0 ≤ od o t ↔ 0 < wk (cm l) (nd l) l.length t)
def busyok (l : List S46) (o : List Int) : Prop := ordok l o ∧ (o.length : Int) = LL (cm l) (nd l) l.length ∧ full l o 0
theorem full_step {l : List S46} {o : List Int} {i : Nat} (h : 0 ≤ od o i ↔ 0 < wk (cm l) (nd l) l.length i) : full l o i ↔ full l o (i + 1) := by
  constructor
  · intro hh t h1 h2; exact hh t (by omega) h2
  · intro hh t h1 h2
    by_cases e : t = i
    · rw [e]; exact h
    · exact hh t (by omega) h2
theorem dec_ne (a b : Prop) [Decidable a] [Decidable b] : ((decide a) != (decide b)) = true ↔ ¬ (a ↔ b) := by
  by_cases ha : a <;> by_cases hb : b <;> simp [ha, hb]

-- PRE busy0
theorem spec_BusyOk_l {l : List S46} {o : List Int} (h : ordok l o) : ∀ (d k i : Nat), i + d = o.length → d + 100 < k →
    ∃ b, spec_BusyOk.l0 k l o (tab (wk (cm l) (nd l) l.length) 201) (i : Int) = some b ∧ (b = true ↔ full l o i ∧ (o.length : Int) = LL (cm l) (nd l) l.length) := by
  intro d
  have hl := h.cust.len
  have hu := h.units
  induction d with
  | zero =>
    intro k i hi hk
    obtain ⟨k, rfl⟩ : ∃ m, k = m + 1 := ⟨k - 1, by omega⟩
    simp only [spec_BusyOk.l0]
    rw [if_neg (by omega), spec_LastLeave_t h.cust (by omega), bs]
    refine ⟨_, rfl, ?_⟩
    rw [beq_iff_eq]
    exact ⟨fun e => ⟨fun t h1 h2 => absurd h1 (by omega), e⟩, fun e => e.2⟩
  | succ d ih =>
    intro k i hi hk
    obtain ⟨k, rfl⟩ : ∃ m, k = m + 1 := ⟨k - 1, by omega⟩
    simp only [spec_BusyOk.l0]
    rw [if_pos (by omega), if_pos (by omega), tab_length, if_pos (by omega), tab_rd _ (by omega), od_eq, st (n := 300) (by omega) (by omega)]
    by_cases hc : ((decide (od o i ≥ 0)) != (decide (wk (cm l) (nd l) l.length i > 0))) = true
    · rw [if_pos hc]
      refine ⟨_, rfl, ?_⟩
      have hn := (dec_ne _ _).1 hc
      exact ⟨fun e => (by cases e), fun e => absurd (e.1 i (Nat.le_refl _) (by omega)) hn⟩
    · rw [if_neg hc]
      obtain ⟨b, e, hb⟩ := ih k (i + 1) (by omega) (by omega)
      refine ⟨b, e, ?_⟩
      rw [hb, full_step (Decidable.not_not.1 (fun hn => hc ((dec_ne _ _).2 hn)))]
theorem spec_BusyOk_e (l : List S46) (o : List Int) (hl : l.length ≤ 1048576) (ho : o.length ≤ 1048576) {k : Nat} (hk : 2 * o.length + 3 * l.length + 2500 < k) : ∃ b, spec_BusyOk.f k l o = some b ∧ (b = true ↔ busyok l o) := by
  unfold spec_BusyOk.f
  by_cases h : ordok l o
  · have hu := h.units
    have hw : spec_l3Work.f k l 200 = some (tab (wk (cm l) (nd l) l.length) 201) := spec_l3Work_t h.cust 200 (by omega) (by omega)
    rw [spec_OrderOk_t h (by omega), bs, if_pos rfl, hw, bs]
    obtain ⟨b, e, hb⟩ := spec_BusyOk_l h o.length k 0 (by omega) (by omega)
    refine ⟨b, e, ?_⟩
    rw [hb]
    exact ⟨fun q => ⟨h, q.2, q.1⟩, fun q => ⟨q.2.2, q.2.1⟩⟩
  · rw [spec_OrderOk_n h hl ho (by omega), bs, if_neg (by simp)]
    exact ⟨_, rfl, fun e => (by cases e), fun q => absurd q.1 h⟩

theorem impl_CustomersOk_l (l : List S46) (hl : l.length ≤ 9000000000000000000) : ∀ (d k i : Nat), i + d = l.length → d < k →
    ∃ b, impl_CustomersOk.l0 k l l (l.length : Int) (i : Int) = some b ∧ (b = true ↔ l.length ≤ 8 ∧ ∀ j, i ≤ j → j < l.length → okAt (cm l) (nd l) j) := by
  intro d
  induction d with
  | zero =>
    intro k i hi hk
    obtain ⟨k, rfl⟩ : ∃ m, k = m + 1 := ⟨k - 1, by omega⟩
    simp only [impl_CustomersOk.l0]
    rw [if_neg (by omega)]
    exact ⟨_, rfl, by rw [decide_eq_true_iff]; exact ⟨fun h => ⟨by omega, fun j h1 h2 => absurd h1 (by omega)⟩, fun h => by have := h.1; omega⟩⟩
  | succ d ih =>
    intro k i hi hk
    obtain ⟨k, rfl⟩ : ∃ m, k = m + 1 := ⟨k - 1, by omega⟩
    obtain ⟨b, hb, hbt⟩ := ih k (i + 1) (by omega) (by omega)
    have no : (¬ okAt (cm l) (nd l) i) → (∃ b, some false = some b ∧ (b = true ↔ l.length ≤ 8 ∧ ∀ j, i ≤ j → j < l.length → okAt (cm l) (nd l) j)) := fun h => ⟨false, rfl, ⟨fun h0 => (by cases h0), fun h0 => absurd (h0.2 i (by omega) (by omega)) h⟩⟩
    have yes : okAt (cm l) (nd l) i → (∃ b, impl_CustomersOk.l0 k l l (l.length : Int) ((i + 1 : Nat) : Int) = some b ∧ (b = true ↔ l.length ≤ 8 ∧ ∀ j, i ≤ j → j < l.length → okAt (cm l) (nd l) j)) := fun h => by
      refine ⟨b, hb, hbt.trans ⟨fun h0 => ⟨h0.1, fun j h1 h2 => ?_⟩, fun h0 => ⟨h0.1, fun j h1 h2 => h0.2 j (by omega) h2⟩⟩⟩
      by_cases e : j = i
      · subst e; exact h
      · exact h0.2 j (by omega) h2
    simp only [impl_CustomersOk.l0]
    rw [if_pos (by omega), if_pos (by omega), if_pos (by omega), st (n := l.length) (by omega) hl]
    rw [cm_eq l i, nd_eq l i]
    by_cases h1 : cm l i < 0
    · rw [if_pos h1]; exact no (fun h => by have := h.1; omega)
    rw [if_neg h1]
    by_cases h2 : cm l i > 60
    · rw [if_pos h2]; exact no (fun h => by have := h.2.1; omega)
    rw [if_neg h2]
    by_cases h0 : i = 0
    · subst h0
      rw [if_neg (by simp)]
      by_cases h3 : nd l 0 < 1
      · rw [if_pos h3]; exact no (fun h => by have := h.2.2.1; omega)
      rw [if_neg h3]
      by_cases h4 : nd l 0 > 9
      · rw [if_pos h4]; exact no (fun h => by have := h.2.2.2.1; omega)
      rw [if_neg h4]
      exact yes ⟨by omega, by omega, by omega, by omega, fun h => by omega⟩
    · rw [if_pos (by omega), pd (by omega) (by omega), if_pos (by omega), if_pos (by omega)]
      rw [cm_eq l (i - 1)]
      by_cases h5 : cm l i < cm l (i - 1)
      · rw [if_pos h5]; exact no (fun h => by have := h.2.2.2.2 (by omega); omega)
      rw [if_neg h5]
      by_cases h3 : nd l i < 1
      · rw [if_pos h3]; exact no (fun h => by have := h.2.2.1; omega)
      rw [if_neg h3]
      by_cases h4 : nd l i > 9
      · rw [if_pos h4]; exact no (fun h => by have := h.2.2.2.1; omega)
      rw [if_neg h4]
      exact yes ⟨by omega, by omega, by omega, by omega, fun h => by omega⟩
theorem impl_CustomersOk_e (l : List S46) (hl : l.length ≤ 9000000000000000000) {k : Nat} (hk : l.length < k) : ∃ b, impl_CustomersOk.f k l = some b ∧ (b = true ↔ ok l) := by
  obtain ⟨b, h1, h2⟩ := impl_CustomersOk_l l hl l.length k 0 (by omega) hk
  exact ⟨b, h1, h2.trans ⟨fun h => ⟨h.1, fun i hi => h.2 i (Nat.zero_le _) hi⟩, fun h => ⟨h.1, fun i _ hi => h.2 i hi⟩⟩⟩
theorem impl_CustomersOk_t {l : List S46} (h : ok l) {k : Nat} (hk : l.length < k) : impl_CustomersOk.f k l = some true := by
  obtain ⟨b, h1, h2⟩ := impl_CustomersOk_e l (by have := h.1; omega) hk
  rw [h1, h2.2 h]
theorem impl_CustomersOk_n {l : List S46} (hl : l.length ≤ 9000000000000000000) (h : ¬ ok l) {k : Nat} (hk : l.length < k) : impl_CustomersOk.f k l = some false := by
  obtain ⟨b, h1, h2⟩ := impl_CustomersOk_e l hl hk
  rw [h1]
  cases b with
  | true => exact absurd (h2.1 rfl) h
  | false => rfl

theorem impl_leftOf_l {l : List S46} (hl : l.length ≤ 1048576) : ∀ (d k i : Nat), i + d = l.length → d < k → impl_leftOf.l0 k (tab (nd l) i) l (l.length : Int) (i : Int) = some (tab (nd l) l.length) := by
  intro d
  induction d with
  | zero =>
    intro k i hi hk
    obtain ⟨k, rfl⟩ : ∃ m, k = m + 1 := ⟨k - 1, by omega⟩
    simp only [impl_leftOf.l0]
    rw [if_neg (by omega), show i = l.length from by omega]
  | succ d ih =>
    intro k i hi hk
    obtain ⟨k, rfl⟩ : ∃ m, k = m + 1 := ⟨k - 1, by omega⟩
    simp only [impl_leftOf.l0]
    rw [if_pos (by omega), if_pos (by omega), if_pos (by omega), tab_length, if_pos (by omega), nd_eq, st (n := l.length) (by omega) (by omega), ← tab_snoc]
    exact ih k (i + 1) (by omega) (by omega)
theorem impl_leftOf_e {l : List S46} (hl : l.length ≤ 1048576) {k : Nat} (hk : l.length < k) : impl_leftOf.f k l = some (tab (nd l) l.length) :=
  impl_leftOf_l hl l.length k 0 (by omega) hk

-- PRE order0
theorem impl_OrderOk_l1 (f : Nat → Int) (n : Nat) (hn : n ≤ 1048576) : ∀ (d k i : Nat), i + d = n → d < k → ∃ b, impl_OrderOk.l1 k (tab f n) (n : Int) (i : Int) = some b ∧ (b = true ↔ ∀ j, i ≤ j → j < n → f j = 0) := by
  intro d
  induction d with
  | zero =>
    intro k i hi hk
    obtain ⟨k, rfl⟩ : ∃ m, k = m + 1 := ⟨k - 1, by omega⟩
    simp only [impl_OrderOk.l1]
    rw [if_neg (by omega)]
    exact ⟨true, rfl, ⟨fun _ j h1 h2 => absurd h1 (by omega), fun _ => rfl⟩⟩
  | succ d ih =>
    intro k i hi hk
    obtain ⟨k, rfl⟩ : ∃ m, k = m + 1 := ⟨k - 1, by omega⟩
    simp only [impl_OrderOk.l1]
    rw [if_pos (by omega), if_pos (by omega), tab_length, if_pos (by omega), tab_rd f (by omega), st (n := n) (by omega) (by omega)]
    by_cases h : f i = 0
    · rw [if_pos h]
      obtain ⟨b, e, hb⟩ := ih k (i + 1) (by omega) (by omega)
      refine ⟨b, e, hb.trans ⟨fun h0 j h1 h2 => ?_, fun h0 j h1 h2 => h0 j (by omega) h2⟩⟩
      by_cases ej : j = i
      · subst ej; exact h
      · exact h0 j (by omega) h2
    · rw [if_neg h]
      exact ⟨false, rfl, ⟨fun h0 => (by cases h0), fun h0 => absurd (h0 i (Nat.le_refl _) (by omega)) h⟩⟩
theorem impl_OrderOk_l {l : List S46} {o : List Int} (h : ok l) (hT : o.length ≤ 200) : ∀ (d k t : Nat), t + d = o.length → 2 * d + l.length + 10 < k →
    ∃ b, impl_OrderOk.l0 k l (tab (fun i => nd l i - cnt (od o) i t) l.length) o (o.length : Int) (t : Int) = some b ∧ (b = true ↔ (∀ s, t ≤ s → s < o.length → okU l o s) ∧ ∀ i, i < l.length → cnt (od o) i o.length = nd l i) := by
  intro d
  have hl := h.len
  induction d with
  | zero =>
    intro k t ht hk
    obtain ⟨k, rfl⟩ : ∃ m, k = m + 1 := ⟨k - 1, by omega⟩
    simp only [impl_OrderOk.l0]
    rw [if_neg (by omega), tab_length]
    obtain ⟨b, e, hb⟩ := impl_OrderOk_l1 (fun i => nd l i - cnt (od o) i t) l.length (by omega) l.length k 0 (by omega) (by omega)
    refine ⟨b, e, hb.trans ⟨fun h0 => ⟨fun s h1 h2 => absurd h1 (by omega), fun i hi => ?_⟩, fun h0 j _ hj => ?_⟩⟩
    · have : nd l i - cnt (od o) i t = 0 := h0 i (Nat.zero_le _) hi
      rw [← show t = o.length from by omega]
      omega
    · have := h0.2 j hj
      rw [← show t = o.length from by omega] at this
      show nd l j - cnt (od o) j t = 0
      omega
  | succ d ih =>
    intro k t ht hk
    obtain ⟨k, rfl⟩ : ∃ m, k = m + 1 + 1 := ⟨k - 2, by omega⟩
    have no : ¬ okU l o t → ∃ b, some false = some b ∧ (b = true ↔ (∀ s, t ≤ s → s < o.length → okU l o s) ∧ ∀ i, i < l.length → cnt (od o) i o.length = nd l i) := fun hn => ⟨false, rfl, ⟨fun h0 => (by cases h0), fun h0 => absurd (h0.1 t (Nat.le_refl _) (by omega)) hn⟩⟩
    have yes : okU l o t → ∃ b, impl_OrderOk.l0 k l (tab (fun i => nd l i - cnt (od o) i (t + 1)) l.length) o (o.length : Int) ((t + 1 : Nat) : Int) = some b ∧ (b = true ↔ (∀ s, t ≤ s → s < o.length → okU l o s) ∧ ∀ i, i < l.length → cnt (od o) i o.length = nd l i) := fun hy => by
      obtain ⟨b, e, hb⟩ := ih k (t + 1) (by omega) (by omega)
      refine ⟨b, e, hb.trans ⟨fun h0 => ⟨fun s h1 h2 => ?_, h0.2⟩, fun h0 => ⟨fun s h1 h2 => h0.1 s (by omega) h2, h0.2⟩⟩⟩
      by_cases es : s = t
      · subst es; exact hy
      · exact h0.1 s (by omega) h2
    simp only [impl_OrderOk.l0, impl_OrderOk.j2]
    rw [if_pos (by omega), if_pos (by omega), if_pos (by omega), od_eq, st (n := o.length) (by omega) (by omega)]
    by_cases h1 : od o t < -1
    · rw [if_pos h1, if_pos (by first | rfl | trivial)]; exact no (fun hh => by have := hh.1; omega)
    rw [if_neg h1]
    by_cases h2 : od o t ≥ (l.length : Int)
    · rw [if_pos h2, if_pos (by first | rfl | trivial)]; exact no (fun hh => by have := hh.2.1; omega)
    rw [if_neg h2]
    rcases split_who (od o t) with h3 | ⟨w, hw⟩
    · rw [if_neg (show ¬ od o t ≥ 0 from by omega), if_neg (by simp), if_neg (show ¬ od o t ≥ 0 from by omega), left_stay l o t h3]
      exact yes ⟨by omega, by omega, fun hh => by omega⟩
    · have hwl : w < l.length := by omega
      rw [hw, if_pos (by omega), if_pos (by omega), if_pos (by omega), cm_eq]
      by_cases h4 : cm l w > (t : Int)
      · rw [decide_eq_true h4, if_pos rfl]; exact no (fun hh => by have := hh.2.2 (by omega); rw [hw, Int.toNat_natCast] at this; omega)
      · rw [decide_eq_false h4, if_neg (by simp), if_pos (by omega), if_pos (by omega), tab_length, if_pos (by omega), tab_rd _ hwl, Int.toNat_natCast]
        have h5 := h.need hwl
        have h6 := cnt_rng (O := od o) w t
        rw [wr (by omega) (by omega), tab_set, left_step l o t hw]
        exact yes ⟨by omega, by omega, fun _ => by rw [hw, Int.toNat_natCast]; omega⟩
theorem impl_OrderOk_e (l : List S46) (o : List Int) (hl : l.length ≤ 9000000000000000000) {k : Nat} (hk : 2 * 200 + 2 * l.length + 40 < k) : ∃ b, impl_OrderOk.f k l o = some b ∧ (b = true ↔ ordok l o) := by
  unfold impl_OrderOk.f
  obtain ⟨k, rfl⟩ : ∃ m, k = m + 1 := ⟨k - 1, by omega⟩
  by_cases h : ok l
  · have hl8 := h.len
    rw [impl_CustomersOk_t h (by omega)]
    simp only [bs, if_true, impl_OrderOk.j0]
    by_cases hT : (o.length : Int) > 200
    · rw [decide_eq_true hT, if_pos rfl]
      exact ⟨false, rfl, ⟨fun h0 => (by cases h0), fun h0 => by have := h0.units; omega⟩⟩
    · rw [decide_eq_false hT, if_neg (by simp), impl_leftOf_e (by omega) (by omega)]
      simp only [bs]
      rw [tab_congr (f := nd l) (g := fun i => nd l i - cnt (od o) i 0) (fun i _ => by rw [cnt_zero]; omega)]
      obtain ⟨b, e, hb⟩ := impl_OrderOk_l h (o := o) (by omega) o.length k 0 (by omega) (by omega)
      refine ⟨b, e, hb.trans ?_⟩
      rw [ordok_iff]
      exact ⟨fun h0 => ⟨h, by omega, fun t ht => h0.1 t (Nat.zero_le _) ht, h0.2⟩, fun h0 => ⟨fun s _ hs => h0.2.2.1 s hs, h0.2.2.2⟩⟩
  · rw [impl_CustomersOk_n hl h (by omega)]
    simp only [bs, impl_OrderOk.j0]
    exact ⟨false, rfl, ⟨fun h0 => (by cases h0), fun h0 => absurd h0.cust h⟩⟩
theorem impl_OrderOk_t {l : List S46} {o : List Int} (h : ordok l o) {k : Nat} (hk : 500 < k) : impl_OrderOk.f k l o = some true := by
  have hl := h.cust.len
  obtain ⟨b, e, hb⟩ := impl_OrderOk_e l o (by omega) (k := k) (by omega)
  rw [e, hb.2 h]
theorem impl_OrderOk_n {l : List S46} {o : List Int} (h : ¬ ordok l o) (hl : l.length ≤ 9000000000000000000) {k : Nat} (hk : 2 * 200 + 2 * l.length + 40 < k) : impl_OrderOk.f k l o = some false := by
  obtain ⟨b, e, hb⟩ := impl_OrderOk_e l o hl hk
  rw [e]
  cases b with
  | true => exact absurd (hb.1 rfl) h
  | false => rfl

theorem impl_needOf_l {l : List S46} (hn : l.length ≤ 8) (hb : ∀ i, i < l.length → 1 ≤ nd l i ∧ nd l i ≤ 9) : ∀ (d k i : Nat), i + d = l.length → d < k → impl_needOf.l0 k (sm (nd l) i) l (l.length : Int) (i : Int) = some (sm (nd l) l.length) := by
  intro d
  induction d with
  | zero =>
    intro k i hi hk
    obtain ⟨k, rfl⟩ : ∃ m, k = m + 1 := ⟨k - 1, by omega⟩
    simp only [impl_needOf.l0]
    rw [if_neg (by omega), show i = l.length from by omega]
  | succ d ih =>
    intro k i hi hk
    obtain ⟨k, rfl⟩ : ∃ m, k = m + 1 := ⟨k - 1, by omega⟩
    have h1 := sm_range (f := nd l) (n := l.length) hb i 0 (by omega)
    have h2 := hb i (by omega)
    rw [Nat.zero_add, sm_zero] at h1
    simp only [impl_needOf.l0]
    rw [if_pos (by omega), if_pos (by omega), if_pos (by omega), st (n := l.length) (by omega) (by omega), nd_eq, wr (by omega) (by omega), ← sm_succ]
    exact ih k (i + 1) (by omega) (by omega)
theorem impl_needOf_b {l : List S46} (hn : l.length ≤ 8) (hb : ∀ i, i < l.length → 1 ≤ nd l i ∧ nd l i ≤ 9) {k : Nat} (hk : l.length < k) : impl_needOf.f k l = some (sm (nd l) l.length) :=
  impl_needOf_l hn hb l.length k 0 (by omega) hk
theorem impl_needOf_e {l : List S46} (h : ok l) {k : Nat} (hk : l.length < k) : impl_needOf.f k l = some (sm (nd l) l.length) :=
  impl_needOf_b h.len (fun i hi => h.need hi) hk
theorem impl_needOf_take {l : List S46} (h : ok l) {m : Nat} (hm : m ≤ l.length) {k : Nat} (hk : l.length < k) : impl_needOf.f k (l.take m) = some (sm (nd l) m) := by
  have e : (l.take m).length = m := by rw [List.length_take]; omega
  rw [impl_needOf_e (ok_take h m hm) (by omega), e, sm_take l m m (Nat.le_refl _)]
theorem impl_needOf_drop {l : List S46} (h : ok l) {m : Nat} (hm : m ≤ l.length) {k : Nat} (hk : l.length < k) : impl_needOf.f k (l.drop m) = some (sm (nd l) l.length - sm (nd l) m) := by
  have e : (l.drop m).length = l.length - m := List.length_drop ..
  rw [impl_needOf_b (by have := h.len; omega) (fun i hi => by rw [nd_drop]; exact h.need (by omega)) (by omega), sm_drop, e, show l.length - m + m = l.length from by omega]
theorem impl_needOf_part {l : List S46} (h : ok l) {i m : Nat} (hi : i ≤ m) (hm : m ≤ l.length) {k : Nat} (hk : l.length < k) : impl_needOf.f k ((l.take m).drop i) = some (sm (nd l) m - sm (nd l) i) := by
  have e : (l.take m).length = m := by rw [List.length_take]; omega
  rw [impl_needOf_drop (ok_take h m hm) (by omega) (by omega), e, sm_take l m m (Nat.le_refl _), sm_take l m i hi]

-- MATH A
theorem impl_lastLeave_l {l : List S46} (h : ok l) : ∀ (d k i : Nat), i + d = l.length → d + 10 < k →
    impl_lastLeave.l0 k l (mxs (fun j => cm l j + (sm (nd l) l.length - sm (nd l) j)) i) l (l.length : Int) (i : Int) = some (mxs (fun j => cm l j + (sm (nd l) l.length - sm (nd l) j)) l.length) := by
  intro d
  induction d with
  | zero =>
    intro k i hi hk
    obtain ⟨k, rfl⟩ : ∃ m, k = m + 1 := ⟨k - 1, by omega⟩
    simp only [impl_lastLeave.l0]
    rw [if_neg (by omega), show i = l.length from by omega]
  | succ d ih =>
    intro k i hi hk
    obtain ⟨k, rfl⟩ : ∃ m, k = m + 1 := ⟨k - 1, by omega⟩
    have hl := h.len
    have h1 := h.sum (i := i) (j := l.length) (by omega) (by omega)
    have h5 := h.come (i := i) (by omega)
    simp only [impl_lastLeave.l0]
    rw [if_pos (by omega), if_pos (by omega), if_pos (by omega), if_pos (by omega), Int.toNat_natCast, impl_needOf_drop h (by omega) (by omega)]
    simp only [bs]
    rw [cm_eq, st (n := l.length) (by omega) (by omega), wr (by omega) (by omega), ← mxs_succ (fun j => cm l j + (sm (nd l) l.length - sm (nd l) j)) i]
    exact ih k (i + 1) (by omega) (by omega)
theorem impl_lastLeave_e {l : List S46} (h : ok l) {k : Nat} (hk : l.length + 20 < k) : impl_lastLeave.f k l = some (LL (cm l) (nd l) l.length) := by
  unfold impl_lastLeave.f
  have := impl_lastLeave_l h l.length k 0 (by omega) (by omega)
  rw [mxs_zero, LL_sums h l.length (Nat.le_refl _)] at this
  exact this

-- MATH V
theorem impl_works_l1 {l : List S46} (h : ok l) (A : Int) {x : List Int} (hx : x.length < 17592186044416) {w : Int} (hw : 0 ≤ w ∧ w ≤ 1000) (t : Nat) (ht : t ≤ 1000) : ∀ (d k i : Nat), i + d = l.length → d < k →
    impl_works.l1 k l A x (w + ar (cm l) (nd l) t i) (t : Int) (i : Int) = impl_works.l0 (k - (d + 1)) l A (x ++ [w + arr (cm l) (nd l) l.length t]) (mx 0 (w + arr (cm l) (nd l) l.length t - 1)) ((t + 1 : Nat) : Int) := by
  intro d
  have hl := h.len
  induction d with
  | zero =>
    intro k i hi hk
    obtain ⟨k, rfl⟩ : ∃ m, k = m + 1 := ⟨k - 1, by omega⟩
    have e : i = l.length := by omega
    have hr := ar_rng h t i (by omega)
    simp only [impl_works.l1]
    rw [if_neg (by omega), if_pos hx, wr (x := w + ar (cm l) (nd l) t i - 1) (by omega) (by omega), e, ar_all, mx_comm0, st (n := 2000) (by omega) (by omega)]
    rfl
  | succ d ih =>
    intro k i hi hk
    obtain ⟨k, rfl⟩ : ∃ m, k = m + 1 := ⟨k - 1, by omega⟩
    have e := ih k (i + 1) (by omega) (by omega)
    have hr := ar_rng h t i (by omega)
    have hn := h.need (i := i) (by omega)
    rw [ar_succ] at e
    simp only [impl_works.l1]
    rw [if_pos (by omega), if_pos (by omega), cm_eq, nd_eq, st (n := l.length) (by omega) (by omega), show k + 1 - (d + 1 + 1) = k - (d + 1) from by omega]
    by_cases hc : cm l i = (t : Int)
    · rw [if_pos hc] at e ⊢
      rw [wr (by omega) (by omega), Int.add_assoc]
      exact e
    · rw [if_neg hc] at e ⊢
      rw [Int.add_zero] at e
      exact e
theorem impl_works_l {l : List S46} (h : ok l) (A : Nat) (hA : A ≤ 500) : ∀ (d k t : Nat), t + d = A + 1 → d * 11 + 2 < k → impl_works.l0 k l (A : Int) (tab (wk (cm l) (nd l) l.length) t) (pre (cm l) (nd l) l.length t) (t : Int) = some (tab (wk (cm l) (nd l) l.length) (A + 1)) := by
  intro d
  have hl := h.len
  induction d with
  | zero =>
    intro k t hi hk
    obtain ⟨k, rfl⟩ : ∃ m, k = m + 1 := ⟨k - 1, by omega⟩
    simp only [impl_works.l0]
    rw [if_neg (by omega), show t = A + 1 from by omega]
  | succ d ih =>
    intro k t hi hk
    obtain ⟨k, rfl⟩ : ∃ m, k = m + 1 := ⟨k - 1, by omega⟩
    have hp := pre_rng h t
    simp only [impl_works.l0]
    rw [if_pos (by omega)]
    have e := impl_works_l1 h (A : Int) (x := tab (wk (cm l) (nd l) l.length) t) (by rw [tab_length]; omega) (w := pre (cm l) (nd l) l.length t) (by omega) t (by omega) l.length k 0 (by omega) (by omega)
    rw [ar_zero, Int.add_zero, ← wk_pre, ← tab_snoc (wk (cm l) (nd l) l.length), ← pre_succ] at e
    refine Eq.trans e ?_
    exact ih (k - (l.length + 1)) (t + 1) (by omega) (by omega)
theorem impl_works_t {l : List S46} (h : ok l) {k : Nat} (hk : 2300 < k) : impl_works.f k l = some (tab (wk (cm l) (nd l) l.length) 201) :=
  impl_works_l h 200 (by omega) (200 + 1) k 0 (by omega) (by omega)

-- PRE busy0
-- PRE impl_works
theorem impl_BusyOk_l {l : List S46} {o : List Int} (ho : o.length ≤ 200) : ∀ (d k i : Nat), i + d = o.length → d < k →
    ∃ b, impl_BusyOk.l0 k o (tab (wk (cm l) (nd l) l.length) 201) (i : Int) = some b ∧ (b = true ↔ full l o i) := by
  intro d
  induction d with
  | zero =>
    intro k i hi hk
    obtain ⟨k, rfl⟩ : ∃ m, k = m + 1 := ⟨k - 1, by omega⟩
    simp only [impl_BusyOk.l0]
    rw [if_neg (by omega)]
    exact ⟨_, rfl, fun _ t h1 h2 => absurd h1 (by omega), fun _ => rfl⟩
  | succ d ih =>
    intro k i hi hk
    obtain ⟨k, rfl⟩ : ∃ m, k = m + 1 := ⟨k - 1, by omega⟩
    simp only [impl_BusyOk.l0]
    rw [if_pos (by omega), if_pos (by omega), if_pos (by omega), tab_rd _ (by omega), od_eq, st (n := 300) (by omega) (by omega)]
    by_cases hc : ((decide (od o i ≥ 0)) != (decide (wk (cm l) (nd l) l.length i > 0))) = true
    · rw [if_pos hc]
      refine ⟨_, rfl, ?_⟩
      have hn := (dec_ne _ _).1 hc
      exact ⟨fun e => (by cases e), fun e => absurd (e i (Nat.le_refl _) (by omega)) hn⟩
    · rw [if_neg hc]
      obtain ⟨b, e, hb⟩ := ih k (i + 1) (by omega) (by omega)
      refine ⟨b, e, ?_⟩
      rw [hb, full_step (Decidable.not_not.1 (fun hn => hc ((dec_ne _ _).2 hn)))]
theorem impl_BusyOk_e (l : List S46) (o : List Int) (hl : l.length ≤ 1048576) {k : Nat} (hk : 3 * l.length + 2500 < k) : ∃ b, impl_BusyOk.f k l o = some b ∧ (b = true ↔ busyok l o) := by
  unfold impl_BusyOk.f
  by_cases h : ordok l o
  · have hu := h.units
    rw [impl_OrderOk_t h (by omega), bs, if_pos rfl, impl_lastLeave_e h.cust (by omega), bs]
    by_cases hT : (o.length : Int) = LL (cm l) (nd l) l.length
    · rw [if_pos hT, impl_works_t h.cust (by omega), bs]
      obtain ⟨b, e, hb⟩ := impl_BusyOk_l (l := l) hu o.length k 0 (by omega) (by omega)
      refine ⟨b, e, ?_⟩
      rw [hb]
      exact ⟨fun q => ⟨h, hT, q⟩, fun q => q.2.2⟩
    · rw [if_neg hT]
      exact ⟨_, rfl, fun e => (by cases e), fun q => absurd q.2.1 hT⟩
  · rw [impl_OrderOk_n h (by omega) (by omega), bs, if_neg (by simp)]
    exact ⟨_, rfl, fun e => (by cases e), fun q => absurd q.1 h⟩
theorem impl_BusyOk_t {l : List S46} {o : List Int} (h : busyok l o) {k : Nat} (hk : 3000 < k) : impl_BusyOk.f k l o = some true := by
  have hl := h.1.cust.len
  obtain ⟨b, e, hb⟩ := impl_BusyOk_e l o (by omega) (k := k) (by omega)
  rw [e, hb.2 h]

theorem laws_toIntS_l (l : List Int) (hl : l.length ≤ 1048576) : ∀ (d k i : Nat) (o : List Int), i + d = l.length → d < k → o.length = l.length →
    (∀ j : Nat, j < i → o[j]? = l[j]?) → laws_toIntS.l0 k l o (i : Int) = some l := by
  intro d
  induction d with
  | zero =>
    intro k i o hi hk ho h
    obtain ⟨k, rfl⟩ : ∃ m, k = m + 1 := ⟨k - 1, by omega⟩
    simp only [laws_toIntS.l0]
    rw [if_neg (by omega)]
    congr 1
    apply List.ext_getElem?
    intro j
    by_cases hj : j < i
    · exact h j hj
    · rw [List.getElem?_eq_none (by omega), List.getElem?_eq_none (by omega)]
  | succ d ih =>
    intro k i o hi hk ho h
    obtain ⟨k, rfl⟩ : ∃ m, k = m + 1 := ⟨k - 1, by omega⟩
    simp only [laws_toIntS.l0]
    rw [if_pos (by omega), if_pos (by omega), if_pos (by omega), st (n := l.length) (by omega) (by omega)]
    refine ih k (i + 1) _ (by omega) (by omega) (by rw [List.length_set]; exact ho) (fun j hj => ?_)
    rw [Int.toNat_natCast]
    by_cases e : j = i
    · subst e
      rw [List.getElem?_set_self (by omega), List.getElem?_eq_getElem (by omega)]
      simp [rd, show j < l.length from by omega]
    · rw [List.getElem?_set_ne (Ne.symm e)]
      exact h j (by omega)
theorem laws_toIntS_e (l : List Int) (hl : l.length ≤ 1048576) {k : Nat} (hk : l.length < k) : laws_toIntS.f k l = some l := by
  unfold laws_toIntS.f
  rw [if_pos (by omega), Int.toNat_natCast, if_pos (by omega)]
  exact laws_toIntS_l l hl l.length k 0 _ (by omega) hk (by simp) (fun j hj => absurd hj (by omega))
theorem laws_eqI_l (a : List Int) (ha : a.length ≤ 9000000000000000000) : ∀ (d k i : Nat), i + d = a.length → d < k → laws_eqIntS.l0 k a a (i : Int) = some true := by
  intro d
  induction d with
  | zero =>
    intro k i hi hk
    obtain ⟨k, rfl⟩ : ∃ m, k = m + 1 := ⟨k - 1, by omega⟩
    simp only [laws_eqIntS.l0]
    rw [if_neg (by omega)]
  | succ d ih =>
    intro k i hi hk
    obtain ⟨k, rfl⟩ : ∃ m, k = m + 1 := ⟨k - 1, by omega⟩
    simp only [laws_eqIntS.l0]
    rw [if_pos (by omega), if_pos (by omega), if_pos (by omega), st (n := a.length) (by omega) (by omega)]
    simp only [if_true]
    exact ih k (i + 1) (by omega) (by omega)
theorem laws_eqI_e (a : List Int) (ha : a.length ≤ 9000000000000000000) {k : Nat} (hk : a.length < k) : laws_eqIntS.f k a a = some true := by
  unfold laws_eqIntS.f
  rw [if_pos rfl]
  exact laws_eqI_l a ha a.length k 0 (by omega) hk

end FnExactBusyOkX
open FnExactBusyOkX
-- ALSO toints
theorem FnExactBusyOk (l0 : List S58) (hm : l0.length ≤ maxLen) (hw : ∀ x ∈ l0, (Lit.int .i64 x.f0).wf = true ∧ (Lit.int .i64 x.f1).wf = true) (l1 : List Int) (hm1 : l1.length ≤ maxLen) (hw1 : ∀ x ∈ l1, (Lit.int .i64 x).wf = true) : ∃ k, laws_FnExactBusyOk.f k l0 l1 = some true := by
  refine ⟨2 * l1.length + 3 * l0.length + 2600, ?_⟩
  unfold laws_FnExactBusyOk.f
  by_cases hg : (l1.length : Int) > 1048576
  · rw [if_pos hg]
  rw [if_neg hg, laws_szCustomerS_e l0 (by unfold maxLen at hm; exact hm)]
  simp only [bs]
  by_cases h : l0.length ≤ 1048576
  · have hc := cv_length l0
    obtain ⟨b, e1, h1⟩ := impl_BusyOk_e (cv l0) l1 (by omega) (k := 2 * l1.length + 3 * l0.length + 2600) (by omega)
    obtain ⟨c, e2, h2⟩ := spec_BusyOk_e (cv l0) l1 (by omega) (by omega) (k := 2 * l1.length + 3 * l0.length + 2600) (by omega)
    have e : b = c := by rw [Bool.eq_iff_iff, h1, h2]
    subst e
    rw [if_pos h, if_neg (by omega), laws_toCustomerS_e l0 h (by omega), laws_toIntS_e l1 (by omega) (by omega)]
    simp only [bs]
    rw [e1, e2]
    simp only [bs, bne_self_eq_false, Bool.false_eq_true, if_false]
    rw [laws_eqCustomerS_e (cv l0) (by omega) (by omega), bs, if_pos rfl, laws_eqI_e l1 (by omega) (by omega), bs, if_pos rfl]
  · rw [if_neg h, if_pos (by omega)]

end Go.Proofs.Ytillelkfmebfiaa.Pure
