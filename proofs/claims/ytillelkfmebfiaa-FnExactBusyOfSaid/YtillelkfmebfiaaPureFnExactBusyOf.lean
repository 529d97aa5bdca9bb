/- The pure statement of the law FnExactBusyOf: about numbers and lists alone, over the functions that print.sh has written. No conditions beyond those typed. -/
import Derived.Test.YtillelkfmebfiaaQFnExactBusyOfx5
import Derived.Test.YtillelkfmebfiaaMath0
import Derived.Test.YtillelkfmebfiaaMathV
import Derived.Test.YtillelkfmebfiaaMathP
namespace Go.Proofs.Ytillelkfmebfiaa.Pure
open Go.RowKit Go.Proofs.Ytillelkfmebfiaa.QFnExactBusyOf Go.Proofs.YtillelkfmebfiaaW.PrintWords Go.Proofs.YtillelkfmebfiaaW.PrintLast Go.Proofs.YtillelkfmebfiaaW.PrintMore Go.Proofs.Ytillelkfmebfiaa.Math
set_option linter.unusedVariables false
set_option linter.unusedSimpArgs false
namespace FnExactBusyOfX
/-- When the customer at place i comes, what this one needs. -/
def cm (l : List S46) (i : Nat) : Int := (rd_T46 l (i : Int)).f0
def nd (l : List S46) (i : Nat) : Int := (rd_T46 l (i : Int)).f1
theorem cm_eq (l : List S46) (i : Nat) : (rd_T46 l (i : Int)).f0 = cm l i := rfl
theorem nd_eq (l : List S46) (i : Nat) : (rd_T46 l (i : Int)).f1 = nd l i := rfl
theorem cm_eq0 (l : List S46) : (rd_T46 l 0).f0 = cm l 0 := rfl
theorem nd_eq0 (l : List S46) : (rd_T46 l 0).f1 = nd l 0 := rfl
theorem rd_get (l : List S46) (i : Nat) (h : i < l.length) : rd_T46 l (i : Int) = l[i] := by simp [rd_T46, h]
theorem rd_take (l : List S46) (m i : Nat) (h : i < m) : rd_T46 (l.take m) (i : Int) = rd_T46 l (i : Int) := by simp [rd_T46, List.getElem?_take, h]
theorem rd_drop (l : List S46) (m i : Nat) : rd_T46 (l.drop m) (i : Int) = rd_T46 l ((i + m : Nat) : Int) := by
  unfold rd_T46
  rw [List.getD_eq_getElem?_getD, List.getD_eq_getElem?_getD, List.getElem?_drop, Int.toNat_natCast, Int.toNat_natCast, Nat.add_comm]
theorem cm_take (l : List S46) (m i : Nat) (h : i < m) : cm (l.take m) i = cm l i := by unfold cm; rw [rd_take l m i h]
theorem nd_take (l : List S46) (m i : Nat) (h : i < m) : nd (l.take m) i = nd l i := by unfold nd; rw [rd_take l m i h]
theorem cm_drop (l : List S46) (m i : Nat) : cm (l.drop m) i = cm l (i + m) := by unfold cm; rw [rd_drop l m i]
theorem nd_drop (l : List S46) (m i : Nat) : nd (l.drop m) i = nd l (i + m) := by unfold nd; rw [rd_drop l m i]
/-- These are customers. -/
def ok (l : List S46) : Prop := OK (cm l) (nd l) l.length
theorem ok_take {l : List S46} (h : ok l) (m : Nat) (hm : m ≤ l.length) : ok (l.take m) := by
  have e : (l.take m).length = m := by rw [List.length_take]; omega
  unfold ok
  rw [e]
  exact OK.congr (fun i hi => (cm_take l m i hi).symm) (fun i hi => (nd_take l m i hi).symm) (OK.pre h hm)
theorem sm_take (l : List S46) (m j : Nat) (hj : j ≤ m) : sm (nd (l.take m)) j = sm (nd l) j := sm_congr (fun i hi => nd_take l m i (by omega))
theorem sm_drop (l : List S46) (m j : Nat) : sm (nd (l.drop m)) j = sm (nd l) (j + m) - sm (nd l) m := by
  rw [← sm_shift]
  exact sm_congr (fun i _ => nd_drop l m i)
theorem st {i : Nat} {n : Nat} (h : i < n) (hn : n ≤ 9000000000000000000) : wrap64 ((i : Int) + 1) = ((i + 1 : Nat) : Int) := by rw [wr (by omega) (by omega)]; simp
theorem pd {i : Nat} (h0 : 0 < i) (hn : i ≤ 9000000000000000000) : wrap64 ((i : Int) - 1) = ((i - 1 : Nat) : Int) := by rw [wr (by omega) (by omega)]; omega
theorem ext_list {a b : List S46} (hl : a.length = b.length) (h : ∀ i : Nat, i < a.length → cm a i = cm b i ∧ nd a i = nd b i) : a = b := by
  apply List.ext_getElem hl
  intro i h1 h2
  obtain ⟨e1, e2⟩ := h i h1
  unfold cm at e1
  unfold nd at e2
  rw [rd_get a i h1, rd_get b i h2] at e1 e2
  cases ha : a[i] with | mk x y =>
  cases hb : b[i] with | mk x' y' =>
  rw [ha, hb] at e1 e2
  simp only at e1 e2
  rw [e1, e2]
/-- The bytes that are drawn from. -/
structure Src (b : List Int) : Prop where
  byte : ∀ x ∈ b, 0 ≤ x ∧ x ≤ 255
  len : b.length ≤ 2000
theorem split_w (x : Int) : x < 0 ∨ ∃ w : Nat, x = (w : Int) := by
  by_cases h : x < 0
  · exact Or.inl h
  · exact Or.inr ⟨x.toNat, by omega⟩

/-- Customers of the law, as the program's. -/
def cv (l : List S58) : List S46 := l.map fun x => ⟨x.f0, x.f1⟩
theorem cv_length (l : List S58) : (cv l).length = l.length := List.length_map ..
theorem laws_szCustomerS_e (l : List S58) (hl : l.length ≤ 9223372036854775807) : laws_szCustomerS.f l 1048576 = some (if l.length ≤ 1048576 then 1048576 - (l.length : Int) else -1) := by
  unfold laws_szCustomerS.f
  rw [wr (by omega) (by omega)]
  by_cases h : l.length ≤ 1048576
  · rw [if_neg (by omega), if_pos h]
  · rw [if_pos (by omega), if_neg h]
theorem laws_toCustomerS_l (l : List S58) (hl : l.length ≤ 1048576) : ∀ (d k i : Nat) (o : List S46), i + d = l.length → d < k → o.length = l.length →
    (∀ j : Nat, j < i → o[j]? = (cv l)[j]?) → laws_toCustomerS.l0 k l o (i : Int) = some (cv l) := by
  intro d
  induction d with
  | zero =>
    intro k i o hi hk ho h
    obtain ⟨k, rfl⟩ : ∃ m, k = m + 1 := ⟨k - 1, by omega⟩
    simp only [laws_toCustomerS.l0]
    rw [if_neg (by omega)]
    congr 1
    apply List.ext_getElem?
    intro j
    by_cases hj : j < i
    · exact h j hj
    · rw [List.getElem?_eq_none (by omega), List.getElem?_eq_none (by rw [cv_length]; omega)]
  | succ d ih =>
    intro k i o hi hk ho h
    obtain ⟨k, rfl⟩ : ∃ m, k = m + 1 := ⟨k - 1, by omega⟩
    simp only [laws_toCustomerS.l0, laws_toCustomer.f, bs]
    rw [if_pos (by omega), if_pos (by omega), if_pos (by omega), st (n := l.length) (by omega) (by omega)]
    refine ih k (i + 1) _ (by omega) (by omega) (by rw [List.length_set]; exact ho) (fun j hj => ?_)
    rw [Int.toNat_natCast]
    by_cases e : j = i
    · subst e
      rw [List.getElem?_set_self (by omega)]
      unfold cv
      rw [List.getElem?_map, List.getElem?_eq_getElem (by omega)]
      simp [rd_T58, show j < l.length from by omega]
    · rw [List.getElem?_set_ne (Ne.symm e)]
      exact h j (by omega)
theorem laws_toCustomerS_e (l : List S58) (hl : l.length ≤ 1048576) {k : Nat} (hk : l.length < k) : laws_toCustomerS.f k l = some (cv l) := by
  unfold laws_toCustomerS.f
  rw [if_pos (by omega), Int.toNat_natCast, if_pos (by omega)]
  exact laws_toCustomerS_l l hl l.length k 0 _ (by omega) hk (by simp) (fun j hj => absurd hj (by omega))
theorem laws_eqCustomerS_l (a : List S46) (ha : a.length ≤ 1048576) : ∀ (d k i : Nat), i + d = a.length → d < k → laws_eqCustomerS.l0 k a a (i : Int) = some true := by
  intro d
  induction d with
  | zero =>
    intro k i hi hk
    obtain ⟨k, rfl⟩ : ∃ m, k = m + 1 := ⟨k - 1, by omega⟩
    simp only [laws_eqCustomerS.l0]
    rw [if_neg (by omega)]
  | succ d ih =>
    intro k i hi hk
    obtain ⟨k, rfl⟩ : ∃ m, k = m + 1 := ⟨k - 1, by omega⟩
    simp only [laws_eqCustomerS.l0, laws_eqCustomer.f]
    rw [if_pos (by omega), if_pos (by omega), if_pos (by omega), st (n := a.length) (by omega) (by omega)]
    simp only [bs, if_true]
    exact ih k (i + 1) (by omega) (by omega)
theorem laws_eqCustomerS_e (a : List S46) (ha : a.length ≤ 1048576) {k : Nat} (hk : a.length < k) : laws_eqCustomerS.f k a a = some true := by
  unfold laws_eqCustomerS.f
  rw [if_pos rfl]
  exact laws_eqCustomerS_l a ha a.length k 0 (by omega) hk

theorem spec_l1In_e (a b c : Int) : ∃ r, spec_l1In.f a b c = some r ∧ (r = true ↔ b ≤ a ∧ a ≤ c) := by
  unfold spec_l1In.f
  by_cases h : a ≥ b
  · rw [if_pos h]; exact ⟨_, rfl, by rw [decide_eq_true_iff]; exact ⟨fun h1 => ⟨h, h1⟩, fun h1 => h1.2⟩⟩
  · rw [if_neg h]; exact ⟨false, rfl, ⟨fun h1 => (by cases h1), fun h1 => absurd h1.1 h⟩⟩
theorem spec_l1In_t {a b c : Int} (h0 : b ≤ a) (h1 : a ≤ c) : spec_l1In.f a b c = some true := by
  unfold spec_l1In.f
  rw [if_pos h0, decide_eq_true h1]
theorem spec_l1In_n {a b c : Int} (h : ¬ (b ≤ a ∧ a ≤ c)) : spec_l1In.f a b c = some false := by
  unfold spec_l1In.f
  by_cases h0 : a ≥ b
  · rw [if_pos h0, decide_eq_false (fun h1 => h ⟨h0, h1⟩)]
  · rw [if_neg h0]
theorem spec_CustomersOk_l (l : List S46) (hl : l.length ≤ 9000000000000000000) : ∀ (d k i : Nat), i + d = l.length → d < k →
    ∃ b, spec_CustomersOk.l0 k l (i : Int) = some b ∧ (b = true ↔ l.length ≤ 8 ∧ ∀ j, i ≤ j → j < l.length → okAt (cm l) (nd l) j) := by
  intro d
  induction d with
  | zero =>
    intro k i hi hk
    obtain ⟨k, rfl⟩ : ∃ m, k = m + 1 := ⟨k - 1, by omega⟩
    simp only [spec_CustomersOk.l0]
    rw [if_neg (by omega)]
    exact ⟨_, rfl, by rw [decide_eq_true_iff]; exact ⟨fun h => ⟨by omega, fun j h1 h2 => absurd h1 (by omega)⟩, fun h => by have := h.1; omega⟩⟩
  | succ d ih =>
    intro k i hi hk
    obtain ⟨k, rfl⟩ : ∃ m, k = m + 1 := ⟨k - 1, by omega⟩
    obtain ⟨b, hb, hbt⟩ := ih k (i + 1) (by omega) (by omega)
    have no : (¬ okAt (cm l) (nd l) i) → (∃ b, some false = some b ∧ (b = true ↔ l.length ≤ 8 ∧ ∀ j, i ≤ j → j < l.length → okAt (cm l) (nd l) j)) := fun h => ⟨false, rfl, ⟨fun h0 => (by cases h0), fun h0 => absurd (h0.2 i (by omega) (by omega)) h⟩⟩
    have yes : okAt (cm l) (nd l) i → (∃ b, spec_CustomersOk.l0 k l ((i + 1 : Nat) : Int) = some b ∧ (b = true ↔ l.length ≤ 8 ∧ ∀ j, i ≤ j → j < l.length → okAt (cm l) (nd l) j)) := fun h => by
      refine ⟨b, hb, hbt.trans ⟨fun h0 => ⟨h0.1, fun j h1 h2 => ?_⟩, fun h0 => ⟨h0.1, fun j h1 h2 => h0.2 j (by omega) h2⟩⟩⟩
      by_cases e : j = i
      · subst e; exact h
      · exact h0.2 j (by omega) h2
    simp only [spec_CustomersOk.l0]
    rw [if_pos (by omega), if_pos (by omega), st (n := l.length) (by omega) hl]
    rw [cm_eq l i, nd_eq l i]
    by_cases h1 : 0 ≤ cm l i ∧ cm l i ≤ 60
    · rw [spec_l1In_t h1.1 h1.2]
      simp only [bs, if_true]
      by_cases h2 : 1 ≤ nd l i ∧ nd l i ≤ 9
      · rw [spec_l1In_t h2.1 h2.2]
        simp only [bs, if_true]
        by_cases h0 : i = 0
        · subst h0
          rw [if_neg (by simp)]
          exact yes ⟨by omega, by omega, by omega, by omega, fun h => by omega⟩
        · rw [if_pos (by omega), pd (by omega) (by omega), if_pos (by omega), if_pos (by omega)]
          rw [cm_eq l (i - 1)]
          by_cases h5 : cm l i < cm l (i - 1)
          · rw [if_pos h5]; exact no (fun h => by have := h.2.2.2.2 (by omega); omega)
          rw [if_neg h5]
          exact yes ⟨by omega, by omega, by omega, by omega, fun h => by omega⟩
      · rw [spec_l1In_n h2]
        exact no (fun h => h2 ⟨h.2.2.1, h.2.2.2.1⟩)
    · rw [spec_l1In_n h1]
      exact no (fun h => h1 ⟨h.1, h.2.1⟩)
theorem spec_CustomersOk_e (l : List S46) (hl : l.length ≤ 9000000000000000000) {k : Nat} (hk : l.length < k) : ∃ b, spec_CustomersOk.f k l = some b ∧ (b = true ↔ ok l) := by
  obtain ⟨b, h1, h2⟩ := spec_CustomersOk_l l hl l.length k 0 (by omega) hk
  exact ⟨b, h1, h2.trans ⟨fun h => ⟨h.1, fun i hi => h.2 i (Nat.zero_le _) hi⟩, fun h => ⟨h.1, fun i _ hi => h.2 i hi⟩⟩⟩
theorem spec_CustomersOk_t {l : List S46} (h : ok l) {k : Nat} (hk : l.length < k) : spec_CustomersOk.f k l = some true := by
  obtain ⟨b, h1, h2⟩ := spec_CustomersOk_e l (by have := h.1; omega) hk
  rw [h1, h2.2 h]
theorem spec_CustomersOk_n {l : List S46} (hl : l.length ≤ 9000000000000000000) (h : ¬ ok l) {k : Nat} (hk : l.length < k) : spec_CustomersOk.f k l = some false := by
  obtain ⟨b, h1, h2⟩ := spec_CustomersOk_e l hl hk
  rw [h1]
  cases b with
  | true => exact absurd (h2.1 rfl) h
  | false => rfl

-- MATH V
theorem spec_l3Work_l1 {l : List S46} (h : ok l) (A : Int) {x : List Int} (hx : x.length < 17592186044416) {w : Int} (hw : 0 ≤ w ∧ w ≤ 1000) (t : Nat) (ht : t ≤ 1000) : ∀ (d k i : Nat), i + d = l.length → d < k →
    spec_l3Work.l1 k l A x (w + ar (cm l) (nd l) t i) (t : Int) (i : Int) = spec_l3Work.l0 (k - (d + 1)) l A (x ++ [w + arr (cm l) (nd l) l.length t]) (mx 0 (w + arr (cm l) (nd l) l.length t - 1)) ((t + 1 : Nat) : Int) := by
  intro d
  have hl := h.len
  induction d with
  | zero =>
    intro k i hi hk
    obtain ⟨k, rfl⟩ : ∃ m, k = m + 1 := ⟨k - 1, by omega⟩
    have e : i = l.length := by omega
    have hr := ar_rng h t i (by omega)
    simp only [spec_l3Work.l1]
    rw [if_neg (by omega), if_pos hx, wr (x := w + ar (cm l) (nd l) t i - 1) (by omega) (by omega), e, ar_all, mx_comm0, st (n := 2000) (by omega) (by omega)]
    rfl
  | succ d ih =>
    intro k i hi hk
    obtain ⟨k, rfl⟩ : ∃ m, k = m + 1 := ⟨k - 1, by omega⟩
    have e := ih k (i + 1) (by omega) (by omega)
    have hr := ar_rng h t i (by omega)
    have hn := h.need (i := i) (by omega)
    rw [ar_succ] at e
    simp only [spec_l3Work.l1]
    rw [if_pos (by omega), if_pos (by omega), cm_eq, nd_eq, st (n := l.length) (by omega) (by omega), show k + 1 - (d + 1 + 1) = k - (d + 1) from by omega]
    by_cases hc : cm l i = (t : Int)
    · rw [if_pos hc] at e ⊢
      rw [wr (by omega) (by omega), Int.add_assoc]
      exact e
    · rw [if_neg hc] at e ⊢
      rw [Int.add_zero] at e
      exact e
theorem spec_l3Work_l {l : List S46} (h : ok l) (A : Nat) (hA : A ≤ 500) : ∀ (d k t : Nat), t + d = A + 1 → d * 11 + 2 < k → spec_l3Work.l0 k l (A : Int) (tab (wk (cm l) (nd l) l.length) t) (pre (cm l) (nd l) l.length t) (t : Int) = some (tab (wk (cm l) (nd l) l.length) (A + 1)) := by
  intro d
  have hl := h.len
  induction d with
  | zero =>
    intro k t hi hk
    obtain ⟨k, rfl⟩ : ∃ m, k = m + 1 := ⟨k - 1, by omega⟩
    simp only [spec_l3Work.l0]
    rw [if_neg (by omega), show t = A + 1 from by omega]
  | succ d ih =>
    intro k t hi hk
    obtain ⟨k, rfl⟩ : ∃ m, k = m + 1 := ⟨k - 1, by omega⟩
    have hp := pre_rng h t
    simp only [spec_l3Work.l0]
    rw [if_pos (by omega)]
    have e := spec_l3Work_l1 h (A : Int) (x := tab (wk (cm l) (nd l) l.length) t) (by rw [tab_length]; omega) (w := pre (cm l) (nd l) l.length t) (by omega) t (by omega) l.length k 0 (by omega) (by omega)
    rw [ar_zero, Int.add_zero, ← wk_pre, ← tab_snoc (wk (cm l) (nd l) l.length), ← pre_succ] at e
    refine Eq.trans e ?_
    exact ih (k - (l.length + 1)) (t + 1) (by omega) (by omega)
theorem spec_l3Work_t {l : List S46} (h : ok l) (A : Nat) (hA : A ≤ 200) {k : Nat} (hk : 2300 < k) : spec_l3Work.f k l (A : Int) = some (tab (wk (cm l) (nd l) l.length) (A + 1)) :=
  spec_l3Work_l h A (by omega) (A + 1) k 0 (by omega) (by omega)

-- MATH P
/-- An element of rows of numbers. -/
theorem rdl_eq (xs : List (List Int)) (j : Nat) : rd_L3 xs (j : Int) = xs.getD j [] := rfl
theorem rdl_prs (s : Prs) {j : Nat} (h : j < s.q) : rd_L3 (prs s) (j : Int) = [s.b j, s.e j] := by rw [rdl_eq]; exact prs_get s h
theorem rd2_0 (a b : Int) : rd [a, b] 0 = a := rfl
theorem rd2_1 (a b : Int) : rd [a, b] 1 = b := rfl
/-- The busy periods of customers. -/
def bp (l : List S46) : Prs := bz (wk (cm l) (nd l) l.length) 200
theorem bp_ok (l : List S46) : Pok (wk (cm l) (nd l) l.length) 200 (bp l) := bz_ok _ 200

-- PRE prs0
theorem spec_BusyOf_l (W : Nat → Int) : ∀ (d k m : Nat), m + d = 200 → d < k → spec_BusyOf.l0 k (prs (bz W m)) (tab W 201) (m : Int) = some (prs (bz W 200)) := by
  intro d
  induction d with
  | zero =>
    intro k m hm hk
    obtain ⟨k, rfl⟩ : ∃ m, k = m + 1 := ⟨k - 1, by omega⟩
    simp only [spec_BusyOf.l0]
    rw [if_neg (by omega), show m = 200 from by omega]
  | succ d ih =>
    intro k m hm hk
    obtain ⟨k, rfl⟩ : ∃ m, k = m + 1 := ⟨k - 1, by omega⟩
    have e := ih k (m + 1) (by omega) (by omega)
    have hp := bz_ok W m
    have hf := hp.few
    rw [bz_succ] at e
    simp only [spec_BusyOf.l0]
    rw [if_pos (by omega), if_pos (by omega), tab_length, if_pos (by omega), tab_rd _ (by omega), st (n := 300) (by omega) (by omega), prs_length]
    by_cases hw : W m = 0
    · rw [if_pos hw] at e ⊢
      exact e
    · rw [if_neg hw] at e ⊢
      by_cases h0 : 0 < (bz W m).q
      · rw [pd h0 (by omega), if_pos (by omega), if_pos (by omega), if_pos (by omega), rdl_prs _ (show (bz W m).q - 1 < (bz W m).q by omega), if_pos (by simp), rd2_1, rd2_0, Int.toNat_natCast]
        by_cases hl : (bz W m).e ((bz W m).q - 1) = (m : Int)
        · rw [if_pos ⟨h0, hl⟩] at e
          rw [if_pos hl, if_pos (by simp), prs_last _ h0]
          exact e
        · rw [if_neg (fun hh => hl hh.2)] at e
          rw [if_neg hl, if_pos (by omega), prs_snoc]
          exact e
      · rw [if_neg (fun hh => h0 hh.1)] at e
        rw [if_neg (by rw [show (bz W m).q = 0 from by omega, wr (by omega) (by omega)]; omega), if_pos (by omega), prs_snoc]
        exact e
theorem spec_BusyOf_t {l : List S46} (h : ok l) {k : Nat} (hk : 2300 < k) : spec_BusyOf.f k l = some (prs (bp l)) := by
  have hl := h.len
  have hw : spec_l3Work.f k l 200 = some (tab (wk (cm l) (nd l) l.length) 201) := spec_l3Work_t h 200 (by omega) (by omega)
  unfold spec_BusyOf.f
  rw [bs, spec_CustomersOk_t h (by omega), bs, if_pos rfl, hw, bs]
  exact spec_BusyOf_l _ 200 k 0 (by omega) (by omega)
theorem spec_BusyOf_n {l : List S46} (hl : l.length ≤ 9000000000000000000) (h : ¬ ok l) {k : Nat} (hk : l.length + 1 < k) : spec_BusyOf.f k l = some [] := by
  unfold spec_BusyOf.f
  rw [bs, spec_CustomersOk_n hl h (by omega), bs, if_neg (by simp)]

theorem impl_CustomersOk_l (l : List S46) (hl : l.length ≤ 9000000000000000000) : ∀ (d k i : Nat), i + d = l.length → d < k →
    ∃ b, impl_CustomersOk.l0 k l l (l.length : Int) (i : Int) = some b ∧ (b = true ↔ l.length ≤ 8 ∧ ∀ j, i ≤ j → j < l.length → okAt (cm l) (nd l) j) := by
  intro d
  induction d with
  | zero =>
    intro k i hi hk
    obtain ⟨k, rfl⟩ : ∃ m, k = m + 1 := ⟨k - 1, by omega⟩
    simp only [impl_CustomersOk.l0]
    rw [if_neg (by omega)]
    exact ⟨_, rfl, by rw [decide_eq_true_iff]; exact ⟨fun h => ⟨by omega, fun j h1 h2 => absurd h1 (by omega)⟩, fun h => by have := h.1; omega⟩⟩
  | succ d ih =>
    intro k i hi hk
    obtain ⟨k, rfl⟩ : ∃ m, k = m + 1 := ⟨k - 1, by omega⟩
    obtain ⟨b, hb, hbt⟩ := ih k (i + 1) (by omega) (by omega)
    have no : (¬ okAt (cm l) (nd l) i) → (∃ b, some false = some b ∧ (b = true ↔ l.length ≤ 8 ∧ ∀ j, i ≤ j → j < l.length → okAt (cm l) (nd l) j)) := fun h => ⟨false, rfl, ⟨fun h0 => (by cases h0), fun h0 => absurd (h0.2 i (by omega) (by omega)) h⟩⟩
    have yes : okAt (cm l) (nd l) i → (∃ b, impl_CustomersOk.l0 k l l (l.length : Int) ((i + 1 : Nat) : Int) = some b ∧ (b = true ↔ l.length ≤ 8 ∧ ∀ j, i ≤ j → j < l.length → okAt (cm l) (nd l) j)) := fun h => by
      refine ⟨b, hb, hbt.trans ⟨fun h0 => ⟨h0.1, fun j h1 h2 => ?_⟩, fun h0 => ⟨h0.1, fun j h1 h2 => h0.2 j (by omega) h2⟩⟩⟩
      by_cases e : j = i
      · subst e; exact h
      · exact h0.2 j (by omega) h2
    simp only [impl_CustomersOk.l0]
    rw [if_pos (by omega), if_pos (by omega), if_pos (by omega), st (n := l.length) (by omega) hl]
    rw [cm_eq l i, nd_eq l i]
    by_cases h1 : cm l i < 0
    · rw [if_pos h1]; exact no (fun h => by have := h.1; omega)
    rw [if_neg h1]
    by_cases h2 : cm l i > 60
    · rw [if_pos h2]; exact no (fun h => by have := h.2.1; omega)
    rw [if_neg h2]
    by_cases h0 : i = 0
    · subst h0
      rw [if_neg (by simp)]
      by_cases h3 : nd l 0 < 1
      · rw [if_pos h3]; exact no (fun h => by have := h.2.2.1; omega)
      rw [if_neg h3]
      by_cases h4 : nd l 0 > 9
      · rw [if_pos h4]; exact no (fun h => by have := h.2.2.2.1; omega)
      rw [if_neg h4]
      exact yes ⟨by omega, by omega, by omega, by omega, fun h => by omega⟩
    · rw [if_pos (by omega), pd (by omega) (by omega), if_pos (by omega), if_pos (by omega)]
      rw [cm_eq l (i - 1)]
      by_cases h5 : cm l i < cm l (i - 1)
      · rw [if_pos h5]; exact no (fun h => by have := h.2.2.2.2 (by omega); omega)
      rw [if_neg h5]
      by_cases h3 : nd l i < 1
      · rw [if_pos h3]; exact no (fun h => by have := h.2.2.1; omega)
      rw [if_neg h3]
      by_cases h4 : nd l i > 9
      · rw [if_pos h4]; exact no (fun h => by have := h.2.2.2.1; omega)
      rw [if_neg h4]
      exact yes ⟨by omega, by omega, by omega, by omega, fun h => by omega⟩
theorem impl_CustomersOk_e (l : List S46) (hl : l.length ≤ 9000000000000000000) {k : Nat} (hk : l.length < k) : ∃ b, impl_CustomersOk.f k l = some b ∧ (b = true ↔ ok l) := by
  obtain ⟨b, h1, h2⟩ := impl_CustomersOk_l l hl l.length k 0 (by omega) hk
  exact ⟨b, h1, h2.trans ⟨fun h => ⟨h.1, fun i hi => h.2 i (Nat.zero_le _) hi⟩, fun h => ⟨h.1, fun i _ hi => h.2 i hi⟩⟩⟩
theorem impl_CustomersOk_t {l : List S46} (h : ok l) {k : Nat} (hk : l.length < k) : impl_CustomersOk.f k l = some true := by
  obtain ⟨b, h1, h2⟩ := impl_CustomersOk_e l (by have := h.1; omega) hk
  rw [h1, h2.2 h]
theorem impl_CustomersOk_n {l : List S46} (hl : l.length ≤ 9000000000000000000) (h : ¬ ok l) {k : Nat} (hk : l.length < k) : impl_CustomersOk.f k l = some false := by
  obtain ⟨b, h1, h2⟩ := impl_CustomersOk_e l hl hk
  rw [h1]
  cases b with
  | true => exact absurd (h2.1 rfl) h
  | false => rfl

-- MATH V
theorem impl_works_l1 {l : List S46} (h : ok l) (A : Int) {x : List Int} (hx : x.length < 17592186044416) {w : Int} (hw : 0 ≤ w ∧ w ≤ 1000) (t : Nat) (ht : t ≤ 1000) : ∀ (d k i : Nat), i + d = l.length → d < k →
    impl_works.l1 k l A x (w + ar (cm l) (nd l) t i) (t : Int) (i : Int) = impl_works.l0 (k - (d + 1)) l A (x ++ [w + arr (cm l) (nd l) l.length t]) (mx 0 (w + arr (cm l) (nd l) l.length t - 1)) ((t + 1 : Nat) : Int) := by
  intro d
  have hl := h.len
  induction d with
  | zero =>
    intro k i hi hk
    obtain ⟨k, rfl⟩ : ∃ m, k = m + 1 := ⟨k - 1, by omega⟩
    have e : i = l.length := by omega
    have hr := ar_rng h t i (by omega)
    simp only [impl_works.l1]
    rw [if_neg (by omega), if_pos hx, wr (x := w + ar (cm l) (nd l) t i - 1) (by omega) (by omega), e, ar_all, mx_comm0, st (n := 2000) (by omega) (by omega)]
    rfl
  | succ d ih =>
    intro k i hi hk
    obtain ⟨k, rfl⟩ : ∃ m, k = m + 1 := ⟨k - 1, by omega⟩
    have e := ih k (i + 1) (by omega) (by omega)
    have hr := ar_rng h t i (by omega)
    have hn := h.need (i := i) (by omega)
    rw [ar_succ] at e
    simp only [impl_works.l1]
    rw [if_pos (by omega), if_pos (by omega), cm_eq, nd_eq, st (n := l.length) (by omega) (by omega), show k + 1 - (d + 1 + 1) = k - (d + 1) from by omega]
    by_cases hc : cm l i = (t : Int)
    · rw [if_pos hc] at e ⊢
      rw [wr (by omega) (by omega), Int.add_assoc]
      exact e
    · rw [if_neg hc] at e ⊢
      rw [Int.add_zero] at e
      exact e
theorem impl_works_l {l : List S46} (h : ok l) (A : Nat) (hA : A ≤ 500) : ∀ (d k t : Nat), t + d = A + 1 → d * 11 + 2 < k → impl_works.l0 k l (A : Int) (tab (wk (cm l) (nd l) l.length) t) (pre (cm l) (nd l) l.length t) (t : Int) = some (tab (wk (cm l) (nd l) l.length) (A + 1)) := by
  intro d
  have hl := h.len
  induction d with
  | zero =>
    intro k t hi hk
    obtain ⟨k, rfl⟩ : ∃ m, k = m + 1 := ⟨k - 1, by omega⟩
    simp only [impl_works.l0]
    rw [if_neg (by omega), show t = A + 1 from by omega]
  | succ d ih =>
    intro k t hi hk
    obtain ⟨k, rfl⟩ : ∃ m, k = m + 1 := ⟨k - 1, by omega⟩
    have hp := pre_rng h t
    simp only [impl_works.l0]
    rw [if_pos (by omega)]
    have e := impl_works_l1 h (A : Int) (x := tab (wk (cm l) (nd l) l.length) t) (by rw [tab_length]; omega) (w := pre (cm l) (nd l) l.length t) (by omega) t (by omega) l.length k 0 (by omega) (by omega)
    rw [ar_zero, Int.add_zero, ← wk_pre, ← tab_snoc (wk (cm l) (nd l) l.length), ← pre_succ] at e
    refine Eq.trans e ?_
    exact ih (k - (l.length + 1)) (t + 1) (by omega) (by omega)
theorem impl_works_t {l : List S46} (h : ok l) {k : Nat} (hk : 2300 < k) : impl_works.f k l = some (tab (wk (cm l) (nd l) l.length) 201) :=
  impl_works_l h 200 (by omega) (200 + 1) k 0 (by omega) (by omega)

-- PRE prs0
-- PRE impl_works
theorem impl_BusyOf_l (W : Nat → Int) : ∀ (d k m : Nat), m + d = 201 → d < k → impl_BusyOf.l0 k (prs (bz W m)) (tab W 201) (m : Int) = some (prs (bz W 201)) := by
  intro d
  induction d with
  | zero =>
    intro k m hm hk
    obtain ⟨k, rfl⟩ : ∃ m, k = m + 1 := ⟨k - 1, by omega⟩
    simp only [impl_BusyOf.l0]
    rw [if_neg (by omega), show m = 201 from by omega]
  | succ d ih =>
    intro k m hm hk
    obtain ⟨k, rfl⟩ : ∃ m, k = m + 1 := ⟨k - 1, by omega⟩
    have e := ih k (m + 1) (by omega) (by omega)
    have hp := bz_ok W m
    have hf := hp.few
    rw [bz_succ] at e
    simp only [impl_BusyOf.l0]
    rw [if_pos (by omega), if_pos (by omega), tab_rd _ (by omega), st (n := 300) (by omega) (by omega), prs_length]
    by_cases hw : W m = 0
    · rw [if_pos hw] at e ⊢
      exact e
    · rw [if_neg hw] at e ⊢
      by_cases h0 : 0 < (bz W m).q
      · rw [if_pos (by omega), pd h0 (by omega), if_pos (by omega), if_pos (by omega), rdl_prs _ (show (bz W m).q - 1 < (bz W m).q by omega), if_pos (by simp), rd2_1, Int.toNat_natCast]
        by_cases hl : (bz W m).e ((bz W m).q - 1) = (m : Int)
        · rw [if_pos ⟨h0, hl⟩] at e
          rw [if_pos hl, hl, wr (by omega) (by omega)]
          rw [show (([(bz W m).b ((bz W m).q - 1), (m : Int)] : List Int).set (1 : Int).toNat ((m : Int) + 1)) = [(bz W m).b ((bz W m).q - 1), (m : Int) + 1] from rfl, prs_last _ h0]
          exact e
        · rw [if_neg (fun hh => hl hh.2)] at e
          rw [if_neg hl, if_pos (by omega), prs_snoc]
          exact e
      · rw [if_neg (fun hh => h0 hh.1)] at e
        rw [if_neg (by omega), if_pos (by omega), prs_snoc]
        exact e
theorem impl_BusyOf_t {l : List S46} (h : ok l) {k : Nat} (hk : 2300 < k) : impl_BusyOf.f k l = some (prs (bp l)) := by
  have hl := h.len
  have ht := LL_top h
  unfold impl_BusyOf.f
  rw [impl_CustomersOk_t h (by omega), bs, if_pos rfl, impl_works_t h hk, bs]
  have e := impl_BusyOf_l (wk (cm l) (nd l) l.length) 201 k 0 (by omega) (by omega)
  rw [bz_succ (wk (cm l) (nd l) l.length) 200, if_pos (wk_end h (by omega))] at e
  exact e
theorem impl_BusyOf_n {l : List S46} (hl : l.length ≤ 9000000000000000000) (h : ¬ ok l) {k : Nat} (hk : l.length + 1 < k) : impl_BusyOf.f k l = some [] := by
  unfold impl_BusyOf.f
  rw [impl_CustomersOk_n hl h (by omega), bs, if_neg (by simp)]

theorem laws_eqIntS_l (a : List Int) (ha : a.length ≤ 9000000000000000000) : ∀ (d k i : Nat), i + d = a.length → d < k → laws_eqIntS.l0 k a a (i : Int) = some true := by
  intro d
  induction d with
  | zero =>
    intro k i hi hk
    obtain ⟨k, rfl⟩ : ∃ m, k = m + 1 := ⟨k - 1, by omega⟩
    simp only [laws_eqIntS.l0]
    rw [if_neg (by omega)]
  | succ d ih =>
    intro k i hi hk
    obtain ⟨k, rfl⟩ : ∃ m, k = m + 1 := ⟨k - 1, by omega⟩
    simp only [laws_eqIntS.l0]
    rw [if_pos (by omega), if_pos (by omega), if_pos (by omega), st (n := a.length) (by omega) (by omega)]
    simp only [if_true]
    exact ih k (i + 1) (by omega) (by omega)
theorem laws_eqIntS_e (a : List Int) (ha : a.length ≤ 9000000000000000000) {k : Nat} (hk : a.length < k) : laws_eqIntS.f k a a = some true := by
  unfold laws_eqIntS.f
  rw [if_pos rfl]
  exact laws_eqIntS_l a ha a.length k 0 (by omega) hk
/-- A row that is marked: the numbers from 1 on. -/
theorem laws_markIntS_l : ∀ (d k i : Nat) (o : List Int), o.length ≤ 4000000000000000000 → i + d = o.length → d < k → (∀ j : Nat, j < i → rd o (j : Int) = (j : Int) + 1) →
    ∃ o', laws_markIntS.l0 k o ((i : Int) + 1) (i : Int) = some ((o.length : Int) + 1, o') ∧ o'.length = o.length ∧ ∀ j : Nat, j < o.length → rd o' (j : Int) = (j : Int) + 1 := by
  intro d
  induction d with
  | zero =>
    intro k i o ho hi hk h
    obtain ⟨k, rfl⟩ : ∃ m, k = m + 1 := ⟨k - 1, by omega⟩
    simp only [laws_markIntS.l0]
    rw [if_neg (by omega), show (i : Int) = (o.length : Int) from by omega]
    exact ⟨o, rfl, rfl, fun j hj => h j (by omega)⟩
  | succ d ih =>
    intro k i o ho hi hk h
    obtain ⟨k, rfl⟩ : ∃ m, k = m + 1 := ⟨k - 1, by omega⟩
    simp only [laws_markIntS.l0]
    rw [if_pos (by omega), if_pos (by omega), st (n := o.length) (by omega) (by omega), wr (by omega) (by omega), Int.toNat_natCast, show (i : Int) + 1 + 1 = ((i + 1 : Nat) : Int) + 1 from by omega]
    have e : (o.set i ((i : Int) + 1)).length = o.length := List.length_set ..
    obtain ⟨o', h1, h2, h3⟩ := ih k (i + 1) (o.set i ((i : Int) + 1)) (by omega) (by omega) (by omega) (fun j hj => by
      by_cases ej : j = i
      · subst ej; simp [rd, show j < o.length from by omega]
      · have := h j (by omega)
        unfold rd at *
        rw [List.getD_eq_getElem?_getD] at *
        rw [List.getElem?_set_ne (by rw [Int.toNat_natCast]; omega)]
        exact this)
    rw [e] at h1 h2 h3
    exact ⟨o', h1, h2, h3⟩
theorem laws_heldIntS_l (o : List Int) (ho : o.length ≤ 4000000000000000000) (h : ∀ j : Nat, j < o.length → rd o (j : Int) = (j : Int) + 1) : ∀ (d k i : Nat), i + d = o.length → d < k → laws_heldIntS.l0 k o ((i : Int) + 1) (i : Int) = some ((o.length : Int) + 1) := by
  intro d
  induction d with
  | zero =>
    intro k i hi hk
    obtain ⟨k, rfl⟩ : ∃ m, k = m + 1 := ⟨k - 1, by omega⟩
    simp only [laws_heldIntS.l0]
    rw [if_neg (by omega), show (i : Int) = (o.length : Int) from by omega]
  | succ d ih =>
    intro k i hi hk
    obtain ⟨k, rfl⟩ : ∃ m, k = m + 1 := ⟨k - 1, by omega⟩
    simp only [laws_heldIntS.l0]
    rw [if_pos (by omega), if_pos (by omega), h i (by omega), if_pos rfl, st (n := o.length) (by omega) (by omega), wr (by omega) (by omega), show (i : Int) + 1 + 1 = ((i + 1 : Nat) : Int) + 1 from by omega]
    exact ih k (i + 1) (by omega) (by omega)
theorem laws_marks (o : List Int) (ho : o.length ≤ 4000000000000000000) {k : Nat} (hk : o.length < k) :
    ∃ o', laws_markIntS.f k o 1 = some ((o.length : Int) + 1, o') ∧ ∀ k', o.length < k' → laws_heldIntS.f k' o' 1 = some ((o.length : Int) + 1) := by
  obtain ⟨o', h1, h2, h3⟩ := laws_markIntS_l o.length k 0 o ho (by omega) hk (fun j hj => absurd hj (by omega))
  refine ⟨o', h1, fun k' hk' => ?_⟩
  have := laws_heldIntS_l o' (by omega) (by rw [h2]; exact h3) o'.length k' 0 (by omega) (by omega)
  rw [h2] at this
  exact this
theorem laws_markCustomerS_l : ∀ (d k i : Nat) (o : List S46), o.length ≤ 4000000000000000000 → i + d = o.length → d < k →
    ∃ o', laws_markCustomerS.l0 k o (2 * (i : Int) + 1) (i : Int) = some (2 * (o.length : Int) + 1, o') := by
  intro d
  induction d with
  | zero =>
    intro k i o ho hi hk
    obtain ⟨k, rfl⟩ : ∃ m, k = m + 1 := ⟨k - 1, by omega⟩
    simp only [laws_markCustomerS.l0]
    rw [if_neg (by omega), show (i : Int) = (o.length : Int) from by omega]
    exact ⟨o, rfl⟩
  | succ d ih =>
    intro k i o ho hi hk
    obtain ⟨k, rfl⟩ : ∃ m, k = m + 1 := ⟨k - 1, by omega⟩
    simp only [laws_markCustomerS.l0]
    rw [if_pos (by omega), if_pos (by omega)]
    simp only [bs]
    rw [st (n := o.length) (by omega) (by omega), wr (x := 2 * (i : Int) + 1 + 1) (by omega) (by omega), wr (by omega) (by omega), show 2 * (i : Int) + 1 + 1 + 1 = 2 * ((i + 1 : Nat) : Int) + 1 from by omega]
    obtain ⟨o', h1⟩ := ih k (i + 1) (List.set (List.set o ((i : Int)).toNat ⟨2 * (i : Int) + 1, (rd_T46 o (i : Int)).f1⟩) ((i : Int)).toNat ⟨(rd_T46 (List.set o ((i : Int)).toNat ⟨2 * (i : Int) + 1, (rd_T46 o (i : Int)).f1⟩) (i : Int)).f0, 2 * (i : Int) + 1 + 1⟩) (by simp; omega) (by simp; omega) (by omega)
    simp only [List.length_set] at h1
    exact ⟨o', h1⟩
theorem laws_markCustomerS_e (o : List S46) (ho : o.length ≤ 4000000000000000000) {k : Nat} (hk : o.length < k) : ∃ o', laws_markCustomerS.f k o 1 = some (2 * (o.length : Int) + 1, o') := by
  obtain ⟨o', h⟩ := laws_markCustomerS_l o.length k 0 o ho (by omega) hk
  exact ⟨o', h⟩

-- PRE prs0
-- PRE marks
theorem laws_eqIntSS_l (a : List (List Int)) (ha : a.length ≤ 9000000000000000000) (hr : ∀ i : Nat, (rd_L3 a (i : Int)).length ≤ 10) : ∀ (d k i : Nat), i + d = a.length → d + 20 < k → laws_eqIntSS.l0 k a a (i : Int) = some true := by
  intro d
  induction d with
  | zero =>
    intro k i hi hk
    obtain ⟨k, rfl⟩ : ∃ m, k = m + 1 := ⟨k - 1, by omega⟩
    simp only [laws_eqIntSS.l0]
    rw [if_neg (by omega)]
  | succ d ih =>
    intro k i hi hk
    obtain ⟨k, rfl⟩ : ∃ m, k = m + 1 := ⟨k - 1, by omega⟩
    have h1 := hr i
    simp only [laws_eqIntSS.l0]
    rw [if_pos (by omega), if_pos (by omega), if_pos (by omega), laws_eqIntS_e _ (by omega) (by omega), bs, if_pos rfl, st (n := a.length) (by omega) (by omega)]
    exact ih k (i + 1) (by omega) (by omega)
/-- Rows of two. -/
def two (b e : Nat → Int) (n : Nat) : List (List Int) := gtab (fun j => [b j, e j]) n
theorem two_length (b e : Nat → Int) (n : Nat) : (two b e n).length = n := gtab_length _ _
theorem two_rd (b e : Nat → Int) {n j : Nat} (h : j < n) : rd_L3 (two b e n) (j : Int) = [b j, e j] := by rw [rdl_eq]; exact gtab_get _ h _
theorem two_short (b e : Nat → Int) (n j : Nat) : (rd_L3 (two b e n) (j : Int)).length ≤ 10 := by
  by_cases h : j < n
  · rw [two_rd b e h]; simp
  · rw [rdl_eq, List.getD_eq_getElem?_getD, List.getElem?_eq_none (by rw [two_length]; omega)]; simp
theorem laws_eqIntSS_e (b e : Nat → Int) {n : Nat} (hn : n ≤ 300) {k : Nat} (hk : n + 20 < k) : laws_eqIntSS.f k (two b e n) (two b e n) = some true := by
  unfold laws_eqIntSS.f
  rw [if_pos rfl]
  exact laws_eqIntSS_l _ (by rw [two_length]; omega) (fun i => two_short b e n i) n k 0 (by rw [two_length]; omega) (by omega)
theorem mark2 (p q a : Int) (h : 0 ≤ a ∧ a ≤ 1000000) (k : Nat) : laws_markIntS.f (k + 3) [p, q] a = some (a + 2, [a, a + 1]) := by
  unfold laws_markIntS.f
  simp only [laws_markIntS.l0]
  rw [if_pos (by simp), if_pos (by omega), wr (x := a + 1) (by omega) (by omega), wr (x := (0 : Int) + 1) (by omega) (by omega), if_pos (by simp), if_pos (by omega), wr (x := a + 1 + 1) (by omega) (by omega), wr (x := (0 : Int) + 1 + 1) (by omega) (by omega), if_neg (by simp), show a + 1 + 1 = a + 2 from by omega]
  rfl
theorem held2 (a : Int) (h : 0 ≤ a ∧ a ≤ 1000000) (k : Nat) : laws_heldIntS.f (k + 3) [a, a + 1] a = some (a + 2) := by
  unfold laws_heldIntS.f
  simp only [laws_heldIntS.l0]
  rw [if_pos (by simp), if_pos (by omega), rd2_0, if_pos rfl, wr (x := a + 1) (by omega) (by omega), wr (x := (0 : Int) + 1) (by omega) (by omega), if_pos (by simp), if_pos (by omega), show (0 : Int) + 1 = 1 from rfl, rd2_1, if_pos rfl, wr (x := a + 1 + 1) (by omega) (by omega), wr (x := (1 : Int) + 1) (by omega) (by omega), if_neg (by simp), show a + 1 + 1 = a + 2 from by omega]
/-- The rows, of which the first i are marked. -/
def mk (b : Nat → Int) (o : Int) (i : Nat) : Nat → Int := fun j => if j < i then 2 * (j : Int) + o else b j
theorem laws_markIntSS_l (b e : Nat → Int) {n : Nat} (hn : n ≤ 300) : ∀ (d k i : Nat), i + d = n → d + 10 < k → laws_markIntSS.l0 k (two (mk b 1 i) (mk e 2 i) n) (2 * (i : Int) + 1) (i : Int) = some (2 * (n : Int) + 1, two (mk b 1 n) (mk e 2 n) n) := by
  intro d
  induction d with
  | zero =>
    intro k i hi hk
    obtain ⟨k, rfl⟩ : ∃ m, k = m + 1 := ⟨k - 1, by omega⟩
    simp only [laws_markIntSS.l0]
    rw [if_neg (by rw [two_length]; omega), show i = n from by omega]
  | succ d ih =>
    intro k i hi hk
    obtain ⟨k, rfl⟩ : ∃ m, k = m + 4 := ⟨k - 4, by omega⟩
    have hs : (two (mk b 1 i) (mk e 2 i) n).set i [2 * (i : Int) + 1, 2 * (i : Int) + 1 + 1] = two (mk b 1 (i + 1)) (mk e 2 (i + 1)) n := by
      unfold two
      rw [gtab_set]
      refine gtab_congr (fun j hj => ?_)
      unfold mk
      by_cases hc : j = i
      · subst hc
        rw [if_pos rfl, if_pos (by omega), if_pos (by omega)]
        rfl
      · by_cases h2 : j < i
        · rw [if_neg hc, if_pos h2, if_pos h2, if_pos (by omega), if_pos (by omega)]
        · rw [if_neg hc, if_neg h2, if_neg h2, if_neg (by omega), if_neg (by omega)]
    simp only [laws_markIntSS.l0]
    rw [if_pos (by rw [two_length]; omega), if_pos (by omega), two_rd _ _ (by omega), mark2 _ _ _ (by omega), bs, Int.toNat_natCast, hs, st (n := n) (by omega) (by omega), show 2 * (i : Int) + 1 + 2 = 2 * ((i + 1 : Nat) : Int) + 1 from by omega]
    exact ih (k + 3) (i + 1) (by omega) (by omega)
theorem laws_heldIntSS_l (b e : Nat → Int) {n : Nat} (hn : n ≤ 300) : ∀ (d k i : Nat), i + d = n → d + 10 < k → laws_heldIntSS.l0 k (two (mk b 1 n) (mk e 2 n) n) (2 * (i : Int) + 1) (i : Int) = some (2 * (n : Int) + 1) := by
  intro d
  induction d with
  | zero =>
    intro k i hi hk
    obtain ⟨k, rfl⟩ : ∃ m, k = m + 1 := ⟨k - 1, by omega⟩
    simp only [laws_heldIntSS.l0]
    rw [if_neg (by rw [two_length]; omega), show i = n from by omega]
  | succ d ih =>
    intro k i hi hk
    obtain ⟨k, rfl⟩ : ∃ m, k = m + 4 := ⟨k - 4, by omega⟩
    have hrow : rd_L3 (two (mk b 1 n) (mk e 2 n) n) (i : Int) = [2 * (i : Int) + 1, 2 * (i : Int) + 1 + 1] := by
      rw [two_rd _ _ (by omega)]
      unfold mk
      rw [if_pos (by omega), if_pos (by omega)]
      rfl
    simp only [laws_heldIntSS.l0]
    rw [if_pos (by rw [two_length]; omega), if_pos (by omega), hrow, held2 _ (by omega), bs, if_neg (by omega), st (n := n) (by omega) (by omega), show 2 * (i : Int) + 1 + 2 = 2 * ((i + 1 : Nat) : Int) + 1 from by omega]
    exact ih (k + 3) (i + 1) (by omega) (by omega)
theorem marksSS (b e : Nat → Int) {n : Nat} (hn : n ≤ 300) : ∃ o : List (List Int), (∀ k, n + 10 < k → laws_markIntSS.f k (two b e n) 1 = some (2 * (n : Int) + 1, o)) ∧ ∀ k, n + 10 < k → laws_heldIntSS.f k o 1 = some (2 * (n : Int) + 1) := by
  refine ⟨two (mk b 1 n) (mk e 2 n) n, fun k hk => ?_, fun k hk => ?_⟩
  · have e1 := laws_markIntSS_l b e hn n k 0 (by omega) (by omega)
    have e2 : two (mk b 1 0) (mk e 2 0) n = two b e n := gtab_congr (fun j _ => by unfold mk; rw [if_neg (by omega), if_neg (by omega)])
    rw [e2] at e1
    exact e1
  · exact laws_heldIntSS_l b e hn n k 0 (by omega) (by omega)

end FnExactBusyOfX
open FnExactBusyOfX
-- ALSO marksL
theorem FnExactBusyOf (l0 : List S58) (hm : l0.length ≤ maxLen) (hw : ∀ x ∈ l0, (Lit.int .i64 x.f0).wf = true ∧ (Lit.int .i64 x.f1).wf = true) : ∃ k, laws_FnExactBusyOf.f k l0 = some true := by
  refine ⟨3 * l0.length + 2500, ?_⟩
  unfold laws_FnExactBusyOf.f
  rw [laws_szCustomerS_e l0 (by unfold maxLen at hm; exact hm)]
  simp only [bs]
  by_cases h : l0.length ≤ 1048576
  · rw [if_pos h, if_neg (by omega), laws_toCustomerS_e l0 h (by omega)]
    have hc := cv_length l0
    have e : ∃ b e n, n ≤ 300 ∧ (∀ k, 3 * l0.length + 2400 < k → spec_BusyOf.f k (cv l0) = some (two b e n)) ∧ (∀ k, 3 * l0.length + 2400 < k → impl_BusyOf.f k (cv l0) = some (two b e n)) := by
      by_cases hk : ok (cv l0)
      · exact ⟨(bp (cv l0)).b, (bp (cv l0)).e, (bp (cv l0)).q, by have := (bp_ok (cv l0)).few; omega, fun k hk' => spec_BusyOf_t hk (by omega), fun k hk' => impl_BusyOf_t hk (by omega)⟩
      · exact ⟨fun _ => 0, fun _ => 0, 0, by omega, fun k hk' => spec_BusyOf_n (by omega) hk (by omega), fun k hk' => impl_BusyOf_n (by omega) hk (by omega)⟩
    obtain ⟨b, e, n, hn, e1, e2⟩ := e
    simp only [bs]
    rw [e1 _ (by omega)]
    simp only [bs]
    rw [e2 _ (by omega)]
    simp only [bs]
    rw [laws_eqIntSS_e b e hn (by omega), laws_eqCustomerS_e (cv l0) (by omega) (by omega)]
    obtain ⟨o', hmk⟩ := laws_markCustomerS_e (cv l0) (by omega) (k := 3 * l0.length + 2500) (by omega)
    simp only [bs, if_true, hmk]
    rw [if_neg (by omega)]
    simp only [Bool.not_true, laws_FnExactBusyOf.j0, Bool.false_eq_true, if_false]
    obtain ⟨o2, hm1, hm2⟩ := marksSS b e hn
    rw [hm1 _ (by omega)]
    simp only [bs]
    rw [hm2 _ (by omega)]
    simp only [bs]
    rw [if_neg (by omega), laws_toCustomerS_e l0 h (by omega)]
    simp only [bs, if_true]
    rw [e2 _ (by omega)]
    simp only [bs]
    rw [laws_eqIntSS_e b e hn (by omega)]
    simp only [bs, if_true]
    rw [if_neg (by omega)]
  · rw [if_neg h, if_pos (by omega)]

end Go.Proofs.Ytillelkfmebfiaa.Pure
