/- The pure statement of the law FnExactServedBy: about numbers and lists alone, over the functions that print.sh has written. No conditions beyond those typed. -/
import Derived.Test.YtillelkfmebfiaaQFnExactServedByx4
import Derived.Test.YtillelkfmebfiaaMath0
import Derived.Test.YtillelkfmebfiaaMathV
namespace Go.Proofs.Ytillelkfmebfiaa.Pure
open Go.RowKit Go.Proofs.Ytillelkfmebfiaa.QFnExactServedBy Go.Proofs.YtillelkfmebfiaaW.PrintWords Go.Proofs.YtillelkfmebfiaaW.PrintLast Go.Proofs.YtillelkfmebfiaaW.PrintMore Go.Proofs.Ytillelkfmebfiaa.Math
set_option linter.unusedVariables false
set_option linter.unusedSimpArgs false
namespace FnExactServedByX
/-- When the customer at place i comes, what this one needs. -/
def cm (l : List S46) (i : Nat) : Int := (rd_T46 l (i : Int)).f0
def nd (l : List S46) (i : Nat) : Int := (rd_T46 l (i : Int)).f1
theorem cm_eq (l : List S46) (i : Nat) : (rd_T46 l (i : Int)).f0 = cm l i := rfl
theorem nd_eq (l : List S46) (i : Nat) : (rd_T46 l (i : Int)).f1 = nd l i := rfl
theorem cm_eq0 (l : List S46) : (rd_T46 l 0).f0 = cm l 0 := rfl
theorem nd_eq0 (l : List S46) : (rd_T46 l 0).f1 = nd l 0 := rfl
theorem rd_get (l : List S46) (i : Nat) (h : i < l.length) : rd_T46 l (i : Int) = l[i] := by simp [rd_T46, h]
theorem rd_take (l : List S46) (m i : Nat) (h : i < m) : rd_T46 (l.take m) (i : Int) = rd_T46 l (i : Int) := by simp [rd_T46, List.getElem?_take, h]
theorem rd_drop (l : List S46) (m i : Nat) : rd_T46 (l.drop m) (i : Int) = rd_T46 l ((i + m : Nat) : Int) := by
  unfold rd_T46
  rw [List.getD_eq_getElem?_getD, List.getD_eq_getElem?_getD, List.getElem?_drop, Int.toNat_natCast, Int.toNat_natCast, Nat.add_comm]
theorem cm_take (l : List S46) (m i : Nat) (h : i < m) : cm (l.take m) i = cm l i := by unfold cm; rw [rd_take l m i h]
theorem nd_take (l : List S46) (m i : Nat) (h : i < m) : nd (l.take m) i = nd l i := by unfold nd; rw [rd_take l m i h]
theorem cm_drop (l : List S46) (m i : Nat) : cm (l.drop m) i = cm l (i + m) := by unfold cm; rw [rd_drop l m i]
theorem nd_drop (l : List S46) (m i : Nat) : nd (l.drop m) i = nd l (i + m) := by unfold nd; rw [rd_drop l m i]
/-- These are customers. -/
def ok (l : List S46) : Prop := OK (cm l) (nd l) l.length
theorem ok_take {l : List S46} (h : ok l) (m : Nat) (hm : m ≤ l.length) : ok (l.take m) := by
  have e : (l.take m).length = m := by rw [List.length_take]; omega
  unfold ok
  rw [e]
  exact OK.congr (fun i hi => (cm_take l m i hi).symm) (fun i hi => (nd_take l m i hi).symm) (OK.pre h hm)
theorem sm_take (l : List S46) (m j : Nat) (hj : j ≤ m) : sm (nd (l.take m)) j = sm (nd l) j := sm_congr (fun i hi => nd_take l m i (by omega))
theorem sm_drop (l : List S46) (m j : Nat) : sm (nd (l.drop m)) j = sm (nd l) (j + m) - sm (nd l) m := by
  rw [← sm_shift]
  exact sm_congr (fun i _ => nd_drop l m i)
theorem st {i : Nat} {n : Nat} (h : i < n) (hn : n ≤ 9000000000000000000) : wrap64 ((i : Int) + 1) = ((i + 1 : Nat) : Int) := by rw [wr (by omega) (by omega)]; simp
theorem pd {i : Nat} (h0 : 0 < i) (hn : i ≤ 9000000000000000000) : wrap64 ((i : Int) - 1) = ((i - 1 : Nat) : Int) := by rw [wr (by omega) (by omega)]; omega
theorem ext_list {a b : List S46} (hl : a.length = b.length) (h : ∀ i : Nat, i < a.length → cm a i = cm b i ∧ nd a i = nd b i) : a = b := by
  apply List.ext_getElem hl
  intro i h1 h2
  obtain ⟨e1, e2⟩ := h i h1
  unfold cm at e1
  unfold nd at e2
  rw [rd_get a i h1, rd_get b i h2] at e1 e2
  cases ha : a[i] with | mk x y =>
  cases hb : b[i] with | mk x' y' =>
  rw [ha, hb] at e1 e2
  simp only at e1 e2
  rw [e1, e2]
/-- The bytes that are drawn from. -/
structure Src (b : List Int) : Prop where
  byte : ∀ x ∈ b, 0 ≤ x ∧ x ≤ 255
  len : b.length ≤ 2000
theorem split_w (x : Int) : x < 0 ∨ ∃ w : Nat, x = (w : Int) := by
  by_cases h : x < 0
  · exact Or.inl h
  · exact Or.inr ⟨x.toNat, by omega⟩

/-- Customers of the law, as the program's. -/
def cv (l : List S58) : List S46 := l.map fun x => ⟨x.f0, x.f1⟩
theorem cv_length (l : List S58) : (cv l).length = l.length := List.length_map ..
theorem laws_szCustomerS_e (l : List S58) (hl : l.length ≤ 9223372036854775807) : laws_szCustomerS.f l 1048576 = some (if l.length ≤ 1048576 then 1048576 - (l.length : Int) else -1) := by
  unfold laws_szCustomerS.f
  rw [wr (by omega) (by omega)]
  by_cases h : l.length ≤ 1048576
  · rw [if_neg (by omega), if_pos h]
  · rw [if_pos (by omega), if_neg h]
theorem laws_toCustomerS_l (l : List S58) (hl : l.length ≤ 1048576) : ∀ (d k i : Nat) (o : List S46), i + d = l.length → d < k → o.length = l.length →
    (∀ j : Nat, j < i → o[j]? = (cv l)[j]?) → laws_toCustomerS.l0 k l o (i : Int) = some (cv l) := by
  intro d
  induction d with
  | zero =>
    intro k i o hi hk ho h
    obtain ⟨k, rfl⟩ : ∃ m, k = m + 1 := ⟨k - 1, by omega⟩
    simp only [laws_toCustomerS.l0]
    rw [if_neg (by omega)]
    congr 1
    apply List.ext_getElem?
    intro j
    by_cases hj : j < i
    · exact h j hj
    · rw [List.getElem?_eq_none (by omega), List.getElem?_eq_none (by rw [cv_length]; omega)]
  | succ d ih =>
    intro k i o hi hk ho h
    obtain ⟨k, rfl⟩ : ∃ m, k = m + 1 := ⟨k - 1, by omega⟩
    simp only [laws_toCustomerS.l0, laws_toCustomer.f, bs]
    rw [if_pos (by omega), if_pos (by omega), if_pos (by omega), st (n := l.length) (by omega) (by omega)]
    refine ih k (i + 1) _ (by omega) (by omega) (by rw [List.length_set]; exact ho) (fun j hj => ?_)
    rw [Int.toNat_natCast]
    by_cases e : j = i
    · subst e
      rw [List.getElem?_set_self (by omega)]
      unfold cv
      rw [List.getElem?_map, List.getElem?_eq_getElem (by omega)]
      simp [rd_T58, show j < l.length from by omega]
    · rw [List.getElem?_set_ne (Ne.symm e)]
      exact h j (by omega)
theorem laws_toCustomerS_e (l : List S58) (hl : l.length ≤ 1048576) {k : Nat} (hk : l.length < k) : laws_toCustomerS.f k l = some (cv l) := by
  unfold laws_toCustomerS.f
  rw [if_pos (by omega), Int.toNat_natCast, if_pos (by omega)]
  exact laws_toCustomerS_l l hl l.length k 0 _ (by omega) hk (by simp) (fun j hj => absurd hj (by omega))
theorem laws_eqCustomerS_l (a : List S46) (ha : a.length ≤ 1048576) : ∀ (d k i : Nat), i + d = a.length → d < k → laws_eqCustomerS.l0 k a a (i : Int) = some true := by
  intro d
  induction d with
  | zero =>
    intro k i hi hk
    obtain ⟨k, rfl⟩ : ∃ m, k = m + 1 := ⟨k - 1, by omega⟩
    simp only [laws_eqCustomerS.l0]
    rw [if_neg (by omega)]
  | succ d ih =>
    intro k i hi hk
    obtain ⟨k, rfl⟩ : ∃ m, k = m + 1 := ⟨k - 1, by omega⟩
    simp only [laws_eqCustomerS.l0, laws_eqCustomer.f]
    rw [if_pos (by omega), if_pos (by omega), if_pos (by omega), st (n := a.length) (by omega) (by omega)]
    simp only [bs, if_true]
    exact ih k (i + 1) (by omega) (by omega)
theorem laws_eqCustomerS_e (a : List S46) (ha : a.length ≤ 1048576) {k : Nat} (hk : a.length < k) : laws_eqCustomerS.f k a a = some true := by
  unfold laws_eqCustomerS.f
  rw [if_pos rfl]
  exact laws_eqCustomerS_l a ha a.length k 0 (by omega) hk

theorem impl_CustomersOk_l (l : List S46) (hl : l.length ≤ 9000000000000000000) : ∀ (d k i : Nat), i + d = l.length → d < k →
    ∃ b, impl_CustomersOk.l0 k l l (l.length : Int) (i : Int) = some b ∧ (b = true ↔ l.length ≤ 8 ∧ ∀ j, i ≤ j → j < l.length → okAt (cm l) (nd l) j) := by
  intro d
  induction d with
  | zero =>
    intro k i hi hk
    obtain ⟨k, rfl⟩ : ∃ m, k = m + 1 := ⟨k - 1, by omega⟩
    simp only [impl_CustomersOk.l0]
    rw [if_neg (by omega)]
    exact ⟨_, rfl, by rw [decide_eq_true_iff]; exact ⟨fun h => ⟨by omega, fun j h1 h2 => absurd h1 (by omega)⟩, fun h => by have := h.1; omega⟩⟩
  | succ d ih =>
    intro k i hi hk
    obtain ⟨k, rfl⟩ : ∃ m, k = m + 1 := ⟨k - 1, by omega⟩
    obtain ⟨b, hb, hbt⟩ := ih k (i + 1) (by omega) (by omega)
    have no : (¬ okAt (cm l) (nd l) i) → (∃ b, some false = some b ∧ (b = true ↔ l.length ≤ 8 ∧ ∀ j, i ≤ j → j < l.length → okAt (cm l) (nd l) j)) := fun h => ⟨false, rfl, ⟨fun h0 => (by cases h0), fun h0 => absurd (h0.2 i (by omega) (by omega)) h⟩⟩
    have yes : okAt (cm l) (nd l) i → (∃ b, impl_CustomersOk.l0 k l l (l.length : Int) ((i + 1 : Nat) : Int) = some b ∧ (b = true ↔ l.length ≤ 8 ∧ ∀ j, i ≤ j → j < l.length → okAt (cm l) (nd l) j)) := fun h => by
      refine ⟨b, hb, hbt.trans ⟨fun h0 => ⟨h0.1, fun j h1 h2 => ?_⟩, fun h0 => ⟨h0.1, fun j h1 h2 => h0.2 j (by omega) h2⟩⟩⟩
      by_cases e : j = i
      · subst e; exact h
      · exact h0.2 j (by omega) h2
    simp only [impl_CustomersOk.l0]
    rw [if_pos (by omega), if_pos (by omega), if_pos (by omega), st (n := l.length) (by omega) hl]
    rw [cm_eq l i, nd_eq l i]
    by_cases h1 : cm l i < 0
    · rw [if_pos h1]; exact no (fun h => by have := h.1; omega)
    rw [if_neg h1]
    by_cases h2 : cm l i > 60
    · rw [if_pos h2]; exact no (fun h => by have := h.2.1; omega)
    rw [if_neg h2]
    by_cases h0 : i = 0
    · subst h0
      rw [if_neg (by simp)]
      by_cases h3 : nd l 0 < 1
      · rw [if_pos h3]; exact no (fun h => by have := h.2.2.1; omega)
      rw [if_neg h3]
      by_cases h4 : nd l 0 > 9
      · rw [if_pos h4]; exact no (fun h => by have := h.2.2.2.1; omega)
      rw [if_neg h4]
      exact yes ⟨by omega, by omega, by omega, by omega, fun h => by omega⟩
    · rw [if_pos (by omega), pd (by omega) (by omega), if_pos (by omega), if_pos (by omega)]
      rw [cm_eq l (i - 1)]
      by_cases h5 : cm l i < cm l (i - 1)
      · rw [if_pos h5]; exact no (fun h => by have := h.2.2.2.2 (by omega); omega)
      rw [if_neg h5]
      by_cases h3 : nd l i < 1
      · rw [if_pos h3]; exact no (fun h => by have := h.2.2.1; omega)
      rw [if_neg h3]
      by_cases h4 : nd l i > 9
      · rw [if_pos h4]; exact no (fun h => by have := h.2.2.2.1; omega)
      rw [if_neg h4]
      exact yes ⟨by omega, by omega, by omega, by omega, fun h => by omega⟩
theorem impl_CustomersOk_e (l : List S46) (hl : l.length ≤ 9000000000000000000) {k : Nat} (hk : l.length < k) : ∃ b, impl_CustomersOk.f k l = some b ∧ (b = true ↔ ok l) := by
  obtain ⟨b, h1, h2⟩ := impl_CustomersOk_l l hl l.length k 0 (by omega) hk
  exact ⟨b, h1, h2.trans ⟨fun h => ⟨h.1, fun i hi => h.2 i (Nat.zero_le _) hi⟩, fun h => ⟨h.1, fun i _ hi => h.2 i hi⟩⟩⟩
theorem impl_CustomersOk_t {l : List S46} (h : ok l) {k : Nat} (hk : l.length < k) : impl_CustomersOk.f k l = some true := by
  obtain ⟨b, h1, h2⟩ := impl_CustomersOk_e l (by have := h.1; omega) hk
  rw [h1, h2.2 h]
theorem impl_CustomersOk_n {l : List S46} (hl : l.length ≤ 9000000000000000000) (h : ¬ ok l) {k : Nat} (hk : l.length < k) : impl_CustomersOk.f k l = some false := by
  obtain ⟨b, h1, h2⟩ := impl_CustomersOk_e l hl hk
  rw [h1]
  cases b with
  | true => exact absurd (h2.1 rfl) h
  | false => rfl

-- MATH V
theorem impl_works_l1 {l : List S46} (h : ok l) (A : Int) {x : List Int} (hx : x.length < 17592186044416) {w : Int} (hw : 0 ≤ w ∧ w ≤ 1000) (t : Nat) (ht : t ≤ 1000) : ∀ (d k i : Nat), i + d = l.length → d < k →
    impl_works.l1 k l A x (w + ar (cm l) (nd l) t i) (t : Int) (i : Int) = impl_works.l0 (k - (d + 1)) l A (x ++ [w + arr (cm l) (nd l) l.length t]) (mx 0 (w + arr (cm l) (nd l) l.length t - 1)) ((t + 1 : Nat) : Int) := by
  intro d
  have hl := h.len
  induction d with
  | zero =>
    intro k i hi hk
    obtain ⟨k, rfl⟩ : ∃ m, k = m + 1 := ⟨k - 1, by omega⟩
    have e : i = l.length := by omega
    have hr := ar_rng h t i (by omega)
    simp only [impl_works.l1]
    rw [if_neg (by omega), if_pos hx, wr (x := w + ar (cm l) (nd l) t i - 1) (by omega) (by omega), e, ar_all, mx_comm0, st (n := 2000) (by omega) (by omega)]
    rfl
  | succ d ih =>
    intro k i hi hk
    obtain ⟨k, rfl⟩ : ∃ m, k = m + 1 := ⟨k - 1, by omega⟩
    have e := ih k (i + 1) (by omega) (by omega)
    have hr := ar_rng h t i (by omega)
    have hn := h.need (i := i) (by omega)
    rw [ar_succ] at e
    simp only [impl_works.l1]
    rw [if_pos (by omega), if_pos (by omega), cm_eq, nd_eq, st (n := l.length) (by omega) (by omega), show k + 1 - (d + 1 + 1) = k - (d + 1) from by omega]
    by_cases hc : cm l i = (t : Int)
    · rw [if_pos hc] at e ⊢
      rw [wr (by omega) (by omega), Int.add_assoc]
      exact e
    · rw [if_neg hc] at e ⊢
      rw [Int.add_zero] at e
      exact e
theorem impl_works_l {l : List S46} (h : ok l) (A : Nat) (hA : A ≤ 500) : ∀ (d k t : Nat), t + d = A + 1 → d * 11 + 2 < k → impl_works.l0 k l (A : Int) (tab (wk (cm l) (nd l) l.length) t) (pre (cm l) (nd l) l.length t) (t : Int) = some (tab (wk (cm l) (nd l) l.length) (A + 1)) := by
  intro d
  have hl := h.len
  induction d with
  | zero =>
    intro k t hi hk
    obtain ⟨k, rfl⟩ : ∃ m, k = m + 1 := ⟨k - 1, by omega⟩
    simp only [impl_works.l0]
    rw [if_neg (by omega), show t = A + 1 from by omega]
  | succ d ih =>
    intro k t hi hk
    obtain ⟨k, rfl⟩ : ∃ m, k = m + 1 := ⟨k - 1, by omega⟩
    have hp := pre_rng h t
    simp only [impl_works.l0]
    rw [if_pos (by omega)]
    have e := impl_works_l1 h (A : Int) (x := tab (wk (cm l) (nd l) l.length) t) (by rw [tab_length]; omega) (w := pre (cm l) (nd l) l.length t) (by omega) t (by omega) l.length k 0 (by omega) (by omega)
    rw [ar_zero, Int.add_zero, ← wk_pre, ← tab_snoc (wk (cm l) (nd l) l.length), ← pre_succ] at e
    refine Eq.trans e ?_
    exact ih (k - (l.length + 1)) (t + 1) (by omega) (by omega)
theorem impl_works_t {l : List S46} (h : ok l) {k : Nat} (hk : 2300 < k) : impl_works.f k l = some (tab (wk (cm l) (nd l) l.length) 201) :=
  impl_works_l h 200 (by omega) (200 + 1) k 0 (by omega) (by omega)

-- PRE impl_works
theorem impl_ServedBy_l {C N : Nat → Int} {n : Nat} (T : Nat) (hT : T ≤ 200) : ∀ (d k i : Nat), i + d = T → d < k → impl_ServedBy.l0 k (tab (wk C N n) 201) (T : Int) (sv C N n i) (i : Int) = some (sv C N n T) := by
  intro d
  induction d with
  | zero =>
    intro k i hi hk
    obtain ⟨k, rfl⟩ : ∃ m, k = m + 1 := ⟨k - 1, by omega⟩
    simp only [impl_ServedBy.l0]
    rw [if_neg (by omega), show i = T from by omega]
  | succ d ih =>
    intro k i hi hk
    obtain ⟨k, rfl⟩ : ∃ m, k = m + 1 := ⟨k - 1, by omega⟩
    have e := ih k (i + 1) (by omega) (by omega)
    have hr := sv_rng (C := C) (N := N) (n := n) i
    rw [sv_succ] at e
    simp only [impl_ServedBy.l0]
    rw [if_pos (by omega), if_pos (by omega), tab_rd _ (by omega), st (n := 300) (by omega) (by omega), wr (x := sv C N n i + 1) (by omega) (by omega)]
    by_cases hc : 0 < wk C N n i
    · rw [if_pos hc] at e ⊢
      exact e
    · rw [if_neg hc, Int.add_zero] at e
      rw [if_neg hc]
      exact e
theorem impl_ServedBy_t {l : List S46} (h : ok l) (t : Nat) (ht : t ≤ 200) {k : Nat} (hk : 2400 < k) : impl_ServedBy.f k l (t : Int) = some (sv (cm l) (nd l) l.length t) := by
  have hl := h.len
  unfold impl_ServedBy.f
  rw [impl_CustomersOk_t h (by omega), bs, if_pos rfl, if_neg (by omega), if_neg (by omega), impl_works_t h (by omega), bs]
  exact impl_ServedBy_l t ht t k 0 (by omega) (by omega)
theorem impl_ServedBy_n {l : List S46} (hl : l.length ≤ 9000000000000000000) {t : Int} (h : ¬ (ok l ∧ 0 ≤ t ∧ t ≤ 200)) {k : Nat} (hk : l.length + 1 < k) : impl_ServedBy.f k l t = some (-1) := by
  unfold impl_ServedBy.f
  by_cases ho : ok l
  · rw [impl_CustomersOk_t ho (by omega), bs, if_pos rfl]
    by_cases h0 : t < 0
    · rw [if_pos h0]
    · rw [if_neg h0, if_pos (Int.not_le.1 (fun hh => h ⟨ho, by omega, hh⟩))]
  · rw [impl_CustomersOk_n hl ho (by omega), bs, if_neg (by simp)]

theorem spec_l1In_e (a b c : Int) : ∃ r, spec_l1In.f a b c = some r ∧ (r = true ↔ b ≤ a ∧ a ≤ c) := by
  unfold spec_l1In.f
  by_cases h : a ≥ b
  · rw [if_pos h]; exact ⟨_, rfl, by rw [decide_eq_true_iff]; exact ⟨fun h1 => ⟨h, h1⟩, fun h1 => h1.2⟩⟩
  · rw [if_neg h]; exact ⟨false, rfl, ⟨fun h1 => (by cases h1), fun h1 => absurd h1.1 h⟩⟩
theorem spec_l1In_t {a b c : Int} (h0 : b ≤ a) (h1 : a ≤ c) : spec_l1In.f a b c = some true := by
  unfold spec_l1In.f
  rw [if_pos h0, decide_eq_true h1]
theorem spec_l1In_n {a b c : Int} (h : ¬ (b ≤ a ∧ a ≤ c)) : spec_l1In.f a b c = some false := by
  unfold spec_l1In.f
  by_cases h0 : a ≥ b
  · rw [if_pos h0, decide_eq_false (fun h1 => h ⟨h0, h1⟩)]
  · rw [if_neg h0]
theorem spec_CustomersOk_l (l : List S46) (hl : l.length ≤ 9000000000000000000) : ∀ (d k i : Nat), i + d = l.length → d < k →
    ∃ b, spec_CustomersOk.l0 k l (i : Int) = some b ∧ (b = true ↔ l.length ≤ 8 ∧ ∀ j, i ≤ j → j < l.length → okAt (cm l) (nd l) j) := by
  intro d
  induction d with
  | zero =>
    intro k i hi hk
    obtain ⟨k, rfl⟩ : ∃ m, k = m + 1 := ⟨k - 1, by omega⟩
    simp only [spec_CustomersOk.l0]
    rw [if_neg (by omega)]
    exact ⟨_, rfl, by rw [decide_eq_true_iff]; exact ⟨fun h => ⟨by omega, fun j h1 h2 => absurd h1 (by omega)⟩, fun h => by have := h.1; omega⟩⟩
  | succ d ih =>
    intro k i hi hk
    obtain ⟨k, rfl⟩ : ∃ m, k = m + 1 := ⟨k - 1, by omega⟩
    obtain ⟨b, hb, hbt⟩ := ih k (i + 1) (by omega) (by omega)
    have no : (¬ okAt (cm l) (nd l) i) → (∃ b, some false = some b ∧ (b = true ↔ l.length ≤ 8 ∧ ∀ j, i ≤ j → j < l.length → okAt (cm l) (nd l) j)) := fun h => ⟨false, rfl, ⟨fun h0 => (by cases h0), fun h0 => absurd (h0.2 i (by omega) (by omega)) h⟩⟩
    have yes : okAt (cm l) (nd l) i → (∃ b, spec_CustomersOk.l0 k l ((i + 1 : Nat) : Int) = some b ∧ (b = true ↔ l.length ≤ 8 ∧ ∀ j, i ≤ j → j < l.length → okAt (cm l) (nd l) j)) := fun h => by
      refine ⟨b, hb, hbt.trans ⟨fun h0 => ⟨h0.1, fun j h1 h2 => ?_⟩, fun h0 => ⟨h0.1, fun j h1 h2 => h0.2 j (by omega) h2⟩⟩⟩
      by_cases e : j = i
      · subst e; exact h
      · exact h0.2 j (by omega) h2
    simp only [spec_CustomersOk.l0]
    rw [if_pos (by omega), if_pos (by omega), st (n := l.length) (by omega) hl]
    rw [cm_eq l i, nd_eq l i]
    by_cases h1 : 0 ≤ cm l i ∧ cm l i ≤ 60
    · rw [spec_l1In_t h1.1 h1.2]
      simp only [bs, if_true]
      by_cases h2 : 1 ≤ nd l i ∧ nd l i ≤ 9
      · rw [spec_l1In_t h2.1 h2.2]
        simp only [bs, if_true]
        by_cases h0 : i = 0
        · subst h0
          rw [if_neg (by simp)]
          exact yes ⟨by omega, by omega, by omega, by omega, fun h => by omega⟩
        · rw [if_pos (by omega), pd (by omega) (by omega), if_pos (by omega), if_pos (by omega)]
          rw [cm_eq l (i - 1)]
          by_cases h5 : cm l i < cm l (i - 1)
          · rw [if_pos h5]; exact no (fun h => by have := h.2.2.2.2 (by omega); omega)
          rw [if_neg h5]
          exact yes ⟨by omega, by omega, by omega, by omega, fun h => by omega⟩
      · rw [spec_l1In_n h2]
        exact no (fun h => h2 ⟨h.2.2.1, h.2.2.2.1⟩)
    · rw [spec_l1In_n h1]
      exact no (fun h => h1 ⟨h.1, h.2.1⟩)
theorem spec_CustomersOk_e (l : List S46) (hl : l.length ≤ 9000000000000000000) {k : Nat} (hk : l.length < k) : ∃ b, spec_CustomersOk.f k l = some b ∧ (b = true ↔ ok l) := by
  obtain ⟨b, h1, h2⟩ := spec_CustomersOk_l l hl l.length k 0 (by omega) hk
  exact ⟨b, h1, h2.trans ⟨fun h => ⟨h.1, fun i hi => h.2 i (Nat.zero_le _) hi⟩, fun h => ⟨h.1, fun i _ hi => h.2 i hi⟩⟩⟩
theorem spec_CustomersOk_t {l : List S46} (h : ok l) {k : Nat} (hk : l.length < k) : spec_CustomersOk.f k l = some true := by
  obtain ⟨b, h1, h2⟩ := spec_CustomersOk_e l (by have := h.1; omega) hk
  rw [h1, h2.2 h]
theorem spec_CustomersOk_n {l : List S46} (hl : l.length ≤ 9000000000000000000) (h : ¬ ok l) {k : Nat} (hk : l.length < k) : spec_CustomersOk.f k l = some false := by
  obtain ⟨b, h1, h2⟩ := spec_CustomersOk_e l hl hk
  rw [h1]
  cases b with
  | true => exact absurd (h2.1 rfl) h
  | false => rfl

-- MATH V
theorem spec_l3Work_l1 {l : List S46} (h : ok l) (A : Int) {x : List Int} (hx : x.length < 17592186044416) {w : Int} (hw : 0 ≤ w ∧ w ≤ 1000) (t : Nat) (ht : t ≤ 1000) : ∀ (d k i : Nat), i + d = l.length → d < k →
    spec_l3Work.l1 k l A x (w + ar (cm l) (nd l) t i) (t : Int) (i : Int) = spec_l3Work.l0 (k - (d + 1)) l A (x ++ [w + arr (cm l) (nd l) l.length t]) (mx 0 (w + arr (cm l) (nd l) l.length t - 1)) ((t + 1 : Nat) : Int) := by
  intro d
  have hl := h.len
  induction d with
  | zero =>
    intro k i hi hk
    obtain ⟨k, rfl⟩ : ∃ m, k = m + 1 := ⟨k - 1, by omega⟩
    have e : i = l.length := by omega
    have hr := ar_rng h t i (by omega)
    simp only [spec_l3Work.l1]
    rw [if_neg (by omega), if_pos hx, wr (x := w + ar (cm l) (nd l) t i - 1) (by omega) (by omega), e, ar_all, mx_comm0, st (n := 2000) (by omega) (by omega)]
    rfl
  | succ d ih =>
    intro k i hi hk
    obtain ⟨k, rfl⟩ : ∃ m, k = m + 1 := ⟨k - 1, by omega⟩
    have e := ih k (i + 1) (by omega) (by omega)
    have hr := ar_rng h t i (by omega)
    have hn := h.need (i := i) (by omega)
    rw [ar_succ] at e
    simp only [spec_l3Work.l1]
    rw [if_pos (by omega), if_pos (by omega), cm_eq, nd_eq, st (n := l.length) (by omega) (by omega), show k + 1 - (d + 1 + 1) = k - (d + 1) from by omega]
    by_cases hc : cm l i = (t : Int)
    · rw [if_pos hc] at e ⊢
      rw [wr (by omega) (by omega), Int.add_assoc]
      exact e
    · rw [if_neg hc] at e ⊢
      rw [Int.add_zero] at e
      exact e
theorem spec_l3Work_l {l : List S46} (h : ok l) (A : Nat) (hA : A ≤ 500) : ∀ (d k t : Nat), t + d = A + 1 → d * 11 + 2 < k → spec_l3Work.l0 k l (A : Int) (tab (wk (cm l) (nd l) l.length) t) (pre (cm l) (nd l) l.length t) (t : Int) = some (tab (wk (cm l) (nd l) l.length) (A + 1)) := by
  intro d
  have hl := h.len
  induction d with
  | zero =>
    intro k t hi hk
    obtain ⟨k, rfl⟩ : ∃ m, k = m + 1 := ⟨k - 1, by omega⟩
    simp only [spec_l3Work.l0]
    rw [if_neg (by omega), show t = A + 1 from by omega]
  | succ d ih =>
    intro k t hi hk
    obtain ⟨k, rfl⟩ : ∃ m, k = m + 1 := ⟨k - 1, by omega⟩
    have hp := pre_rng h t
    simp only [spec_l3Work.l0]
    rw [if_pos (by omega)]
    have e := spec_l3Work_l1 h (A : Int) (x := tab (wk (cm l) (nd l) l.length) t) (by rw [tab_length]; omega) (w := pre (cm l) (nd l) l.length t) (by omega) t (by omega) l.length k 0 (by omega) (by omega)
    rw [ar_zero, Int.add_zero, ← wk_pre, ← tab_snoc (wk (cm l) (nd l) l.length), ← pre_succ] at e
    refine Eq.trans e ?_
    exact ih (k - (l.length + 1)) (t + 1) (by omega) (by omega)
theorem spec_l3Work_t {l : List S46} (h : ok l) (A : Nat) (hA : A ≤ 200) {k : Nat} (hk : 2300 < k) : spec_l3Work.f k l (A : Int) = some (tab (wk (cm l) (nd l) l.length) (A + 1)) :=
  spec_l3Work_l h A (by omega) (A + 1) k 0 (by omega) (by omega)

theorem spec_ServedBy_l {C N : Nat → Int} {n : Nat} (T : Nat) (hT : T ≤ 200) : ∀ (d k i : Nat), i + d = T → d < k → spec_ServedBy.l0 k (T : Int) (tab (wk C N n) (T + 1)) (sv C N n i) (i : Int) = some (sv C N n T) := by
  intro d
  induction d with
  | zero =>
    intro k i hi hk
    obtain ⟨k, rfl⟩ : ∃ m, k = m + 1 := ⟨k - 1, by omega⟩
    simp only [spec_ServedBy.l0]
    rw [if_neg (by omega), show i = T from by omega]
  | succ d ih =>
    intro k i hi hk
    obtain ⟨k, rfl⟩ : ∃ m, k = m + 1 := ⟨k - 1, by omega⟩
    have e := ih k (i + 1) (by omega) (by omega)
    have hr := sv_rng (C := C) (N := N) (n := n) i
    rw [sv_succ] at e
    simp only [spec_ServedBy.l0]
    rw [if_pos (by omega), if_pos (by omega), tab_length, if_pos (by omega), tab_rd _ (by omega), st (n := 300) (by omega) (by omega), wr (x := sv C N n i + 1) (by omega) (by omega)]
    by_cases hc : 0 < wk C N n i
    · rw [if_pos hc] at e ⊢
      exact e
    · rw [if_neg hc, Int.add_zero] at e
      rw [if_neg hc]
      exact e
theorem spec_ServedBy_t {l : List S46} (h : ok l) (t : Nat) (ht : t ≤ 200) {k : Nat} (hk : 2400 < k) : spec_ServedBy.f k l (t : Int) = some (sv (cm l) (nd l) l.length t) := by
  have hl := h.len
  obtain ⟨k, rfl⟩ : ∃ m, k = m + 1 := ⟨k - 1, by omega⟩
  unfold spec_ServedBy.f
  rw [spec_CustomersOk_t h (by omega), bs, if_pos rfl, spec_l1In_t (by omega) (by omega), bs]
  simp only [spec_ServedBy.j0, Bool.not_true, Bool.false_eq_true, if_false]
  rw [spec_l3Work_t h t ht (by omega), bs]
  exact spec_ServedBy_l t ht t k 0 (by omega) (by omega)
theorem spec_ServedBy_n {l : List S46} (hl : l.length ≤ 9000000000000000000) {t : Int} (h : ¬ (ok l ∧ 0 ≤ t ∧ t ≤ 200)) {k : Nat} (hk : l.length + 1 < k) : spec_ServedBy.f k l t = some (-1) := by
  unfold spec_ServedBy.f
  obtain ⟨k, rfl⟩ : ∃ m, k = m + 1 := ⟨k - 1, by omega⟩
  by_cases ho : ok l
  · rw [spec_CustomersOk_t ho (by omega), bs, if_pos rfl, spec_l1In_n (fun hh => h ⟨ho, hh⟩), bs]
    simp [spec_ServedBy.j0]
  · rw [spec_CustomersOk_n hl ho (by omega), bs, if_neg (by simp)]
    simp [spec_ServedBy.j0]

end FnExactServedByX
open FnExactServedByX
theorem FnExactServedBy (l0 : List S58) (hm : l0.length ≤ maxLen) (hw : ∀ x ∈ l0, (Lit.int .i64 x.f0).wf = true ∧ (Lit.int .i64 x.f1).wf = true) (a1 : Int) (hw1 : (Lit.int .i64 a1).wf = true) : ∃ k, laws_FnExactServedBy.f k l0 a1 = some true := by
  refine ⟨l0.length + 2500, ?_⟩
  unfold laws_FnExactServedBy.f
  rw [laws_szCustomerS_e l0 (by unfold maxLen at hm; exact hm)]
  simp only [bs]
  by_cases h : l0.length ≤ 1048576
  · rw [if_pos h, if_neg (by omega), laws_toCustomerS_e l0 h (by omega)]
    have hc := cv_length l0
    have e : impl_ServedBy.f (l0.length + 2500) (cv l0) a1 = spec_ServedBy.f (l0.length + 2500) (cv l0) a1 ∧ ∃ r, spec_ServedBy.f (l0.length + 2500) (cv l0) a1 = some r := by
      by_cases hk : ok (cv l0) ∧ 0 ≤ a1 ∧ a1 ≤ 200
      · obtain ⟨t, rfl⟩ : ∃ t : Nat, a1 = (t : Int) := ⟨a1.toNat, by omega⟩
        rw [impl_ServedBy_t hk.1 t (by omega) (by omega), spec_ServedBy_t hk.1 t (by omega) (by omega)]; exact ⟨rfl, _, rfl⟩
      · rw [impl_ServedBy_n (by omega) hk (by omega), spec_ServedBy_n (by omega) hk (by omega)]; exact ⟨rfl, _, rfl⟩
    obtain ⟨e1, r, e2⟩ := e
    simp only [bs, e1, e2, laws_eqCustomerS_e (cv l0) (by omega) (k := l0.length + 2500) (by omega), if_true]
  · rw [if_neg h, if_pos (by omega)]

end Go.Proofs.Ytillelkfmebfiaa.Pure
