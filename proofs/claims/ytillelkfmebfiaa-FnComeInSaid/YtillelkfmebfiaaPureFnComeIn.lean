/- The pure statement of the law FnComeIn: about numbers and lists alone, over the functions that print.sh has written. No conditions beyond those typed. -/
import Derived.Test.YtillelkfmebfiaaQFnComeInx8
import Derived.Test.YtillelkfmebfiaaMath0
import Derived.Test.YtillelkfmebfiaaMathV
import Derived.Test.YtillelkfmebfiaaMathP
import Derived.Test.YtillelkfmebfiaaMathD
import Derived.Test.YtillelkfmebfiaaMathA
import Derived.Test.YtillelkfmebfiaaMathQ
import Derived.Test.YtillelkfmebfiaaMathS
namespace Go.Proofs.Ytillelkfmebfiaa.Pure
open Go.RowKit Go.Proofs.Ytillelkfmebfiaa.QFnComeIn Go.Proofs.YtillelkfmebfiaaW.PrintWords Go.Proofs.YtillelkfmebfiaaW.PrintLast Go.Proofs.YtillelkfmebfiaaW.PrintMore Go.Proofs.Ytillelkfmebfiaa.Math
set_option linter.unusedVariables false
set_option linter.unusedSimpArgs false
namespace FnComeInX
/-- When the customer at place i comes, what this one needs. -/
def cm (l : List S46) (i : Nat) : Int := (rd_T46 l (i : Int)).f0
def nd (l : List S46) (i : Nat) : Int := (rd_T46 l (i : Int)).f1
theorem cm_eq (l : List S46) (i : Nat) : (rd_T46 l (i : Int)).f0 = cm l i := rfl
theorem nd_eq (l : List S46) (i : Nat) : (rd_T46 l (i : Int)).f1 = nd l i := rfl
theorem cm_eq0 (l : List S46) : (rd_T46 l 0).f0 = cm l 0 := rfl
theorem nd_eq0 (l : List S46) : (rd_T46 l 0).f1 = nd l 0 := rfl
theorem rd_get (l : List S46) (i : Nat) (h : i < l.length) : rd_T46 l (i : Int) = l[i] := by simp [rd_T46, h]
theorem rd_take (l : List S46) (m i : Nat) (h : i < m) : rd_T46 (l.take m) (i : Int) = rd_T46 l (i : Int) := by simp [rd_T46, List.getElem?_take, h]
theorem rd_drop (l : List S46) (m i : Nat) : rd_T46 (l.drop m) (i : Int) = rd_T46 l ((i + m : Nat) : Int) := by
  unfold rd_T46
  rw [List.getD_eq_getElem?_getD, List.getD_eq_getElem?_getD, List.getElem?_drop, Int.toNat_natCast, Int.toNat_natCast, Nat.add_comm]
theorem cm_take (l : List S46) (m i : Nat) (h : i < m) : cm (l.take m) i = cm l i := by unfold cm; rw [rd_take l m i h]
theorem nd_take (l : List S46) (m i : Nat) (h : i < m) : nd (l.take m) i = nd l i := by unfold nd; rw [rd_take l m i h]
theorem cm_drop (l : List S46) (m i : Nat) : cm (l.drop m) i = cm l (i + m) := by unfold cm; rw [rd_drop l m i]
theorem nd_drop (l : List S46) (m i : Nat) : nd (l.drop m) i = nd l (i + m) := by unfold nd; rw [rd_drop l m i]
/-- These are customers. -/
def ok (l : List S46) : Prop := OK (cm l) (nd l) l.length
theorem ok_take {l : List S46} (h : ok l) (m : Nat) (hm : m ≤ l.length) : ok (l.take m) := by
  have e : (l.take m).length = m := by rw [List.length_take]; omega
  unfold ok
  rw [e]
  exact OK.congr (fun i hi => (cm_take l m i hi).symm) (fun i hi => (nd_take l m i hi).symm) (OK.pre h hm)
theorem sm_take (l : List S46) (m j : Nat) (hj : j ≤ m) : sm (nd (l.take m)) j = sm (nd l) j := sm_congr (fun i hi => nd_take l m i (by omega))
theorem sm_drop (l : List S46) (m j : Nat) : sm (nd (l.drop m)) j = sm (nd l) (j + m) - sm (nd l) m := by
  rw [← sm_shift]
  exact sm_congr (fun i _ => nd_drop l m i)
theorem st {i : Nat} {n : Nat} (h : i < n) (hn : n ≤ 9000000000000000000) : wrap64 ((i : Int) + 1) = ((i + 1 : Nat) : Int) := by rw [wr (by omega) (by omega)]; simp
theorem pd {i : Nat} (h0 : 0 < i) (hn : i ≤ 9000000000000000000) : wrap64 ((i : Int) - 1) = ((i - 1 : Nat) : Int) := by rw [wr (by omega) (by omega)]; omega
theorem ext_list {a b : List S46} (hl : a.length = b.length) (h : ∀ i : Nat, i < a.length → cm a i = cm b i ∧ nd a i = nd b i) : a = b := by
  apply List.ext_getElem hl
  intro i h1 h2
  obtain ⟨e1, e2⟩ := h i h1
  unfold cm at e1
  unfold nd at e2
  rw [rd_get a i h1, rd_get b i h2] at e1 e2
  cases ha : a[i] with | mk x y =>
  cases hb : b[i] with | mk x' y' =>
  rw [ha, hb] at e1 e2
  simp only at e1 e2
  rw [e1, e2]
/-- The bytes that are drawn from. -/
structure Src (b : List Int) : Prop where
  byte : ∀ x ∈ b, 0 ≤ x ∧ x ≤ 255
  len : b.length ≤ 2000
theorem split_w (x : Int) : x < 0 ∨ ∃ w : Nat, x = (w : Int) := by
  by_cases h : x < 0
  · exact Or.inl h
  · exact Or.inr ⟨x.toNat, by omega⟩

theorem impl_CustomersOk_l (l : List S46) (hl : l.length ≤ 9000000000000000000) : ∀ (d k i : Nat), i + d = l.length → d < k →
    ∃ b, impl_CustomersOk.l0 k l l (l.length : Int) (i : Int) = some b ∧ (b = true ↔ l.length ≤ 8 ∧ ∀ j, i ≤ j → j < l.length → okAt (cm l) (nd l) j) := by
  intro d
  induction d with
  | zero =>
    intro k i hi hk
    obtain ⟨k, rfl⟩ : ∃ m, k = m + 1 := ⟨k - 1, by omega⟩
    simp only [impl_CustomersOk.l0]
    rw [if_neg (by omega)]
    exact ⟨_, rfl, by rw [decide_eq_true_iff]; exact ⟨fun h => ⟨by omega, fun j h1 h2 => absurd h1 (by omega)⟩, fun h => by have := h.1; omega⟩⟩
  | succ d ih =>
    intro k i hi hk
    obtain ⟨k, rfl⟩ : ∃ m, k = m + 1 := ⟨k - 1, by omega⟩
    obtain ⟨b, hb, hbt⟩ := ih k (i + 1) (by omega) (by omega)
    have no : (¬ okAt (cm l) (nd l) i) → (∃ b, some false = some b ∧ (b = true ↔ l.length ≤ 8 ∧ ∀ j, i ≤ j → j < l.length → okAt (cm l) (nd l) j)) := fun h => ⟨false, rfl, ⟨fun h0 => (by cases h0), fun h0 => absurd (h0.2 i (by omega) (by omega)) h⟩⟩
    have yes : okAt (cm l) (nd l) i → (∃ b, impl_CustomersOk.l0 k l l (l.length : Int) ((i + 1 : Nat) : Int) = some b ∧ (b = true ↔ l.length ≤ 8 ∧ ∀ j, i ≤ j → j < l.length → okAt (cm l) (nd l) j)) := fun h => by
      refine ⟨b, hb, hbt.trans ⟨fun h0 => ⟨h0.1, fun j h1 h2 => ?_⟩, fun h0 => ⟨h0.1, fun j h1 h2 => h0.2 j (by omega) h2⟩⟩⟩
      by_cases e : j = i
      · subst e; exact h
      · exact h0.2 j (by omega) h2
    simp only [impl_CustomersOk.l0]
    rw [if_pos (by omega), if_pos (by omega), if_pos (by omega), st (n := l.length) (by omega) hl]
    rw [cm_eq l i, nd_eq l i]
    by_cases h1 : cm l i < 0
    · rw [if_pos h1]; exact no (fun h => by have := h.1; omega)
    rw [if_neg h1]
    by_cases h2 : cm l i > 60
    · rw [if_pos h2]; exact no (fun h => by have := h.2.1; omega)
    rw [if_neg h2]
    by_cases h0 : i = 0
    · subst h0
      rw [if_neg (by simp)]
      by_cases h3 : nd l 0 < 1
      · rw [if_pos h3]; exact no (fun h => by have := h.2.2.1; omega)
      rw [if_neg h3]
      by_cases h4 : nd l 0 > 9
      · rw [if_pos h4]; exact no (fun h => by have := h.2.2.2.1; omega)
      rw [if_neg h4]
      exact yes ⟨by omega, by omega, by omega, by omega, fun h => by omega⟩
    · rw [if_pos (by omega), pd (by omega) (by omega), if_pos (by omega), if_pos (by omega)]
      rw [cm_eq l (i - 1)]
      by_cases h5 : cm l i < cm l (i - 1)
      · rw [if_pos h5]; exact no (fun h => by have := h.2.2.2.2 (by omega); omega)
      rw [if_neg h5]
      by_cases h3 : nd l i < 1
      · rw [if_pos h3]; exact no (fun h => by have := h.2.2.1; omega)
      rw [if_neg h3]
      by_cases h4 : nd l i > 9
      · rw [if_pos h4]; exact no (fun h => by have := h.2.2.2.1; omega)
      rw [if_neg h4]
      exact yes ⟨by omega, by omega, by omega, by omega, fun h => by omega⟩
theorem impl_CustomersOk_e (l : List S46) (hl : l.length ≤ 9000000000000000000) {k : Nat} (hk : l.length < k) : ∃ b, impl_CustomersOk.f k l = some b ∧ (b = true ↔ ok l) := by
  obtain ⟨b, h1, h2⟩ := impl_CustomersOk_l l hl l.length k 0 (by omega) hk
  exact ⟨b, h1, h2.trans ⟨fun h => ⟨h.1, fun i hi => h.2 i (Nat.zero_le _) hi⟩, fun h => ⟨h.1, fun i _ hi => h.2 i hi⟩⟩⟩
theorem impl_CustomersOk_t {l : List S46} (h : ok l) {k : Nat} (hk : l.length < k) : impl_CustomersOk.f k l = some true := by
  obtain ⟨b, h1, h2⟩ := impl_CustomersOk_e l (by have := h.1; omega) hk
  rw [h1, h2.2 h]
theorem impl_CustomersOk_n {l : List S46} (hl : l.length ≤ 9000000000000000000) (h : ¬ ok l) {k : Nat} (hk : l.length < k) : impl_CustomersOk.f k l = some false := by
  obtain ⟨b, h1, h2⟩ := impl_CustomersOk_e l hl hk
  rw [h1]
  cases b with
  | true => exact absurd (h2.1 rfl) h
  | false => rfl

theorem laws_alive_e {k : Nat} (hk : 2 < k) : laws_alive.f k = some true := by
  unfold laws_alive.f
  have h1 : ok [(⟨0, 1⟩ : S46)] := by
    refine ⟨by simp, fun i hi => ?_⟩
    obtain rfl : i = 0 := by simp at hi; omega
    refine ⟨by simp [cm, rd_T46], by simp [cm, rd_T46], by simp [nd, rd_T46], by simp [nd, rd_T46], fun h => by omega⟩
  have h2 : ¬ ok [(⟨0, 0⟩ : S46)] := by
    intro h
    have := (h.2 0 (by simp)).2.2.1
    simp [nd, rd_T46] at this
  rw [impl_CustomersOk_t h1 (by simp; omega), impl_CustomersOk_n (by simp) h2 (by simp; omega)]
  simp

theorem spec_l1In_e (a b c : Int) : ∃ r, spec_l1In.f a b c = some r ∧ (r = true ↔ b ≤ a ∧ a ≤ c) := by
  unfold spec_l1In.f
  by_cases h : a ≥ b
  · rw [if_pos h]; exact ⟨_, rfl, by rw [decide_eq_true_iff]; exact ⟨fun h1 => ⟨h, h1⟩, fun h1 => h1.2⟩⟩
  · rw [if_neg h]; exact ⟨false, rfl, ⟨fun h1 => (by cases h1), fun h1 => absurd h1.1 h⟩⟩
theorem spec_l1In_t {a b c : Int} (h0 : b ≤ a) (h1 : a ≤ c) : spec_l1In.f a b c = some true := by
  unfold spec_l1In.f
  rw [if_pos h0, decide_eq_true h1]
theorem spec_l1In_n {a b c : Int} (h : ¬ (b ≤ a ∧ a ≤ c)) : spec_l1In.f a b c = some false := by
  unfold spec_l1In.f
  by_cases h0 : a ≥ b
  · rw [if_pos h0, decide_eq_false (fun h1 => h ⟨h0, h1⟩)]
  · rw [if_neg h0]
theorem spec_CustomersOk_l (l : List S46) (hl : l.length ≤ 9000000000000000000) : ∀ (d k i : Nat), i + d = l.length → d < k →
    ∃ b, spec_CustomersOk.l0 k l (i : Int) = some b ∧ (b = true ↔ l.length ≤ 8 ∧ ∀ j, i ≤ j → j < l.length → okAt (cm l) (nd l) j) := by
  intro d
  induction d with
  | zero =>
    intro k i hi hk
    obtain ⟨k, rfl⟩ : ∃ m, k = m + 1 := ⟨k - 1, by omega⟩
    simp only [spec_CustomersOk.l0]
    rw [if_neg (by omega)]
    exact ⟨_, rfl, by rw [decide_eq_true_iff]; exact ⟨fun h => ⟨by omega, fun j h1 h2 => absurd h1 (by omega)⟩, fun h => by have := h.1; omega⟩⟩
  | succ d ih =>
    intro k i hi hk
    obtain ⟨k, rfl⟩ : ∃ m, k = m + 1 := ⟨k - 1, by omega⟩
    obtain ⟨b, hb, hbt⟩ := ih k (i + 1) (by omega) (by omega)
    have no : (¬ okAt (cm l) (nd l) i) → (∃ b, some false = some b ∧ (b = true ↔ l.length ≤ 8 ∧ ∀ j, i ≤ j → j < l.length → okAt (cm l) (nd l) j)) := fun h => ⟨false, rfl, ⟨fun h0 => (by cases h0), fun h0 => absurd (h0.2 i (by omega) (by omega)) h⟩⟩
    have yes : okAt (cm l) (nd l) i → (∃ b, spec_CustomersOk.l0 k l ((i + 1 : Nat) : Int) = some b ∧ (b = true ↔ l.length ≤ 8 ∧ ∀ j, i ≤ j → j < l.length → okAt (cm l) (nd l) j)) := fun h => by
      refine ⟨b, hb, hbt.trans ⟨fun h0 => ⟨h0.1, fun j h1 h2 => ?_⟩, fun h0 => ⟨h0.1, fun j h1 h2 => h0.2 j (by omega) h2⟩⟩⟩
      by_cases e : j = i
      · subst e; exact h
      · exact h0.2 j (by omega) h2
    simp only [spec_CustomersOk.l0]
    rw [if_pos (by omega), if_pos (by omega), st (n := l.length) (by omega) hl]
    rw [cm_eq l i, nd_eq l i]
    by_cases h1 : 0 ≤ cm l i ∧ cm l i ≤ 60
    · rw [spec_l1In_t h1.1 h1.2]
      simp only [bs, if_true]
      by_cases h2 : 1 ≤ nd l i ∧ nd l i ≤ 9
      · rw [spec_l1In_t h2.1 h2.2]
        simp only [bs, if_true]
        by_cases h0 : i = 0
        · subst h0
          rw [if_neg (by simp)]
          exact yes ⟨by omega, by omega, by omega, by omega, fun h => by omega⟩
        · rw [if_pos (by omega), pd (by omega) (by omega), if_pos (by omega), if_pos (by omega)]
          rw [cm_eq l (i - 1)]
          by_cases h5 : cm l i < cm l (i - 1)
          · rw [if_pos h5]; exact no (fun h => by have := h.2.2.2.2 (by omega); omega)
          rw [if_neg h5]
          exact yes ⟨by omega, by omega, by omega, by omega, fun h => by omega⟩
      · rw [spec_l1In_n h2]
        exact no (fun h => h2 ⟨h.2.2.1, h.2.2.2.1⟩)
    · rw [spec_l1In_n h1]
      exact no (fun h => h1 ⟨h.1, h.2.1⟩)
theorem spec_CustomersOk_e (l : List S46) (hl : l.length ≤ 9000000000000000000) {k : Nat} (hk : l.length < k) : ∃ b, spec_CustomersOk.f k l = some b ∧ (b = true ↔ ok l) := by
  obtain ⟨b, h1, h2⟩ := spec_CustomersOk_l l hl l.length k 0 (by omega) hk
  exact ⟨b, h1, h2.trans ⟨fun h => ⟨h.1, fun i hi => h.2 i (Nat.zero_le _) hi⟩, fun h => ⟨h.1, fun i _ hi => h.2 i hi⟩⟩⟩
theorem spec_CustomersOk_t {l : List S46} (h : ok l) {k : Nat} (hk : l.length < k) : spec_CustomersOk.f k l = some true := by
  obtain ⟨b, h1, h2⟩ := spec_CustomersOk_e l (by have := h.1; omega) hk
  rw [h1, h2.2 h]
theorem spec_CustomersOk_n {l : List S46} (hl : l.length ≤ 9000000000000000000) (h : ¬ ok l) {k : Nat} (hk : l.length < k) : spec_CustomersOk.f k l = some false := by
  obtain ⟨b, h1, h2⟩ := spec_CustomersOk_e l hl hk
  rw [h1]
  cases b with
  | true => exact absurd (h2.1 rfl) h
  | false => rfl

-- MATH V
theorem spec_l3Work_l1 {l : List S46} (h : ok l) (A : Int) {x : List Int} (hx : x.length < 17592186044416) {w : Int} (hw : 0 ≤ w ∧ w ≤ 1000) (t : Nat) (ht : t ≤ 1000) : ∀ (d k i : Nat), i + d = l.length → d < k →
    spec_l3Work.l1 k l A x (w + ar (cm l) (nd l) t i) (t : Int) (i : Int) = spec_l3Work.l0 (k - (d + 1)) l A (x ++ [w + arr (cm l) (nd l) l.length t]) (mx 0 (w + arr (cm l) (nd l) l.length t - 1)) ((t + 1 : Nat) : Int) := by
  intro d
  have hl := h.len
  induction d with
  | zero =>
    intro k i hi hk
    obtain ⟨k, rfl⟩ : ∃ m, k = m + 1 := ⟨k - 1, by omega⟩
    have e : i = l.length := by omega
    have hr := ar_rng h t i (by omega)
    simp only [spec_l3Work.l1]
    rw [if_neg (by omega), if_pos hx, wr (x := w + ar (cm l) (nd l) t i - 1) (by omega) (by omega), e, ar_all, mx_comm0, st (n := 2000) (by omega) (by omega)]
    rfl
  | succ d ih =>
    intro k i hi hk
    obtain ⟨k, rfl⟩ : ∃ m, k = m + 1 := ⟨k - 1, by omega⟩
    have e := ih k (i + 1) (by omega) (by omega)
    have hr := ar_rng h t i (by omega)
    have hn := h.need (i := i) (by omega)
    rw [ar_succ] at e
    simp only [spec_l3Work.l1]
    rw [if_pos (by omega), if_pos (by omega), cm_eq, nd_eq, st (n := l.length) (by omega) (by omega), show k + 1 - (d + 1 + 1) = k - (d + 1) from by omega]
    by_cases hc : cm l i = (t : Int)
    · rw [if_pos hc] at e ⊢
      rw [wr (by omega) (by omega), Int.add_assoc]
      exact e
    · rw [if_neg hc] at e ⊢
      rw [Int.add_zero] at e
      exact e
theorem spec_l3Work_l {l : List S46} (h : ok l) (A : Nat) (hA : A ≤ 500) : ∀ (d k t : Nat), t + d = A + 1 → d * 11 + 2 < k → spec_l3Work.l0 k l (A : Int) (tab (wk (cm l) (nd l) l.length) t) (pre (cm l) (nd l) l.length t) (t : Int) = some (tab (wk (cm l) (nd l) l.length) (A + 1)) := by
  intro d
  have hl := h.len
  induction d with
  | zero =>
    intro k t hi hk
    obtain ⟨k, rfl⟩ : ∃ m, k = m + 1 := ⟨k - 1, by omega⟩
    simp only [spec_l3Work.l0]
    rw [if_neg (by omega), show t = A + 1 from by omega]
  | succ d ih =>
    intro k t hi hk
    obtain ⟨k, rfl⟩ : ∃ m, k = m + 1 := ⟨k - 1, by omega⟩
    have hp := pre_rng h t
    simp only [spec_l3Work.l0]
    rw [if_pos (by omega)]
    have e := spec_l3Work_l1 h (A : Int) (x := tab (wk (cm l) (nd l) l.length) t) (by rw [tab_length]; omega) (w := pre (cm l) (nd l) l.length t) (by omega) t (by omega) l.length k 0 (by omega) (by omega)
    rw [ar_zero, Int.add_zero, ← wk_pre, ← tab_snoc (wk (cm l) (nd l) l.length), ← pre_succ] at e
    refine Eq.trans e ?_
    exact ih (k - (l.length + 1)) (t + 1) (by omega) (by omega)
theorem spec_l3Work_t {l : List S46} (h : ok l) (A : Nat) (hA : A ≤ 200) {k : Nat} (hk : 2300 < k) : spec_l3Work.f k l (A : Int) = some (tab (wk (cm l) (nd l) l.length) (A + 1)) :=
  spec_l3Work_l h A (by omega) (A + 1) k 0 (by omega) (by omega)

-- MATH P
/-- An element of rows of numbers. -/
theorem rdl_eq (xs : List (List Int)) (j : Nat) : rd_L2 xs (j : Int) = xs.getD j [] := rfl
theorem rdl_prs (s : Prs) {j : Nat} (h : j < s.q) : rd_L2 (prs s) (j : Int) = [s.b j, s.e j] := by rw [rdl_eq]; exact prs_get s h
theorem rd2_0 (a b : Int) : rd [a, b] 0 = a := rfl
theorem rd2_1 (a b : Int) : rd [a, b] 1 = b := rfl
/-- The busy periods of customers. -/
def bp (l : List S46) : Prs := bz (wk (cm l) (nd l) l.length) 200
theorem bp_ok (l : List S46) : Pok (wk (cm l) (nd l) l.length) 200 (bp l) := bz_ok _ 200

-- PRE prs0
theorem spec_BusyOf_l (W : Nat → Int) : ∀ (d k m : Nat), m + d = 200 → d < k → spec_BusyOf.l0 k (prs (bz W m)) (tab W 201) (m : Int) = some (prs (bz W 200)) := by
  intro d
  induction d with
  | zero =>
    intro k m hm hk
    obtain ⟨k, rfl⟩ : ∃ m, k = m + 1 := ⟨k - 1, by omega⟩
    simp only [spec_BusyOf.l0]
    rw [if_neg (by omega), show m = 200 from by omega]
  | succ d ih =>
    intro k m hm hk
    obtain ⟨k, rfl⟩ : ∃ m, k = m + 1 := ⟨k - 1, by omega⟩
    have e := ih k (m + 1) (by omega) (by omega)
    have hp := bz_ok W m
    have hf := hp.few
    rw [bz_succ] at e
    simp only [spec_BusyOf.l0]
    rw [if_pos (by omega), if_pos (by omega), tab_length, if_pos (by omega), tab_rd _ (by omega), st (n := 300) (by omega) (by omega), prs_length]
    by_cases hw : W m = 0
    · rw [if_pos hw] at e ⊢
      exact e
    · rw [if_neg hw] at e ⊢
      by_cases h0 : 0 < (bz W m).q
      · rw [pd h0 (by omega), if_pos (by omega), if_pos (by omega), if_pos (by omega), rdl_prs _ (show (bz W m).q - 1 < (bz W m).q by omega), if_pos (by simp), rd2_1, rd2_0, Int.toNat_natCast]
        by_cases hl : (bz W m).e ((bz W m).q - 1) = (m : Int)
        · rw [if_pos ⟨h0, hl⟩] at e
          rw [if_pos hl, if_pos (by simp), prs_last _ h0]
          exact e
        · rw [if_neg (fun hh => hl hh.2)] at e
          rw [if_neg hl, if_pos (by omega), prs_snoc]
          exact e
      · rw [if_neg (fun hh => h0 hh.1)] at e
        rw [if_neg (by rw [show (bz W m).q = 0 from by omega, wr (by omega) (by omega)]; omega), if_pos (by omega), prs_snoc]
        exact e
theorem spec_BusyOf_t {l : List S46} (h : ok l) {k : Nat} (hk : 2300 < k) : spec_BusyOf.f k l = some (prs (bp l)) := by
  have hl := h.len
  have hw : spec_l3Work.f k l 200 = some (tab (wk (cm l) (nd l) l.length) 201) := spec_l3Work_t h 200 (by omega) (by omega)
  unfold spec_BusyOf.f
  rw [bs, spec_CustomersOk_t h (by omega), bs, if_pos rfl, hw, bs]
  exact spec_BusyOf_l _ 200 k 0 (by omega) (by omega)
theorem spec_BusyOf_n {l : List S46} (hl : l.length ≤ 9000000000000000000) (h : ¬ ok l) {k : Nat} (hk : l.length + 1 < k) : spec_BusyOf.f k l = some [] := by
  unfold spec_BusyOf.f
  rw [bs, spec_CustomersOk_n hl h (by omega), bs, if_neg (by simp)]

theorem laws_sameInts_l (a : List Int) (ha : a.length ≤ 9000000000000000000) : ∀ (d k i : Nat), i + d = a.length → d < k → laws_sameInts.l0 k a a (i : Int) = some true := by
  intro d
  induction d with
  | zero =>
    intro k i hi hk
    obtain ⟨k, rfl⟩ : ∃ m, k = m + 1 := ⟨k - 1, by omega⟩
    simp only [laws_sameInts.l0]
    rw [if_neg (by omega)]
  | succ d ih =>
    intro k i hi hk
    obtain ⟨k, rfl⟩ : ∃ m, k = m + 1 := ⟨k - 1, by omega⟩
    simp only [laws_sameInts.l0]
    rw [if_pos (by omega), if_pos (by omega), if_pos (by omega), st (n := a.length) (by omega) (by omega)]
    simp only [if_true]
    exact ih k (i + 1) (by omega) (by omega)
theorem laws_sameInts_e (a : List Int) (ha : a.length ≤ 9000000000000000000) {k : Nat} (hk : a.length < k) : laws_sameInts.f k a a = some true := by
  unfold laws_sameInts.f
  rw [if_pos rfl]
  exact laws_sameInts_l a ha a.length k 0 (by omega) hk

theorem spec_ComeIn_l {l : List S46} (hl : l.length ≤ 1048576) {s : Prs} {p : Nat} (hp : p < s.q) (hq : s.q ≤ 300) (hb : -1 ≤ s.e p ∧ s.e p ≤ 300) : ∀ (d k i : Nat), i + d = l.length → 2 * d + 1 < k →
    spec_ComeIn.l0 k l (p : Int) (cin (cm l) (s.b p) (s.e p) i) (prs s) (i : Int) = some (cin (cm l) (s.b p) (s.e p) l.length) := by
  intro d
  induction d with
  | zero =>
    intro k i hi hk
    obtain ⟨k, rfl⟩ : ∃ m, k = m + 1 + 1 := ⟨k - 2, by omega⟩
    simp only [spec_ComeIn.l0, spec_ComeIn.j1]
    rw [if_neg (by omega), if_neg (by simp), show i = l.length from by omega]
  | succ d ih =>
    intro k i hi hk
    obtain ⟨k, rfl⟩ : ∃ m, k = m + 1 + 1 := ⟨k - 2, by omega⟩
    have e := ih k (i + 1) (by omega) (by omega)
    have hc := cin_length (cm l) (s.b p) (s.e p) i
    rw [cin_succ] at e
    simp only [spec_ComeIn.l0, spec_ComeIn.j1]
    rw [if_pos (by omega), prs_length, pd (by omega) (by omega), spec_l1In_t (by omega) (by omega), bs, if_pos rfl, if_pos (by omega), if_pos (by omega), if_pos (by omega), if_pos (by omega), rdl_prs s hp, if_pos (by simp), if_pos (by simp), rd2_0, rd2_1, cm_eq, wr (x := s.e p - 1) (by omega) (by omega), st (n := l.length) (by omega) (by omega)]
    by_cases hh : s.b p ≤ cm l i ∧ cm l i < s.e p
    · rw [if_pos hh] at e
      rw [spec_l1In_t hh.1 (by omega), bs, if_pos rfl, if_pos (by omega)]
      exact e
    · rw [if_neg hh] at e
      rw [spec_l1In_n (fun q => hh ⟨q.1, by omega⟩), bs, if_neg (by simp)]
      exact e
theorem spec_ComeIn_out {l : List S46} {xs : List (List Int)} (hx : xs.length ≤ 300) {p : Int} (hp : ¬ (0 ≤ p ∧ p < (xs.length : Int))) {k : Nat} (hk : 2 < k) : spec_ComeIn.l0 k l p [] xs 0 = some [] := by
  obtain ⟨k, rfl⟩ : ∃ m, k = m + 1 + 1 := ⟨k - 2, by omega⟩
  simp only [spec_ComeIn.l0, spec_ComeIn.j1]
  by_cases h0 : (0 : Int) < (l.length : Int)
  · rw [if_pos h0, wr (by omega) (by omega), spec_l1In_n (fun q => hp ⟨q.1, by omega⟩), bs, if_neg (by simp)]
  · rw [if_neg h0, if_neg (by simp)]
theorem spec_ComeIn_t {l : List S46} (h : ok l) {p : Nat} (hp : p < (bp l).q) {k : Nat} (hk : 2300 < k) : spec_ComeIn.f k l (p : Int) = some (cin (cm l) ((bp l).b p) ((bp l).e p) l.length) := by
  have hl := h.len
  have hb := bp_ok l
  have hr := hb.rng p hp
  have hf := hb.few
  unfold spec_ComeIn.f
  rw [spec_BusyOf_t h hk, bs]
  exact spec_ComeIn_l (by omega) (s := bp l) hp (by omega) (by omega) l.length k 0 (by omega) (by omega)
theorem spec_ComeIn_n {l : List S46} (hl : l.length ≤ 9000000000000000000) {p : Int} (h : ¬ (ok l ∧ 0 ≤ p ∧ p < ((bp l).q : Int))) {k : Nat} (hk : l.length + 2300 < k) : spec_ComeIn.f k l p = some [] := by
  unfold spec_ComeIn.f
  by_cases ho : ok l
  · have hb := bp_ok l
    have hf := hb.few
    rw [spec_BusyOf_t ho (by omega), bs]
    exact spec_ComeIn_out (by rw [prs_length]; omega) (fun q => h ⟨ho, q.1, by have := q.2; rw [prs_length] at this; exact this⟩) (by omega)
  · rw [spec_BusyOf_n hl ho (by omega), bs]
    exact spec_ComeIn_out (by simp) (fun q => by have := q.2; simp only [List.length_nil] at this; omega) (by omega)

-- MATH V
theorem impl_works_l1 {l : List S46} (h : ok l) (A : Int) {x : List Int} (hx : x.length < 17592186044416) {w : Int} (hw : 0 ≤ w ∧ w ≤ 1000) (t : Nat) (ht : t ≤ 1000) : ∀ (d k i : Nat), i + d = l.length → d < k →
    impl_works.l1 k l A x (w + ar (cm l) (nd l) t i) (t : Int) (i : Int) = impl_works.l0 (k - (d + 1)) l A (x ++ [w + arr (cm l) (nd l) l.length t]) (mx 0 (w + arr (cm l) (nd l) l.length t - 1)) ((t + 1 : Nat) : Int) := by
  intro d
  have hl := h.len
  induction d with
  | zero =>
    intro k i hi hk
    obtain ⟨k, rfl⟩ : ∃ m, k = m + 1 := ⟨k - 1, by omega⟩
    have e : i = l.length := by omega
    have hr := ar_rng h t i (by omega)
    simp only [impl_works.l1]
    rw [if_neg (by omega), if_pos hx, wr (x := w + ar (cm l) (nd l) t i - 1) (by omega) (by omega), e, ar_all, mx_comm0, st (n := 2000) (by omega) (by omega)]
    rfl
  | succ d ih =>
    intro k i hi hk
    obtain ⟨k, rfl⟩ : ∃ m, k = m + 1 := ⟨k - 1, by omega⟩
    have e := ih k (i + 1) (by omega) (by omega)
    have hr := ar_rng h t i (by omega)
    have hn := h.need (i := i) (by omega)
    rw [ar_succ] at e
    simp only [impl_works.l1]
    rw [if_pos (by omega), if_pos (by omega), cm_eq, nd_eq, st (n := l.length) (by omega) (by omega), show k + 1 - (d + 1 + 1) = k - (d + 1) from by omega]
    by_cases hc : cm l i = (t : Int)
    · rw [if_pos hc] at e ⊢
      rw [wr (by omega) (by omega), Int.add_assoc]
      exact e
    · rw [if_neg hc] at e ⊢
      rw [Int.add_zero] at e
      exact e
theorem impl_works_l {l : List S46} (h : ok l) (A : Nat) (hA : A ≤ 500) : ∀ (d k t : Nat), t + d = A + 1 → d * 11 + 2 < k → impl_works.l0 k l (A : Int) (tab (wk (cm l) (nd l) l.length) t) (pre (cm l) (nd l) l.length t) (t : Int) = some (tab (wk (cm l) (nd l) l.length) (A + 1)) := by
  intro d
  have hl := h.len
  induction d with
  | zero =>
    intro k t hi hk
    obtain ⟨k, rfl⟩ : ∃ m, k = m + 1 := ⟨k - 1, by omega⟩
    simp only [impl_works.l0]
    rw [if_neg (by omega), show t = A + 1 from by omega]
  | succ d ih =>
    intro k t hi hk
    obtain ⟨k, rfl⟩ : ∃ m, k = m + 1 := ⟨k - 1, by omega⟩
    have hp := pre_rng h t
    simp only [impl_works.l0]
    rw [if_pos (by omega)]
    have e := impl_works_l1 h (A : Int) (x := tab (wk (cm l) (nd l) l.length) t) (by rw [tab_length]; omega) (w := pre (cm l) (nd l) l.length t) (by omega) t (by omega) l.length k 0 (by omega) (by omega)
    rw [ar_zero, Int.add_zero, ← wk_pre, ← tab_snoc (wk (cm l) (nd l) l.length), ← pre_succ] at e
    refine Eq.trans e ?_
    exact ih (k - (l.length + 1)) (t + 1) (by omega) (by omega)
theorem impl_works_t {l : List S46} (h : ok l) {k : Nat} (hk : 2300 < k) : impl_works.f k l = some (tab (wk (cm l) (nd l) l.length) 201) :=
  impl_works_l h 200 (by omega) (200 + 1) k 0 (by omega) (by omega)

-- PRE prs0
-- PRE impl_works
theorem impl_BusyOf_l (W : Nat → Int) : ∀ (d k m : Nat), m + d = 201 → d < k → impl_BusyOf.l0 k (prs (bz W m)) (tab W 201) (m : Int) = some (prs (bz W 201)) := by
  intro d
  induction d with
  | zero =>
    intro k m hm hk
    obtain ⟨k, rfl⟩ : ∃ m, k = m + 1 := ⟨k - 1, by omega⟩
    simp only [impl_BusyOf.l0]
    rw [if_neg (by omega), show m = 201 from by omega]
  | succ d ih =>
    intro k m hm hk
    obtain ⟨k, rfl⟩ : ∃ m, k = m + 1 := ⟨k - 1, by omega⟩
    have e := ih k (m + 1) (by omega) (by omega)
    have hp := bz_ok W m
    have hf := hp.few
    rw [bz_succ] at e
    simp only [impl_BusyOf.l0]
    rw [if_pos (by omega), if_pos (by omega), tab_rd _ (by omega), st (n := 300) (by omega) (by omega), prs_length]
    by_cases hw : W m = 0
    · rw [if_pos hw] at e ⊢
      exact e
    · rw [if_neg hw] at e ⊢
      by_cases h0 : 0 < (bz W m).q
      · rw [if_pos (by omega), pd h0 (by omega), if_pos (by omega), if_pos (by omega), rdl_prs _ (show (bz W m).q - 1 < (bz W m).q by omega), if_pos (by simp), rd2_1, Int.toNat_natCast]
        by_cases hl : (bz W m).e ((bz W m).q - 1) = (m : Int)
        · rw [if_pos ⟨h0, hl⟩] at e
          rw [if_pos hl, hl, wr (by omega) (by omega)]
          rw [show (([(bz W m).b ((bz W m).q - 1), (m : Int)] : List Int).set (1 : Int).toNat ((m : Int) + 1)) = [(bz W m).b ((bz W m).q - 1), (m : Int) + 1] from rfl, prs_last _ h0]
          exact e
        · rw [if_neg (fun hh => hl hh.2)] at e
          rw [if_neg hl, if_pos (by omega), prs_snoc]
          exact e
      · rw [if_neg (fun hh => h0 hh.1)] at e
        rw [if_neg (by omega), if_pos (by omega), prs_snoc]
        exact e
theorem impl_BusyOf_t {l : List S46} (h : ok l) {k : Nat} (hk : 2300 < k) : impl_BusyOf.f k l = some (prs (bp l)) := by
  have hl := h.len
  have ht := LL_top h
  unfold impl_BusyOf.f
  rw [impl_CustomersOk_t h (by omega), bs, if_pos rfl, impl_works_t h hk, bs]
  have e := impl_BusyOf_l (wk (cm l) (nd l) l.length) 201 k 0 (by omega) (by omega)
  rw [bz_succ (wk (cm l) (nd l) l.length) 200, if_pos (wk_end h (by omega))] at e
  exact e
theorem impl_BusyOf_n {l : List S46} (hl : l.length ≤ 9000000000000000000) (h : ¬ ok l) {k : Nat} (hk : l.length + 1 < k) : impl_BusyOf.f k l = some [] := by
  unfold impl_BusyOf.f
  rw [impl_CustomersOk_n hl h (by omega), bs, if_neg (by simp)]

theorem impl_ComeIn_l {l : List S46} (hl : l.length ≤ 1048576) {s : Prs} {p : Nat} (hp : p < s.q) : ∀ (d k i : Nat), i + d = l.length → d < k →
    impl_ComeIn.l0 k (p : Int) (prs s) (cin (cm l) (s.b p) (s.e p) i) l (l.length : Int) (i : Int) = some (cin (cm l) (s.b p) (s.e p) l.length) := by
  intro d
  induction d with
  | zero =>
    intro k i hi hk
    obtain ⟨k, rfl⟩ : ∃ m, k = m + 1 := ⟨k - 1, by omega⟩
    simp only [impl_ComeIn.l0]
    rw [if_neg (by omega), show i = l.length from by omega]
  | succ d ih =>
    intro k i hi hk
    obtain ⟨k, rfl⟩ : ∃ m, k = m + 1 := ⟨k - 1, by omega⟩
    have e := ih k (i + 1) (by omega) (by omega)
    have hc := cin_length (cm l) (s.b p) (s.e p) i
    rw [cin_succ] at e
    simp only [impl_ComeIn.l0]
    rw [if_pos (by omega), if_pos (by omega), if_pos (by omega), if_pos (by omega), prs_length, if_pos (by omega), rdl_prs s hp, if_pos (by simp), rd2_0, rd2_1, cm_eq, st (n := l.length) (by omega) (by omega)]
    by_cases h1 : cm l i ≥ s.b p
    · rw [if_pos h1, if_pos (by simp)]
      by_cases h2 : cm l i < s.e p
      · rw [if_pos ⟨h1, h2⟩] at e
        rw [if_pos h2, if_pos (by omega)]
        exact e
      · rw [if_neg (fun q => h2 q.2)] at e
        rw [if_neg h2]
        exact e
    · rw [if_neg (fun q => h1 q.1)] at e
      rw [if_neg h1]
      exact e
theorem impl_ComeIn_t {l : List S46} (h : ok l) {p : Nat} (hp : p < (bp l).q) {k : Nat} (hk : 2300 < k) : impl_ComeIn.f k l (p : Int) = some (cin (cm l) ((bp l).b p) ((bp l).e p) l.length) := by
  have hl := h.len
  unfold impl_ComeIn.f
  obtain ⟨k, rfl⟩ : ∃ m, k = m + 1 := ⟨k - 1, by omega⟩
  rw [impl_CustomersOk_t h (by omega), bs, if_pos rfl, impl_BusyOf_t h hk, bs, if_neg (by omega), prs_length, decide_eq_false (by omega)]
  simp only [impl_ComeIn.j0, Bool.false_eq_true, if_false]
  exact impl_ComeIn_l (by omega) (s := bp l) hp l.length k 0 (by omega) (by omega)
theorem impl_ComeIn_n {l : List S46} (hl : l.length ≤ 9000000000000000000) {p : Int} (h : ¬ (ok l ∧ 0 ≤ p ∧ p < ((bp l).q : Int))) {k : Nat} (hk : l.length + 2300 < k) : impl_ComeIn.f k l p = some [] := by
  unfold impl_ComeIn.f
  obtain ⟨k, rfl⟩ : ∃ m, k = m + 1 := ⟨k - 1, by omega⟩
  by_cases ho : ok l
  · rw [impl_CustomersOk_t ho (by omega), bs, if_pos rfl, impl_BusyOf_t ho (by omega), bs]
    simp only [impl_ComeIn.j0]
    by_cases h0 : p < 0
    · rw [if_pos h0, if_pos (by first | rfl | trivial)]
    · have hge : p ≥ ((bp l).q : Int) := Int.not_lt.1 (fun q => h ⟨ho, by omega, q⟩)
      rw [if_neg h0, prs_length, decide_eq_true hge, if_pos rfl]
  · rw [impl_CustomersOk_n hl ho (by omega), bs, if_neg (by simp)]

theorem l20Open_e (l : List Int) (h : ∀ x ∈ l, (Lit.int .u8 x).wf = true) : ∃ b, spec_l20Open.f l = some (b, 0) ∧ Src b := by
  have hb := bytes_of h
  unfold spec_l20Open.f
  by_cases h1 : (l.length : Int) > 2000
  · rw [if_pos h1, if_pos (by omega)]
    exact ⟨_, rfl, ⟨fun x hx => hb x (List.mem_of_mem_take hx), by rw [List.length_take]; omega⟩⟩
  · rw [if_neg h1]
    exact ⟨_, rfl, ⟨hb, by omega⟩⟩

-- MATH D
theorem pick_e {b : List Int} (hb : Src b) {p n : Int} (hp : 0 ≤ p ∧ p ≤ 1000000) (hn : n ≤ 1000000) {k : Nat} (hk : 0 < k) :
    ∃ r, spec_l20Rd_pick.f k b p n = some (r, p + 1) ∧ 0 ≤ r ∧ (1 ≤ n → r < n) ∧ (n < 1 → r = 0) := by
  obtain ⟨k, rfl⟩ : ∃ m, k = m + 1 := ⟨k - 1, by omega⟩
  have hlen := hb.len
  unfold spec_l20Rd_pick.f
  rw [wr (x := p + 1) (by omega) (by omega)]
  by_cases h1 : n < 1
  · rw [if_pos h1]
    simp only [spec_l20Rd_pick.j0, if_true]
    exact ⟨0, rfl, by omega, by omega, fun _ => rfl⟩
  rw [if_neg h1]
  by_cases h2 : b.length = 0
  · rw [show ((b.length : Int) == 0) = true from by rw [beq_iff_eq]; omega]
    simp only [spec_l20Rd_pick.j0, if_true]
    exact ⟨0, rfl, by omega, by omega, fun _ => rfl⟩
  rw [show ((b.length : Int) == 0) = false from by rw [beq_eq_false_iff_ne]; omega]
  simp only [spec_l20Rd_pick.j0, Bool.false_eq_true, if_false]
  rw [wr (x := p + 1 - 1) (by omega) (by omega), show p + 1 - 1 = p from by omega]
  by_cases h3 : p < (b.length : Int)
  · rw [if_pos h3, if_pos hp.1, if_neg (by omega)]
    have hr := rd_rng hb.byte p
    rw [wr (by omega) (by omega)]
    have ht := tmod_rng (a := rd b p) (n := n) hr.1 (by omega)
    exact ⟨_, rfl, ht.1, fun _ => ht.2, fun h => absurd h h1⟩
  · have hL : (0 : Int) < (b.length : Int) := by omega
    have m1 := tmod_rng (a := p) (n := (b.length : Int)) hp.1 hL
    rw [wr (x := p * 7) (by omega) (by omega), wr (x := p * 7 + 3) (by omega) (by omega)]
    have m2 := tmod_rng (a := p * 7 + 3) (n := (b.length : Int)) (by omega) hL
    rw [if_neg h3, if_neg (by omega), if_pos m1.1, if_pos m1.2, if_pos m2.1, if_pos m2.2, if_neg (by omega)]
    have r1 := rd_rng hb.byte (Int.tmod p (b.length : Int))
    have r2 := rd_rng hb.byte (Int.tmod (p * 7 + 3) (b.length : Int))
    have d1 := tdiv_rng (a := p) (n := (b.length : Int)) hp.1 hL
    generalize rd b (Int.tmod p (b.length : Int)) = u at *
    generalize rd b (Int.tmod (p * 7 + 3) (b.length : Int)) = v at *
    generalize Int.tdiv p (b.length : Int) = d at *
    rw [wr (x := u) (by omega) (by omega), wr (x := v) (by omega) (by omega), wr (x := d) (by omega) (by omega)]
    rw [wr (x := u * 131) (by omega) (by omega), wr (x := v * 1117) (by omega) (by omega), wr (x := p * 29) (by omega) (by omega), wr (x := d * 53) (by omega) (by omega)]
    rw [wr (x := u * 131 + v * 1117) (by omega) (by omega), wr (x := u * 131 + v * 1117 + p * 29) (by omega) (by omega), wr (x := u * 131 + v * 1117 + p * 29 + d * 53) (by omega) (by omega)]
    have hx0 : 0 ≤ u * 131 + v * 1117 + p * 29 + d * 53 := by omega
    have hx1 : u * 131 + v * 1117 + p * 29 + d * 53 < 1099511627776 := by omega
    generalize u * 131 + v * 1117 + p * 29 + d * 53 = x at *
    have d2 := tdiv_rng (a := x) (n := 64) hx0 (by omega)
    rw [wr (x := Int.tdiv x 64) (by omega) (by omega)]
    have hx := xor_rng hx0 hx1 d2.1 (by omega)
    have ht := tmod_rng (a := Go.bits .xor .i64 x (Int.tdiv x 64)) (n := n) hx.1 (by omega)
    exact ⟨_, rfl, ht.1, fun _ => ht.2, fun h => absurd h h1⟩

theorem odd_e {b : List Int} (hb : Src b) {p n : Int} (hp : 0 ≤ p ∧ p ≤ 1000000) (hn : n ≤ 1000000) (hn0 : 0 ≤ n) {k : Nat} (hk : 0 < k) :
    ∃ r q, spec_l20Rd_odd.f k b p n = some (r, q) ∧ p ≤ q ∧ q ≤ p + 1 := by
  unfold spec_l20Rd_odd.f
  by_cases h : n > 0
  · obtain ⟨r, h1, _⟩ := pick_e hb hp hn hk
    rw [if_pos h, h1]
    exact ⟨_, _, rfl, by simp only; omega, by simp only; omega⟩
  · rw [if_neg h]
    exact ⟨_, _, rfl, by omega, by omega⟩

/-- Customers as they are drawn: few, and all their numbers small. -/
structure Drawn (l : List S46) : Prop where
  len : l.length ≤ 20
  come : ∀ i : Nat, i < l.length → -1 ≤ cm l i ∧ cm l i ≤ 100
  need : ∀ i : Nat, i < l.length → 0 ≤ nd l i ∧ nd l i ≤ 10
theorem Drawn.snoc {l : List S46} (h : Drawn l) (hl : l.length < 20) {a b : Int} (ha : -1 ≤ a ∧ a ≤ 100) (hb : 0 ≤ b ∧ b ≤ 10) : Drawn (l ++ [(⟨a, b⟩ : S46)]) := by
  have e : ∀ i : Nat, i < (l ++ [(⟨a, b⟩ : S46)]).length → rd_T46 (l ++ [(⟨a, b⟩ : S46)]) (i : Int) = if i < l.length then rd_T46 l (i : Int) else ⟨a, b⟩ := by
    intro i hi
    rw [List.length_append, List.length_singleton] at hi
    unfold rd_T46
    rw [List.getD_eq_getElem?_getD, List.getD_eq_getElem?_getD, Int.toNat_natCast]
    by_cases h0 : i < l.length
    · rw [if_pos h0, List.getElem?_append_left h0]
    · rw [if_neg h0, show i = l.length from by omega]
      simp
  refine ⟨by simp; omega, fun i hi => ?_, fun i hi => ?_⟩
  · unfold cm
    rw [e i hi]
    by_cases h0 : i < l.length
    · rw [if_pos h0]; exact h.come i h0
    · rw [if_neg h0]; exact ha
  · unfold nd
    rw [e i hi]
    by_cases h0 : i < l.length
    · rw [if_pos h0]; exact h.need i h0
    · rw [if_neg h0]; exact hb
theorem Drawn.nil : Drawn ([] : List S46) := ⟨by simp, fun i hi => absurd hi (by simp), fun i hi => absurd hi (by simp)⟩
theorem Drawn.one {a b : Int} (ha : -1 ≤ a ∧ a ≤ 100) (hb : 0 ≤ b ∧ b ≤ 10) : Drawn [(⟨a, b⟩ : S46)] := Drawn.snoc Drawn.nil (by simp) ha hb
theorem l20Customers_l {b : List Int} (hb : Src b) {n : Int} (hn0 : 0 ≤ n) (hn : n ≤ 1000000) {w high : Int} (hw : 1 ≤ w ∧ w ≤ 5) (hh : 3 ≤ high ∧ high ≤ 9) : ∀ (d k : Nat) (l : List S46) (t p : Int), d ≤ 8 → d + 1 < k → l.length + d ≤ 8 → Drawn l →
    0 ≤ t → t + 6 * d ≤ 60 → 0 ≤ p → p + 2 * d ≤ 900000 → ∃ r q, spec_l20Customers.l0 k n l t w high (d : Int) b p = some (r, q) ∧ Drawn r ∧ p ≤ q ∧ q ≤ p + 2 * d + 10 := by
  intro d
  induction d with
  | zero =>
    intro k l t p _ hk hl hD ht ht' hp hp'
    obtain ⟨k, rfl⟩ : ∃ m, k = m + 1 := ⟨k - 1, by omega⟩
    simp only [spec_l20Customers.l0]
    rw [if_neg (by omega)]
    obtain ⟨s, q, e, hq, hq'⟩ := odd_e hb (p := p) (n := n) (by omega) hn hn0 (k := k) (by omega)
    rw [e]
    simp only [bs]
    cases s with
    | false =>
      rw [if_neg (by simp)]
      exact ⟨_, _, rfl, hD, by omega, by omega⟩
    | true =>
      rw [if_pos rfl]
      obtain ⟨r1, e1, h0, h1, _⟩ := pick_e hb (p := q) (n := 3) (by omega) (by omega) (k := k) (by omega)
      rw [e1]
      simp only [bs]
      by_cases c0 : r1 = 0
      · rw [if_pos c0]
        exact ⟨_, _, rfl, Drawn.snoc (Drawn.one (by omega) (by omega)) (by simp) (by omega) (by omega), by omega, by omega⟩
      rw [if_neg c0]
      by_cases c1 : r1 = 1
      · rw [if_pos c1, if_pos (by omega)]
        exact ⟨_, _, rfl, Drawn.snoc hD (by omega) (by omega) (by omega), by omega, by omega⟩
      rw [if_neg c1]
      obtain ⟨r2, e2, g0, g1, _⟩ := pick_e hb (p := q + 1) (n := 2) (by omega) (by omega) (k := k) (by omega)
      rw [e2]
      simp only [bs]
      rw [if_pos g0, if_pos (by simp; omega)]
      refine ⟨_, _, rfl, Drawn.one ?_ (by omega), by omega, by omega⟩
      rcases (show r2 = 0 ∨ r2 = 1 from by omega) with c | c <;> subst c <;> simp [rd]
  | succ d ih =>
    intro k l t p hd hk hl hD ht ht' hp hp'
    obtain ⟨k, rfl⟩ : ∃ m, k = m + 1 := ⟨k - 1, by omega⟩
    simp only [spec_l20Customers.l0]
    rw [if_pos (by omega)]
    obtain ⟨r1, e1, h0, h1, _⟩ := pick_e hb (p := p) (n := high) (by omega) (by omega) (k := k) (by omega)
    rw [e1]
    simp only [bs]
    rw [if_pos (by omega), wr (x := w + 1) (by omega) (by omega)]
    obtain ⟨r2, e2, g0, g1, _⟩ := pick_e hb (p := p + 1) (n := w + 1) (by omega) (by omega) (k := k) (by omega)
    rw [e2]
    simp only [bs]
    rw [wr (x := 1 + r1) (by omega) (by omega), wr (x := t + r2) (by omega) (by omega), wr (x := ((d + 1 : Nat) : Int) - 1) (by omega) (by omega), show ((d + 1 : Nat) : Int) - 1 = (d : Int) from by omega]
    obtain ⟨r, q, e, hr, hq, hq'⟩ := ih k (l ++ [(⟨t, 1 + r1⟩ : S46)]) (t + r2) (p + 1 + 1) (by omega) (by omega) (by simp; omega) (Drawn.snoc hD (by omega) (by omega) (by omega)) (by omega) (by omega) (by omega) (by omega)
    exact ⟨r, q, e, hr, by omega, by omega⟩
theorem l20Customers_e {b : List Int} (hb : Src b) {n p : Int} (hn0 : 0 ≤ n) (hn : n ≤ 1000000) (hp : 0 ≤ p ∧ p ≤ 100000) {k : Nat} (hk : 20 < k) : ∃ r q, spec_l20Customers.f k b p n = some (r, q) ∧ Drawn r ∧ p ≤ q ∧ q ≤ p + 100 := by
  unfold spec_l20Customers.f
  obtain ⟨r1, e1, a0, a1, _⟩ := pick_e hb (p := p) (n := 3) (by omega) (by omega) (k := k) (by omega)
  obtain ⟨r2, e2, b0, b1, _⟩ := pick_e hb (p := p + 1) (n := 5) (by omega) (by omega) (k := k) (by omega)
  obtain ⟨r3, e3, c0, c1, _⟩ := pick_e hb (p := p + 1 + 1) (n := 2) (by omega) (by omega) (k := k) (by omega)
  obtain ⟨r4, e4, d0, d1, _⟩ := pick_e hb (p := p + 1 + 1 + 1) (n := 9) (by omega) (by omega) (k := k) (by omega)
  rw [e1]; simp only [bs]
  rw [e2]; simp only [bs]
  rw [e3]; simp only [bs]
  rw [if_pos c0, if_pos (by simp; omega), e4]
  simp only [bs]
  rw [wr (x := 1 + r2) (by omega) (by omega)]
  have hh : 3 ≤ rd [3, 9] r3 ∧ rd [3, 9] r3 ≤ 9 := by
    rcases (show r3 = 0 ∨ r3 = 1 from by omega) with c | c <;> subst c <;> simp [rd]
  obtain ⟨d, rfl⟩ := Int.eq_ofNat_of_zero_le d0
  obtain ⟨r, q, e, hr, hq, hq'⟩ := l20Customers_l hb hn0 hn (w := 1 + r2) (high := rd [3, 9] r3) (by omega) hh d k [] r1 (p + 1 + 1 + 1 + 1) (by omega) (by omega) (by simp; omega) Drawn.nil (by omega) (by omega) (by omega) (by omega)
  exact ⟨r, q, e, hr, by omega, by omega⟩

theorem spec_DrawComeIn_e (l : List Int) (h : ∀ x ∈ l, (Lit.int .u8 x).wf = true) {k : Nat} (hk : 20 < k) : ∃ r p, spec_DrawComeIn.f k l = some (r, p) ∧ Drawn r ∧ -10 ≤ p ∧ p ≤ 10 := by
  obtain ⟨b, e, hb⟩ := l20Open_e l h
  unfold spec_DrawComeIn.f
  obtain ⟨r, q, e0, hr, hq, hq'⟩ := l20Customers_e hb (n := 12) (p := 0) (by omega) (by omega) (by omega) hk
  obtain ⟨r1, e1, a0, a1, _⟩ := pick_e hb (p := q) (n := 5) (by omega) (by omega) (k := k) (by omega)
  obtain ⟨r2, e2, b0, b1, _⟩ := pick_e hb (p := q + 1) (n := 20) (by omega) (by omega) (k := k) (by omega)
  rw [e]; simp only [bs]
  rw [e0]; simp only [bs]
  rw [e1]; simp only [bs]
  rw [e2]; simp only [bs]
  rw [Int.tdiv_eq_ediv_of_nonneg b0]
  rw [wr (x := r2 / 19) (by omega) (by omega), wr (x := r1 - r2 / 19) (by omega) (by omega)]
  exact ⟨_, _, rfl, hr, by omega, by omega⟩

theorem spec_GapsOf_l {l : List S46} (h : ok l) : ∀ (d k i : Nat), i + 1 + d = l.length → d + 10 < k → spec_GapsOf.l0 k l (tab (fun j => cm l (j + 1) - cm l j) i) ((i + 1 : Nat) : Int) = some (tab (fun j => cm l (j + 1) - cm l j) (l.length - 1)) := by
  intro d
  induction d with
  | zero =>
    intro k i hi hk
    obtain ⟨k, rfl⟩ : ∃ m, k = m + 1 := ⟨k - 1, by omega⟩
    simp only [spec_GapsOf.l0]
    rw [if_neg (by omega), show l.length - 1 = i from by omega]
  | succ d ih =>
    intro k i hi hk
    obtain ⟨k, rfl⟩ : ∃ m, k = m + 1 := ⟨k - 1, by omega⟩
    have hl := h.len
    have h1 := h.come (i := i) (by omega)
    have h2 := h.come (i := i + 1) (by omega)
    simp only [spec_GapsOf.l0]
    rw [if_pos (by omega), spec_CustomersOk_t h (by omega)]
    simp only [bs, if_true]
    rw [if_pos (by omega), pd (by omega) (by omega), if_pos (by omega), if_pos (by omega), tab_length, if_pos (by omega), cm_eq, cm_eq, show i + 1 - 1 = i from by omega, wr (by omega) (by omega), st (n := l.length) (by omega) (by omega)]
    rw [← tab_snoc (fun j => cm l (j + 1) - cm l j)]
    exact ih k (i + 1) (by omega) (by omega)
theorem spec_GapsOf_t {l : List S46} (h : ok l) {k : Nat} (hk : l.length + 20 < k) : spec_GapsOf.f k l = some (tab (fun j => cm l (j + 1) - cm l j) (l.length - 1)) := by
  unfold spec_GapsOf.f
  by_cases hz : l.length = 0
  · obtain ⟨k, rfl⟩ : ∃ m, k = m + 1 := ⟨k - 1, by omega⟩
    simp only [spec_GapsOf.l0]
    rw [if_neg (by omega), hz]
    rfl
  · exact spec_GapsOf_l h (l.length - 1) k 0 (by omega) (by omega)
theorem spec_GapsOf_n {l : List S46} (hl : l.length ≤ 9000000000000000000) (h : ¬ ok l) {k : Nat} (hk : l.length + 1 < k) : spec_GapsOf.f k l = some [] := by
  unfold spec_GapsOf.f
  obtain ⟨k, rfl⟩ : ∃ m, k = m + 1 := ⟨k - 1, by omega⟩
  simp only [spec_GapsOf.l0]
  by_cases h1 : (1 : Int) < (l.length : Int)
  · rw [if_pos h1, spec_CustomersOk_n hl h (by omega)]
    simp
  · rw [if_neg h1]

-- MATH A
theorem spec_WaitsOf_l {l : List S46} (h : ok l) : ∀ (d k i : Nat), i + d = l.length → 2 * d + 20 < k → spec_WaitsOf.l0 k l (tab (wt (cm l) (nd l)) i) (tab (fun j => cm l (j + 1) - cm l j) (l.length - 1)) (i : Int) = some (tab (wt (cm l) (nd l)) l.length) := by
  intro d
  induction d with
  | zero =>
    intro k i hi hk
    obtain ⟨k, rfl⟩ : ∃ m, k = m + 1 + 1 := ⟨k - 2, by omega⟩
    simp only [spec_WaitsOf.l0]
    rw [if_neg (by omega)]
    simp only [spec_WaitsOf.j1, Bool.false_eq_true, if_false]
    rw [show i = l.length from by omega]
  | succ d ih =>
    intro k i hi hk
    obtain ⟨k, rfl⟩ : ∃ m, k = m + 1 + 1 := ⟨k - 2, by omega⟩
    have hl := h.len
    simp only [spec_WaitsOf.l0]
    rw [if_pos (by omega), spec_CustomersOk_t h (by omega)]
    simp only [bs, spec_WaitsOf.j1, if_true]
    rw [tab_length, tab_length, st (n := l.length) (by omega) (by omega), if_pos (show i < 17592186044416 from by omega)]
    cases i with
    | zero =>
      rw [if_pos (by omega)]
      exact ih k 1 (by omega) (by omega)
    | succ i =>
      have h1 := h.come (i := i) (by omega)
      have h2 := h.come (i := i + 1) (by omega)
      have h3 := h.need (i := i) (by omega)
      have h4 := wt_rng h i (by omega)
      have h5 := h.sum0 (j := i) (by omega)
      rw [if_neg (by omega), pd (by omega) (by omega), if_pos (by omega), if_pos (by omega), if_pos (by omega), if_pos (by omega), if_pos (by omega), show i + 1 - 1 = i from by omega, tab_rd _ (by omega), tab_rd _ (by omega), nd_eq]
      rw [wr (x := wt (cm l) (nd l) i + nd l i) (by omega) (by omega), wr (by omega) (by omega)]
      have e : mx (wt (cm l) (nd l) i + nd l i - (cm l (i + 1) - cm l i)) 0 = wt (cm l) (nd l) (i + 1) := by
        rw [wt_succ]
        unfold mx
        split <;> split <;> omega
      rw [e, ← tab_snoc]
      exact ih k (i + 2) (by omega) (by omega)
theorem spec_WaitsOf_t {l : List S46} (h : ok l) {k : Nat} (hk : 3 * l.length + 40 < k) : spec_WaitsOf.f k l = some (tab (wt (cm l) (nd l)) l.length) := by
  unfold spec_WaitsOf.f
  rw [spec_GapsOf_t h (by omega)]
  simp only [bs]
  exact spec_WaitsOf_l h l.length k 0 (by omega) (by omega)
theorem spec_WaitsOf_n {l : List S46} (hl : l.length ≤ 9000000000000000000) (h : ¬ ok l) {k : Nat} (hk : l.length + 10 < k) : spec_WaitsOf.f k l = some [] := by
  unfold spec_WaitsOf.f
  rw [spec_GapsOf_n hl h (by omega)]
  obtain ⟨k, rfl⟩ : ∃ m, k = m + 1 + 1 := ⟨k - 2, by omega⟩
  simp only [bs, spec_WaitsOf.l0, spec_WaitsOf.j1, Bool.false_eq_true, if_false]
  by_cases h1 : (0 : Int) < (l.length : Int)
  · rw [if_pos h1, spec_CustomersOk_n hl h (by omega)]
    simp
  · rw [if_neg h1]

theorem spec_LeavesOf_l {l : List S46} (h : ok l) : ∀ (d k i : Nat), i + d = l.length → d < k → spec_LeavesOf.l0 k l (tab (fun j => LL (cm l) (nd l) (j + 1)) i) (tab (wt (cm l) (nd l)) l.length) (i : Int) = some (tab (fun j => LL (cm l) (nd l) (j + 1)) l.length) := by
  intro d
  induction d with
  | zero =>
    intro k i hi hk
    obtain ⟨k, rfl⟩ : ∃ m, k = m + 1 := ⟨k - 1, by omega⟩
    simp only [spec_LeavesOf.l0]
    rw [tab_length, if_neg (by omega), show i = l.length from by omega]
  | succ d ih =>
    intro k i hi hk
    obtain ⟨k, rfl⟩ : ∃ m, k = m + 1 := ⟨k - 1, by omega⟩
    have hl := h.len
    have h1 := h.come (i := i) (by omega)
    have h3 := h.need (i := i) (by omega)
    have h4 := wt_rng h i (by omega)
    have h5 := h.sum0 (j := i) (by omega)
    have h6 := wt_LL h i (by omega)
    simp only [spec_LeavesOf.l0]
    rw [tab_length, tab_length, if_pos (by omega), if_pos (by omega), if_pos (by omega), if_pos (by omega), st (n := l.length) (by omega) (by omega), tab_rd _ (by omega), cm_eq, nd_eq, wr (x := cm l i + wt (cm l) (nd l) i) (by omega) (by omega), wr (by omega) (by omega), h6]
    rw [← tab_snoc (fun j => LL (cm l) (nd l) (j + 1))]
    exact ih k (i + 1) (by omega) (by omega)
theorem spec_LeavesOf_t {l : List S46} (h : ok l) {k : Nat} (hk : 3 * l.length + 40 < k) : spec_LeavesOf.f k l = some (tab (fun j => LL (cm l) (nd l) (j + 1)) l.length) := by
  unfold spec_LeavesOf.f
  rw [spec_WaitsOf_t h hk]
  simp only [bs]
  exact spec_LeavesOf_l h l.length k 0 (by omega) (by omega)
theorem spec_LeavesOf_n {l : List S46} (hl : l.length ≤ 9000000000000000000) (h : ¬ ok l) {k : Nat} (hk : l.length + 10 < k) : spec_LeavesOf.f k l = some [] := by
  unfold spec_LeavesOf.f
  rw [spec_WaitsOf_n hl h hk]
  obtain ⟨k, rfl⟩ : ∃ m, k = m + 1 := ⟨k - 1, by omega⟩
  simp only [bs, spec_LeavesOf.l0]
  rw [if_neg (by simp)]

-- MATH Q
-- PRE prs0
theorem bp_eq (l : List S46) : bp l = per (cm l) (nd l) l.length := by unfold bp per; rfl
theorem bp_rng {l : List S46} {p : Nat} (hp : p < (bp l).q) : 0 ≤ (bp l).b p ∧ (bp l).b p < (bp l).e p ∧ (bp l).e p ≤ 200 := by
  have h := (bp_ok l).rng p hp
  omega
theorem bp_few (l : List S46) : (bp l).q ≤ 200 := (bp_ok l).few
theorem bp_gap {l : List S46} {p : Nat} (h0 : 0 < p) (hp : p < (bp l).q) : (bp l).e (p - 1) < (bp l).b p := by
  have h := (bp_ok l).gap (p - 1) (by omega)
  rw [show p - 1 + 1 = p from by omega] at h
  exact h
theorem bp_cs {l : List S46} (h : ok l) {p : Nat} (hp : p < (bp l).q) : cs (cm l) (nd l) ((bp l).b p) ((bp l).e p) l.length = (bp l).e p - (bp l).b p := by
  revert hp
  rewrite [bp_eq]
  intro hp
  exact cs_per h hp
theorem bp_comes {l : List S46} (h : ok l) {p B : Nat} (hp : p < (bp l).q) (hB : (bp l).b p = (B : Int)) : cl (cm l) l.length B < l.length ∧ cm l (cl (cm l) l.length B) = (B : Int) := by
  revert hp hB
  rewrite [bp_eq]
  intro hp hB
  exact per_comes h hp hB
theorem bp_last {l : List S46} (h : ok l) (hn : 0 < l.length) : 0 < (bp l).q ∧ (bp l).e ((bp l).q - 1) = LL (cm l) (nd l) l.length := by
  have e := per_last h hn
  rewrite [← bp_eq] at e
  exact e
theorem bp_none {l : List S46} (hn : l.length = 0) : (bp l).q = 0 := by
  have e := per_none (C := cm l) (N := nd l) hn
  rewrite [← bp_eq] at e
  exact e

-- MATH S
-- PRE bper
theorem bp_cin {l : List S46} (h : ok l) {p : Nat} (hp : p < (bp l).q) : cin (cm l) ((bp l).b p) ((bp l).e p) l.length = tab (fun i => ((cq (cm l) (nd l) l.length p + i : Nat) : Int)) (cq (cm l) (nd l) l.length (p + 1) - cq (cm l) (nd l) l.length p) := by
  revert hp
  rewrite [bp_eq]
  intro hp
  exact per_cin h hp
theorem bp_lt {l : List S46} (h : ok l) {p : Nat} (hp : p < (bp l).q) : cq (cm l) (nd l) l.length p < cq (cm l) (nd l) l.length (p + 1) := by
  revert hp
  rewrite [bp_eq]
  intro hp
  exact cq_lt h hp
theorem bp_le (l : List S46) (p : Nat) : cq (cm l) (nd l) l.length p ≤ l.length := cq_le p
theorem bp_zero {l : List S46} (h : ok l) (hq : 0 < (bp l).q) : cq (cm l) (nd l) l.length 0 = 0 := by
  revert hq
  rewrite [bp_eq]
  intro hq
  exact cq_zero h hq
theorem bp_all {l : List S46} {p : Nat} (hp : ¬ p < (bp l).q) : cq (cm l) (nd l) l.length p = l.length := by
  revert hp
  rewrite [bp_eq]
  intro hp
  unfold cq
  rw [if_neg hp]
theorem bp_wait {l : List S46} (h : ok l) {p : Nat} (hp : p < (bp l).q) : wt (cm l) (nd l) (cq (cm l) (nd l) l.length p) = 0 := by
  revert hp
  rewrite [bp_eq]
  intro hp
  exact per_wait h hp
theorem bp_gone {l : List S46} (h : ok l) {p : Nat} (hp : p < (bp l).q) : LL (cm l) (nd l) (cq (cm l) (nd l) l.length (p + 1)) = (bp l).e p := by
  revert hp
  rewrite [bp_eq]
  intro hp
  exact per_gone h hp
theorem bp_leave {l : List S46} (h : ok l) {p i : Nat} (hp : p < (bp l).q) (h1 : cq (cm l) (nd l) l.length p ≤ i) (h2 : i < cq (cm l) (nd l) l.length (p + 1)) : (bp l).b p < LL (cm l) (nd l) (i + 1) ∧ LL (cm l) (nd l) (i + 1) ≤ (bp l).e p := by
  revert hp
  rewrite [bp_eq]
  intro hp
  exact per_leave h hp h1 h2

end FnComeInX
open FnComeInX
-- PRE bperS
theorem FnComeIn_l1 {l : List S46} (h : ok l) {p : Nat} (hp : p < (bp l).q) : ∀ (d k i : Nat), cq (cm l) (nd l) l.length p + i + d = cq (cm l) (nd l) l.length (p + 1) → d + 20 < k →
    laws_FnComeIn.l1 k l (p : Int) (tab (fun i => ((cq (cm l) (nd l) l.length p + i : Nat) : Int)) (cq (cm l) (nd l) l.length (p + 1) - cq (cm l) (nd l) l.length p)) (prs (bp l)) (tab (fun j => LL (cm l) (nd l) (j + 1)) l.length) (tab (wt (cm l) (nd l)) l.length) (l.length : Int) (i : Int) = some true := by
  intro d
  have hl := h.len
  have hle := bp_le l (p + 1)
  have hlt := bp_lt h hp
  have hw := bp_wait h hp
  have hg := bp_gone h hp
  have hv : ∀ i, cq (cm l) (nd l) l.length p ≤ i → i < cq (cm l) (nd l) l.length (p + 1) → (bp l).b p < LL (cm l) (nd l) (i + 1) ∧ LL (cm l) (nd l) (i + 1) ≤ (bp l).e p := fun i h1 h2 => bp_leave h hp h1 h2
  generalize cq (cm l) (nd l) l.length p = a at *
  generalize cq (cm l) (nd l) l.length (p + 1) = b at *
  induction d with
  | zero =>
    intro k i hi hk
    obtain ⟨k, rfl⟩ : ∃ m, k = m + 1 := ⟨k - 1, by omega⟩
    have e0 : rd (tab (fun i => ((a + i : Nat) : Int)) (b - a)) 0 = (a : Int) := tab_rd0 _ (by omega)
    have e1 : rd (tab (fun i => ((a + i : Nat) : Int)) (b - a)) ((b - a - 1 : Nat) : Int) = ((b - 1 : Nat) : Int) := by
      rw [tab_rd _ (by omega), show a + (b - a - 1) = b - 1 from by omega]
    have e2 : LL (cm l) (nd l) (b - 1 + 1) = (bp l).e p := by rw [show b - 1 + 1 = b from by omega]; exact hg
    rw [laws_FnComeIn.l1, tab_length, tab_length, tab_length, prs_length, e0, pd (show 0 < b - a by omega) (by omega), e1, if_neg (by omega), if_pos (by omega), if_pos (by omega), if_pos (by omega), tab_rd _ (show a < l.length by omega), if_pos hw, if_pos rfl, if_pos (by omega), if_pos (by omega), if_pos (by omega), if_pos (by omega), if_pos (by omega), if_pos (by omega), rdl_prs _ hp, if_pos (by simp), rd2_1, tab_rd _ (show b - 1 < l.length by omega), if_pos e2, laws_alive_e (by omega), bs]
  | succ d ih =>
    intro k i hi hk
    obtain ⟨k, rfl⟩ : ∃ m, k = m + 1 := ⟨k - 1, by omega⟩
    have hv' := hv (a + i) (by omega) (by omega)
    rw [laws_FnComeIn.l1, tab_length, tab_length, prs_length, if_pos (by omega), if_pos (by omega), tab_rd _ (show i < b - a by omega), if_pos (by omega), if_pos (by omega), if_pos (by omega), if_pos (by omega), rdl_prs _ hp, if_pos (by simp), rd2_0, rd2_1, tab_rd _ (show a + i < l.length by omega), if_neg (by omega), if_pos (by simp), if_neg (by omega), st (n := 300) (by omega) (by omega)]
    exact ih k (i + 1) (by omega) (by omega)
theorem FnComeIn_l0 {l : List S46} (h : ok l) (x4 : Int) (x5 x7 x8 : List Int) : ∀ (d k j : Nat), j + d = (bp l).q → d + 2302 < k →
    laws_FnComeIn.l0 k l x4 x5 (prs (bp l)) x7 x8 ((cq (cm l) (nd l) l.length j : Nat) : Int) (j : Int) = laws_FnComeIn.l1 (k - (d + 1)) l x4 x5 (prs (bp l)) x7 x8 (l.length : Int) 0 := by
  intro d
  have hl := h.len
  have hf := bp_few l
  induction d with
  | zero =>
    intro k j hj hk
    obtain ⟨k, rfl⟩ : ∃ m, k = m + 1 := ⟨k - 1, by omega⟩
    have e := bp_all (l := l) (p := j) (by omega)
    rw [laws_FnComeIn.l0, prs_length, if_neg (by omega), e]
    rfl
  | succ d ih =>
    intro k j hj hk
    obtain ⟨k, rfl⟩ : ∃ m, k = m + 1 := ⟨k - 1, by omega⟩
    have hq : j < (bp l).q := by omega
    have hc := bp_cin h hq
    have hlt := bp_lt h hq
    have hle := bp_le l (j + 1)
    rw [laws_FnComeIn.l0, prs_length, if_pos (by omega), impl_ComeIn_t h hq (by omega), bs, hc, tab_length, st (n := 300) (by omega) (by omega), wr (by omega) (by omega), show ((cq (cm l) (nd l) l.length j : Nat) : Int) + ((cq (cm l) (nd l) l.length (j + 1) - cq (cm l) (nd l) l.length j : Nat) : Int) = ((cq (cm l) (nd l) l.length (j + 1) : Nat) : Int) from by omega, show k + 1 - (d + 1 + 1) = k - (d + 1) from by omega]
    exact ih k (j + 1) (by omega) (by omega)
theorem FnComeIn : laws_FnComeIn.Pure := by
  intro l0 hm hs hw
  refine ⟨6000, ?_⟩
  unfold laws_FnComeIn.f
  by_cases hg : (l0.length : Int) > 1048576
  · rw [if_pos hg]
  rw [if_neg hg]
  obtain ⟨l, p, e, hD, hp0, hp1⟩ := spec_DrawComeIn_e l0 hw (k := 6000) (by omega)
  rw [e]
  have hlen := hD.len
  simp only [bs]
  by_cases h : ok l ∧ 0 ≤ p ∧ p < ((bp l).q : Int)
  · obtain ⟨h, h0, h1⟩ := h
    obtain ⟨p, rfl⟩ : ∃ q : Nat, p = (q : Int) := ⟨p.toNat, by omega⟩
    have hp : p < (bp l).q := by omega
    have hf := bp_few l
    have hl := h.len
    have hc := bp_cin h hp
    have hlt := bp_lt h hp
    have hle := bp_le l (p + 1)
    have hz := bp_zero h (by omega)
    rw [impl_ComeIn_t h hp (by omega), bs, spec_ComeIn_t h hp (by omega), bs, hc, laws_sameInts_e _ (by rw [tab_length]; omega) (by rw [tab_length]; omega), bs, if_pos rfl, tab_length, if_neg (by omega), spec_BusyOf_t h (by omega), bs, spec_LeavesOf_t h (by omega), bs, spec_WaitsOf_t h (by omega), bs]
    have e1 := FnComeIn_l0 h (p : Int) (tab (fun i => ((cq (cm l) (nd l) l.length p + i : Nat) : Int)) (cq (cm l) (nd l) l.length (p + 1) - cq (cm l) (nd l) l.length p)) (tab (fun j => LL (cm l) (nd l) (j + 1)) l.length) (tab (wt (cm l) (nd l)) l.length) (bp l).q 6000 0 (by omega) (by omega)
    rw [hz] at e1
    refine Eq.trans e1 ?_
    exact FnComeIn_l1 h hp (cq (cm l) (nd l) l.length (p + 1) - cq (cm l) (nd l) l.length p) (6000 - ((bp l).q + 1)) 0 (by omega) (by omega)
  · rw [impl_ComeIn_n (by omega) h (by omega), bs, spec_ComeIn_n (by omega) h (by omega), bs, laws_sameInts_e _ (by simp) (by simp), bs, if_pos rfl, if_pos (by simp), laws_alive_e (by omega), bs]

end Go.Proofs.Ytillelkfmebfiaa.Pure
