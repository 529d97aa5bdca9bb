/- The pure statement of the law FnBusyOk: about numbers and lists alone, over the functions that print.sh has written. No conditions beyond those typed. -/
import Derived.Test.YtillelkfmebfiaaHFnBusyOk
import Derived.Test.YtillelkfmebfiaaMath0
import Derived.Test.YtillelkfmebfiaaMathA
import Derived.Test.YtillelkfmebfiaaMathV
import Derived.Test.YtillelkfmebfiaaMathB
import Derived.Test.YtillelkfmebfiaaMathD
import Derived.Test.YtillelkfmebfiaaMathW
namespace Go.Proofs.Ytillelkfmebfiaa.Pure
open Go.RowKit Go.Proofs.Ytillelkfmebfiaa.QFnBusyOk Go.Proofs.YtillelkfmebfiaaW.PrintWords Go.Proofs.YtillelkfmebfiaaW.PrintLast Go.Proofs.YtillelkfmebfiaaW.PrintMore Go.Proofs.Ytillelkfmebfiaa.Math
set_option linter.unusedVariables false
set_option linter.unusedSimpArgs false
namespace FnBusyOkX
/-- When the customer at place i comes, what this one needs. -/
def cm (l : List S46) (i : Nat) : Int := (rd_T46 l (i : Int)).f0
def nd (l : List S46) (i : Nat) : Int := (rd_T46 l (i : Int)).f1
theorem cm_eq (l : List S46) (i : Nat) : (rd_T46 l (i : Int)).f0 = cm l i := rfl
theorem nd_eq (l : List S46) (i : Nat) : (rd_T46 l (i : Int)).f1 = nd l i := rfl
theorem cm_eq0 (l : List S46) : (rd_T46 l 0).f0 = cm l 0 := rfl
theorem nd_eq0 (l : List S46) : (rd_T46 l 0).f1 = nd l 0 := rfl
theorem rd_get (l : List S46) (i : Nat) (h : i < l.length) : rd_T46 l (i : Int) = l[i] := by simp [rd_T46, h]
theorem rd_take (l : List S46) (m i : Nat) (h : i < m) : rd_T46 (l.take m) (i : Int) = rd_T46 l (i : Int) := by simp [rd_T46, List.getElem?_take, h]
theorem rd_drop (l : List S46) (m i : Nat) : rd_T46 (l.drop m) (i : Int) = rd_T46 l ((i + m : Nat) : Int) := by
  unfold rd_T46
  rw [List.getD_eq_getElem?_getD, List.getD_eq_getElem?_getD, List.getElem?_drop, Int.toNat_natCast, Int.toNat_natCast, Nat.add_comm]
theorem cm_take (l : List S46) (m i : Nat) (h : i < m) : cm (l.take m) i = cm l i := by unfold cm; rw [rd_take l m i h]
theorem nd_take (l : List S46) (m i : Nat) (h : i < m) : nd (l.take m) i = nd l i := by unfold nd; rw [rd_take l m i h]
theorem cm_drop (l : List S46) (m i : Nat) : cm (l.drop m) i = cm l (i + m) := by unfold cm; rw [rd_drop l m i]
theorem nd_drop (l : List S46) (m i : Nat) : nd (l.drop m) i = nd l (i + m) := by unfold nd; rw [rd_drop l m i]
/-- These are customers. -/
def ok (l : List S46) : Prop := OK (cm l) (nd l) l.length
theorem ok_take {l : List S46} (h : ok l) (m : Nat) (hm : m ≤ l.length) : ok (l.take m) := by
  have e : (l.take m).length = m := by rw [List.length_take]; omega
  unfold ok
  rw [e]
  exact OK.congr (fun i hi => (cm_take l m i hi).symm) (fun i hi => (nd_take l m i hi).symm) (OK.pre h hm)
theorem sm_take (l : List S46) (m j : Nat) (hj : j ≤ m) : sm (nd (l.take m)) j = sm (nd l) j := sm_congr (fun i hi => nd_take l m i (by omega))
theorem sm_drop (l : List S46) (m j : Nat) : sm (nd (l.drop m)) j = sm (nd l) (j + m) - sm (nd l) m := by
  rw [← sm_shift]
  exact sm_congr (fun i _ => nd_drop l m i)
theorem st {i : Nat} {n : Nat} (h : i < n) (hn : n ≤ 9000000000000000000) : wrap64 ((i : Int) + 1) = ((i + 1 : Nat) : Int) := by rw [wr (by omega) (by omega)]; simp
theorem pd {i : Nat} (h0 : 0 < i) (hn : i ≤ 9000000000000000000) : wrap64 ((i : Int) - 1) = ((i - 1 : Nat) : Int) := by rw [wr (by omega) (by omega)]; omega
theorem ext_list {a b : List S46} (hl : a.length = b.length) (h : ∀ i : Nat, i < a.length → cm a i = cm b i ∧ nd a i = nd b i) : a = b := by
  apply List.ext_getElem hl
  intro i h1 h2
  obtain ⟨e1, e2⟩ := h i h1
  unfold cm at e1
  unfold nd at e2
  rw [rd_get a i h1, rd_get b i h2] at e1 e2
  cases ha : a[i] with | mk x y =>
  cases hb : b[i] with | mk x' y' =>
  rw [ha, hb] at e1 e2
  simp only at e1 e2
  rw [e1, e2]
/-- The bytes that are drawn from. -/
structure Src (b : List Int) : Prop where
  byte : ∀ x ∈ b, 0 ≤ x ∧ x ≤ 255
  len : b.length ≤ 2000
theorem split_w (x : Int) : x < 0 ∨ ∃ w : Nat, x = (w : Int) := by
  by_cases h : x < 0
  · exact Or.inl h
  · exact Or.inr ⟨x.toNat, by omega⟩

theorem impl_CustomersOk_l (l : List S46) (hl : l.length ≤ 9000000000000000000) : ∀ (d k i : Nat), i + d = l.length → d < k →
    ∃ b, impl_CustomersOk.l0 k l l (l.length : Int) (i : Int) = some b ∧ (b = true ↔ l.length ≤ 8 ∧ ∀ j, i ≤ j → j < l.length → okAt (cm l) (nd l) j) := by
  intro d
  induction d with
  | zero =>
    intro k i hi hk
    obtain ⟨k, rfl⟩ : ∃ m, k = m + 1 := ⟨k - 1, by omega⟩
    simp only [impl_CustomersOk.l0]
    rw [if_neg (by omega)]
    exact ⟨_, rfl, by rw [decide_eq_true_iff]; exact ⟨fun h => ⟨by omega, fun j h1 h2 => absurd h1 (by omega)⟩, fun h => by have := h.1; omega⟩⟩
  | succ d ih =>
    intro k i hi hk
    obtain ⟨k, rfl⟩ : ∃ m, k = m + 1 := ⟨k - 1, by omega⟩
    obtain ⟨b, hb, hbt⟩ := ih k (i + 1) (by omega) (by omega)
    have no : (¬ okAt (cm l) (nd l) i) → (∃ b, some false = some b ∧ (b = true ↔ l.length ≤ 8 ∧ ∀ j, i ≤ j → j < l.length → okAt (cm l) (nd l) j)) := fun h => ⟨false, rfl, ⟨fun h0 => (by cases h0), fun h0 => absurd (h0.2 i (by omega) (by omega)) h⟩⟩
    have yes : okAt (cm l) (nd l) i → (∃ b, impl_CustomersOk.l0 k l l (l.length : Int) ((i + 1 : Nat) : Int) = some b ∧ (b = true ↔ l.length ≤ 8 ∧ ∀ j, i ≤ j → j < l.length → okAt (cm l) (nd l) j)) := fun h => by
      refine ⟨b, hb, hbt.trans ⟨fun h0 => ⟨h0.1, fun j h1 h2 => ?_⟩, fun h0 => ⟨h0.1, fun j h1 h2 => h0.2 j (by omega) h2⟩⟩⟩
      by_cases e : j = i
      · subst e; exact h
      · exact h0.2 j (by omega) h2
    simp only [impl_CustomersOk.l0]
    rw [if_pos (by omega), if_pos (by omega), if_pos (by omega), st (n := l.length) (by omega) hl]
    rw [cm_eq l i, nd_eq l i]
    by_cases h1 : cm l i < 0
    · rw [if_pos h1]; exact no (fun h => by have := h.1; omega)
    rw [if_neg h1]
    by_cases h2 : cm l i > 60
    · rw [if_pos h2]; exact no (fun h => by have := h.2.1; omega)
    rw [if_neg h2]
    by_cases h0 : i = 0
    · subst h0
      rw [if_neg (by simp)]
      by_cases h3 : nd l 0 < 1
      · rw [if_pos h3]; exact no (fun h => by have := h.2.2.1; omega)
      rw [if_neg h3]
      by_cases h4 : nd l 0 > 9
      · rw [if_pos h4]; exact no (fun h => by have := h.2.2.2.1; omega)
      rw [if_neg h4]
      exact yes ⟨by omega, by omega, by omega, by omega, fun h => by omega⟩
    · rw [if_pos (by omega), pd (by omega) (by omega), if_pos (by omega), if_pos (by omega)]
      rw [cm_eq l (i - 1)]
      by_cases h5 : cm l i < cm l (i - 1)
      · rw [if_pos h5]; exact no (fun h => by have := h.2.2.2.2 (by omega); omega)
      rw [if_neg h5]
      by_cases h3 : nd l i < 1
      · rw [if_pos h3]; exact no (fun h => by have := h.2.2.1; omega)
      rw [if_neg h3]
      by_cases h4 : nd l i > 9
      · rw [if_pos h4]; exact no (fun h => by have := h.2.2.2.1; omega)
      rw [if_neg h4]
      exact yes ⟨by omega, by omega, by omega, by omega, fun h => by omega⟩
theorem impl_CustomersOk_e (l : List S46) (hl : l.length ≤ 9000000000000000000) {k : Nat} (hk : l.length < k) : ∃ b, impl_CustomersOk.f k l = some b ∧ (b = true ↔ ok l) := by
  obtain ⟨b, h1, h2⟩ := impl_CustomersOk_l l hl l.length k 0 (by omega) hk
  exact ⟨b, h1, h2.trans ⟨fun h => ⟨h.1, fun i hi => h.2 i (Nat.zero_le _) hi⟩, fun h => ⟨h.1, fun i _ hi => h.2 i hi⟩⟩⟩
theorem impl_CustomersOk_t {l : List S46} (h : ok l) {k : Nat} (hk : l.length < k) : impl_CustomersOk.f k l = some true := by
  obtain ⟨b, h1, h2⟩ := impl_CustomersOk_e l (by have := h.1; omega) hk
  rw [h1, h2.2 h]
theorem impl_CustomersOk_n {l : List S46} (hl : l.length ≤ 9000000000000000000) (h : ¬ ok l) {k : Nat} (hk : l.length < k) : impl_CustomersOk.f k l = some false := by
  obtain ⟨b, h1, h2⟩ := impl_CustomersOk_e l hl hk
  rw [h1]
  cases b with
  | true => exact absurd (h2.1 rfl) h
  | false => rfl

theorem laws_alive_e {k : Nat} (hk : 2 < k) : laws_alive.f k = some true := by
  unfold laws_alive.f
  have h1 : ok [(⟨0, 1⟩ : S46)] := by
    refine ⟨by simp, fun i hi => ?_⟩
    obtain rfl : i = 0 := by simp at hi; omega
    refine ⟨by simp [cm, rd_T46], by simp [cm, rd_T46], by simp [nd, rd_T46], by simp [nd, rd_T46], fun h => by omega⟩
  have h2 : ¬ ok [(⟨0, 0⟩ : S46)] := by
    intro h
    have := (h.2 0 (by simp)).2.2.1
    simp [nd, rd_T46] at this
  rw [impl_CustomersOk_t h1 (by simp; omega), impl_CustomersOk_n (by simp) h2 (by simp; omega)]
  simp

theorem impl_needOf_l {l : List S46} (hn : l.length ≤ 8) (hb : ∀ i, i < l.length → 1 ≤ nd l i ∧ nd l i ≤ 9) : ∀ (d k i : Nat), i + d = l.length → d < k → impl_needOf.l0 k (sm (nd l) i) l (l.length : Int) (i : Int) = some (sm (nd l) l.length) := by
  intro d
  induction d with
  | zero =>
    intro k i hi hk
    obtain ⟨k, rfl⟩ : ∃ m, k = m + 1 := ⟨k - 1, by omega⟩
    simp only [impl_needOf.l0]
    rw [if_neg (by omega), show i = l.length from by omega]
  | succ d ih =>
    intro k i hi hk
    obtain ⟨k, rfl⟩ : ∃ m, k = m + 1 := ⟨k - 1, by omega⟩
    have h1 := sm_range (f := nd l) (n := l.length) hb i 0 (by omega)
    have h2 := hb i (by omega)
    rw [Nat.zero_add, sm_zero] at h1
    simp only [impl_needOf.l0]
    rw [if_pos (by omega), if_pos (by omega), if_pos (by omega), st (n := l.length) (by omega) (by omega), nd_eq, wr (by omega) (by omega), ← sm_succ]
    exact ih k (i + 1) (by omega) (by omega)
theorem impl_needOf_b {l : List S46} (hn : l.length ≤ 8) (hb : ∀ i, i < l.length → 1 ≤ nd l i ∧ nd l i ≤ 9) {k : Nat} (hk : l.length < k) : impl_needOf.f k l = some (sm (nd l) l.length) :=
  impl_needOf_l hn hb l.length k 0 (by omega) hk
theorem impl_needOf_e {l : List S46} (h : ok l) {k : Nat} (hk : l.length < k) : impl_needOf.f k l = some (sm (nd l) l.length) :=
  impl_needOf_b h.len (fun i hi => h.need hi) hk
theorem impl_needOf_take {l : List S46} (h : ok l) {m : Nat} (hm : m ≤ l.length) {k : Nat} (hk : l.length < k) : impl_needOf.f k (l.take m) = some (sm (nd l) m) := by
  have e : (l.take m).length = m := by rw [List.length_take]; omega
  rw [impl_needOf_e (ok_take h m hm) (by omega), e, sm_take l m m (Nat.le_refl _)]
theorem impl_needOf_drop {l : List S46} (h : ok l) {m : Nat} (hm : m ≤ l.length) {k : Nat} (hk : l.length < k) : impl_needOf.f k (l.drop m) = some (sm (nd l) l.length - sm (nd l) m) := by
  have e : (l.drop m).length = l.length - m := List.length_drop ..
  rw [impl_needOf_b (by have := h.len; omega) (fun i hi => by rw [nd_drop]; exact h.need (by omega)) (by omega), sm_drop, e, show l.length - m + m = l.length from by omega]
theorem impl_needOf_part {l : List S46} (h : ok l) {i m : Nat} (hi : i ≤ m) (hm : m ≤ l.length) {k : Nat} (hk : l.length < k) : impl_needOf.f k ((l.take m).drop i) = some (sm (nd l) m - sm (nd l) i) := by
  have e : (l.take m).length = m := by rw [List.length_take]; omega
  rw [impl_needOf_drop (ok_take h m hm) (by omega) (by omega), e, sm_take l m m (Nat.le_refl _), sm_take l m i hi]

-- MATH A
theorem impl_lastLeave_l {l : List S46} (h : ok l) : ∀ (d k i : Nat), i + d = l.length → d + 10 < k →
    impl_lastLeave.l0 k l (mxs (fun j => cm l j + (sm (nd l) l.length - sm (nd l) j)) i) l (l.length : Int) (i : Int) = some (mxs (fun j => cm l j + (sm (nd l) l.length - sm (nd l) j)) l.length) := by
  intro d
  induction d with
  | zero =>
    intro k i hi hk
    obtain ⟨k, rfl⟩ : ∃ m, k = m + 1 := ⟨k - 1, by omega⟩
    simp only [impl_lastLeave.l0]
    rw [if_neg (by omega), show i = l.length from by omega]
  | succ d ih =>
    intro k i hi hk
    obtain ⟨k, rfl⟩ : ∃ m, k = m + 1 := ⟨k - 1, by omega⟩
    have hl := h.len
    have h1 := h.sum (i := i) (j := l.length) (by omega) (by omega)
    have h5 := h.come (i := i) (by omega)
    simp only [impl_lastLeave.l0]
    rw [if_pos (by omega), if_pos (by omega), if_pos (by omega), if_pos (by omega), Int.toNat_natCast, impl_needOf_drop h (by omega) (by omega)]
    simp only [bs]
    rw [cm_eq, st (n := l.length) (by omega) (by omega), wr (by omega) (by omega), ← mxs_succ (fun j => cm l j + (sm (nd l) l.length - sm (nd l) j)) i]
    exact ih k (i + 1) (by omega) (by omega)
theorem impl_lastLeave_e {l : List S46} (h : ok l) {k : Nat} (hk : l.length + 20 < k) : impl_lastLeave.f k l = some (LL (cm l) (nd l) l.length) := by
  unfold impl_lastLeave.f
  have := impl_lastLeave_l h l.length k 0 (by omega) (by omega)
  rw [mxs_zero, LL_sums h l.length (Nat.le_refl _)] at this
  exact this

theorem impl_LastLeave_t {l : List S46} (h : ok l) {k : Nat} (hk : l.length + 20 < k) : impl_LastLeave.f k l = some (LL (cm l) (nd l) l.length) := by
  unfold impl_LastLeave.f
  rw [impl_CustomersOk_t h (by omega)]
  simp only [bs, if_true]
  rw [impl_lastLeave_e h hk]
  rfl
theorem impl_LastLeave_n {l : List S46} (hl : l.length ≤ 9000000000000000000) (h : ¬ ok l) {k : Nat} (hk : l.length < k) : impl_LastLeave.f k l = some (-1) := by
  unfold impl_LastLeave.f
  rw [impl_CustomersOk_n hl h hk]
  simp

-- MATH V
theorem spec_l3Work_l1 {l : List S46} (h : ok l) (A : Int) {x : List Int} (hx : x.length < 17592186044416) {w : Int} (hw : 0 ≤ w ∧ w ≤ 1000) (t : Nat) (ht : t ≤ 1000) : ∀ (d k i : Nat), i + d = l.length → d < k →
    spec_l3Work.l1 k l A x (w + ar (cm l) (nd l) t i) (t : Int) (i : Int) = spec_l3Work.l0 (k - (d + 1)) l A (x ++ [w + arr (cm l) (nd l) l.length t]) (mx 0 (w + arr (cm l) (nd l) l.length t - 1)) ((t + 1 : Nat) : Int) := by
  intro d
  have hl := h.len
  induction d with
  | zero =>
    intro k i hi hk
    obtain ⟨k, rfl⟩ : ∃ m, k = m + 1 := ⟨k - 1, by omega⟩
    have e : i = l.length := by omega
    have hr := ar_rng h t i (by omega)
    simp only [spec_l3Work.l1]
    rw [if_neg (by omega), if_pos hx, wr (x := w + ar (cm l) (nd l) t i - 1) (by omega) (by omega), e, ar_all, mx_comm0, st (n := 2000) (by omega) (by omega)]
    rfl
  | succ d ih =>
    intro k i hi hk
    obtain ⟨k, rfl⟩ : ∃ m, k = m + 1 := ⟨k - 1, by omega⟩
    have e := ih k (i + 1) (by omega) (by omega)
    have hr := ar_rng h t i (by omega)
    have hn := h.need (i := i) (by omega)
    rw [ar_succ] at e
    simp only [spec_l3Work.l1]
    rw [if_pos (by omega), if_pos (by omega), cm_eq, nd_eq, st (n := l.length) (by omega) (by omega), show k + 1 - (d + 1 + 1) = k - (d + 1) from by omega]
    by_cases hc : cm l i = (t : Int)
    · rw [if_pos hc] at e ⊢
      rw [wr (by omega) (by omega), Int.add_assoc]
      exact e
    · rw [if_neg hc] at e ⊢
      rw [Int.add_zero] at e
      exact e
theorem spec_l3Work_l {l : List S46} (h : ok l) (A : Nat) (hA : A ≤ 500) : ∀ (d k t : Nat), t + d = A + 1 → d * 11 + 2 < k → spec_l3Work.l0 k l (A : Int) (tab (wk (cm l) (nd l) l.length) t) (pre (cm l) (nd l) l.length t) (t : Int) = some (tab (wk (cm l) (nd l) l.length) (A + 1)) := by
  intro d
  have hl := h.len
  induction d with
  | zero =>
    intro k t hi hk
    obtain ⟨k, rfl⟩ : ∃ m, k = m + 1 := ⟨k - 1, by omega⟩
    simp only [spec_l3Work.l0]
    rw [if_neg (by omega), show t = A + 1 from by omega]
  | succ d ih =>
    intro k t hi hk
    obtain ⟨k, rfl⟩ : ∃ m, k = m + 1 := ⟨k - 1, by omega⟩
    have hp := pre_rng h t
    simp only [spec_l3Work.l0]
    rw [if_pos (by omega)]
    have e := spec_l3Work_l1 h (A : Int) (x := tab (wk (cm l) (nd l) l.length) t) (by rw [tab_length]; omega) (w := pre (cm l) (nd l) l.length t) (by omega) t (by omega) l.length k 0 (by omega) (by omega)
    rw [ar_zero, Int.add_zero, ← wk_pre, ← tab_snoc (wk (cm l) (nd l) l.length), ← pre_succ] at e
    refine Eq.trans e ?_
    exact ih (k - (l.length + 1)) (t + 1) (by omega) (by omega)
theorem spec_l3Work_t {l : List S46} (h : ok l) (A : Nat) (hA : A ≤ 200) {k : Nat} (hk : 2300 < k) : spec_l3Work.f k l (A : Int) = some (tab (wk (cm l) (nd l) l.length) (A + 1)) :=
  spec_l3Work_l h A (by omega) (A + 1) k 0 (by omega) (by omega)

theorem spec_l1In_e (a b c : Int) : ∃ r, spec_l1In.f a b c = some r ∧ (r = true ↔ b ≤ a ∧ a ≤ c) := by
  unfold spec_l1In.f
  by_cases h : a ≥ b
  · rw [if_pos h]; exact ⟨_, rfl, by rw [decide_eq_true_iff]; exact ⟨fun h1 => ⟨h, h1⟩, fun h1 => h1.2⟩⟩
  · rw [if_neg h]; exact ⟨false, rfl, ⟨fun h1 => (by cases h1), fun h1 => absurd h1.1 h⟩⟩
theorem spec_l1In_t {a b c : Int} (h0 : b ≤ a) (h1 : a ≤ c) : spec_l1In.f a b c = some true := by
  unfold spec_l1In.f
  rw [if_pos h0, decide_eq_true h1]
theorem spec_l1In_n {a b c : Int} (h : ¬ (b ≤ a ∧ a ≤ c)) : spec_l1In.f a b c = some false := by
  unfold spec_l1In.f
  by_cases h0 : a ≥ b
  · rw [if_pos h0, decide_eq_false (fun h1 => h ⟨h0, h1⟩)]
  · rw [if_neg h0]
theorem spec_CustomersOk_l (l : List S46) (hl : l.length ≤ 9000000000000000000) : ∀ (d k i : Nat), i + d = l.length → d < k →
    ∃ b, spec_CustomersOk.l0 k l (i : Int) = some b ∧ (b = true ↔ l.length ≤ 8 ∧ ∀ j, i ≤ j → j < l.length → okAt (cm l) (nd l) j) := by
  intro d
  induction d with
  | zero =>
    intro k i hi hk
    obtain ⟨k, rfl⟩ : ∃ m, k = m + 1 := ⟨k - 1, by omega⟩
    simp only [spec_CustomersOk.l0]
    rw [if_neg (by omega)]
    exact ⟨_, rfl, by rw [decide_eq_true_iff]; exact ⟨fun h => ⟨by omega, fun j h1 h2 => absurd h1 (by omega)⟩, fun h => by have := h.1; omega⟩⟩
  | succ d ih =>
    intro k i hi hk
    obtain ⟨k, rfl⟩ : ∃ m, k = m + 1 := ⟨k - 1, by omega⟩
    obtain ⟨b, hb, hbt⟩ := ih k (i + 1) (by omega) (by omega)
    have no : (¬ okAt (cm l) (nd l) i) → (∃ b, some false = some b ∧ (b = true ↔ l.length ≤ 8 ∧ ∀ j, i ≤ j → j < l.length → okAt (cm l) (nd l) j)) := fun h => ⟨false, rfl, ⟨fun h0 => (by cases h0), fun h0 => absurd (h0.2 i (by omega) (by omega)) h⟩⟩
    have yes : okAt (cm l) (nd l) i → (∃ b, spec_CustomersOk.l0 k l ((i + 1 : Nat) : Int) = some b ∧ (b = true ↔ l.length ≤ 8 ∧ ∀ j, i ≤ j → j < l.length → okAt (cm l) (nd l) j)) := fun h => by
      refine ⟨b, hb, hbt.trans ⟨fun h0 => ⟨h0.1, fun j h1 h2 => ?_⟩, fun h0 => ⟨h0.1, fun j h1 h2 => h0.2 j (by omega) h2⟩⟩⟩
      by_cases e : j = i
      · subst e; exact h
      · exact h0.2 j (by omega) h2
    simp only [spec_CustomersOk.l0]
    rw [if_pos (by omega), if_pos (by omega), st (n := l.length) (by omega) hl]
    rw [cm_eq l i, nd_eq l i]
    by_cases h1 : 0 ≤ cm l i ∧ cm l i ≤ 60
    · rw [spec_l1In_t h1.1 h1.2]
      simp only [bs, if_true]
      by_cases h2 : 1 ≤ nd l i ∧ nd l i ≤ 9
      · rw [spec_l1In_t h2.1 h2.2]
        simp only [bs, if_true]
        by_cases h0 : i = 0
        · subst h0
          rw [if_neg (by simp)]
          exact yes ⟨by omega, by omega, by omega, by omega, fun h => by omega⟩
        · rw [if_pos (by omega), pd (by omega) (by omega), if_pos (by omega), if_pos (by omega)]
          rw [cm_eq l (i - 1)]
          by_cases h5 : cm l i < cm l (i - 1)
          · rw [if_pos h5]; exact no (fun h => by have := h.2.2.2.2 (by omega); omega)
          rw [if_neg h5]
          exact yes ⟨by omega, by omega, by omega, by omega, fun h => by omega⟩
      · rw [spec_l1In_n h2]
        exact no (fun h => h2 ⟨h.2.2.1, h.2.2.2.1⟩)
    · rw [spec_l1In_n h1]
      exact no (fun h => h1 ⟨h.1, h.2.1⟩)
theorem spec_CustomersOk_e (l : List S46) (hl : l.length ≤ 9000000000000000000) {k : Nat} (hk : l.length < k) : ∃ b, spec_CustomersOk.f k l = some b ∧ (b = true ↔ ok l) := by
  obtain ⟨b, h1, h2⟩ := spec_CustomersOk_l l hl l.length k 0 (by omega) hk
  exact ⟨b, h1, h2.trans ⟨fun h => ⟨h.1, fun i hi => h.2 i (Nat.zero_le _) hi⟩, fun h => ⟨h.1, fun i _ hi => h.2 i hi⟩⟩⟩
theorem spec_CustomersOk_t {l : List S46} (h : ok l) {k : Nat} (hk : l.length < k) : spec_CustomersOk.f k l = some true := by
  obtain ⟨b, h1, h2⟩ := spec_CustomersOk_e l (by have := h.1; omega) hk
  rw [h1, h2.2 h]
theorem spec_CustomersOk_n {l : List S46} (hl : l.length ≤ 9000000000000000000) (h : ¬ ok l) {k : Nat} (hk : l.length < k) : spec_CustomersOk.f k l = some false := by
  obtain ⟨b, h1, h2⟩ := spec_CustomersOk_e l hl hk
  rw [h1]
  cases b with
  | true => exact absurd (h2.1 rfl) h
  | false => rfl

-- MATH B
/-- Who is served in the unit t. -/
def od (o : List Int) (t : Nat) : Int := rd o (t : Int)
theorem od_eq (o : List Int) (t : Nat) : rd o (t : Int) = od o t := rfl
/-- This is an order of these customers. -/
def ordok (l : List S46) (o : List Int) : Prop := Ord (cm l) (nd l) l.length (od o) o.length
/-- In the unit t somebody is served who has come, or nobody. -/
def okU (l : List S46) (o : List Int) (t : Nat) : Prop := -1 ≤ od o t ∧ od o t < (l.length : Int) ∧ (0 ≤ od o t → cm l (od o t).toNat ≤ (t : Int))
theorem ordok_iff (l : List S46) (o : List Int) : ordok l o ↔ ok l ∧ o.length ≤ 200 ∧ (∀ t, t < o.length → okU l o t) ∧ ∀ i, i < l.length → cnt (od o) i o.length = nd l i :=
  ⟨fun h => ⟨h.cust, h.units, h.who, h.need⟩, fun h => ⟨h.1, h.2.1, h.2.2.1, h.2.2.2⟩⟩
theorem left_step (l : List S46) (o : List Int) (t : Nat) {w : Nat} (hw : od o t = (w : Int)) (n : Nat) :
    tab (fun j => if j = w then nd l w - cnt (od o) w t - 1 else nd l j - cnt (od o) j t) n = tab (fun j => nd l j - cnt (od o) j (t + 1)) n :=
  tab_congr (fun j _ => by
    rw [cnt_succ, hw]
    by_cases e : j = w
    · subst e; rw [if_pos rfl, if_pos rfl]; omega
    · rw [if_neg e, if_neg (by omega)]; omega)
theorem left_stay (l : List S46) (o : List Int) (t : Nat) (hw : od o t < 0) (n : Nat) :
    tab (fun j => nd l j - cnt (od o) j t) n = tab (fun j => nd l j - cnt (od o) j (t + 1)) n :=
  tab_congr (fun j _ => by rw [cnt_succ, if_neg (by omega)]; omega)
theorem split_who (x : Int) : x < 0 ∨ ∃ w : Nat, x = (w : Int) := by
  by_cases h : x < 0
  · exact Or.inl h
  · exact Or.inr ⟨x.toNat, by omega⟩

-- PRE order0
theorem spec_OrderOk_a (l : List S46) (o : List Int) (hl : l.length ≤ 1048576) : ∀ (d k i : Nat), i + d = l.length → d < k →
    spec_OrderOk.l0 k l o (tab (nd l) i) (i : Int) = spec_OrderOk.l1 (k - (d + 1)) l o (tab (nd l) l.length) 0 := by
  intro d
  induction d with
  | zero =>
    intro k i hi hk
    obtain ⟨k, rfl⟩ : ∃ m, k = m + 1 := ⟨k - 1, by omega⟩
    simp only [spec_OrderOk.l0]
    rw [if_neg (by omega), show i = l.length from by omega]
    rfl
  | succ d ih =>
    intro k i hi hk
    obtain ⟨k, rfl⟩ : ∃ m, k = m + 1 := ⟨k - 1, by omega⟩
    simp only [spec_OrderOk.l0]
    rw [if_pos (by omega), if_pos (by omega), tab_length, if_pos (by omega), nd_eq, st (n := l.length) (by omega) (by omega), ← tab_snoc, show k + 1 - (d + 1 + 1) = k - (d + 1) from by omega]
    exact ih k (i + 1) (by omega) (by omega)
theorem spec_OrderOk_l2n {l : List S46} (o : List Int) (hl : l.length ≤ 1048576) (h : ¬ ok l) (x : List Int) (hx : x.length = l.length) : ∀ (d k i : Nat), i + d = l.length → d + l.length + 1 < k → spec_OrderOk.l2 k l o x (i : Int) = some false := by
  intro d
  induction d with
  | zero =>
    intro k i hi hk
    obtain ⟨k, rfl⟩ : ∃ m, k = m + 1 := ⟨k - 1, by omega⟩
    simp only [spec_OrderOk.l2]
    rw [if_neg (by omega), spec_CustomersOk_n (by omega) h (by omega), bs, if_neg (by simp)]
  | succ d ih =>
    intro k i hi hk
    obtain ⟨k, rfl⟩ : ∃ m, k = m + 1 := ⟨k - 1, by omega⟩
    simp only [spec_OrderOk.l2]
    rw [if_pos (by omega), if_pos (by omega), st (n := l.length) (by omega) (by omega)]
    by_cases h0 : rd x (i : Int) > 0
    · rw [if_pos h0]
    · rw [if_neg h0]
      exact ih k (i + 1) (by omega) (by omega)
theorem spec_OrderOk_l1n {l : List S46} {o : List Int} (hl : l.length ≤ 1048576) (ho : o.length ≤ 1048576) (h : ¬ ok l) : ∀ (d k t : Nat) (x : List Int), t + d = o.length → 2 * d + 2 * l.length + 10 < k → x.length = l.length → spec_OrderOk.l1 k l o x (t : Int) = some false := by
  intro d
  induction d with
  | zero =>
    intro k t x ht hk hx
    obtain ⟨k, rfl⟩ : ∃ m, k = m + 1 := ⟨k - 1, by omega⟩
    simp only [spec_OrderOk.l1]
    rw [if_neg (by omega)]
    exact spec_OrderOk_l2n o hl h x hx l.length k 0 (by omega) (by omega)
  | succ d ih =>
    intro k t x ht hk hx
    obtain ⟨k, rfl⟩ : ∃ m, k = m + 1 + 1 := ⟨k - 2, by omega⟩
    simp only [spec_OrderOk.l1, spec_OrderOk.j2]
    rw [if_pos (by omega), if_pos (by omega), wr (by omega) (by omega), od_eq, st (n := o.length) (by omega) (by omega)]
    by_cases h1 : -1 ≤ od o t ∧ od o t ≤ (l.length : Int) - 1
    · rw [spec_l1In_t h1.1 h1.2, bs, if_pos rfl]
      rcases split_who (od o t) with h3 | ⟨w, hw⟩
      · rw [if_neg (show ¬ od o t ≥ 0 from by omega), if_neg (by simp), if_neg (show ¬ od o t ≥ 0 from by omega)]
        exact ih k (t + 1) x (by omega) (by omega) hx
      · rw [hw, if_pos (by omega), if_pos (by omega), if_pos (by omega), Int.toNat_natCast]
        have go : (if (rd x (w : Int) == 0) = true then some false else if (w : Int) ≥ 0 then if (0 : Int) ≤ (w : Int) then if (w : Int) < (x.length : Int) then spec_OrderOk.l1 k l o (x.set w (wrap64 (rd x (w : Int) - 1))) ((t + 1 : Nat) : Int) else none else none else spec_OrderOk.l1 k l o x ((t + 1 : Nat) : Int)) = some false := by
          by_cases h5 : (rd x (w : Int) == 0) = true
          · rw [if_pos h5]
          · rw [if_neg h5, if_pos (by omega), if_pos (by omega), if_pos (by omega)]
            exact ih k (t + 1) _ (by omega) (by omega) (by rw [List.length_set]; exact hx)
        by_cases h4 : (rd_T46 l (w : Int)).f0 > (t : Int)
        · rw [if_pos h4, if_pos (by first | rfl | trivial)]
        · rw [if_neg h4, if_pos (show ((w : Nat) : Int) < (x.length : Int) from by omega)]
          exact go
    · rw [spec_l1In_n h1, bs, if_neg (by simp), if_pos (by first | rfl | trivial)]
theorem spec_OrderOk_l2 {l : List S46} (o : List Int) (h : ok l) (f : Nat → Int) : ∀ (d k i : Nat), i + d = l.length → d + l.length + 1 < k → ∃ b, spec_OrderOk.l2 k l o (tab f l.length) (i : Int) = some b ∧ (b = true ↔ (∀ j, i ≤ j → j < l.length → f j ≤ 0) ∧ o.length ≤ 200) := by
  intro d
  have hl := h.len
  induction d with
  | zero =>
    intro k i hi hk
    obtain ⟨k, rfl⟩ : ∃ m, k = m + 1 := ⟨k - 1, by omega⟩
    simp only [spec_OrderOk.l2]
    rw [tab_length, if_neg (by omega), spec_CustomersOk_t h (by omega), bs, if_pos rfl]
    exact ⟨_, rfl, by rw [decide_eq_true_iff]; exact ⟨fun h0 => ⟨fun j h1 h2 => absurd h1 (by omega), by omega⟩, fun h0 => by have := h0.2; omega⟩⟩
  | succ d ih =>
    intro k i hi hk
    obtain ⟨k, rfl⟩ : ∃ m, k = m + 1 := ⟨k - 1, by omega⟩
    simp only [spec_OrderOk.l2]
    rw [tab_length, if_pos (by omega), if_pos (by omega), tab_rd f (by omega), st (n := l.length) (by omega) (by omega)]
    by_cases h0 : f i > 0
    · rw [if_pos h0]
      exact ⟨false, rfl, ⟨fun h1 => (by cases h1), fun h1 => by have := h1.1 i (Nat.le_refl _) (by omega); omega⟩⟩
    · rw [if_neg h0]
      obtain ⟨b, e, hb⟩ := ih k (i + 1) (by omega) (by omega)
      refine ⟨b, e, hb.trans ⟨fun h1 => ⟨fun j h2 h3 => ?_, h1.2⟩, fun h1 => ⟨fun j h2 h3 => h1.1 j (by omega) h3, h1.2⟩⟩⟩
      by_cases ej : j = i
      · subst ej; omega
      · exact h1.1 j (by omega) h3
theorem spec_OrderOk_l1 {l : List S46} {o : List Int} (h : ok l) (ho : o.length ≤ 1048576) : ∀ (d k t : Nat), t + d = o.length → 2 * d + 2 * l.length + 10 < k → (∀ i, i < l.length → cnt (od o) i t ≤ nd l i) →
    ∃ b, spec_OrderOk.l1 k l o (tab (fun i => nd l i - cnt (od o) i t) l.length) (t : Int) = some b ∧ (b = true ↔ (∀ s, t ≤ s → s < o.length → okU l o s) ∧ (∀ i, i < l.length → cnt (od o) i o.length = nd l i) ∧ o.length ≤ 200) := by
  intro d
  have hl := h.len
  induction d with
  | zero =>
    intro k t ht hk hc
    obtain ⟨k, rfl⟩ : ∃ m, k = m + 1 := ⟨k - 1, by omega⟩
    have et : t = o.length := by omega
    simp only [spec_OrderOk.l1]
    rw [if_neg (by omega)]
    obtain ⟨b, e, hb⟩ := spec_OrderOk_l2 o h (fun i => nd l i - cnt (od o) i t) l.length k 0 (by omega) (by omega)
    refine ⟨b, e, hb.trans ⟨fun h0 => ⟨fun s h1 h2 => absurd h1 (by omega), fun i hi => ?_, h0.2⟩, fun h0 => ⟨fun j _ hj => ?_, h0.2.2⟩⟩⟩
    · have h1 : nd l i - cnt (od o) i t ≤ 0 := h0.1 i (Nat.zero_le _) hi
      have h2 := hc i hi
      rw [← et]
      omega
    · have := h0.2.1 j hj
      rw [← et] at this
      show nd l j - cnt (od o) j t ≤ 0
      omega
  | succ d ih =>
    intro k t ht hk hc
    obtain ⟨k, rfl⟩ : ∃ m, k = m + 1 + 1 := ⟨k - 2, by omega⟩
    have no : ¬ okU l o t → ∃ b, some false = some b ∧ (b = true ↔ (∀ s, t ≤ s → s < o.length → okU l o s) ∧ (∀ i, i < l.length → cnt (od o) i o.length = nd l i) ∧ o.length ≤ 200) := fun hn => ⟨false, rfl, ⟨fun h0 => (by cases h0), fun h0 => absurd (h0.1 t (Nat.le_refl _) (by omega)) hn⟩⟩
    have yes : okU l o t → (∀ i, i < l.length → cnt (od o) i (t + 1) ≤ nd l i) → ∃ b, spec_OrderOk.l1 k l o (tab (fun i => nd l i - cnt (od o) i (t + 1)) l.length) ((t + 1 : Nat) : Int) = some b ∧ (b = true ↔ (∀ s, t ≤ s → s < o.length → okU l o s) ∧ (∀ i, i < l.length → cnt (od o) i o.length = nd l i) ∧ o.length ≤ 200) := fun hy hcn => by
      obtain ⟨b, e, hb⟩ := ih k (t + 1) (by omega) (by omega) hcn
      refine ⟨b, e, hb.trans ⟨fun h0 => ⟨fun s h1 h2 => ?_, h0.2⟩, fun h0 => ⟨fun s h1 h2 => h0.1 s (by omega) h2, h0.2⟩⟩⟩
      by_cases es : s = t
      · subst es; exact hy
      · exact h0.1 s (by omega) h2
    simp only [spec_OrderOk.l1, spec_OrderOk.j2]
    rw [if_pos (by omega), if_pos (by omega), wr (x := (l.length : Int) - 1) (by omega) (by omega), od_eq, st (n := o.length) (by omega) (by omega)]
    by_cases h1 : -1 ≤ od o t ∧ od o t ≤ (l.length : Int) - 1
    · rw [spec_l1In_t h1.1 h1.2, bs, if_pos rfl]
      rcases split_who (od o t) with h3 | ⟨w, hw⟩
      · rw [if_neg (show ¬ od o t ≥ 0 from by omega), if_neg (by simp), if_neg (show ¬ od o t ≥ 0 from by omega), left_stay l o t h3]
        exact yes ⟨by omega, by omega, fun hh => by omega⟩ (fun i hi => by rw [cnt_succ, if_neg (by omega)]; have := hc i hi; omega)
      · have hwl : w < l.length := by omega
        rw [hw, if_pos (show (w : Int) ≥ 0 from by omega), if_pos (show (0 : Int) ≤ (w : Int) from by omega), if_pos (show (w : Int) < (l.length : Int) from by omega), cm_eq]
        by_cases h4 : cm l w > (t : Int)
        · rw [if_pos h4, if_pos (by first | rfl | trivial)]; exact no (fun hh => by have := hh.2.2 (by omega); rw [hw, Int.toNat_natCast] at this; omega)
        · rw [if_neg h4, tab_length, if_pos (show (w : Int) < (l.length : Int) from by omega), tab_rd _ hwl, Int.toNat_natCast]
          have h5 := h.need hwl
          have h6 := cnt_rng (O := od o) w t
          have h7 := hc w hwl
          by_cases h8 : nd l w - cnt (od o) w t = 0
          · rw [show (nd l w - cnt (od o) w t == 0) = true from by rw [beq_iff_eq]; exact h8, if_pos rfl]
            refine ⟨false, rfl, ⟨fun h0 => (by cases h0), fun h0 => ?_⟩⟩
            have h9 := h0.2.1 w hwl
            have h10 := cnt_le (O := od o) w (show t + 1 ≤ o.length from by omega)
            rw [cnt_succ, if_pos hw] at h10
            omega
          · rw [show (nd l w - cnt (od o) w t == 0) = false from by rw [beq_eq_false_iff_ne]; exact h8, if_neg (by simp), if_pos (show (w : Int) ≥ 0 from by omega), if_pos (show (0 : Int) ≤ (w : Int) from by omega), if_pos (show (w : Int) < (l.length : Int) from by omega)]
            rw [wr (by omega) (by omega), tab_set, left_step l o t hw]
            exact yes ⟨by omega, by omega, fun _ => by rw [hw, Int.toNat_natCast]; omega⟩ (fun i hi => by
              rw [cnt_succ]
              have := hc i hi
              by_cases e : od o t = (i : Int)
              · rw [if_pos e]; obtain rfl : i = w := by omega
                omega
              · rw [if_neg e]; omega)
    · rw [spec_l1In_n h1, bs, if_neg (by simp), if_pos (by first | rfl | trivial)]
      exact no (fun hh => h1 ⟨hh.1, by have := hh.2.1; omega⟩)
theorem spec_OrderOk_e (l : List S46) (o : List Int) (hl : l.length ≤ 1048576) (ho : o.length ≤ 1048576) {k : Nat} (hk : 2 * o.length + 3 * l.length + 40 < k) : ∃ b, spec_OrderOk.f k l o = some b ∧ (b = true ↔ ordok l o) := by
  unfold spec_OrderOk.f
  have ea : spec_OrderOk.l0 k l o [] 0 = spec_OrderOk.l1 (k - (l.length + 1)) l o (tab (nd l) l.length) 0 := spec_OrderOk_a l o hl l.length k 0 (by omega) (by omega)
  rw [ea]
  by_cases h : ok l
  · have hl8 := h.len
    rw [tab_congr (f := nd l) (g := fun i => nd l i - cnt (od o) i 0) (fun i _ => by rw [cnt_zero]; omega)]
    obtain ⟨b, e, hb⟩ := spec_OrderOk_l1 h (o := o) ho o.length (k - (l.length + 1)) 0 (by omega) (by omega) (fun i hi => by rw [cnt_zero]; have := h.need hi; omega)
    refine ⟨b, e, hb.trans ?_⟩
    rw [ordok_iff]
    exact ⟨fun h0 => ⟨h, h0.2.2, fun t ht => h0.1 t (Nat.zero_le _) ht, h0.2.1⟩, fun h0 => ⟨fun s _ hs => h0.2.2.1 s hs, h0.2.2.2, h0.2.1⟩⟩
  · exact ⟨false, spec_OrderOk_l1n hl ho h o.length (k - (l.length + 1)) 0 _ (by omega) (by omega) (tab_length _ _), ⟨fun h0 => (by cases h0), fun h0 => absurd h0.cust h⟩⟩
theorem spec_OrderOk_t {l : List S46} {o : List Int} (h : ordok l o) {k : Nat} (hk : 500 < k) : spec_OrderOk.f k l o = some true := by
  have hl := h.cust.len
  have ho := h.units
  obtain ⟨b, e, hb⟩ := spec_OrderOk_e l o (by omega) (by omega) (k := k) (by omega)
  rw [e, hb.2 h]
theorem spec_OrderOk_n {l : List S46} {o : List Int} (h : ¬ ordok l o) (hl : l.length ≤ 1048576) (ho : o.length ≤ 1048576) {k : Nat} (hk : 2 * o.length + 3 * l.length + 40 < k) : spec_OrderOk.f k l o = some false := by
  obtain ⟨b, e, hb⟩ := spec_OrderOk_e l o hl ho hk
  rw [e]
  cases b with
  | true => exact absurd (hb.1 rfl) h
  | false => rfl

-- MATH A
theorem spec_LastLeave_l {l : List S46} (h : ok l) : ∀ (i k : Nat) (b : Int), i ≤ l.length → i < k → 0 ≤ b → b ≤ 200 →
    spec_LastLeave.l0 k l b (sm (nd l) l.length - sm (nd l) i) ((i : Int) - 1) = some (mx b (mxs (fun j => cm l j + (sm (nd l) l.length - sm (nd l) j)) i)) := by
  intro i
  induction i with
  | zero =>
    intro k b hi hk hb hb'
    obtain ⟨k, rfl⟩ : ∃ m, k = m + 1 := ⟨k - 1, by omega⟩
    simp only [spec_LastLeave.l0]
    rw [if_neg (by omega), mxs_zero]
    unfold mx
    rw [if_neg (by omega)]
  | succ i ih =>
    intro k b hi hk hb hb'
    obtain ⟨k, rfl⟩ : ∃ m, k = m + 1 := ⟨k - 1, by omega⟩
    have hl := h.len
    have h1 := h.sum (i := i) (j := l.length) (by omega) (by omega)
    have h2 := h.sum (i := i + 1) (j := l.length) (by omega) (by omega)
    have h5 := h.come (i := i) (by omega)
    have e := sm_succ (nd l) i
    simp only [spec_LastLeave.l0]
    rw [show ((i + 1 : Nat) : Int) - 1 = (i : Int) from by omega]
    rw [if_pos (by omega), if_pos (by omega), if_pos (by omega), nd_eq, cm_eq]
    rw [wr (x := sm (nd l) l.length - sm (nd l) (i + 1) + nd l i) (by omega) (by omega), show sm (nd l) l.length - sm (nd l) (i + 1) + nd l i = sm (nd l) l.length - sm (nd l) i from by omega]
    rw [wr (x := cm l i + (sm (nd l) l.length - sm (nd l) i)) (by omega) (by omega), wr (x := (i : Int) - 1) (by omega) (by omega)]
    have hm := mx_ge b (cm l i + (sm (nd l) l.length - sm (nd l) i))
    rw [ih k _ (by omega) (by omega) (by omega) (by omega), mxs_succ]
    congr 1
    unfold mx
    repeat' split
    all_goals omega
theorem spec_LastLeave_t {l : List S46} (h : ok l) {k : Nat} (hk : l.length + 20 < k) : spec_LastLeave.f k l = some (LL (cm l) (nd l) l.length) := by
  unfold spec_LastLeave.f
  have hl := h.len
  rw [spec_CustomersOk_t h (by omega)]
  simp only [bs, if_true]
  have := spec_LastLeave_l h l.length k 0 (Nat.le_refl _) (by omega) (by omega) (by omega)
  rw [Int.sub_self] at this
  rw [wr (by omega) (by omega), this, LL_sums h l.length (Nat.le_refl _)]
  have h1 := LL_rng h l.length (Nat.le_refl _)
  have h2 := h.sum0 (Nat.le_refl _)
  congr 1
  unfold mx
  split <;> omega
theorem spec_LastLeave_n {l : List S46} (hl : l.length ≤ 9000000000000000000) (h : ¬ ok l) {k : Nat} (hk : l.length < k) : spec_LastLeave.f k l = some (-1) := by
  unfold spec_LastLeave.f
  rw [spec_CustomersOk_n hl h hk]
  simp

-- PRE order0
-- MATH V
/-- An order that does not idle from the unit i on. -/
def full (l : List S46) (o : List Int) (i : Nat) : Prop := ∀ t, i ≤ t → t < o.length → (0 ≤ od o t ↔ 0 < wk (cm l) (nd l) l.length t)
def busyok (l : List S46) (o : List Int) : Prop := ordok l o ∧ (o.length : Int) = LL (cm l) (nd l) l.length ∧ full l o 0
theorem full_step {l : List S46} {o : List Int} {i : Nat} (h : 0 ≤ od o i ↔ 0 < wk (cm l) (nd l) l.length i) : full l o i ↔ full l o (i + 1) := by
  constructor
  · intro hh t h1 h2; exact hh t (by omega) h2
  · intro hh t h1 h2
    by_cases e : t = i
    · rw [e]; exact h
    · exact hh t (by omega) h2
theorem dec_ne (a b : Prop) [Decidable a] [Decidable b] : ((decide a) != (decide b)) = true ↔ ¬ (a ↔ b) := by
  by_cases ha : a <;> by_cases hb : b <;> simp [ha, hb]

-- PRE busy0
theorem spec_BusyOk_l {l : List S46} {o : List Int} (h : ordok l o) : ∀ (d k i : Nat), i + d = o.length → d + 100 < k →
    ∃ b, spec_BusyOk.l0 k l o (tab (wk (cm l) (nd l) l.length) 201) (i : Int) = some b ∧ (b = true ↔ full l o i ∧ (o.length : Int) = LL (cm l) (nd l) l.length) := by
  intro d
  have hl := h.cust.len
  have hu := h.units
  induction d with
  | zero =>
    intro k i hi hk
    obtain ⟨k, rfl⟩ : ∃ m, k = m + 1 := ⟨k - 1, by omega⟩
    simp only [spec_BusyOk.l0]
    rw [if_neg (by omega), spec_LastLeave_t h.cust (by omega), bs]
    refine ⟨_, rfl, ?_⟩
    rw [beq_iff_eq]
    exact ⟨fun e => ⟨fun t h1 h2 => absurd h1 (by omega), e⟩, fun e => e.2⟩
  | succ d ih =>
    intro k i hi hk
    obtain ⟨k, rfl⟩ : ∃ m, k = m + 1 := ⟨k - 1, by omega⟩
    simp only [spec_BusyOk.l0]
    rw [if_pos (by omega), if_pos (by omega), tab_length, if_pos (by omega), tab_rd _ (by omega), od_eq, st (n := 300) (by omega) (by omega)]
    by_cases hc : ((decide (od o i ≥ 0)) != (decide (wk (cm l) (nd l) l.length i > 0))) = true
    · rw [if_pos hc]
      refine ⟨_, rfl, ?_⟩
      have hn := (dec_ne _ _).1 hc
      exact ⟨fun e => (by cases e), fun e => absurd (e.1 i (Nat.le_refl _) (by omega)) hn⟩
    · rw [if_neg hc]
      obtain ⟨b, e, hb⟩ := ih k (i + 1) (by omega) (by omega)
      refine ⟨b, e, ?_⟩
      rw [hb, full_step (Decidable.not_not.1 (fun hn => hc ((dec_ne _ _).2 hn)))]
theorem spec_BusyOk_e (l : List S46) (o : List Int) (hl : l.length ≤ 1048576) (ho : o.length ≤ 1048576) {k : Nat} (hk : 2 * o.length + 3 * l.length + 2500 < k) : ∃ b, spec_BusyOk.f k l o = some b ∧ (b = true ↔ busyok l o) := by
  unfold spec_BusyOk.f
  by_cases h : ordok l o
  · have hu := h.units
    have hw : spec_l3Work.f k l 200 = some (tab (wk (cm l) (nd l) l.length) 201) := spec_l3Work_t h.cust 200 (by omega) (by omega)
    rw [spec_OrderOk_t h (by omega), bs, if_pos rfl, hw, bs]
    obtain ⟨b, e, hb⟩ := spec_BusyOk_l h o.length k 0 (by omega) (by omega)
    refine ⟨b, e, ?_⟩
    rw [hb]
    exact ⟨fun q => ⟨h, q.2, q.1⟩, fun q => ⟨q.2.2, q.2.1⟩⟩
  · rw [spec_OrderOk_n h hl ho (by omega), bs, if_neg (by simp)]
    exact ⟨_, rfl, fun e => (by cases e), fun q => absurd q.1 h⟩

theorem impl_leftOf_l {l : List S46} (hl : l.length ≤ 1048576) : ∀ (d k i : Nat), i + d = l.length → d < k → impl_leftOf.l0 k (tab (nd l) i) l (l.length : Int) (i : Int) = some (tab (nd l) l.length) := by
  intro d
  induction d with
  | zero =>
    intro k i hi hk
    obtain ⟨k, rfl⟩ : ∃ m, k = m + 1 := ⟨k - 1, by omega⟩
    simp only [impl_leftOf.l0]
    rw [if_neg (by omega), show i = l.length from by omega]
  | succ d ih =>
    intro k i hi hk
    obtain ⟨k, rfl⟩ : ∃ m, k = m + 1 := ⟨k - 1, by omega⟩
    simp only [impl_leftOf.l0]
    rw [if_pos (by omega), if_pos (by omega), if_pos (by omega), tab_length, if_pos (by omega), nd_eq, st (n := l.length) (by omega) (by omega), ← tab_snoc]
    exact ih k (i + 1) (by omega) (by omega)
theorem impl_leftOf_e {l : List S46} (hl : l.length ≤ 1048576) {k : Nat} (hk : l.length < k) : impl_leftOf.f k l = some (tab (nd l) l.length) :=
  impl_leftOf_l hl l.length k 0 (by omega) hk

-- PRE order0
theorem impl_OrderOk_l1 (f : Nat → Int) (n : Nat) (hn : n ≤ 1048576) : ∀ (d k i : Nat), i + d = n → d < k → ∃ b, impl_OrderOk.l1 k (tab f n) (n : Int) (i : Int) = some b ∧ (b = true ↔ ∀ j, i ≤ j → j < n → f j = 0) := by
  intro d
  induction d with
  | zero =>
    intro k i hi hk
    obtain ⟨k, rfl⟩ : ∃ m, k = m + 1 := ⟨k - 1, by omega⟩
    simp only [impl_OrderOk.l1]
    rw [if_neg (by omega)]
    exact ⟨true, rfl, ⟨fun _ j h1 h2 => absurd h1 (by omega), fun _ => rfl⟩⟩
  | succ d ih =>
    intro k i hi hk
    obtain ⟨k, rfl⟩ : ∃ m, k = m + 1 := ⟨k - 1, by omega⟩
    simp only [impl_OrderOk.l1]
    rw [if_pos (by omega), if_pos (by omega), tab_length, if_pos (by omega), tab_rd f (by omega), st (n := n) (by omega) (by omega)]
    by_cases h : f i = 0
    · rw [if_pos h]
      obtain ⟨b, e, hb⟩ := ih k (i + 1) (by omega) (by omega)
      refine ⟨b, e, hb.trans ⟨fun h0 j h1 h2 => ?_, fun h0 j h1 h2 => h0 j (by omega) h2⟩⟩
      by_cases ej : j = i
      · subst ej; exact h
      · exact h0 j (by omega) h2
    · rw [if_neg h]
      exact ⟨false, rfl, ⟨fun h0 => (by cases h0), fun h0 => absurd (h0 i (Nat.le_refl _) (by omega)) h⟩⟩
theorem impl_OrderOk_l {l : List S46} {o : List Int} (h : ok l) (hT : o.length ≤ 200) : ∀ (d k t : Nat), t + d = o.length → 2 * d + l.length + 10 < k →
    ∃ b, impl_OrderOk.l0 k l (tab (fun i => nd l i - cnt (od o) i t) l.length) o (o.length : Int) (t : Int) = some b ∧ (b = true ↔ (∀ s, t ≤ s → s < o.length → okU l o s) ∧ ∀ i, i < l.length → cnt (od o) i o.length = nd l i) := by
  intro d
  have hl := h.len
  induction d with
  | zero =>
    intro k t ht hk
    obtain ⟨k, rfl⟩ : ∃ m, k = m + 1 := ⟨k - 1, by omega⟩
    simp only [impl_OrderOk.l0]
    rw [if_neg (by omega), tab_length]
    obtain ⟨b, e, hb⟩ := impl_OrderOk_l1 (fun i => nd l i - cnt (od o) i t) l.length (by omega) l.length k 0 (by omega) (by omega)
    refine ⟨b, e, hb.trans ⟨fun h0 => ⟨fun s h1 h2 => absurd h1 (by omega), fun i hi => ?_⟩, fun h0 j _ hj => ?_⟩⟩
    · have : nd l i - cnt (od o) i t = 0 := h0 i (Nat.zero_le _) hi
      rw [← show t = o.length from by omega]
      omega
    · have := h0.2 j hj
      rw [← show t = o.length from by omega] at this
      show nd l j - cnt (od o) j t = 0
      omega
  | succ d ih =>
    intro k t ht hk
    obtain ⟨k, rfl⟩ : ∃ m, k = m + 1 + 1 := ⟨k - 2, by omega⟩
    have no : ¬ okU l o t → ∃ b, some false = some b ∧ (b = true ↔ (∀ s, t ≤ s → s < o.length → okU l o s) ∧ ∀ i, i < l.length → cnt (od o) i o.length = nd l i) := fun hn => ⟨false, rfl, ⟨fun h0 => (by cases h0), fun h0 => absurd (h0.1 t (Nat.le_refl _) (by omega)) hn⟩⟩
    have yes : okU l o t → ∃ b, impl_OrderOk.l0 k l (tab (fun i => nd l i - cnt (od o) i (t + 1)) l.length) o (o.length : Int) ((t + 1 : Nat) : Int) = some b ∧ (b = true ↔ (∀ s, t ≤ s → s < o.length → okU l o s) ∧ ∀ i, i < l.length → cnt (od o) i o.length = nd l i) := fun hy => by
      obtain ⟨b, e, hb⟩ := ih k (t + 1) (by omega) (by omega)
      refine ⟨b, e, hb.trans ⟨fun h0 => ⟨fun s h1 h2 => ?_, h0.2⟩, fun h0 => ⟨fun s h1 h2 => h0.1 s (by omega) h2, h0.2⟩⟩⟩
      by_cases es : s = t
      · subst es; exact hy
      · exact h0.1 s (by omega) h2
    simp only [impl_OrderOk.l0, impl_OrderOk.j2]
    rw [if_pos (by omega), if_pos (by omega), if_pos (by omega), od_eq, st (n := o.length) (by omega) (by omega)]
    by_cases h1 : od o t < -1
    · rw [if_pos h1, if_pos (by first | rfl | trivial)]; exact no (fun hh => by have := hh.1; omega)
    rw [if_neg h1]
    by_cases h2 : od o t ≥ (l.length : Int)
    · rw [if_pos h2, if_pos (by first | rfl | trivial)]; exact no (fun hh => by have := hh.2.1; omega)
    rw [if_neg h2]
    rcases split_who (od o t) with h3 | ⟨w, hw⟩
    · rw [if_neg (show ¬ od o t ≥ 0 from by omega), if_neg (by simp), if_neg (show ¬ od o t ≥ 0 from by omega), left_stay l o t h3]
      exact yes ⟨by omega, by omega, fun hh => by omega⟩
    · have hwl : w < l.length := by omega
      rw [hw, if_pos (by omega), if_pos (by omega), if_pos (by omega), cm_eq]
      by_cases h4 : cm l w > (t : Int)
      · rw [decide_eq_true h4, if_pos rfl]; exact no (fun hh => by have := hh.2.2 (by omega); rw [hw, Int.toNat_natCast] at this; omega)
      · rw [decide_eq_false h4, if_neg (by simp), if_pos (by omega), if_pos (by omega), tab_length, if_pos (by omega), tab_rd _ hwl, Int.toNat_natCast]
        have h5 := h.need hwl
        have h6 := cnt_rng (O := od o) w t
        rw [wr (by omega) (by omega), tab_set, left_step l o t hw]
        exact yes ⟨by omega, by omega, fun _ => by rw [hw, Int.toNat_natCast]; omega⟩
theorem impl_OrderOk_e (l : List S46) (o : List Int) (hl : l.length ≤ 9000000000000000000) {k : Nat} (hk : 2 * 200 + 2 * l.length + 40 < k) : ∃ b, impl_OrderOk.f k l o = some b ∧ (b = true ↔ ordok l o) := by
  unfold impl_OrderOk.f
  obtain ⟨k, rfl⟩ : ∃ m, k = m + 1 := ⟨k - 1, by omega⟩
  by_cases h : ok l
  · have hl8 := h.len
    rw [impl_CustomersOk_t h (by omega)]
    simp only [bs, if_true, impl_OrderOk.j0]
    by_cases hT : (o.length : Int) > 200
    · rw [decide_eq_true hT, if_pos rfl]
      exact ⟨false, rfl, ⟨fun h0 => (by cases h0), fun h0 => by have := h0.units; omega⟩⟩
    · rw [decide_eq_false hT, if_neg (by simp), impl_leftOf_e (by omega) (by omega)]
      simp only [bs]
      rw [tab_congr (f := nd l) (g := fun i => nd l i - cnt (od o) i 0) (fun i _ => by rw [cnt_zero]; omega)]
      obtain ⟨b, e, hb⟩ := impl_OrderOk_l h (o := o) (by omega) o.length k 0 (by omega) (by omega)
      refine ⟨b, e, hb.trans ?_⟩
      rw [ordok_iff]
      exact ⟨fun h0 => ⟨h, by omega, fun t ht => h0.1 t (Nat.zero_le _) ht, h0.2⟩, fun h0 => ⟨fun s _ hs => h0.2.2.1 s hs, h0.2.2.2⟩⟩
  · rw [impl_CustomersOk_n hl h (by omega)]
    simp only [bs, impl_OrderOk.j0]
    exact ⟨false, rfl, ⟨fun h0 => (by cases h0), fun h0 => absurd h0.cust h⟩⟩
theorem impl_OrderOk_t {l : List S46} {o : List Int} (h : ordok l o) {k : Nat} (hk : 500 < k) : impl_OrderOk.f k l o = some true := by
  have hl := h.cust.len
  obtain ⟨b, e, hb⟩ := impl_OrderOk_e l o (by omega) (k := k) (by omega)
  rw [e, hb.2 h]
theorem impl_OrderOk_n {l : List S46} {o : List Int} (h : ¬ ordok l o) (hl : l.length ≤ 9000000000000000000) {k : Nat} (hk : 2 * 200 + 2 * l.length + 40 < k) : impl_OrderOk.f k l o = some false := by
  obtain ⟨b, e, hb⟩ := impl_OrderOk_e l o hl hk
  rw [e]
  cases b with
  | true => exact absurd (hb.1 rfl) h
  | false => rfl

-- MATH V
theorem impl_works_l1 {l : List S46} (h : ok l) (A : Int) {x : List Int} (hx : x.length < 17592186044416) {w : Int} (hw : 0 ≤ w ∧ w ≤ 1000) (t : Nat) (ht : t ≤ 1000) : ∀ (d k i : Nat), i + d = l.length → d < k →
    impl_works.l1 k l A x (w + ar (cm l) (nd l) t i) (t : Int) (i : Int) = impl_works.l0 (k - (d + 1)) l A (x ++ [w + arr (cm l) (nd l) l.length t]) (mx 0 (w + arr (cm l) (nd l) l.length t - 1)) ((t + 1 : Nat) : Int) := by
  intro d
  have hl := h.len
  induction d with
  | zero =>
    intro k i hi hk
    obtain ⟨k, rfl⟩ : ∃ m, k = m + 1 := ⟨k - 1, by omega⟩
    have e : i = l.length := by omega
    have hr := ar_rng h t i (by omega)
    simp only [impl_works.l1]
    rw [if_neg (by omega), if_pos hx, wr (x := w + ar (cm l) (nd l) t i - 1) (by omega) (by omega), e, ar_all, mx_comm0, st (n := 2000) (by omega) (by omega)]
    rfl
  | succ d ih =>
    intro k i hi hk
    obtain ⟨k, rfl⟩ : ∃ m, k = m + 1 := ⟨k - 1, by omega⟩
    have e := ih k (i + 1) (by omega) (by omega)
    have hr := ar_rng h t i (by omega)
    have hn := h.need (i := i) (by omega)
    rw [ar_succ] at e
    simp only [impl_works.l1]
    rw [if_pos (by omega), if_pos (by omega), cm_eq, nd_eq, st (n := l.length) (by omega) (by omega), show k + 1 - (d + 1 + 1) = k - (d + 1) from by omega]
    by_cases hc : cm l i = (t : Int)
    · rw [if_pos hc] at e ⊢
      rw [wr (by omega) (by omega), Int.add_assoc]
      exact e
    · rw [if_neg hc] at e ⊢
      rw [Int.add_zero] at e
      exact e
theorem impl_works_l {l : List S46} (h : ok l) (A : Nat) (hA : A ≤ 500) : ∀ (d k t : Nat), t + d = A + 1 → d * 11 + 2 < k → impl_works.l0 k l (A : Int) (tab (wk (cm l) (nd l) l.length) t) (pre (cm l) (nd l) l.length t) (t : Int) = some (tab (wk (cm l) (nd l) l.length) (A + 1)) := by
  intro d
  have hl := h.len
  induction d with
  | zero =>
    intro k t hi hk
    obtain ⟨k, rfl⟩ : ∃ m, k = m + 1 := ⟨k - 1, by omega⟩
    simp only [impl_works.l0]
    rw [if_neg (by omega), show t = A + 1 from by omega]
  | succ d ih =>
    intro k t hi hk
    obtain ⟨k, rfl⟩ : ∃ m, k = m + 1 := ⟨k - 1, by omega⟩
    have hp := pre_rng h t
    simp only [impl_works.l0]
    rw [if_pos (by omega)]
    have e := impl_works_l1 h (A : Int) (x := tab (wk (cm l) (nd l) l.length) t) (by rw [tab_length]; omega) (w := pre (cm l) (nd l) l.length t) (by omega) t (by omega) l.length k 0 (by omega) (by omega)
    rw [ar_zero, Int.add_zero, ← wk_pre, ← tab_snoc (wk (cm l) (nd l) l.length), ← pre_succ] at e
    refine Eq.trans e ?_
    exact ih (k - (l.length + 1)) (t + 1) (by omega) (by omega)
theorem impl_works_t {l : List S46} (h : ok l) {k : Nat} (hk : 2300 < k) : impl_works.f k l = some (tab (wk (cm l) (nd l) l.length) 201) :=
  impl_works_l h 200 (by omega) (200 + 1) k 0 (by omega) (by omega)

-- PRE busy0
-- PRE impl_works
theorem impl_BusyOk_l {l : List S46} {o : List Int} (ho : o.length ≤ 200) : ∀ (d k i : Nat), i + d = o.length → d < k →
    ∃ b, impl_BusyOk.l0 k o (tab (wk (cm l) (nd l) l.length) 201) (i : Int) = some b ∧ (b = true ↔ full l o i) := by
  intro d
  induction d with
  | zero =>
    intro k i hi hk
    obtain ⟨k, rfl⟩ : ∃ m, k = m + 1 := ⟨k - 1, by omega⟩
    simp only [impl_BusyOk.l0]
    rw [if_neg (by omega)]
    exact ⟨_, rfl, fun _ t h1 h2 => absurd h1 (by omega), fun _ => rfl⟩
  | succ d ih =>
    intro k i hi hk
    obtain ⟨k, rfl⟩ : ∃ m, k = m + 1 := ⟨k - 1, by omega⟩
    simp only [impl_BusyOk.l0]
    rw [if_pos (by omega), if_pos (by omega), if_pos (by omega), tab_rd _ (by omega), od_eq, st (n := 300) (by omega) (by omega)]
    by_cases hc : ((decide (od o i ≥ 0)) != (decide (wk (cm l) (nd l) l.length i > 0))) = true
    · rw [if_pos hc]
      refine ⟨_, rfl, ?_⟩
      have hn := (dec_ne _ _).1 hc
      exact ⟨fun e => (by cases e), fun e => absurd (e i (Nat.le_refl _) (by omega)) hn⟩
    · rw [if_neg hc]
      obtain ⟨b, e, hb⟩ := ih k (i + 1) (by omega) (by omega)
      refine ⟨b, e, ?_⟩
      rw [hb, full_step (Decidable.not_not.1 (fun hn => hc ((dec_ne _ _).2 hn)))]
theorem impl_BusyOk_e (l : List S46) (o : List Int) (hl : l.length ≤ 1048576) {k : Nat} (hk : 3 * l.length + 2500 < k) : ∃ b, impl_BusyOk.f k l o = some b ∧ (b = true ↔ busyok l o) := by
  unfold impl_BusyOk.f
  by_cases h : ordok l o
  · have hu := h.units
    rw [impl_OrderOk_t h (by omega), bs, if_pos rfl, impl_lastLeave_e h.cust (by omega), bs]
    by_cases hT : (o.length : Int) = LL (cm l) (nd l) l.length
    · rw [if_pos hT, impl_works_t h.cust (by omega), bs]
      obtain ⟨b, e, hb⟩ := impl_BusyOk_l (l := l) hu o.length k 0 (by omega) (by omega)
      refine ⟨b, e, ?_⟩
      rw [hb]
      exact ⟨fun q => ⟨h, hT, q⟩, fun q => q.2.2⟩
    · rw [if_neg hT]
      exact ⟨_, rfl, fun e => (by cases e), fun q => absurd q.2.1 hT⟩
  · rw [impl_OrderOk_n h (by omega) (by omega), bs, if_neg (by simp)]
    exact ⟨_, rfl, fun e => (by cases e), fun q => absurd q.1 h⟩
theorem impl_BusyOk_t {l : List S46} {o : List Int} (h : busyok l o) {k : Nat} (hk : 3000 < k) : impl_BusyOk.f k l o = some true := by
  have hl := h.1.cust.len
  obtain ⟨b, e, hb⟩ := impl_BusyOk_e l o (by omega) (k := k) (by omega)
  rw [e, hb.2 h]

theorem l20Open_e (l : List Int) (h : ∀ x ∈ l, (Lit.int .u8 x).wf = true) : ∃ b, spec_l20Open.f l = some (b, 0) ∧ Src b := by
  have hb := bytes_of h
  unfold spec_l20Open.f
  by_cases h1 : (l.length : Int) > 2000
  · rw [if_pos h1, if_pos (by omega)]
    exact ⟨_, rfl, ⟨fun x hx => hb x (List.mem_of_mem_take hx), by rw [List.length_take]; omega⟩⟩
  · rw [if_neg h1]
    exact ⟨_, rfl, ⟨hb, by omega⟩⟩

-- MATH D
theorem pick_e {b : List Int} (hb : Src b) {p n : Int} (hp : 0 ≤ p ∧ p ≤ 1000000) (hn : n ≤ 1000000) {k : Nat} (hk : 0 < k) :
    ∃ r, spec_l20Rd_pick.f k b p n = some (r, p + 1) ∧ 0 ≤ r ∧ (1 ≤ n → r < n) ∧ (n < 1 → r = 0) := by
  obtain ⟨k, rfl⟩ : ∃ m, k = m + 1 := ⟨k - 1, by omega⟩
  have hlen := hb.len
  unfold spec_l20Rd_pick.f
  rw [wr (x := p + 1) (by omega) (by omega)]
  by_cases h1 : n < 1
  · rw [if_pos h1]
    simp only [spec_l20Rd_pick.j0, if_true]
    exact ⟨0, rfl, by omega, by omega, fun _ => rfl⟩
  rw [if_neg h1]
  by_cases h2 : b.length = 0
  · rw [show ((b.length : Int) == 0) = true from by rw [beq_iff_eq]; omega]
    simp only [spec_l20Rd_pick.j0, if_true]
    exact ⟨0, rfl, by omega, by omega, fun _ => rfl⟩
  rw [show ((b.length : Int) == 0) = false from by rw [beq_eq_false_iff_ne]; omega]
  simp only [spec_l20Rd_pick.j0, Bool.false_eq_true, if_false]
  rw [wr (x := p + 1 - 1) (by omega) (by omega), show p + 1 - 1 = p from by omega]
  by_cases h3 : p < (b.length : Int)
  · rw [if_pos h3, if_pos hp.1, if_neg (by omega)]
    have hr := rd_rng hb.byte p
    rw [wr (by omega) (by omega)]
    have ht := tmod_rng (a := rd b p) (n := n) hr.1 (by omega)
    exact ⟨_, rfl, ht.1, fun _ => ht.2, fun h => absurd h h1⟩
  · have hL : (0 : Int) < (b.length : Int) := by omega
    have m1 := tmod_rng (a := p) (n := (b.length : Int)) hp.1 hL
    rw [wr (x := p * 7) (by omega) (by omega), wr (x := p * 7 + 3) (by omega) (by omega)]
    have m2 := tmod_rng (a := p * 7 + 3) (n := (b.length : Int)) (by omega) hL
    rw [if_neg h3, if_neg (by omega), if_pos m1.1, if_pos m1.2, if_pos m2.1, if_pos m2.2, if_neg (by omega)]
    have r1 := rd_rng hb.byte (Int.tmod p (b.length : Int))
    have r2 := rd_rng hb.byte (Int.tmod (p * 7 + 3) (b.length : Int))
    have d1 := tdiv_rng (a := p) (n := (b.length : Int)) hp.1 hL
    generalize rd b (Int.tmod p (b.length : Int)) = u at *
    generalize rd b (Int.tmod (p * 7 + 3) (b.length : Int)) = v at *
    generalize Int.tdiv p (b.length : Int) = d at *
    rw [wr (x := u) (by omega) (by omega), wr (x := v) (by omega) (by omega), wr (x := d) (by omega) (by omega)]
    rw [wr (x := u * 131) (by omega) (by omega), wr (x := v * 1117) (by omega) (by omega), wr (x := p * 29) (by omega) (by omega), wr (x := d * 53) (by omega) (by omega)]
    rw [wr (x := u * 131 + v * 1117) (by omega) (by omega), wr (x := u * 131 + v * 1117 + p * 29) (by omega) (by omega), wr (x := u * 131 + v * 1117 + p * 29 + d * 53) (by omega) (by omega)]
    have hx0 : 0 ≤ u * 131 + v * 1117 + p * 29 + d * 53 := by omega
    have hx1 : u * 131 + v * 1117 + p * 29 + d * 53 < 1099511627776 := by omega
    generalize u * 131 + v * 1117 + p * 29 + d * 53 = x at *
    have d2 := tdiv_rng (a := x) (n := 64) hx0 (by omega)
    rw [wr (x := Int.tdiv x 64) (by omega) (by omega)]
    have hx := xor_rng hx0 hx1 d2.1 (by omega)
    have ht := tmod_rng (a := Go.bits .xor .i64 x (Int.tdiv x 64)) (n := n) hx.1 (by omega)
    exact ⟨_, rfl, ht.1, fun _ => ht.2, fun h => absurd h h1⟩

theorem odd_e {b : List Int} (hb : Src b) {p n : Int} (hp : 0 ≤ p ∧ p ≤ 1000000) (hn : n ≤ 1000000) (hn0 : 0 ≤ n) {k : Nat} (hk : 0 < k) :
    ∃ r q, spec_l20Rd_odd.f k b p n = some (r, q) ∧ p ≤ q ∧ q ≤ p + 1 := by
  unfold spec_l20Rd_odd.f
  by_cases h : n > 0
  · obtain ⟨r, h1, _⟩ := pick_e hb hp hn hk
    rw [if_pos h, h1]
    exact ⟨_, _, rfl, by simp only; omega, by simp only; omega⟩
  · rw [if_neg h]
    exact ⟨_, _, rfl, by omega, by omega⟩

/-- Customers as they are drawn: few, and all their numbers small. -/
structure Drawn (l : List S46) : Prop where
  len : l.length ≤ 20
  come : ∀ i : Nat, i < l.length → -1 ≤ cm l i ∧ cm l i ≤ 100
  need : ∀ i : Nat, i < l.length → 0 ≤ nd l i ∧ nd l i ≤ 10
theorem Drawn.snoc {l : List S46} (h : Drawn l) (hl : l.length < 20) {a b : Int} (ha : -1 ≤ a ∧ a ≤ 100) (hb : 0 ≤ b ∧ b ≤ 10) : Drawn (l ++ [(⟨a, b⟩ : S46)]) := by
  have e : ∀ i : Nat, i < (l ++ [(⟨a, b⟩ : S46)]).length → rd_T46 (l ++ [(⟨a, b⟩ : S46)]) (i : Int) = if i < l.length then rd_T46 l (i : Int) else ⟨a, b⟩ := by
    intro i hi
    rw [List.length_append, List.length_singleton] at hi
    unfold rd_T46
    rw [List.getD_eq_getElem?_getD, List.getD_eq_getElem?_getD, Int.toNat_natCast]
    by_cases h0 : i < l.length
    · rw [if_pos h0, List.getElem?_append_left h0]
    · rw [if_neg h0, show i = l.length from by omega]
      simp
  refine ⟨by simp; omega, fun i hi => ?_, fun i hi => ?_⟩
  · unfold cm
    rw [e i hi]
    by_cases h0 : i < l.length
    · rw [if_pos h0]; exact h.come i h0
    · rw [if_neg h0]; exact ha
  · unfold nd
    rw [e i hi]
    by_cases h0 : i < l.length
    · rw [if_pos h0]; exact h.need i h0
    · rw [if_neg h0]; exact hb
theorem Drawn.nil : Drawn ([] : List S46) := ⟨by simp, fun i hi => absurd hi (by simp), fun i hi => absurd hi (by simp)⟩
theorem Drawn.one {a b : Int} (ha : -1 ≤ a ∧ a ≤ 100) (hb : 0 ≤ b ∧ b ≤ 10) : Drawn [(⟨a, b⟩ : S46)] := Drawn.snoc Drawn.nil (by simp) ha hb
theorem l20Customers_l {b : List Int} (hb : Src b) {n : Int} (hn0 : 0 ≤ n) (hn : n ≤ 1000000) {w high : Int} (hw : 1 ≤ w ∧ w ≤ 5) (hh : 3 ≤ high ∧ high ≤ 9) : ∀ (d k : Nat) (l : List S46) (t p : Int), d ≤ 8 → d + 1 < k → l.length + d ≤ 8 → Drawn l →
    0 ≤ t → t + 6 * d ≤ 60 → 0 ≤ p → p + 2 * d ≤ 900000 → ∃ r q, spec_l20Customers.l0 k n l t w high (d : Int) b p = some (r, q) ∧ Drawn r ∧ p ≤ q ∧ q ≤ p + 2 * d + 10 := by
  intro d
  induction d with
  | zero =>
    intro k l t p _ hk hl hD ht ht' hp hp'
    obtain ⟨k, rfl⟩ : ∃ m, k = m + 1 := ⟨k - 1, by omega⟩
    simp only [spec_l20Customers.l0]
    rw [if_neg (by omega)]
    obtain ⟨s, q, e, hq, hq'⟩ := odd_e hb (p := p) (n := n) (by omega) hn hn0 (k := k) (by omega)
    rw [e]
    simp only [bs]
    cases s with
    | false =>
      rw [if_neg (by simp)]
      exact ⟨_, _, rfl, hD, by omega, by omega⟩
    | true =>
      rw [if_pos rfl]
      obtain ⟨r1, e1, h0, h1, _⟩ := pick_e hb (p := q) (n := 3) (by omega) (by omega) (k := k) (by omega)
      rw [e1]
      simp only [bs]
      by_cases c0 : r1 = 0
      · rw [if_pos c0]
        exact ⟨_, _, rfl, Drawn.snoc (Drawn.one (by omega) (by omega)) (by simp) (by omega) (by omega), by omega, by omega⟩
      rw [if_neg c0]
      by_cases c1 : r1 = 1
      · rw [if_pos c1, if_pos (by omega)]
        exact ⟨_, _, rfl, Drawn.snoc hD (by omega) (by omega) (by omega), by omega, by omega⟩
      rw [if_neg c1]
      obtain ⟨r2, e2, g0, g1, _⟩ := pick_e hb (p := q + 1) (n := 2) (by omega) (by omega) (k := k) (by omega)
      rw [e2]
      simp only [bs]
      rw [if_pos g0, if_pos (by simp; omega)]
      refine ⟨_, _, rfl, Drawn.one ?_ (by omega), by omega, by omega⟩
      rcases (show r2 = 0 ∨ r2 = 1 from by omega) with c | c <;> subst c <;> simp [rd]
  | succ d ih =>
    intro k l t p hd hk hl hD ht ht' hp hp'
    obtain ⟨k, rfl⟩ : ∃ m, k = m + 1 := ⟨k - 1, by omega⟩
    simp only [spec_l20Customers.l0]
    rw [if_pos (by omega)]
    obtain ⟨r1, e1, h0, h1, _⟩ := pick_e hb (p := p) (n := high) (by omega) (by omega) (k := k) (by omega)
    rw [e1]
    simp only [bs]
    rw [if_pos (by omega), wr (x := w + 1) (by omega) (by omega)]
    obtain ⟨r2, e2, g0, g1, _⟩ := pick_e hb (p := p + 1) (n := w + 1) (by omega) (by omega) (k := k) (by omega)
    rw [e2]
    simp only [bs]
    rw [wr (x := 1 + r1) (by omega) (by omega), wr (x := t + r2) (by omega) (by omega), wr (x := ((d + 1 : Nat) : Int) - 1) (by omega) (by omega), show ((d + 1 : Nat) : Int) - 1 = (d : Int) from by omega]
    obtain ⟨r, q, e, hr, hq, hq'⟩ := ih k (l ++ [(⟨t, 1 + r1⟩ : S46)]) (t + r2) (p + 1 + 1) (by omega) (by omega) (by simp; omega) (Drawn.snoc hD (by omega) (by omega) (by omega)) (by omega) (by omega) (by omega) (by omega)
    exact ⟨r, q, e, hr, by omega, by omega⟩
theorem l20Customers_e {b : List Int} (hb : Src b) {n p : Int} (hn0 : 0 ≤ n) (hn : n ≤ 1000000) (hp : 0 ≤ p ∧ p ≤ 100000) {k : Nat} (hk : 20 < k) : ∃ r q, spec_l20Customers.f k b p n = some (r, q) ∧ Drawn r ∧ p ≤ q ∧ q ≤ p + 100 := by
  unfold spec_l20Customers.f
  obtain ⟨r1, e1, a0, a1, _⟩ := pick_e hb (p := p) (n := 3) (by omega) (by omega) (k := k) (by omega)
  obtain ⟨r2, e2, b0, b1, _⟩ := pick_e hb (p := p + 1) (n := 5) (by omega) (by omega) (k := k) (by omega)
  obtain ⟨r3, e3, c0, c1, _⟩ := pick_e hb (p := p + 1 + 1) (n := 2) (by omega) (by omega) (k := k) (by omega)
  obtain ⟨r4, e4, d0, d1, _⟩ := pick_e hb (p := p + 1 + 1 + 1) (n := 9) (by omega) (by omega) (k := k) (by omega)
  rw [e1]; simp only [bs]
  rw [e2]; simp only [bs]
  rw [e3]; simp only [bs]
  rw [if_pos c0, if_pos (by simp; omega), e4]
  simp only [bs]
  rw [wr (x := 1 + r2) (by omega) (by omega)]
  have hh : 3 ≤ rd [3, 9] r3 ∧ rd [3, 9] r3 ≤ 9 := by
    rcases (show r3 = 0 ∨ r3 = 1 from by omega) with c | c <;> subst c <;> simp [rd]
  obtain ⟨d, rfl⟩ := Int.eq_ofNat_of_zero_le d0
  obtain ⟨r, q, e, hr, hq, hq'⟩ := l20Customers_l hb hn0 hn (w := 1 + r2) (high := rd [3, 9] r3) (by omega) hh d k [] r1 (p + 1 + 1 + 1 + 1) (by omega) (by omega) (by simp; omega) Drawn.nil (by omega) (by omega) (by omega) (by omega)
  exact ⟨r, q, e, hr, by omega, by omega⟩

-- MATH W
theorem spec_l4Pick_p {l : List S46} (hl : l.length ≤ 8) (L : Nat → Int) (rule t : Int) : ∀ (d k i : Nat), i + d = l.length → 3 * d < k →
    spec_l4Pick.l0 k l (tab L l.length) t rule (pk (cm l) L t rule i) (i : Int) = some (pk (cm l) L t rule l.length) := by
  intro d
  induction d with
  | zero =>
    intro k i hi hk
    obtain ⟨k, rfl⟩ : ∃ m, k = m + 1 := ⟨k - 1, by omega⟩
    simp only [spec_l4Pick.l0]
    rw [if_neg (by omega), show i = l.length from by omega]
  | succ d ih =>
    intro k i hi hk
    obtain ⟨k, rfl⟩ : ∃ m, k = m + 1 + 1 + 1 := ⟨k - 3, by omega⟩
    have hp := pk_succ (cm l) L t rule i
    obtain ⟨r1, r2⟩ := pk_rng (cm l) L t rule i
    have e1 : ∀ m, k ≤ m → spec_l4Pick.l0 m l (tab L l.length) t rule (pk (cm l) L t rule (i + 1)) ((i + 1 : Nat) : Int) = some (pk (cm l) L t rule l.length) := fun m hm => ih m (i + 1) (by omega) (by omega)
    rw [spec_l4Pick.l0, if_pos (by omega), if_pos (by omega), cm_eq, tab_length, tab_rd L (show i < l.length from by omega)]
    by_cases c1 : cm l i > t
    · rw [if_pos (Or.inl (by omega))] at hp
      rw [if_pos c1, spec_l4Pick.j1, if_pos rfl, st (n := l.length) (by omega) (by omega), ← hp]
      exact e1 _ (by omega)
    rw [if_neg c1, if_pos (show (i : Int) < (l.length : Int) from by omega)]
    by_cases c2 : L i = 0
    · rw [if_pos (Or.inr c2)] at hp
      rw [show (L i == 0) = true from by rw [beq_iff_eq]; exact c2, spec_l4Pick.j1, if_pos rfl, st (n := l.length) (by omega) (by omega), ← hp]
      exact e1 _ (by omega)
    rw [if_neg (by omega)] at hp
    rw [show (L i == 0) = false from by rw [beq_eq_false_iff_ne]; exact c2, spec_l4Pick.j1, if_neg (by simp), st (n := l.length) (by omega) (by omega), tab_length]
    by_cases c3 : pk (cm l) L t rule i < 0
    · rw [if_pos (Or.inl c3)] at hp
      rw [if_pos c3, ← hp]
      exact e1 _ (by omega)
    obtain ⟨w, hw⟩ : ∃ w : Nat, pk (cm l) L t rule i = (w : Int) := ⟨(pk (cm l) L t rule i).toNat, by omega⟩
    rw [if_neg c3]
    by_cases c4 : rule = 1
    · rw [if_pos (Or.inr (Or.inl c4))] at hp
      rw [if_pos c4, ← hp]
      exact e1 _ (by omega)
    rw [if_neg c4]
    rw [hw, Int.toNat_natCast] at hp
    rw [hw, tab_rd L (show i < l.length from by omega), tab_rd L (show w < l.length from by omega)]
    by_cases c5 : rule = 2
    · rw [if_pos c5, if_pos (show (0 : Int) ≤ (i : Int) from by omega), if_pos (show (i : Int) < (l.length : Int) from by omega), if_pos (show (0 : Int) ≤ (w : Int) from by omega), if_pos (show (w : Int) < (l.length : Int) from by omega)]
      by_cases c6 : L i < L w
      · rw [if_pos (Or.inr (Or.inr (Or.inl ⟨c5, c6⟩)))] at hp
        rw [decide_eq_true c6, spec_l4Pick.j2, if_pos rfl, st (n := l.length) (by omega) (by omega), ← hp]
        exact e1 _ (by omega)
      · rw [if_neg (by omega)] at hp
        rw [decide_eq_false c6, spec_l4Pick.j2, if_neg (by simp), if_neg (show ¬ rule = 3 from by omega), st (n := l.length) (by omega) (by omega), ← hp]
        exact e1 _ (by omega)
    rw [if_neg c5, spec_l4Pick.j2, if_neg (by simp), st (n := l.length) (by omega) (by omega), tab_length, tab_rd L (show i < l.length from by omega), tab_rd L (show w < l.length from by omega)]
    by_cases c7 : rule = 3
    · rw [if_pos c7, if_pos (show (0 : Int) ≤ (i : Int) from by omega), if_pos (show (i : Int) < (l.length : Int) from by omega), if_pos (show (0 : Int) ≤ (w : Int) from by omega), if_pos (show (w : Int) < (l.length : Int) from by omega)]
      by_cases c8 : L i > L w
      · rw [if_pos (Or.inr (Or.inr (Or.inr ⟨c7, by omega⟩)))] at hp
        rw [if_pos c8, ← hp]
        exact e1 _ (by omega)
      · rw [if_neg (by omega)] at hp
        rw [if_neg c8, ← hp]
        exact e1 _ (by omega)
    · rw [if_neg (by omega)] at hp
      rw [if_neg c7, ← hp]
      exact e1 _ (by omega)
theorem spec_l4Pick_e {l : List S46} (hl : l.length ≤ 8) (L : Nat → Int) (rule t : Int) {k : Nat} (hk : 30 < k) : spec_l4Pick.f k l (tab L l.length) t rule = some (pk (cm l) L t rule l.length) := by
  unfold spec_l4Pick.f
  exact spec_l4Pick_p hl L rule t l.length k 0 (by omega) (by omega)

-- MATH W
theorem slf_step {l : List S46} (rule : Int) (t : Nat) {w : Nat} (hw : ob (cm l) (nd l) l.length rule t = (w : Int)) :
    tab (fun j => if j = w then lf (cm l) (nd l) l.length rule t w - 1 else lf (cm l) (nd l) l.length rule t j) l.length = tab (lf (cm l) (nd l) l.length rule (t + 1)) l.length :=
  tab_congr (fun j _ => by
    rw [lf_succ, hw]
    by_cases e : j = w
    · subst e; rw [if_pos rfl, if_pos rfl]
    · rw [if_neg e, if_neg (by omega)]; omega)
theorem slf_stay {l : List S46} (rule : Int) (t : Nat) (hw : ob (cm l) (nd l) l.length rule t < 0) :
    tab (lf (cm l) (nd l) l.length rule t) l.length = tab (lf (cm l) (nd l) l.length rule (t + 1)) l.length :=
  tab_congr (fun j _ => by rw [lf_succ, if_neg (by omega)]; omega)
theorem slf_small {l : List S46} (h : ok l) (rule : Int) (t : Nat) {w : Nat} (hw : w < l.length) : 0 ≤ lf (cm l) (nd l) l.length rule t w ∧ lf (cm l) (nd l) l.length rule t w ≤ 9 := by
  have h1 := lf_nonneg h rule t w hw
  have h2 := lf_cnt (C := cm l) (N := nd l) (n := l.length) rule w t
  have h3 := cnt_rng (O := ob (cm l) (nd l) l.length rule) w t
  have h4 := h.need hw
  omega
theorem spec_OrderBy_l1 {l : List S46} (h : ok l) (rule : Int) {T : Nat} (hT : (T : Int) = LL (cm l) (nd l) l.length) : ∀ (d k t : Nat), t + d = T → d + 60 < k →
    spec_OrderBy.l1 k l rule (tab (ob (cm l) (nd l) l.length rule) t) (tab (lf (cm l) (nd l) l.length rule t) l.length) (t : Int) = some (tab (ob (cm l) (nd l) l.length rule) T) := by
  intro d
  have hl := h.len
  have hl2 := LL_top h
  induction d with
  | zero =>
    intro k t ht hk
    obtain ⟨k, rfl⟩ : ∃ m, k = m + 1 := ⟨k - 1, by omega⟩
    simp only [spec_OrderBy.l1]
    rw [spec_LastLeave_t h (by omega), bs, ← hT, if_neg (by omega), show t = T from by omega]
  | succ d ih =>
    intro k t ht hk
    obtain ⟨k, rfl⟩ : ∃ m, k = m + 1 := ⟨k - 1, by omega⟩
    have hr := pk_rng (cm l) (lf (cm l) (nd l) l.length rule t) (t : Int) rule l.length
    simp only [spec_OrderBy.l1]
    rw [spec_LastLeave_t h (by omega), bs, ← hT, if_pos (by omega), spec_l4Pick_e (by omega) _ rule (t : Int) (by omega), bs, tab_length, tab_length, if_pos (by omega), bs, st (n := T) (by omega) (by omega)]
    rw [show pk (cm l) (lf (cm l) (nd l) l.length rule t) (t : Int) rule l.length = ob (cm l) (nd l) l.length rule t from rfl] at hr ⊢
    rw [← tab_snoc]
    rcases split_w (ob (cm l) (nd l) l.length rule t) with h3 | ⟨w, hw⟩
    · rw [if_neg (by omega), slf_stay rule t h3]
      exact ih k (t + 1) (by omega) (by omega)
    · have hs := slf_small h rule t (w := w) (by omega)
      rw [hw, if_pos (by omega), if_pos (by omega), if_pos (by omega), tab_rd _ (by omega), Int.toNat_natCast, wr (by omega) (by omega), tab_set, slf_step rule t hw]
      exact ih k (t + 1) (by omega) (by omega)
theorem spec_OrderBy_l0 {l : List S46} (h : ok l) (rule : Int) (x : List Int) : ∀ (d k i : Nat), i + d = l.length → d < k →
    spec_OrderBy.l0 k l rule x (tab (nd l) i) (i : Int) = spec_OrderBy.l1 (k - (d + 1)) l rule x (tab (nd l) l.length) 0 := by
  intro d
  have hl := h.len
  induction d with
  | zero =>
    intro k i hi hk
    obtain ⟨k, rfl⟩ : ∃ m, k = m + 1 := ⟨k - 1, by omega⟩
    simp only [spec_OrderBy.l0]
    rw [if_neg (by omega), show i = l.length from by omega]
    rfl
  | succ d ih =>
    intro k i hi hk
    obtain ⟨k, rfl⟩ : ∃ m, k = m + 1 := ⟨k - 1, by omega⟩
    simp only [spec_OrderBy.l0]
    rw [if_pos (by omega), if_pos (by omega), tab_length, if_pos (by omega), nd_eq, st (n := l.length) (by omega) (by omega), ← tab_snoc, show k + 1 - (d + 1 + 1) = k - (d + 1) from by omega]
    exact ih k (i + 1) (by omega) (by omega)
theorem spec_OrderBy_t {l : List S46} (h : ok l) {rule : Int} (hr : 0 ≤ rule ∧ rule ≤ 3) {T : Nat} (hT : (T : Int) = LL (cm l) (nd l) l.length) {k : Nat} (hk : 400 < k) : spec_OrderBy.f k l rule = some (tab (ob (cm l) (nd l) l.length rule) T) := by
  have hl := h.len
  have hl2 := LL_top h
  unfold spec_OrderBy.f
  obtain ⟨k, rfl⟩ : ∃ m, k = m + 1 := ⟨k - 1, by omega⟩
  rw [bs, spec_CustomersOk_t h (by omega), bs, if_pos rfl, spec_l1In_t hr.1 hr.2, bs]
  simp only [spec_OrderBy.j0, Bool.not_true, Bool.false_eq_true, if_false]
  have e : spec_OrderBy.l0 k l rule [] [] 0 = spec_OrderBy.l1 (k - (l.length + 1)) l rule [] (tab (nd l) l.length) 0 := spec_OrderBy_l0 h rule [] l.length k 0 (by omega) (by omega)
  rw [e]
  exact spec_OrderBy_l1 h rule hT T (k - (l.length + 1)) 0 (by omega) (by omega)
theorem spec_OrderBy_n {l : List S46} (hl : l.length ≤ 9000000000000000000) {rule : Int} (h : ¬ (ok l ∧ 0 ≤ rule ∧ rule ≤ 3)) {k : Nat} (hk : l.length + 1 < k) : spec_OrderBy.f k l rule = some [] := by
  unfold spec_OrderBy.f
  obtain ⟨k, rfl⟩ : ∃ m, k = m + 1 := ⟨k - 1, by omega⟩
  by_cases ho : ok l
  · rw [bs, spec_CustomersOk_t ho (by omega), bs, if_pos rfl, spec_l1In_n (fun hh => h ⟨ho, hh⟩), bs]
    simp [spec_OrderBy.j0]
  · rw [bs, spec_CustomersOk_n hl ho (by omega), bs, if_neg (by simp)]
    simp [spec_OrderBy.j0]

theorem l20Order_j4 {b : List Int} (hb : Src b) {p : Int} (hp : 0 ≤ p ∧ p ≤ 900000) (x : List Int) (hx : x.length ≤ 200) (c : Bool) (hc : c = true → 0 < x.length) {k : Nat} (hk : 1 < k) : ∃ o q, spec_l20Order.j4 k x c b p = some (o, q) ∧ o.length ≤ 300 := by
  obtain ⟨k, rfl⟩ : ∃ m, k = m + 1 := ⟨k - 1, by omega⟩
  simp only [spec_l20Order.j4]
  cases c with
  | false => rw [if_neg (by simp)]; exact ⟨_, _, rfl, by omega⟩
  | true =>
    have h0 := hc rfl
    rw [if_pos rfl]
    obtain ⟨r1, e1, a0, a1, _⟩ := pick_e hb (p := p) (n := 3) (by omega) (by omega) (k := k) (by omega)
    rw [e1, bs]
    by_cases c0 : r1 = 0
    · rw [if_pos c0, if_pos (by omega)]
      exact ⟨_, _, rfl, by rw [List.length_drop]; omega⟩
    rw [if_neg c0]
    by_cases c1 : r1 = 1
    · rw [if_pos c1]
      obtain ⟨r2, e2, b0, b1, _⟩ := pick_e hb (p := p + 1) (n := (x.length : Int)) (by omega) (by omega) (k := k) (by omega)
      obtain ⟨r3, e3, d0, d1, _⟩ := pick_e hb (p := p + 1 + 1) (n := 9) (by omega) (by omega) (k := k) (by omega)
      simp only [e2, bs, e3]
      rw [if_pos b0, if_pos (by omega)]
      exact ⟨_, _, rfl, by rw [List.length_set]; omega⟩
    · rw [if_neg c1, if_pos (by omega)]
      exact ⟨_, _, rfl, by simp; omega⟩
theorem l20Order_j3 {b : List Int} (hb : Src b) {p n : Int} (hn : 0 ≤ n ∧ n ≤ 1000000) (hp : 0 ≤ p ∧ p ≤ 800000) (x : List Int) (hx : x.length ≤ 200) {k : Nat} (hk : 2 < k) : ∃ o q, spec_l20Order.j3 k n x b p = some (o, q) ∧ o.length ≤ 300 := by
  obtain ⟨k, rfl⟩ : ∃ m, k = m + 1 := ⟨k - 1, by omega⟩
  simp only [spec_l20Order.j3]
  obtain ⟨s, q, e, hq, hq'⟩ := odd_e hb (p := p) (n := n) (by omega) hn.2 hn.1 (k := k) (by omega)
  rw [e, bs]
  cases s with
  | true => rw [if_pos rfl]; exact l20Order_j4 hb (by omega) x hx _ (fun h => by have := of_decide_eq_true h; omega) (by omega)
  | false => rw [if_neg (by simp)]; exact l20Order_j4 hb (by omega) x hx _ (fun h => by cases h) (by omega)
theorem l20Order_l2 {l : List S46} (hl : l.length ≤ 8) (n : Int) (x y : List Int) (hy : y.length = l.length) (idle : Bool) (t : Int) (b : List Int) (p : Int) : ∀ (d k i : Nat) (z : List Int) (m : Bool), i + d = l.length → d < k → z.length ≤ i → (∀ e ∈ z, 0 ≤ e ∧ e < (l.length : Int)) →
    ∃ z' m', spec_l20Order.l2 k l n x y idle t z m (i : Int) b p = spec_l20Order.l2 (k - d) l n x y idle t z' m' (l.length : Int) b p ∧ z'.length ≤ l.length ∧ ∀ e ∈ z', 0 ≤ e ∧ e < (l.length : Int) := by
  intro d
  induction d with
  | zero =>
    intro k i z m hi hk hz hz2
    exact ⟨z, m, by rw [show i = l.length from by omega]; rfl, by omega, hz2⟩
  | succ d ih =>
    intro k i z m hi hk hz hz2
    obtain ⟨k, rfl⟩ : ∃ m, k = m + 1 := ⟨k - 1, by omega⟩
    have hsn : ∀ e ∈ z ++ [(i : Int)], 0 ≤ e ∧ e < (l.length : Int) := fun e he => by
      rcases List.mem_append.1 he with h | h
      · exact hz2 e h
      · have : e = (i : Int) := by simpa using h
        omega
    have go1 : ∀ m', ∃ z' m'', spec_l20Order.l2 k l n x y idle t z m' ((i + 1 : Nat) : Int) b p = spec_l20Order.l2 (k + 1 - (d + 1)) l n x y idle t z' m'' (l.length : Int) b p ∧ z'.length ≤ l.length ∧ ∀ e ∈ z', 0 ≤ e ∧ e < (l.length : Int) := fun m' => by
      rw [show k + 1 - (d + 1) = k - d from by omega]
      exact ih k (i + 1) z m' (by omega) (by omega) (by omega) hz2
    have go2 : ∀ m', ∃ z' m'', spec_l20Order.l2 k l n x y idle t (z ++ [(i : Int)]) m' ((i + 1 : Nat) : Int) b p = spec_l20Order.l2 (k + 1 - (d + 1)) l n x y idle t z' m'' (l.length : Int) b p ∧ z'.length ≤ l.length ∧ ∀ e ∈ z', 0 ≤ e ∧ e < (l.length : Int) := fun m' => by
      rw [show k + 1 - (d + 1) = k - d from by omega]
      exact ih k (i + 1) _ m' (by omega) (by omega) (by rw [List.length_append, List.length_singleton]; omega) hsn
    rw [spec_l20Order.l2, if_pos (by omega), if_pos (show (0 : Int) ≤ (i : Int) from by omega), if_pos (show (0 : Int) ≤ (i : Int) from by omega), if_pos (show (i : Int) < (y.length : Int) from by omega), if_pos (show (i : Int) < (y.length : Int) from by omega), if_pos (show z.length < 17592186044416 from by omega), if_pos (show z.length < 17592186044416 from by omega), st (n := l.length) (by omega) (by omega)]
    (repeat' split) <;> first | exact go1 _ | exact go2 _
theorem l20Order_l1 {l : List S46} (hl : l.length ≤ 8) {n : Int} (hn : 0 ≤ n ∧ n ≤ 1000000) (idle : Bool) {b : List Int} (hb : Src b) : ∀ (d k t : Nat) (x y : List Int) (p : Int), t + d = 190 → d * 20 + 20 < k → x.length = t → y.length = l.length → 0 ≤ p → p + 2 * d ≤ 700000 →
    ∃ o q, spec_l20Order.l1 k l n x y idle (t : Int) b p = some (o, q) ∧ o.length ≤ 300 := by
  intro d
  induction d with
  | zero =>
    intro k t x y p ht hk hx hy hp hp'
    obtain ⟨k, rfl⟩ : ∃ m, k = m + 1 := ⟨k - 1, by omega⟩
    rw [spec_l20Order.l1, if_neg (by omega)]
    exact l20Order_j3 hb hn (by omega) x (by omega) (by omega)
  | succ d ih =>
    intro k t x y p ht hk hx hy hp hp'
    obtain ⟨k, rfl⟩ : ∃ m, k = m + 1 := ⟨k - 1, by omega⟩
    rw [spec_l20Order.l1, if_pos (by omega)]
    obtain ⟨z, m, e, hz, hz2⟩ := l20Order_l2 hl n x y hy idle (t : Int) b p l.length k 0 [] false (by omega) (by omega) (by simp) (fun e he => by cases he)
    obtain ⟨k', hk'⟩ : ∃ m, k - l.length = m + 1 := ⟨k - l.length - 1, by omega⟩
    rw [show (0 : Int) = ((0 : Nat) : Int) from rfl, e, hk', spec_l20Order.l2, if_neg (by omega)]
    have idl : ∀ q, 0 ≤ q → q ≤ p + 2 → ∃ o q', spec_l20Order.l1 k' l n (x ++ [-1]) y idle ((t + 1 : Nat) : Int) b q = some (o, q') ∧ o.length ≤ 300 := fun q h1 h2 =>
      ih k' (t + 1) _ y q (by omega) (by omega) (by simp; omega) hy h1 (by omega)
    have srv : ∀ q, 0 ≤ q → q ≤ p + 1 → 0 < z.length → ∃ o q', ((spec_l20Rd_pick.f k' b q (z.length : Int)).bind fun bt334 => if 0 ≤ bt334.1 then if bt334.1 < (z.length : Int) then if 0 ≤ rd z bt334.1 then if rd z bt334.1 < (y.length : Int) then if x.length < 17592186044416 then spec_l20Order.l1 k' l n (x ++ [rd z bt334.1]) (y.set (rd z bt334.1).toNat (wrap64 (rd y (rd z bt334.1) - 1))) idle ((t + 1 : Nat) : Int) b bt334.2 else none else none else none else none else none) = some (o, q') ∧ o.length ≤ 300 := fun q h1 h2 h3 => by
      obtain ⟨r, er, r0, r1, _⟩ := pick_e hb (p := q) (n := (z.length : Int)) (by omega) (by omega) (k := k') (by omega)
      have hm : rd z r ∈ z := by
        unfold rd
        rw [List.getD_eq_getElem?_getD, List.getElem?_eq_getElem (by omega)]
        exact List.getElem_mem _
      have hz3 := hz2 _ hm
      rw [er]
      simp only [bs]
      rw [if_pos r0, if_pos (by omega), if_pos hz3.1, if_pos (by omega), if_pos (by omega)]
      exact ih k' (t + 1) _ _ (q + 1) (by omega) (by omega) (by simp; omega) (by rw [List.length_set]; exact hy) (by omega) (by omega)
    rw [st (n := 190) (by omega) (by omega)]
    cases m with
    | false => rw [if_neg (by simp)]; exact l20Order_j3 hb hn (by omega) x (by omega) (by omega)
    | true =>
      rw [if_pos rfl]
      by_cases c0 : (z.length : Int) = 0
      · rw [if_pos c0, if_pos (by omega)]
        exact idl p hp (by omega)
      rw [if_neg c0]
      cases idle with
      | false => rw [if_neg (by simp)]; exact srv p hp (by omega) (by omega)
      | true =>
        rw [if_pos rfl]
        by_cases c1 : (t : Int) < 100
        · rw [if_pos c1]
          obtain ⟨r, er, r0, r1, _⟩ := pick_e hb (p := p) (n := 8) (by omega) (by omega) (k := k') (by omega)
          rw [er, bs]
          by_cases c2 : r = 0
          · rw [if_pos c2, if_pos (by omega)]
            exact idl (p + 1) (by omega) (by omega)
          · rw [if_neg c2]
            exact srv (p + 1) (by omega) (by omega) (by omega)
        · rw [if_neg c1]
          exact srv p hp (by omega) (by omega)
theorem l20Order_l0 {l : List S46} (hl : l.length ≤ 8) (n : Int) (x : List Int) (b : List Int) (p : Int) : ∀ (d k i : Nat), i + d = l.length → d < k →
    spec_l20Order.l0 k l n x (tab (nd l) i) (i : Int) b p = (spec_l20Rd_pick.f (k - (d + 1)) b p 3).bind fun bt => spec_l20Order.l1 (k - (d + 1)) l n x (tab (nd l) l.length) (bt.1 == 0) 0 b bt.2 := by
  intro d
  induction d with
  | zero =>
    intro k i hi hk
    obtain ⟨k, rfl⟩ : ∃ m, k = m + 1 := ⟨k - 1, by omega⟩
    simp only [spec_l20Order.l0]
    rw [if_neg (by omega), show i = l.length from by omega]
    rfl
  | succ d ih =>
    intro k i hi hk
    obtain ⟨k, rfl⟩ : ∃ m, k = m + 1 := ⟨k - 1, by omega⟩
    simp only [spec_l20Order.l0]
    rw [if_pos (by omega), if_pos (by omega), tab_length, if_pos (by omega), nd_eq, st (n := l.length) (by omega) (by omega), ← tab_snoc, show k + 1 - (d + 1 + 1) = k - (d + 1) from by omega]
    exact ih k (i + 1) (by omega) (by omega)
theorem l20Order_e {b : List Int} (hb : Src b) {l : List S46} (hD : l.length ≤ 1000) {n p : Int} (hn : 0 ≤ n ∧ n ≤ 1000000) (hp : 0 ≤ p ∧ p ≤ 100000) {k : Nat} (hk : 5000 < k) : ∃ o q, spec_l20Order.f k b p l n = some (o, q) ∧ o.length ≤ 300 := by
  unfold spec_l20Order.f
  by_cases h : ok l
  · have hl := h.len
    rw [spec_CustomersOk_t h (by omega), bs, if_pos rfl]
    have e : spec_l20Order.l0 k l n [] [] 0 b p = _ := l20Order_l0 (l := l) (by omega) n [] b p l.length k 0 (by omega) (by omega)
    rw [e]
    obtain ⟨r, er, r0, r1, _⟩ := pick_e hb (p := p) (n := 3) (by omega) (by omega) (k := k - (l.length + 1)) (by omega)
    rw [er, bs]
    exact l20Order_l1 (by omega) hn _ hb 190 (k - (l.length + 1)) 0 [] _ (p + 1) (by omega) (by omega) rfl (tab_length _ _) (by omega) (by omega)
  · rw [spec_CustomersOk_n (by omega) h (by omega), bs, if_neg (by simp)]
    exact ⟨_, _, rfl, by simp⟩

theorem l20Served_e {b : List Int} (hb : Src b) {n : Int} (hn : 0 ≤ n ∧ n ≤ 1000000) {k : Nat} (hk : 5000 < k) : ∃ r o q, spec_l20Served.f k b 0 n = some (r, o, q) ∧ Drawn r ∧ o.length ≤ 300 := by
  unfold spec_l20Served.f
  obtain ⟨r, q, e, hr, hq, hq'⟩ := l20Customers_e hb (n := 14) (p := 0) (by omega) (by omega) (by omega) (k := k) (by omega)
  obtain ⟨r1, e1, a0, a1, _⟩ := pick_e hb (p := q) (n := 3) (by omega) (by omega) (k := k) (by omega)
  have hl := hr.len
  rw [e]; simp only [bs]
  rw [e1]; simp only [bs]
  by_cases c0 : r1 = 0
  · obtain ⟨r2, e2, b0, b1, _⟩ := pick_e hb (p := q + 1) (n := 4) (by omega) (by omega) (k := k) (by omega)
    rw [if_pos c0, e2]; simp only [bs]
    by_cases h : ok r
    · have ht := LL_top h
      obtain ⟨T, hT⟩ := Int.eq_ofNat_of_zero_le ht.1
      rw [spec_OrderBy_t h (rule := r2) (by omega) hT.symm (by omega), bs]
      exact ⟨_, _, _, rfl, hr, by rw [tab_length]; omega⟩
    · rw [spec_OrderBy_n (by omega) (fun hh => h hh.1) (by omega), bs]
      exact ⟨_, _, _, rfl, hr, by simp⟩
  · obtain ⟨o, q2, e2, ho⟩ := l20Order_e hb (l := r) (by omega) (n := n) (p := q + 1) hn (by omega) hk
    rw [if_neg c0, e2]; simp only [bs]
    exact ⟨_, _, _, rfl, hr, ho⟩

theorem spec_DrawBusyOk_e (l : List Int) (h : ∀ x ∈ l, (Lit.int .u8 x).wf = true) {k : Nat} (hk : 5000 < k) : ∃ r o, spec_DrawBusyOk.f k l = some (r, o) ∧ Drawn r ∧ o.length ≤ 300 := by
  obtain ⟨b, e, hb⟩ := l20Open_e l h
  unfold spec_DrawBusyOk.f
  obtain ⟨r, o, q, e1, hr⟩ := l20Served_e hb (n := 9) (by omega) hk
  rw [e]; simp only [bs]
  rw [e1]; simp only [bs]
  exact ⟨_, _, rfl, hr⟩

-- MATH W
theorem impl_OrderBy_p {l : List S46} (hl : l.length ≤ 8) (L : Nat → Int) (rule : Int) (out : List Int) (T t : Int) : ∀ (d k i : Nat), i + d = l.length → 2 * d < k →
    impl_OrderBy.l1 k l rule (tab L l.length) out t (pk (cm l) L t rule i) T t l (l.length : Int) (i : Int) = impl_OrderBy.l1 (k - 2 * d) l rule (tab L l.length) out t (pk (cm l) L t rule l.length) T t l (l.length : Int) (l.length : Int) := by
  intro d
  induction d with
  | zero =>
    intro k i hi hk
    rw [show i = l.length from by omega]
    rfl
  | succ d ih =>
    intro k i hi hk
    obtain ⟨k, rfl⟩ : ∃ m, k = m + 1 + 1 := ⟨k - 2, by omega⟩
    have e := ih k (i + 1) (by omega) (by omega)
    have hp := pk_succ (cm l) L t rule i
    obtain ⟨r1, r2⟩ := pk_rng (cm l) L t rule i
    rw [show k + 1 + 1 - 2 * (d + 1) = k - 2 * d from by omega, ← e]
    simp only [impl_OrderBy.l1, impl_OrderBy.j3]
    rw [if_pos (by omega), if_pos (by omega), if_pos (by omega), cm_eq, st (n := l.length) (by omega) (by omega), tab_length, tab_rd L (show i < l.length from by omega)]
    by_cases c1 : cm l i > t
    · rw [if_pos (Or.inl (by omega))] at hp
      rw [if_pos c1, if_pos (by first | rfl | trivial), hp]
    rw [if_neg c1, if_pos (show (i : Int) < (l.length : Int) from by omega)]
    by_cases c2 : L i = 0
    · rw [if_pos (Or.inr c2)] at hp
      rw [show (L i == 0) = true from by rw [beq_iff_eq]; exact c2, if_pos (by first | rfl | trivial), hp]
    rw [if_neg (by omega)] at hp
    rw [show (L i == 0) = false from by rw [beq_eq_false_iff_ne]; exact c2, if_neg (by simp)]
    by_cases c3 : pk (cm l) L t rule i < 0
    · rw [if_pos (Or.inl c3)] at hp
      rw [if_pos c3, hp]
    obtain ⟨w, hw⟩ : ∃ w : Nat, pk (cm l) L t rule i = (w : Int) := ⟨(pk (cm l) L t rule i).toNat, by omega⟩
    rw [if_neg c3]
    by_cases c4 : rule = 1
    · rw [if_pos (Or.inr (Or.inl c4))] at hp
      rw [if_pos c4, hp]
    rw [if_neg c4]
    rw [hw, Int.toNat_natCast] at hp
    rw [hw, tab_rd L (show w < l.length from by omega)]
    by_cases c5 : rule = 2
    · rw [if_pos c5, if_pos (show (0 : Int) ≤ (i : Int) from by omega), if_pos (show (i : Int) < (l.length : Int) from by omega), if_pos (show (0 : Int) ≤ (w : Int) from by omega), if_pos (show (w : Int) < (l.length : Int) from by omega)]
      by_cases c6 : L i < L w
      · rw [if_pos (Or.inr (Or.inr (Or.inl ⟨c5, c6⟩)))] at hp
        rw [if_pos c6, hp]
      · rw [if_neg (by omega)] at hp
        rw [if_neg c6, if_neg (by omega), hp]
    rw [if_neg c5]
    by_cases c7 : rule = 3
    · rw [if_pos c7, if_pos (show (0 : Int) ≤ (i : Int) from by omega), if_pos (show (i : Int) < (l.length : Int) from by omega), if_pos (show (0 : Int) ≤ (w : Int) from by omega), if_pos (show (w : Int) < (l.length : Int) from by omega)]
      by_cases c8 : L i > L w
      · rw [if_pos (Or.inr (Or.inr (Or.inr ⟨c7, by omega⟩)))] at hp
        rw [if_pos c8, hp]
      · rw [if_neg (by omega)] at hp
        rw [if_neg c8, hp]
    · rw [if_neg (by omega)] at hp
      rw [if_neg c7, hp]
theorem lf_step {l : List S46} (rule : Int) (t : Nat) {w : Nat} (hw : ob (cm l) (nd l) l.length rule t = (w : Int)) :
    tab (fun j => if j = w then lf (cm l) (nd l) l.length rule t w - 1 else lf (cm l) (nd l) l.length rule t j) l.length = tab (lf (cm l) (nd l) l.length rule (t + 1)) l.length :=
  tab_congr (fun j _ => by
    rw [lf_succ, hw]
    by_cases e : j = w
    · subst e; rw [if_pos rfl, if_pos rfl]
    · rw [if_neg e, if_neg (by omega)]; omega)
theorem lf_stay {l : List S46} (rule : Int) (t : Nat) (hw : ob (cm l) (nd l) l.length rule t < 0) :
    tab (lf (cm l) (nd l) l.length rule t) l.length = tab (lf (cm l) (nd l) l.length rule (t + 1)) l.length :=
  tab_congr (fun j _ => by rw [lf_succ, if_neg (by omega)]; omega)
theorem lf_small {l : List S46} (h : ok l) (rule : Int) (t : Nat) {w : Nat} (hw : w < l.length) : 0 ≤ lf (cm l) (nd l) l.length rule t w ∧ lf (cm l) (nd l) l.length rule t w ≤ 9 := by
  have h1 := lf_nonneg h rule t w hw
  have h2 := lf_cnt (C := cm l) (N := nd l) (n := l.length) rule w t
  have h3 := cnt_rng (O := ob (cm l) (nd l) l.length rule) w t
  have h4 := h.need hw
  omega
theorem impl_OrderBy_l {l : List S46} (h : ok l) (rule : Int) {T : Nat} (hT : T ≤ 200) : ∀ (d k t : Nat), t + d = T → d * 20 < k →
    impl_OrderBy.l0 k l rule (tab (lf (cm l) (nd l) l.length rule t) l.length) (tab (ob (cm l) (nd l) l.length rule) t) (T : Int) (t : Int) = some (tab (ob (cm l) (nd l) l.length rule) T) := by
  intro d
  have hl := h.len
  induction d with
  | zero =>
    intro k t ht hk
    obtain ⟨k, rfl⟩ : ∃ m, k = m + 1 := ⟨k - 1, by omega⟩
    simp only [impl_OrderBy.l0]
    rw [if_neg (by omega), show t = T from by omega]
  | succ d ih =>
    intro k t ht hk
    obtain ⟨k, rfl⟩ : ∃ m, k = m + 1 := ⟨k - 1, by omega⟩
    simp only [impl_OrderBy.l0]
    rw [if_pos (by omega)]
    have e := impl_OrderBy_p (l := l) (by omega) (lf (cm l) (nd l) l.length rule t) rule (tab (ob (cm l) (nd l) l.length rule) t) (T : Int) (t : Int) l.length k 0 (by omega) (by omega)
    refine Eq.trans e ?_
    obtain ⟨m, hm⟩ : ∃ m, k - 2 * l.length = m + 1 := ⟨k - 2 * l.length - 1, by omega⟩
    rw [hm, show pk (cm l) (lf (cm l) (nd l) l.length rule t) (t : Int) rule l.length = ob (cm l) (nd l) l.length rule t from rfl]
    simp only [impl_OrderBy.l1]
    have hr := pk_rng (cm l) (lf (cm l) (nd l) l.length rule t) (t : Int) rule l.length
    rw [show pk (cm l) (lf (cm l) (nd l) l.length rule t) (t : Int) rule l.length = ob (cm l) (nd l) l.length rule t from rfl] at hr
    rw [if_neg (by omega), tab_length, tab_length, st (n := T) (by omega) (by omega)]
    rcases split_w (ob (cm l) (nd l) l.length rule t) with h3 | ⟨w, hw⟩
    · rw [if_neg (by omega), if_pos (by omega), lf_stay rule t h3, ← tab_snoc]
      exact ih m (t + 1) (by omega) (by omega)
    · have hs := lf_small h rule t (w := w) (by omega)
      have et : tab (ob (cm l) (nd l) l.length rule) t ++ [(w : Int)] = tab (ob (cm l) (nd l) l.length rule) (t + 1) := by rw [tab_snoc, hw]
      rw [hw, if_pos (by omega), if_pos (by omega), if_pos (by omega), if_pos (by omega), tab_rd _ (by omega), Int.toNat_natCast, wr (by omega) (by omega), tab_set, lf_step rule t hw, et]
      exact ih m (t + 1) (by omega) (by omega)
theorem impl_OrderBy_t {l : List S46} (h : ok l) {rule : Int} (hr : 0 ≤ rule ∧ rule ≤ 3) {T : Nat} (hT : (T : Int) = LL (cm l) (nd l) l.length) {k : Nat} (hk : 3000 < k) : impl_OrderBy.f k l rule = some (tab (ob (cm l) (nd l) l.length rule) T) := by
  have hl := h.len
  have ht := LL_top h
  unfold impl_OrderBy.f
  obtain ⟨k, rfl⟩ : ∃ m, k = m + 1 := ⟨k - 1, by omega⟩
  rw [impl_CustomersOk_t h (by omega), bs, if_pos rfl, if_neg (by omega), decide_eq_false (by omega)]
  simp only [impl_OrderBy.j0, Bool.false_eq_true, if_false]
  rw [impl_leftOf_e (by omega) (by omega), bs, impl_lastLeave_e h (by omega), bs, ← hT]
  exact impl_OrderBy_l h rule (T := T) (by omega) T k 0 (by omega) (by omega)
theorem impl_OrderBy_n {l : List S46} (hl : l.length ≤ 9000000000000000000) {rule : Int} (h : ¬ (ok l ∧ 0 ≤ rule ∧ rule ≤ 3)) {k : Nat} (hk : l.length + 1 < k) : impl_OrderBy.f k l rule = some [] := by
  unfold impl_OrderBy.f
  obtain ⟨k, rfl⟩ : ∃ m, k = m + 1 := ⟨k - 1, by omega⟩
  by_cases ho : ok l
  · rw [impl_CustomersOk_t ho (by omega), bs, if_pos rfl]
    simp only [impl_OrderBy.j0]
    by_cases h0 : rule < 0
    · rw [if_pos h0]; simp
    · rw [if_neg h0, decide_eq_true (by refine Int.not_lt.1 (fun hh => h ⟨ho, by omega, by omega⟩)), if_pos rfl]
  · rw [impl_CustomersOk_n hl ho (by omega), bs, if_neg (by simp)]
    simp [impl_OrderBy.j0]

-- PRE order0
-- MATH W
theorem ord_cut {C N : Nat → Int} {n : Nat} {O O' : Nat → Int} {T : Nat} (h : Ord C N n O T) (hO : ∀ t, t < T → O' t = O t) : Ord C N n O' T :=
  ⟨h.cust, h.units, fun t ht => by rw [hO t ht]; exact h.who t ht, fun i hi => by rw [cnt_congr i T hO]; exact h.need i hi⟩
/-- What a rule tells is an order of these customers. -/
theorem ordok_ob {l : List S46} (h : ok l) (rule : Int) {T : Nat} (hT : (T : Int) = LL (cm l) (nd l) l.length) : ordok l (tab (ob (cm l) (nd l) l.length rule) T) := by
  have h1 := ob_ord h rule hT
  show Ord (cm l) (nd l) l.length (od (tab (ob (cm l) (nd l) l.length rule) T)) (tab (ob (cm l) (nd l) l.length rule) T).length
  rw [tab_length]
  exact ord_cut h1 (fun t ht => tab_rd _ ht)

end FnBusyOkX
open FnBusyOkX
-- PRE ordobw
theorem busyok_ob {l : List S46} (h : ok l) (rule : Int) {T : Nat} (hT : (T : Int) = LL (cm l) (nd l) l.length) : busyok l (tab (ob (cm l) (nd l) l.length rule) T) := by
  refine ⟨ordok_ob h rule hT, by rw [tab_length]; exact hT, fun t h1 h2 => ?_⟩
  rw [tab_length] at h2
  rw [show od (tab (ob (cm l) (nd l) l.length rule) T) t = ob (cm l) (nd l) l.length rule t from tab_rd _ h2]
  exact ob_busy h rule t
theorem FnBusyOk_l {l : List S46} (hl : l.length ≤ 20) (o : List Int) (ho : o.length ≤ 300) (b : Bool) (hb : b = true ↔ busyok l o) : ∀ (d k r : Nat), r + d = 4 → 2 * d + 4000 < k → laws_FnBusyOk.l0 k l o b (r : Int) = some true := by
  have fin2 : ∀ k, 3900 < k → (impl_OrderOk.f k l o).bind (fun t400 => (if t400 = true then ((impl_LastLeave.f k l).bind fun t401 => (if (o.length : Int) ≥ t401 then ((laws_alive.f k).bind fun t402 => (some t402)) else (some false))) else ((laws_alive.f k).bind fun t403 => (some t403)))) = some true := fun k hk => by
    rw [laws_alive_e (by omega)]
    by_cases h : ordok l o
    · have hl := h.cust.len
      rw [impl_OrderOk_t h (by omega), bs, if_pos rfl, impl_LastLeave_t h.cust (by omega), bs, if_pos h.len, bs]
    · rw [impl_OrderOk_n h (by omega) (by omega), bs, if_neg (by simp), bs]
  have fin : ∀ k, 3900 < k → (if b = true then ((impl_LastLeave.f k l).bind fun t395 => (if (o.length : Int) = t395 then ((impl_OrderOk.f k l o).bind fun t396 => (if t396 = true then ((impl_LastLeave.f k l).bind fun t397 => (if (o.length : Int) ≥ t397 then ((laws_alive.f k).bind fun t398 => (some t398)) else (some false))) else ((laws_alive.f k).bind fun t399 => (some t399)))) else (some false))) else ((impl_OrderOk.f k l o).bind fun t400 => (if t400 = true then ((impl_LastLeave.f k l).bind fun t401 => (if (o.length : Int) ≥ t401 then ((laws_alive.f k).bind fun t402 => (some t402)) else (some false))) else ((laws_alive.f k).bind fun t403 => (some t403))))) = some true := fun k hk => by
    cases hc : b with
    | false => rw [if_neg (by simp)]; exact fin2 k hk
    | true =>
      have hq := hb.1 hc
      have hl := hq.1.cust.len
      rw [if_pos rfl, impl_LastLeave_t hq.1.cust (by omega), bs, if_pos hq.2.1]
      have e := fin2 k hk
      rw [impl_LastLeave_t hq.1.cust (by omega)] at e
      exact e
  intro d
  induction d with
  | zero =>
    intro k r hr hk
    obtain ⟨k, rfl⟩ : ∃ m, k = m + 1 + 1 := ⟨k - 2, by omega⟩
    rw [laws_FnBusyOk.l0, if_neg (by omega), laws_FnBusyOk.j1, if_neg (by simp)]
    exact fin k (by omega)
  | succ d ih =>
    intro k r hr hk
    obtain ⟨k, rfl⟩ : ∃ m, k = m + 1 + 1 := ⟨k - 2, by omega⟩
    rw [laws_FnBusyOk.l0, if_pos (by omega)]
    by_cases h : ok l
    · have ht := LL_top h
      obtain ⟨T, hT⟩ := Int.eq_ofNat_of_zero_le ht.1
      rw [impl_CustomersOk_t h (by omega), bs, laws_FnBusyOk.j1, if_pos rfl, impl_OrderBy_t h (rule := (r : Int)) (by omega) hT.symm (by omega), bs, impl_BusyOk_t (busyok_ob h (r : Int) hT.symm) (by omega), bs, if_pos rfl, st (n := 4) (by omega) (by omega)]
      exact ih k (r + 1) (by omega) (by omega)
    · rw [impl_CustomersOk_n (by omega) h (by omega), bs, laws_FnBusyOk.j1, if_neg (by simp)]
      exact fin k (by omega)
theorem FnBusyOk : laws_FnBusyOk.Pure := by
  intro l0 hm hs hw
  refine ⟨6000, ?_⟩
  unfold laws_FnBusyOk.f
  by_cases hg : (l0.length : Int) > 1048576
  · rw [if_pos hg]
  rw [if_neg hg]
  obtain ⟨l, o, e, hD, ho⟩ := spec_DrawBusyOk_e l0 hw (k := 6000) (by omega)
  rw [e]
  have hlen := hD.len
  obtain ⟨b, e1, h1⟩ := impl_BusyOk_e l o (by omega) (k := 6000) (by omega)
  obtain ⟨c, e2, h2⟩ := spec_BusyOk_e l o (by omega) (by omega) (k := 6000) (by omega)
  have e : b = c := by rw [Bool.eq_iff_iff, h1, h2]
  subst e
  simp only [bs]
  rw [e1, e2]
  simp only [bs, bne_self_eq_false, Bool.false_eq_true, if_false]
  exact FnBusyOk_l hlen o ho b h1 4 6000 0 (by omega) (by omega)

end Go.Proofs.Ytillelkfmebfiaa.Pure
