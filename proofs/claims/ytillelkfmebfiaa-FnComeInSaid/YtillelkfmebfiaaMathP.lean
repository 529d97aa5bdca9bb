/- Plain facts on busy periods: no program in sight; no conditions beyond those typed. -/
import Derived.Test.YtillelkfmebfiaaMathV
namespace Go.Proofs.Ytillelkfmebfiaa.Math
open Go.RowKit Go.Proofs.YtillelkfmebfiaaW.PrintWords Go.Proofs.YtillelkfmebfiaaW.PrintMore
set_option linter.unusedVariables false
/-- The first n values of a function, whatever they are. -/
def gtab {α : Type} (f : Nat → α) (n : Nat) : List α := (List.range n).map f
theorem gtab_length {α : Type} (f : Nat → α) (n : Nat) : (gtab f n).length = n := by simp [gtab]
theorem gtab_snoc {α : Type} (f : Nat → α) (n : Nat) : gtab f (n + 1) = gtab f n ++ [f n] := by unfold gtab; rw [List.range_succ, List.map_append]; rfl
theorem gtab_get {α : Type} (f : Nat → α) {n i : Nat} (h : i < n) (z : α) : (gtab f n).getD i z = f i := by simp [gtab, h]
theorem gtab_congr {α : Type} {f g : Nat → α} {n : Nat} (h : ∀ i, i < n → f i = g i) : gtab f n = gtab g n := List.map_congr_left (fun i hi => h i (List.mem_range.1 hi))
theorem gtab_set {α : Type} (f : Nat → α) (n i : Nat) (v : α) : (gtab f n).set i v = gtab (fun j => if j = i then v else f j) n := by
  apply List.ext_getElem?
  intro j
  by_cases hj : j = i
  · subst hj
    by_cases hn : j < n
    · rw [List.getElem?_set_self (by rw [gtab_length]; exact hn)]
      simp [gtab, hn]
    · rw [List.getElem?_eq_none (by rw [List.length_set, gtab_length]; omega), List.getElem?_eq_none (by rw [gtab_length]; omega)]
  · rw [List.getElem?_set_ne (Ne.symm hj)]
    by_cases hn : j < n
    · simp [gtab, hn, hj]
    · rw [List.getElem?_eq_none (by rw [gtab_length]; omega), List.getElem?_eq_none (by rw [gtab_length]; omega)]
/-- Periods: how many, where each begins, the unit behind each. -/
structure Prs where
  q : Nat
  b : Nat → Int
  e : Nat → Int
def up (f : Nat → Int) (i : Nat) (v : Int) : Nat → Int := fun j => if j = i then v else f j
theorem up_same (f : Nat → Int) (i : Nat) (v : Int) : up f i v i = v := if_pos rfl
theorem up_other (f : Nat → Int) {i j : Nat} (v : Int) (h : j ≠ i) : up f i v j = f j := if_neg h
/-- The busy periods of the units before m. -/
def bz (W : Nat → Int) : Nat → Prs
  | 0 => ⟨0, fun _ => 0, fun _ => 0⟩
  | m + 1 => if W m = 0 then bz W m else if 0 < (bz W m).q ∧ (bz W m).e ((bz W m).q - 1) = (m : Int) then ⟨(bz W m).q, (bz W m).b, up (bz W m).e ((bz W m).q - 1) ((m : Int) + 1)⟩ else ⟨(bz W m).q + 1, up (bz W m).b (bz W m).q (m : Int), up (bz W m).e (bz W m).q ((m : Int) + 1)⟩
theorem bz_zero (W : Nat → Int) : bz W 0 = ⟨0, fun _ => 0, fun _ => 0⟩ := rfl
theorem bz_succ (W : Nat → Int) (m : Nat) : bz W (m + 1) = if W m = 0 then bz W m else if 0 < (bz W m).q ∧ (bz W m).e ((bz W m).q - 1) = (m : Int) then ⟨(bz W m).q, (bz W m).b, up (bz W m).e ((bz W m).q - 1) ((m : Int) + 1)⟩ else ⟨(bz W m).q + 1, up (bz W m).b (bz W m).q (m : Int), up (bz W m).e (bz W m).q ((m : Int) + 1)⟩ := rfl
/-- The periods as rows of two numbers. -/
def prs (s : Prs) : List (List Int) := gtab (fun j => [s.b j, s.e j]) s.q
theorem prs_length (s : Prs) : (prs s).length = s.q := gtab_length _ _
theorem prs_get (s : Prs) {j : Nat} (h : j < s.q) : (prs s).getD j [] = [s.b j, s.e j] := gtab_get _ h _
theorem prs_last (s : Prs) (h : 0 < s.q) (v : Int) : (prs s).set (s.q - 1) [s.b (s.q - 1), v] = prs ⟨s.q, s.b, up s.e (s.q - 1) v⟩ := by
  unfold prs
  rw [gtab_set]
  refine gtab_congr (fun j hj => ?_)
  by_cases e : j = s.q - 1
  · rw [if_pos e]; subst e; show _ = [s.b (s.q - 1), up s.e (s.q - 1) v (s.q - 1)]; rw [up_same]
  · rw [if_neg e]; show _ = [s.b j, up s.e (s.q - 1) v j]; rw [up_other _ _ e]
theorem prs_snoc (s : Prs) (x v : Int) : prs s ++ [[x, v]] = prs ⟨s.q + 1, up s.b s.q x, up s.e s.q v⟩ := by
  unfold prs
  rw [gtab_snoc]
  show _ = gtab (fun j => [up s.b s.q x j, up s.e s.q v j]) s.q ++ [[up s.b s.q x s.q, up s.e s.q v s.q]]
  rw [up_same, up_same]
  congr 1
  refine gtab_congr (fun j hj => ?_)
  rw [up_other _ _ (by omega), up_other _ _ (by omega)]
/-- The places, of the first m, of those who come from b on, but before e. -/
def cin (C : Nat → Int) (b e : Int) : Nat → List Int
  | 0 => []
  | m + 1 => if b ≤ C m ∧ C m < e then cin C b e m ++ [(m : Int)] else cin C b e m
theorem cin_zero (C : Nat → Int) (b e : Int) : cin C b e 0 = [] := rfl
theorem cin_succ (C : Nat → Int) (b e : Int) (m : Nat) : cin C b e (m + 1) = if b ≤ C m ∧ C m < e then cin C b e m ++ [(m : Int)] else cin C b e m := rfl
theorem cin_length (C : Nat → Int) (b e : Int) : ∀ m, (cin C b e m).length ≤ m := by
  intro m
  induction m with
  | zero => exact Nat.le_refl _
  | succ m ih =>
    rw [cin_succ]
    split
    · rw [List.length_append]; simp only [List.length_cons, List.length_nil]; omega
    · omega
section
variable {W : Nat → Int}
/-- What holds of the periods of the units before m. -/
structure Pok (W : Nat → Int) (m : Nat) (s : Prs) : Prop where
  few : s.q ≤ m
  rng : ∀ j, j < s.q → 0 ≤ s.b j ∧ s.b j < s.e j ∧ s.e j ≤ (m : Int)
  gap : ∀ j, j + 1 < s.q → s.e j < s.b (j + 1)
  busy : ∀ t : Nat, t < m → (W t ≠ 0 ↔ ∃ j, j < s.q ∧ s.b j ≤ (t : Int) ∧ (t : Int) < s.e j)
theorem bz_ok (W : Nat → Int) : ∀ m, Pok W m (bz W m) := by
  intro m
  induction m with
  | zero => exact ⟨Nat.le_refl _, fun j hj => absurd hj (Nat.not_lt_zero _), fun j hj => absurd hj (Nat.not_lt_zero _), fun t ht => absurd ht (Nat.not_lt_zero _)⟩
  | succ m ih =>
    rw [bz_succ]
    generalize bz W m = s at ih
    obtain ⟨h1, h2, h3, h4⟩ := ih
    by_cases hw : W m = 0
    · rw [if_pos hw]
      refine ⟨by omega, fun j hj => ⟨(h2 j hj).1, (h2 j hj).2.1, by have := (h2 j hj).2.2; omega⟩, h3, fun t ht => ?_⟩
      by_cases e : t = m
      · subst e
        refine ⟨fun hh => absurd hw hh, fun ⟨j, hj, _, hq⟩ => ?_⟩
        have := (h2 j hj).2.2
        omega
      · exact h4 t (by omega)
    · rw [if_neg hw]
      by_cases hl : 0 < s.q ∧ s.e (s.q - 1) = (m : Int)
      · rw [if_pos hl]
        obtain ⟨hq, he⟩ := hl
        refine ⟨by show s.q ≤ m + 1; omega, fun j hj => ?_, fun j hj => ?_, fun t ht => ?_⟩
        · show 0 ≤ s.b j ∧ s.b j < up s.e (s.q - 1) ((m : Int) + 1) j ∧ up s.e (s.q - 1) ((m : Int) + 1) j ≤ ((m + 1 : Nat) : Int)
          have hb := h2 j hj
          by_cases e : j = s.q - 1
          · subst e; rw [up_same]; omega
          · rw [up_other _ _ e]; omega
        · show up s.e (s.q - 1) ((m : Int) + 1) j < s.b (j + 1)
          have hj' : j + 1 < s.q := hj
          rw [up_other _ _ (by omega)]
          exact h3 j hj'
        · show W t ≠ 0 ↔ ∃ j, j < s.q ∧ s.b j ≤ (t : Int) ∧ (t : Int) < up s.e (s.q - 1) ((m : Int) + 1) j
          by_cases e : t = m
          · subst e
            have hb := h2 (s.q - 1) (by omega)
            exact ⟨fun _ => ⟨s.q - 1, by omega, by omega, by rw [up_same]; omega⟩, fun _ => hw⟩
          · rw [h4 t (by omega)]
            constructor
            · rintro ⟨j, hj, a, b⟩
              refine ⟨j, hj, a, ?_⟩
              by_cases e2 : j = s.q - 1
              · subst e2; rw [up_same]; omega
              · rw [up_other _ _ e2]; exact b
            · rintro ⟨j, hj, a, b⟩
              refine ⟨j, hj, a, ?_⟩
              by_cases e2 : j = s.q - 1
              · subst e2; omega
              · rw [up_other _ _ e2] at b; exact b
      · rw [if_neg hl]
        have hlast : ∀ j, j < s.q → s.e j < (m : Int) ∨ j ≠ s.q - 1 := fun j hj => by
          by_cases e : j = s.q - 1
          · have := (h2 j hj).2.2
            refine Or.inl (Int.lt_iff_le_and_ne.2 ⟨this, fun hh => hl ⟨by omega, by rw [← e]; exact hh⟩⟩)
          · exact Or.inr e
        refine ⟨by show s.q + 1 ≤ m + 1; omega, fun j hj => ?_, fun j hj => ?_, fun t ht => ?_⟩
        · show 0 ≤ up s.b s.q (m : Int) j ∧ up s.b s.q (m : Int) j < up s.e s.q ((m : Int) + 1) j ∧ up s.e s.q ((m : Int) + 1) j ≤ ((m + 1 : Nat) : Int)
          have hj' : j < s.q + 1 := hj
          by_cases e : j = s.q
          · subst e; rw [up_same, up_same]; omega
          · have hb := h2 j (by omega)
            rw [up_other _ _ e, up_other _ _ e]; omega
        · show up s.e s.q ((m : Int) + 1) j < up s.b s.q (m : Int) (j + 1)
          have hj' : j + 1 < s.q + 1 := hj
          rw [up_other _ _ (show j ≠ s.q by omega)]
          by_cases e : j + 1 = s.q
          · rw [e, up_same]
            rcases hlast j (by omega) with hh | hh
            · exact hh
            · omega
          · rw [up_other _ _ e]
            exact h3 j (by omega)
        · show W t ≠ 0 ↔ ∃ j, j < s.q + 1 ∧ up s.b s.q (m : Int) j ≤ (t : Int) ∧ (t : Int) < up s.e s.q ((m : Int) + 1) j
          by_cases e : t = m
          · subst e
            exact ⟨fun _ => ⟨s.q, by omega, by rw [up_same]; omega, by rw [up_same]; omega⟩, fun _ => hw⟩
          · rw [h4 t (by omega)]
            constructor
            · rintro ⟨j, hj, a, b⟩
              exact ⟨j, by omega, by rw [up_other _ _ (by omega)]; exact a, by rw [up_other _ _ (by omega)]; exact b⟩
            · rintro ⟨j, hj, a, b⟩
              by_cases e2 : j = s.q
              · subst e2; rw [up_same] at a b; omega
              · rw [up_other _ _ e2] at a b; exact ⟨j, by omega, a, b⟩
/-- Periods lie in order. -/
theorem Pok.order {m : Nat} {s : Prs} (h : Pok W m s) : ∀ d i, i + d + 1 < s.q → s.e i < s.b (i + d + 1) := by
  intro d
  induction d with
  | zero => intro i hi; exact h.gap i hi
  | succ d ih =>
    intro i hi
    have h1 := ih i (by omega)
    have h2 := (h.rng (i + d + 1) (by omega)).2.1
    have h3 := h.gap (i + d + 1) (by omega)
    rw [show i + (d + 1) + 1 = i + d + 1 + 1 from by omega]
    omega
theorem Pok.before {m : Nat} {s : Prs} (h : Pok W m s) {i j : Nat} (hij : i < j) (hj : j < s.q) : s.e i < s.b j := by
  have := h.order (j - i - 1) i (by omega)
  rwa [show i + (j - i - 1) + 1 = j from by omega] at this
end
end Go.Proofs.Ytillelkfmebfiaa.Math
