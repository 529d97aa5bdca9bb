/- Plain facts on work and on units that are served: no program in sight; no conditions beyond those typed. -/
import Derived.Test.YtillelkfmebfiaaMathW
namespace Go.Proofs.Ytillelkfmebfiaa.Math
open Go.RowKit Go.Proofs.YtillelkfmebfiaaW.PrintWords Go.Proofs.YtillelkfmebfiaaW.PrintMore
set_option linter.unusedVariables false
section
variable {C N : Nat → Int} {n : Nat}
theorem mx_comm0 (x : Int) : mx x 0 = mx 0 x := by unfold mx; (repeat' split) <;> omega
/-- What the first j of those who come at the time t need. -/
def ar (C N : Nat → Int) (t j : Nat) : Int := sm (fun i => if C i = (t : Int) then N i else 0) j
theorem ar_zero (t : Nat) : ar C N t 0 = 0 := rfl
theorem ar_succ (t j : Nat) : ar C N t (j + 1) = ar C N t j + if C j = (t : Int) then N j else 0 := rfl
theorem ar_all (t : Nat) : ar C N t n = arr C N n t := rfl
theorem ar_rng (h : OK C N n) (t : Nat) : ∀ j, j ≤ n → 0 ≤ ar C N t j ∧ ar C N t j ≤ 9 * (j : Int) := by
  intro j
  induction j with
  | zero => intro _; rw [ar_zero]; omega
  | succ j ih =>
    intro hj
    have h1 := ih (by omega)
    have h2 := h.need (i := j) (by omega)
    rw [ar_succ]
    split <;> omega
/-- What is left of the work before. -/
def pre (C N : Nat → Int) (n : Nat) : Nat → Int
  | 0 => 0
  | t + 1 => mx 0 (wk C N n t - 1)
theorem pre_zero : pre C N n 0 = 0 := rfl
theorem pre_succ (t : Nat) : pre C N n (t + 1) = mx 0 (wk C N n t - 1) := rfl
theorem wk_pre (t : Nat) : wk C N n t = pre C N n t + arr C N n t := by
  cases t with
  | zero => rw [wk_zero, pre_zero]; omega
  | succ t => rw [wk_succ, pre_succ]
theorem pre_rng (h : OK C N n) (t : Nat) : 0 ≤ pre C N n t ∧ pre C N n t ≤ 200 := by
  cases t with
  | zero => rw [pre_zero]; omega
  | succ t =>
    have := wk_rng h t
    rw [pre_succ]
    unfold mx
    split <;> omega
/-- How many units were served before the time t. -/
def sv (C N : Nat → Int) (n : Nat) (t : Nat) : Int := sm (fun s => if 0 < wk C N n s then 1 else 0) t
theorem sv_zero : sv C N n 0 = 0 := rfl
theorem sv_succ (t : Nat) : sv C N n (t + 1) = sv C N n t + if 0 < wk C N n t then 1 else 0 := rfl
theorem sv_rng : ∀ t, 0 ≤ sv C N n t ∧ sv C N n t ≤ (t : Int) := by
  intro t
  induction t with
  | zero => rw [sv_zero]; omega
  | succ t ih => rw [sv_succ]; split <;> omega
/-- Work and what was served are together what those who have come need. -/
theorem wk_sv (h : OK C N n) : ∀ t, wk C N n t + sv C N n t = sm N (cb C n (t : Int)) := by
  intro t
  induction t with
  | zero => rw [wk_zero, arr_zero h, sv_zero]; show sm N (cb C n 0) + 0 = sm N (cb C n 0); omega
  | succ t ih =>
    have h0 := (wk_rng h t).1
    rw [wk_succ, sv_succ, arr_succ h]
    unfold mx
    (repeat' split) <;> omega
theorem cb_all (h : OK C N n) {t : Int} (ht : 60 ≤ t) : cb C n t = n := by
  have h1 := cb_le (C := C) (n := n) t
  by_cases e : cb C n t = n
  · exact e
  · have h2 := h.come (i := cb C n t) (by omega)
    have h3 := (cb_iff h t (i := cb C n t) (by omega)).1 (by omega)
    omega
theorem sv_end (h : OK C N n) {t : Nat} (ht : 140 ≤ t) : sv C N n t = sm N n := by
  have e := wk_sv h t
  have h1 := LL_top h
  rw [wk_end h (by omega), cb_all h (by omega)] at e
  omega
end
end Go.Proofs.Ytillelkfmebfiaa.Math
