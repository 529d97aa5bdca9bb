/- Functions that the law FnBusyOf reaches, as Lean functions, each with the contract that the machine's call does what that function says. Written by a program for this claim (print.py over a turned print, then patch2.py; the walks of impl.works and of what calls it by hand); no conditions beyond those typed. -/
import Derived.Test.YtillelkfmebfiaaQFnBusyOfx0
import Derived.Test.YtillelkfmebfiaaQFnBusyOfx1
import Derived.Test.YtillelkfmebfiaaQFnBusyOfx3
import Derived.Test.YtillelkfmebfiaaQFnBusyOfx4
namespace Go.Proofs.Ytillelkfmebfiaa.QFnBusyOf
open Go.RowKit Go.Proofs.YtillelkfmebfiaaW.PrintWords Go.Proofs.YtillelkfmebfiaaW.PrintLast Go.Proofs.YtillelkfmebfiaaW.PrintMore
attribute [local go_sem] max2_int min2_int max_two min_two max_three min_three max_four min_four   -- for this text's walks alone
set_option linter.unusedVariables false
set_option linter.unusedSimpArgs false

/-! ### laws_FnBusyOf: function 8 -/
mutual
def laws_FnBusyOf.l0 : Nat → List (S46) → List (List Int) → List (List Int) → Int → Option (Bool)
  | 0, _, _, _, _ => none
  | k + 1, x3, x4, x5, x6 => if x6 < (x4.length : Int) then (if 0 ≤ x6 then (if x6 < (x5.length : Int) then ((laws_sameInts.f k (rd_L2 x4 x6) (rd_L2 x5 x6)).bind fun t258 => (if t258 = true then (laws_FnBusyOf.l0 k x3 x4 x5 (wrap64 (x6 + 1))) else (some false))) else (none)) else (none)) else (laws_FnBusyOf.l1 k x3 x5 0)
def laws_FnBusyOf.l1 : Nat → List (S46) → List (List Int) → Int → Option (Bool)
  | 0, _, _, _ => none
  | k + 1, x3, x5, x7 => if x7 < (x5.length : Int) then (laws_FnBusyOf.l2 k x3 x5 x7 0 false 0) else (if (x5.length : Int) = 0 then (if (x3.length : Int) = 0 then ((laws_alive.f k).bind fun t283 => (some t283)) else ((impl_CustomersOk.f k x3).bind fun t284 => (if t284 = true then (some false) else ((laws_alive.f k).bind fun t285 => (some t285))))) else (if 0 ≤ (wrap64 ((x5.length : Int) - 1)) then (if (wrap64 ((x5.length : Int) - 1)) < (x5.length : Int) then (if 1 < ((rd_L2 x5 (wrap64 ((x5.length : Int) - 1))).length : Int) then ((impl_LastLeave.f k x3).bind fun t288 => (some ((rd (rd_L2 x5 (wrap64 ((x5.length : Int) - 1))) 1) == t288))) else (none)) else (none)) else (none)))
def laws_FnBusyOf.l2 : Nat → List (S46) → List (List Int) → Int → Int → Bool → Int → Option (Bool)
  | 0, _, _, _, _, _, _ => none
  | k + 1, x3, x5, x7, x8, x9, x10 => if x10 < (x3.length : Int) then (if 0 ≤ x10 then (if 0 ≤ x7 then (if x7 < (x5.length : Int) then (if 0 < ((rd_L2 x5 x7).length : Int) then (if ((rd_T46 x3 x10).f0) ≥ (rd (rd_L2 x5 x7) 0) then (if 1 < ((rd_L2 x5 x7).length : Int) then (if ((rd_T46 x3 x10).f0) < (rd (rd_L2 x5 x7) 1) then (if x9 = true then (laws_FnBusyOf.l2 k x3 x5 x7 (wrap64 (x8 + ((rd_T46 x3 x10).f1))) true (wrap64 (x10 + 1))) else (laws_FnBusyOf.l2 k x3 x5 x7 (wrap64 (x8 + ((rd_T46 x3 x10).f1))) (((rd_T46 x3 x10).f0) == (rd (rd_L2 x5 x7) 0)) (wrap64 (x10 + 1)))) else (if x9 = true then (laws_FnBusyOf.l2 k x3 x5 x7 x8 true (wrap64 (x10 + 1))) else (laws_FnBusyOf.l2 k x3 x5 x7 x8 (((rd_T46 x3 x10).f0) == (rd (rd_L2 x5 x7) 0)) (wrap64 (x10 + 1))))) else (none)) else (if x9 = true then (laws_FnBusyOf.l2 k x3 x5 x7 x8 true (wrap64 (x10 + 1))) else (laws_FnBusyOf.l2 k x3 x5 x7 x8 (((rd_T46 x3 x10).f0) == (rd (rd_L2 x5 x7) 0)) (wrap64 (x10 + 1))))) else (none)) else (none)) else (none)) else (none)) else (if 0 ≤ x7 then (if x7 < (x5.length : Int) then (if 1 < ((rd_L2 x5 x7).length : Int) then (if 0 < ((rd_L2 x5 x7).length : Int) then (if (wrap64 ((rd (rd_L2 x5 x7) 1) - (rd (rd_L2 x5 x7) 0))) = x8 then (if x9 = true then (if x7 > 0 then (if 0 ≤ (wrap64 (x7 - 1)) then (if (wrap64 (x7 - 1)) < (x5.length : Int) then (if 1 < ((rd_L2 x5 (wrap64 (x7 - 1))).length : Int) then (if (rd (rd_L2 x5 x7) 0) ≤ (rd (rd_L2 x5 (wrap64 (x7 - 1))) 1) then (some false) else (laws_FnBusyOf.l1 k x3 x5 (wrap64 (x7 + 1)))) else (none)) else (none)) else (none)) else (laws_FnBusyOf.l1 k x3 x5 (wrap64 (x7 + 1)))) else (some false)) else (some false)) else (none)) else (none)) else (none)) else (none))
end
def laws_FnBusyOf.f (k : Nat) (l0 : List Int) : Option (Bool) := if (l0.length : Int) > 1048576 then (some true) else ((spec_DrawBusyOf.f k l0).bind fun t247 => ((impl_BusyOf.f k t247).bind fun t250 => ((spec_BusyOf.f k t247).bind fun t253 => (if (t250.length : Int) = (t253.length : Int) then (laws_FnBusyOf.l0 k t247 t250 t253 0) else (some false)))))
theorem laws_FnBusyOf.mono_l : ∀ k, (∀ y0 y1 y2 y3, LeO (laws_FnBusyOf.l0 k y0 y1 y2 y3) (laws_FnBusyOf.l0 (k + 1) y0 y1 y2 y3)) ∧ (∀ y0 y1 y2, LeO (laws_FnBusyOf.l1 k y0 y1 y2) (laws_FnBusyOf.l1 (k + 1) y0 y1 y2)) ∧ (∀ y0 y1 y2 y3 y4 y5, LeO (laws_FnBusyOf.l2 k y0 y1 y2 y3 y4 y5) (laws_FnBusyOf.l2 (k + 1) y0 y1 y2 y3 y4 y5))
  | 0 => ⟨fun _ _ _ _ r h => by simp [laws_FnBusyOf.l0] at h, fun _ _ _ r h => by simp [laws_FnBusyOf.l1] at h, fun _ _ _ _ _ _ r h => by simp [laws_FnBusyOf.l2] at h⟩
  | k + 1 => by
    obtain ⟨ih0, ih1, ih2⟩ := laws_FnBusyOf.mono_l k
    refine ⟨?_, ?_, ?_⟩
    · intro y0 y1 y2 y3
      unfold laws_FnBusyOf.l0
      repeat' first
      | (with_reducible exact ih0 _ _ _ _)
      | (with_reducible exact ih1 _ _ _)
      | (with_reducible exact ih2 _ _ _ _ _ _)
      | (with_reducible exact impl_BusyOf.mono _ _)
      | (with_reducible exact impl_CustomersOk.mono _ _)
      | (with_reducible exact impl_LastLeave.mono _ _)
      | (with_reducible exact laws_alive.mono _)
      | (with_reducible exact laws_sameInts.mono _ _ _)
      | (with_reducible exact spec_BusyOf.mono _ _)
      | (with_reducible exact spec_DrawBusyOf.mono _ _)
      | (with_reducible exact LeO.refl _)
      | (with_reducible exact LeO.none _)
      | (with_reducible refine LeO.ite ?_ ?_)
      | (with_reducible refine LeO.bind ?_ (fun _ => ?_))
      | exact ih0 _ _ _ _
      | exact ih1 _ _ _
      | exact ih2 _ _ _ _ _ _
      | exact impl_BusyOf.mono _ _
      | exact impl_CustomersOk.mono _ _
      | exact impl_LastLeave.mono _ _
      | exact laws_alive.mono _
      | exact laws_sameInts.mono _ _ _
      | exact spec_BusyOf.mono _ _
      | exact spec_DrawBusyOf.mono _ _
      | exact LeO.none _
      | refine LeO.ite ?_ ?_
      | refine LeO.bind ?_ (fun _ => ?_)
    · intro y0 y1 y2
      unfold laws_FnBusyOf.l1
      repeat' first
      | (with_reducible exact ih0 _ _ _ _)
      | (with_reducible exact ih1 _ _ _)
      | (with_reducible exact ih2 _ _ _ _ _ _)
      | (with_reducible exact impl_BusyOf.mono _ _)
      | (with_reducible exact impl_CustomersOk.mono _ _)
      | (with_reducible exact impl_LastLeave.mono _ _)
      | (with_reducible exact laws_alive.mono _)
      | (with_reducible exact laws_sameInts.mono _ _ _)
      | (with_reducible exact spec_BusyOf.mono _ _)
      | (with_reducible exact spec_DrawBusyOf.mono _ _)
      | (with_reducible exact LeO.refl _)
      | (with_reducible exact LeO.none _)
      | (with_reducible refine LeO.ite ?_ ?_)
      | (with_reducible refine LeO.bind ?_ (fun _ => ?_))
      | exact ih0 _ _ _ _
      | exact ih1 _ _ _
      | exact ih2 _ _ _ _ _ _
      | exact impl_BusyOf.mono _ _
      | exact impl_CustomersOk.mono _ _
      | exact impl_LastLeave.mono _ _
      | exact laws_alive.mono _
      | exact laws_sameInts.mono _ _ _
      | exact spec_BusyOf.mono _ _
      | exact spec_DrawBusyOf.mono _ _
      | exact LeO.none _
      | refine LeO.ite ?_ ?_
      | refine LeO.bind ?_ (fun _ => ?_)
    · intro y0 y1 y2 y3 y4 y5
      unfold laws_FnBusyOf.l2
      repeat' first
      | (with_reducible exact ih0 _ _ _ _)
      | (with_reducible exact ih1 _ _ _)
      | (with_reducible exact ih2 _ _ _ _ _ _)
      | (with_reducible exact impl_BusyOf.mono _ _)
      | (with_reducible exact impl_CustomersOk.mono _ _)
      | (with_reducible exact impl_LastLeave.mono _ _)
      | (with_reducible exact laws_alive.mono _)
      | (with_reducible exact laws_sameInts.mono _ _ _)
      | (with_reducible exact spec_BusyOf.mono _ _)
      | (with_reducible exact spec_DrawBusyOf.mono _ _)
      | (with_reducible exact LeO.refl _)
      | (with_reducible exact LeO.none _)
      | (with_reducible refine LeO.ite ?_ ?_)
      | (with_reducible refine LeO.bind ?_ (fun _ => ?_))
      | exact ih0 _ _ _ _
      | exact ih1 _ _ _
      | exact ih2 _ _ _ _ _ _
      | exact impl_BusyOf.mono _ _
      | exact impl_CustomersOk.mono _ _
      | exact impl_LastLeave.mono _ _
      | exact laws_alive.mono _
      | exact laws_sameInts.mono _ _ _
      | exact spec_BusyOf.mono _ _
      | exact spec_DrawBusyOf.mono _ _
      | exact LeO.none _
      | refine LeO.ite ?_ ?_
      | refine LeO.bind ?_ (fun _ => ?_)
theorem laws_FnBusyOf.mono : ∀ a0 k, LeO (laws_FnBusyOf.f k a0) (laws_FnBusyOf.f (k + 1) a0) := by
  intro a0 k
  obtain ⟨ih0, ih1, ih2⟩ := laws_FnBusyOf.mono_l k
  unfold laws_FnBusyOf.f
  repeat' first
      | (with_reducible exact ih0 _ _ _ _)
      | (with_reducible exact ih1 _ _ _)
      | (with_reducible exact ih2 _ _ _ _ _ _)
      | (with_reducible exact impl_BusyOf.mono _ _)
      | (with_reducible exact impl_CustomersOk.mono _ _)
      | (with_reducible exact impl_LastLeave.mono _ _)
      | (with_reducible exact laws_alive.mono _)
      | (with_reducible exact laws_sameInts.mono _ _ _)
      | (with_reducible exact spec_BusyOf.mono _ _)
      | (with_reducible exact spec_DrawBusyOf.mono _ _)
      | (with_reducible exact LeO.refl _)
      | (with_reducible exact LeO.none _)
      | (with_reducible refine LeO.ite ?_ ?_)
      | (with_reducible refine LeO.bind ?_ (fun _ => ?_))
      | exact ih0 _ _ _ _
      | exact ih1 _ _ _
      | exact ih2 _ _ _ _ _ _
      | exact impl_BusyOf.mono _ _
      | exact impl_CustomersOk.mono _ _
      | exact impl_LastLeave.mono _ _
      | exact laws_alive.mono _
      | exact laws_sameInts.mono _ _ _
      | exact spec_BusyOf.mono _ _
      | exact spec_DrawBusyOf.mono _ _
      | exact LeO.none _
      | refine LeO.ite ?_ ?_
      | refine LeO.bind ?_ (fun _ => ?_)
def laws_FnBusyOf.T11 : Bool × List (List Nat × List Nat) := (true, [([], []), ([], []), ([0, 1], [0, 1]), ([2], [2]), ([], []), ([], []), ([4, 5], [4, 5]), ([6], [6]), ([3, 7], [3, 7]), ([8], [8])])
def laws_FnBusyOf.B11 : List Nat := [0, 0, 3, 7, 0, 0, 48, 112, 255, 511]
theorem laws_FnBusyOf.tab11 : rtab .any (opsOf Try.f8 11) = laws_FnBusyOf.T11 := by kernel_rfl
theorem laws_FnBusyOf.bits11 : waitsOk laws_FnBusyOf.T11.2 laws_FnBusyOf.B11 = true := by kernel_rfl
def laws_FnBusyOf.T21 : Bool × List (List Nat × List Nat) := (true, [([], []), ([], []), ([0, 1], [0, 1]), ([2], [2]), ([3], [3]), ([], []), ([], []), ([5, 6], [5, 6]), ([7], [7]), ([8], [8]), ([9], [9]), ([4, 10], [4, 10]), ([11], [11]), ([12], [12]), ([12], [12]), ([13, 14, 12], [12, 13, 14]), ([15, 12], [12, 15]), ([16, 12], [12, 16]), ([12], [12]), ([12], [12]), ([18, 19, 12], [12, 18, 19]), ([20, 12], [12, 20]), ([21, 12], [12, 21]), ([22, 12], [12, 22]), ([17, 23, 12], [12, 17, 23]), ([12, 24], [12, 24])])
def laws_FnBusyOf.B21 : List Nat := [0, 0, 3, 7, 15, 0, 0, 96, 224, 480, 992, 2047, 4095, 8191, 8191, 32767, 65535, 131071, 8191, 8191, 794623, 1843199, 3940351, 8134655, 16777215, 33554431]
theorem laws_FnBusyOf.tab21 : rtab .any (opsOf Try.f8 21) = laws_FnBusyOf.T21 := by kernel_rfl
theorem laws_FnBusyOf.bits21 : waitsOk laws_FnBusyOf.T21.2 laws_FnBusyOf.B21 = true := by kernel_rfl
def laws_FnBusyOf.T23 : Bool × List (List Nat × List Nat) := (true, [([], []), ([0], [0]), ([1], [1]), ([1], [1]), ([2, 3, 1], [1, 2, 3]), ([4, 1], [1, 4]), ([5, 1], [1, 5]), ([1], [1]), ([1], [1]), ([7, 8, 1], [1, 7, 8]), ([9, 1], [1, 9]), ([10, 1], [1, 10]), ([11, 1], [1, 11]), ([6, 12, 1], [1, 6, 12]), ([1, 13], [1, 13]), ([14, 1, 0, 1, 2, 3, 4, 5, 6, 7, 8, 9, 10, 11, 12, 13, 14], [0, 14])])
def laws_FnBusyOf.B23 : List Nat := [0, 1, 3, 3, 15, 31, 63, 3, 3, 387, 899, 1923, 3971, 8191, 16383, 32767]
theorem laws_FnBusyOf.tab23 : rtab .any (opsOf Try.f8 23) = laws_FnBusyOf.T23 := by kernel_rfl
theorem laws_FnBusyOf.bits23 : waitsOk laws_FnBusyOf.T23.2 laws_FnBusyOf.B23 = true := by kernel_rfl
def laws_FnBusyOf.T24 : Bool × List (List Nat × List Nat) := (true, [([], []), ([], []), ([0, 1], [0, 1]), ([2], [2]), ([3], [3]), ([4], [4]), ([], []), ([], []), ([6, 7], [6, 7]), ([8], [8]), ([9], [9]), ([10], [10]), ([5, 11], [5, 11]), ([], []), ([12, 13], [12, 13]), ([14], [14]), ([15], [15]), ([16, 15], [15, 16]), ([15, 17], [15, 17]), ([18, 15], [18]), ([19], [19]), ([20, 19], [19, 20]), ([21, 19, 19], [19, 21]), ([22], [22]), ([22], [22]), ([23, 24, 22], [22, 23, 24]), ([25, 22], [22, 25]), ([26, 22], [22, 26]), ([27, 22], [22, 27]), ([22], [22]), ([22], [22]), ([30, 22], [22, 30]), ([29, 31, 22], [22, 29, 31]), ([32, 22], [22, 32]), ([33, 22], [22, 33]), ([34, 22], [22, 34]), ([28, 35, 22], [22, 28, 35]), ([22, 36, 19], [19, 22, 36]), ([19, 37], [19, 37])])
def laws_FnBusyOf.B24 : List Nat := [0, 0, 3, 7, 15, 31, 0, 0, 192, 448, 960, 1984, 4095, 0, 16383, 32767, 65535, 131071, 262143, 524287, 1048575, 2097151, 4194303, 8388607, 8388607, 33554431, 67108863, 134217727, 268435455, 8388607, 8388607, 1082130431, 3766484991, 8061452287, 16651386879, 33831256063, 68719476735, 137438953471, 274877906943]
theorem laws_FnBusyOf.tab24 : rtab .any (opsOf Try.f8 24) = laws_FnBusyOf.T24 := by kernel_rfl
theorem laws_FnBusyOf.bits24 : waitsOk laws_FnBusyOf.T24.2 laws_FnBusyOf.B24 = true := by kernel_rfl
def laws_FnBusyOf.T28 : Bool × List (List Nat × List Nat) := (true, [([], []), ([], []), ([1], [1]), ([2], [2]), ([0, 3], [0, 3]), ([4], [4]), ([5], [5]), ([6], [6]), ([], []), ([8], [8]), ([7, 9], [7, 9]), ([10, 9, 0, 1, 2, 3, 4, 5, 6, 7, 8, 9, 10], [10])])
def laws_FnBusyOf.B28 : List Nat := [0, 0, 2, 6, 15, 31, 63, 127, 0, 256, 1023, 2047]
theorem laws_FnBusyOf.tab28 : rtab .any (opsOf Try.f8 28) = laws_FnBusyOf.T28 := by kernel_rfl
theorem laws_FnBusyOf.bits28 : waitsOk laws_FnBusyOf.T28.2 laws_FnBusyOf.B28 = true := by kernel_rfl
set_option maxHeartbeats 8000000 in
set_option maxRecDepth 100000 in
theorem laws_FnBusyOf.calls (k : Nat) (A0 : Option Addr) (c0 : Nat) (l0 : List Int) (r : Bool) (w : World) (hr0 : Kd.C (Kd.int .u8) w A0 l0.length l0) (hc0 : l0.length ≤ c0) (h : laws_FnBusyOf.f k l0 = some r) :
    Calls Try.prog 8 #[.slice A0 l0.length c0] w fun e w' => e = .returned (.bool r) ∧ Below w.heap.size w w' := by
  have HR0 := Aside0.mk hr0
  have HC0 := Aside0.mk hc0
  clear hr0 hc0
  have HB := Aside0.mk (Below.refl w.heap.size w)
  have H : (if (l0.length : Int) > 1048576 then (some true) else ((spec_DrawBusyOf.f k l0).bind fun t247 => ((impl_BusyOf.f k t247).bind fun t250 => ((spec_BusyOf.f k t247).bind fun t253 => (if (t250.length : Int) = (t253.length : Int) then (laws_FnBusyOf.l0 k t247 t250 t253 0) else (some false)))))) = some r := h
  clear h
  by_cases c2 : (l0.length : Int) > 1048576
  · rw [if_pos c2] at H
    have c2b0 : decide (1048576 < (l0.length : Int)) = true := decide_eq_true c2
    have c2b1 : decide (1048576 < l0.length) = true := decide_eq_true (by omega)
    clear c2
    obtain rfl := Option.some.inj H
    go_enter Try.func8, Try.ntmps8
    go_wp2
    go_ret
    exact ⟨by first | rfl | (simp [errW_none, errW_some] <;> rfl) | (simp [*, errW_none, errW_some] <;> rfl), by repeat (first | (with_reducible first | exact HB.out | apply below_alloc | apply pw_below_drewN | apply below_drew1) | exact HB.out)⟩
  · rw [if_neg c2] at H
    have c2b0 : decide (1048576 < (l0.length : Int)) = false := decide_eq_false c2
    have c2b1 : decide (1048576 < l0.length) = false := decide_eq_false (by omega)
    clear c2
    replace H := Option.bind_eq_some_iff.mp H
    obtain ⟨t247, A30, H⟩ := H
    replace H : ((impl_BusyOf.f k t247).bind fun t250 => ((spec_BusyOf.f k t247).bind fun t253 => (if (t250.length : Int) = (t253.length : Int) then (laws_FnBusyOf.l0 k t247 t250 t253 0) else (some false)))) = some r := H
    have A3 := Aside0.mk A30
    clear A30
    replace H := Option.bind_eq_some_iff.mp H
    obtain ⟨t250, A40, H⟩ := H
    replace H : ((spec_BusyOf.f k t247).bind fun t253 => (if (t250.length : Int) = (t253.length : Int) then (laws_FnBusyOf.l0 k t247 t250 t253 0) else (some false))) = some r := H
    have A4 := Aside0.mk A40
    clear A40
    replace H := Option.bind_eq_some_iff.mp H
    obtain ⟨t253, A50, H⟩ := H
    replace H : (if (t250.length : Int) = (t253.length : Int) then (laws_FnBusyOf.l0 k t247 t250 t253 0) else (some false)) = some r := H
    have A5 := Aside0.mk A50
    clear A50
    by_cases c6 : (t250.length : Int) = (t253.length : Int)
    · rw [if_pos c6] at H
      have c6b0 : ((t250.length : Int) == (t253.length : Int)) = true := beq_iff_eq.mpr c6
      have c6b1 : ((t250.length : Int) != (t253.length : Int)) = false := bne_eq_false_iff_eq.mpr c6
      have c6b2 : (t250.length == t253.length) = true := by first | simpa using c6 | (simp at c6 ⊢; omega)
      clear c6
      have H' := Aside0.mk H
      clear H
      go_enter Try.func8, Try.ntmps8
      go_wp2_with (first | ((with_reducible refine gate_callee (f := 32) rfl ?_); refine goesL_ (some 15) rfl rfl Try.func32 (by kernel_rfl) rfl #[.slice A0 l0.length c0] rfl (by (try simp only [List.map_toArray, List.map_cons, List.map_nil]); first | done | rfl | (simp only [List.length_drop, List.length_take]; rfl)) ?_; (with_reducible refine (spec_DrawBusyOf.calls k _ _ l0 t247 _ ?side1 ?side2 A3.out).mono ?_); (case side1 => repeat (first | exact HR0.out | (with_reducible refine Kd.C_alloc ?_ _) | (with_reducible refine Kd.C_drewN ?_ _) | (with_reducible refine Kd.C_drew ?_))); (case side2 => exact HC0.out); rintro e w7 ⟨v248, rfl, ho0, hb⟩; refine ⟨_, rfl, ?_⟩; have n0_ := Aside0.mk (Kd.R_lower ho0 (below_size (by repeat (first | (with_reducible first | exact HB.out | apply below_alloc | apply pw_below_drewN | apply below_drew1) | exact HB.out)))); have n1_ := Aside0.mk (below_step (by repeat (first | (with_reducible first | exact HB.out | apply below_alloc | apply pw_below_drewN | apply below_drew1) | exact HB.out)) hb); clear HB; have HO249 := n0_; have HB := n1_; clear n0_ n1_; (try clear hb); (try clear hb2); (try clear hk); (try clear hi); (try clear ho0); obtain ⟨Ao8, co8, eo8⟩ := Kd.R_slice HO249.out; subst eo8) | ((with_reducible refine gate_callee (f := 27) rfl ?_); refine goesL_ (some 17) rfl rfl Try.func27 (by kernel_rfl) rfl #[.slice Ao8 t247.length co8] rfl (by (try simp only [List.map_toArray, List.map_cons, List.map_nil]); first | done | rfl | (simp only [List.length_drop, List.length_take]; rfl)) ?_; (with_reducible refine (impl_BusyOf.calls k _ _ t247 t250 _ ?side1 ?side2 A4.out).mono ?_); (case side1 => repeat (first | exact (Kd.R_reads' HO249.out).2.2 | (with_reducible refine Kd.C_alloc ?_ _) | (with_reducible refine Kd.C_drewN ?_ _) | (with_reducible refine Kd.C_drew ?_))); (case side2 => exact (Kd.R_reads' HO249.out).2.1); rintro e w9 ⟨v251, rfl, ho0, hb⟩; refine ⟨_, rfl, ?_⟩; have n0_ := Aside0.mk (Kd.R_below (by (with_reducible repeat (first | apply Kd.R_alloc | apply Kd.R_drewN | apply Kd.R_drew)); exact HO249.out) hb); have n1_ := Aside0.mk (Kd.S_lower ho0 (below_size (by repeat (first | (with_reducible first | exact HB.out | apply below_alloc | apply pw_below_drewN | apply below_drew1) | exact HB.out)))); have n2_ := Aside0.mk (below_step (by repeat (first | (with_reducible first | exact HB.out | apply below_alloc | apply pw_below_drewN | apply below_drew1) | exact HB.out)) hb); clear HO249; clear HB; have HO249 := n0_; have HO252 := n1_; have HB := n2_; clear n0_ n1_ n2_; (try clear hb); (try clear hb2); (try clear hk); (try clear hi); (try clear ho0)) | ((with_reducible refine gate_callee (f := 26) rfl ?_); refine goesL_ (some 19) rfl rfl Try.func26 (by kernel_rfl) rfl #[.slice Ao8 t247.length co8] rfl (by (try simp only [List.map_toArray, List.map_cons, List.map_nil]); first | done | rfl | (simp only [List.length_drop, List.length_take]; rfl)) ?_; (with_reducible refine (spec_BusyOf.calls k _ _ t247 t253 _ ?side1 ?side2 A5.out).mono ?_); (case side1 => repeat (first | exact (Kd.R_reads' HO249.out).2.2 | (with_reducible refine Kd.C_alloc ?_ _) | (with_reducible refine Kd.C_drewN ?_ _) | (with_reducible refine Kd.C_drew ?_))); (case side2 => exact (Kd.R_reads' HO249.out).2.1); rintro e w10 ⟨v254, rfl, ho0, hb⟩; refine ⟨_, rfl, ?_⟩; have n0_ := Aside0.mk (Kd.R_below (by (with_reducible repeat (first | apply Kd.R_alloc | apply Kd.R_drewN | apply Kd.R_drew)); exact HO249.out) hb); have n1_ := Aside0.mk (Kd.S_elder' (by (with_reducible repeat (first | apply Kd.S_alloc | apply Kd.S_drewN | apply Kd.S_drew)); exact HO252.out) (Kd.S_base ho0) hb); have n2_ := Aside0.mk (Kd.S_lower (Kd.S_new' ho0 (Kd.S_lt (by (with_reducible repeat (first | apply Kd.S_alloc | apply Kd.S_drewN | apply Kd.S_drew)); exact HO252.out))) (below_size (by repeat (first | (with_reducible first | exact HB.out | apply below_alloc | apply pw_below_drewN | apply below_drew1) | exact HB.out)))); have n3_ := Aside0.mk (below_step (by repeat (first | (with_reducible first | exact HB.out | apply below_alloc | apply pw_below_drewN | apply below_drew1) | exact HB.out)) hb); clear HO249; clear HO252; clear HB; have HO249 := n0_; have HO252 := n1_; have HO255 := n2_; have HB := n3_; clear n0_ n1_ n2_ n3_; (try clear hb); (try clear hb2); (try clear hk); (try clear hi); (try clear ho0); obtain ⟨Ao11, co11, eo11⟩ := Kd.S_slice HO252.out; subst eo11; obtain ⟨Ao12, co12, eo12⟩ := Kd.S_slice HO255.out; subst eo12))
      go_loopg [6] k (fun kq v6 w' => ∃ (x6_1 : Int), v6 = .int .i64 x6_1 ∧ Aside0 (laws_FnBusyOf.l0 kq t247 t250 t253 x6_1 = some r) ∧ Aside0 (kq ≤ k) ∧ Aside0 (Kd.R k46 46 w' w.heap.size (fun _ => True) (.slice Ao8 t247.length co8) t247) ∧ Aside0 (Kd.S (Kd.slice 3 (Kd.int .i64)) 44 w' w.heap.size (fun k_ => some k_ ≠ ((.slice Ao12 t253.length co12) : Value).ownBlock) (.slice Ao11 t250.length co11) t250) ∧ Aside0 (Kd.S (Kd.slice 3 (Kd.int .i64)) 44 w' w.heap.size (fun k_ => some k_ ≠ ((.slice Ao11 t250.length co11) : Value).ownBlock) (.slice Ao12 t253.length co12) t253) ∧ Aside0 (Below w.heap.size w w'))
      case atStart => exact ⟨(0), (by first | rfl | (simp; done) | (simp [*]; done)), H', ⟨Nat.le_refl _⟩, ⟨by (with_reducible repeat (first | apply Kd.R_alloc | apply Kd.R_drewN | apply Kd.R_drew)); exact HO249.out⟩, ⟨by (with_reducible repeat (first | apply Kd.S_alloc | apply Kd.S_drewN | apply Kd.S_drew)); exact Kd.S_mono HO252.out (fun _ hk => hk.2)⟩, ⟨by (with_reducible repeat (first | apply Kd.S_alloc | apply Kd.S_drewN | apply Kd.S_drew)); exact Kd.S_mono HO255.out (fun _ hk => hk.2)⟩, ⟨by repeat (first | (with_reducible first | exact HB.out | apply below_alloc | apply pw_below_drewN | apply below_drew1) | exact HB.out)⟩⟩
      case round =>
        clear H'
        try clear c2
        try clear c2b0
        try clear c2b1
        try clear p2
        try clear c3
        try clear c6
        try clear c6b0
        try clear c6b1
        try clear c6b2
        try clear c8
        obtain ⟨x6_1, rfl, HA, HK1, HO_3, HO_4, HO_5, HB⟩ := hrel
        cases gk with
        | zero => exact absurd HA.out (by simp [laws_FnBusyOf.l0])
        | succ k1 =>
          have H := HA.out
          clear HA
          simp only [laws_FnBusyOf.l0] at H
          by_cases c13 : x6_1 < (t250.length : Int)
          · rw [if_pos c13] at H
            have c13b0 : decide (x6_1 < (t250.length : Int)) = true := decide_eq_true c13
            clear c13
            by_cases c14 : 0 ≤ x6_1
            · rw [if_pos c14] at H
              have c14b0 : decide (0 ≤ x6_1) = true := decide_eq_true c14
              clear c14
              by_cases c15 : x6_1 < (t253.length : Int)
              · rw [if_pos c15] at H
                have c15b0 : decide (x6_1 < (t253.length : Int)) = true := decide_eq_true c15
                clear c15
                replace H := Option.bind_eq_some_iff.mp H
                obtain ⟨t258, A160, H⟩ := H
                replace H : (if t258 = true then (laws_FnBusyOf.l0 k1 t247 t250 t253 (wrap64 (x6_1 + 1))) else (some false)) = some r := H
                have A16 := Aside0.mk A160
                clear A160
                by_cases c17 : t258 = true
                · subst c17
                  have H1 : (laws_FnBusyOf.l0 k1 t247 t250 t253 (wrap64 (x6_1 + 1))) = some r := by rw [if_pos rfl] at H; exact H
                  clear H
                  have H := H1
                  clear H1
                  have H' := Aside0.mk H
                  clear H
                  try go_wp2
                  have n0_ := Aside0.mk (Kd.R_drew HO_3.out)
                  have n1_ := Aside0.mk (Kd.S_drew HO_4.out)
                  have n2_ := Aside0.mk (Kd.S_drew HO_5.out)
                  have n3_ := Aside0.mk (below_drew1 HB.out)
                  clear HO_3
                  clear HO_4
                  clear HO_5
                  clear HB
                  have HO_3 := n0_
                  have HO_4 := n1_
                  have HO_5 := n2_
                  have HB := n3_
                  clear n0_ n1_ n2_ n3_
                  have p256 : 0 ≤ (x6_1 : Int) := of_decide_eq_true (by first | (with_reducible assumption) | assumption)
                  have q256 : x6_1 < (t250.length : Int) := of_decide_eq_true (by first | (with_reducible assumption) | assumption)
                  obtain ⟨ad256, A256_0, c256_0, e256, hx256_0, hl256_0, hi256_0⟩ := at_L2 (Kd.S_reads' HO_4.out).2.2 x6_1 p256 q256
                  cases e256
                  obtain ⟨ce256, hce256, hMe256, hcc256⟩ := Kd.S_get HO_4.out [] x6_1 p256 (by first | exact q256 | exact of_decide_eq_true (by first | (with_reducible assumption) | assumption) | (have e_ := (Kd.S_reads' HO_4.out).1; omega))
                  obtain ⟨ve256_0, rfl, ge256_0⟩ := hMe256
                  have hv256_0 := hcc256 0 _ rfl
                  rw [Nat.add_zero, show ((Kd.slice 3 (Kd.int .i64))).sz = 1 from rfl, Nat.mul_one] at hv256_0
                  replace hv256_0 := Option.some.inj (hv256_0.symm.trans hx256_0)
                  rw [hv256_0] at ge256_0
                  have HL256_0 := Aside0.mk (show Kd.R (Kd.int .i64) 3 _ _ _ _ (rd_L2 t250 x6_1) from ge256_0)
                  clear hv256_0 ge256_0
                  clear hcc256 hce256
                  have HR256_0 := Aside0.mk hi256_0
                  have HC256_0 := Aside0.mk hl256_0
                  clear hi256_0 hl256_0
                  replace p256 := eq_true p256
                  replace q256 := eq_true q256
                  have p257 : 0 ≤ (x6_1 : Int) := of_decide_eq_true (by first | (with_reducible assumption) | assumption)
                  have q257 : x6_1 < (t253.length : Int) := of_decide_eq_true (by first | (with_reducible assumption) | assumption)
                  obtain ⟨ad257, A257_0, c257_0, e257, hx257_0, hl257_0, hi257_0⟩ := at_L2 (Kd.S_reads' HO_5.out).2.2 x6_1 p257 q257
                  cases e257
                  obtain ⟨ce257, hce257, hMe257, hcc257⟩ := Kd.S_get HO_5.out [] x6_1 p257 (by first | exact q257 | exact of_decide_eq_true (by first | (with_reducible assumption) | assumption) | (have e_ := (Kd.S_reads' HO_5.out).1; omega))
                  obtain ⟨ve257_0, rfl, ge257_0⟩ := hMe257
                  have hv257_0 := hcc257 0 _ rfl
                  rw [Nat.add_zero, show ((Kd.slice 3 (Kd.int .i64))).sz = 1 from rfl, Nat.mul_one] at hv257_0
                  replace hv257_0 := Option.some.inj (hv257_0.symm.trans hx257_0)
                  rw [hv257_0] at ge257_0
                  have HL257_0 := Aside0.mk (show Kd.R (Kd.int .i64) 3 _ _ _ _ (rd_L2 t253 x6_1) from ge257_0)
                  clear hv257_0 ge257_0
                  clear hcc257 hce257
                  have HR257_0 := Aside0.mk hi257_0
                  have HC257_0 := Aside0.mk hl257_0
                  clear hi257_0 hl257_0
                  replace p257 := eq_true p257
                  replace q257 := eq_true q257
                  refine start_ (n := 10) (S := fun w' => w'.cell? (ad256.add (x6_1).toNat) = some (.slice A256_0 (rd_L2 t250 x6_1).length c256_0) ∧ w'.cell? (ad257.add (x6_1).toNat) = some (.slice A257_0 (rd_L2 t253 x6_1).length c257_0)) (ds := []) #[false, false, false, false, false, false, false, false, false, false] (by kernel_rfl) rfl rfl ⟨hx256_0, hx257_0⟩ (fun hHeld => ?_); refine with_tabW laws_FnBusyOf.tab11 laws_FnBusyOf.bits11 (fun HT_ HW_ => ?_)
                  generalize wr.drew = w18 at HO_3 HO_4 HO_5 HB HL256_0 HL257_0 HR256_0 HR257_0 hx256_0 hx257_0 hHeld ⊢
                  refine pure_ (i := 0) (N := some 31) (v := ?_) (a' := ?_) #[true, false, false, false, false, false, false, false, false, false] rfl rfl (any_of HT_.out (by kernel_rfl)) (fun _ _ _ h => h) (Or.inl ⟨by rfl, ?_⟩) ?_ ?_
                  rotate_left
                  · intro w'
                    go_simp
                    with_reducible rfl
                  rotate_left
                  · simp only [Act.put, List.setIfInBounds_toArray, List.set_cons_zero, List.set_cons_succ, i64_w, i32_w]
                    rfl
                  refine pure_ (i := 1) (N := some 32) (v := ?_) (a' := ?_) #[true, true, false, false, false, false, false, false, false, false] rfl rfl (any_of HT_.out (by kernel_rfl)) (fun _ _ _ h => h) (Or.inl ⟨by rfl, ?_⟩) ?_ ?_
                  rotate_left
                  · intro w'
                    go_simp
                    with_reducible rfl
                  rotate_left
                  · simp only [Act.put, List.setIfInBounds_toArray, List.set_cons_zero, List.set_cons_succ, i64_w, i32_w]
                    rfl
                  refine pure_ (i := 2) (N := some 33) (v := ?_) (a' := ?_) #[true, true, true, false, false, false, false, false, false, false] rfl rfl (any_of HT_.out (by kernel_rfl)) (fun _ _ _ h => h) (Or.inl ⟨by rfl, ?_⟩) ?_ ?_
                  rotate_left
                  · intro w'
                    go_simp
                    with_reducible rfl
                  rotate_left
                  · simp only [Act.put, List.setIfInBounds_toArray, List.set_cons_zero, List.set_cons_succ, i64_w, i32_w]
                    rfl
                  refine pure_ (i := 4) (N := some 35) (v := ?_) (a' := ?_) #[true, true, true, false, true, false, false, false, false, false] rfl rfl (any_of HT_.out (by kernel_rfl)) (fun _ _ _ h => h) (Or.inl ⟨by rfl, ?_⟩) ?_ ?_
                  rotate_left
                  · intro w'
                    go_simp
                    with_reducible rfl
                  rotate_left
                  · simp only [Act.put, List.setIfInBounds_toArray, List.set_cons_zero, List.set_cons_succ, i64_w, i32_w]
                    rfl
                  refine pure_ (i := 5) (N := some 36) (v := ?_) (a' := ?_) #[true, true, true, false, true, true, false, false, false, false] rfl rfl (any_of HT_.out (by kernel_rfl)) (fun _ _ _ h => h) (Or.inl ⟨by rfl, ?_⟩) ?_ ?_
                  rotate_left
                  · intro w'
                    go_simp
                    with_reducible rfl
                  rotate_left
                  · simp only [Act.put, List.setIfInBounds_toArray, List.set_cons_zero, List.set_cons_succ, i64_w, i32_w]
                    rfl
                  refine pure_ (i := 6) (N := some 37) (v := ?_) (a' := ?_) #[true, true, true, false, true, true, true, false, false, false] rfl rfl (any_of HT_.out (by kernel_rfl)) (fun _ _ _ h => h) (Or.inl ⟨by rfl, ?_⟩) ?_ ?_
                  rotate_left
                  · intro w'
                    go_simp
                    with_reducible rfl
                  rotate_left
                  · simp only [Act.put, List.setIfInBounds_toArray, List.set_cons_zero, List.set_cons_succ, i64_w, i32_w]
                    rfl
                  refine take_ (i := 3) (N := some 34) (v := ?_) (a' := ?_) #[true, true, true, true, true, true, true, false, false, false] rfl rfl (take_ofW HT_.out HW_.out (by kernel_rfl)) (fun _ _ _ h => h) (Or.inl ⟨by rfl, ?_⟩) hHeld ?_ ?_
                  rotate_left
                  · rintro w' ⟨s0, s1⟩
                    go_simp
                    with_reducible rfl
                  rotate_left
                  · simp only [Act.put, List.setIfInBounds_toArray, List.set_cons_zero, List.set_cons_succ, i64_w, i32_w]
                    rfl
                  refine take_ (i := 7) (N := some 38) (v := ?_) (a' := ?_) #[true, true, true, true, true, true, true, true, false, false] rfl rfl (take_ofW HT_.out HW_.out (by kernel_rfl)) (fun _ _ _ h => h) (Or.inl ⟨by rfl, ?_⟩) hHeld ?_ ?_
                  rotate_left
                  · rintro w' ⟨s0, s1⟩
                    go_simp
                    with_reducible rfl
                  rotate_left
                  · simp only [Act.put, List.setIfInBounds_toArray, List.set_cons_zero, List.set_cons_succ, i64_w, i32_w]
                    rfl
                  refine one_ (i := 8) (N := some 39) #[true, true, true, true, true, true, true, true, true, false] rfl rfl (one_of HT_.out (by kernel_rfl)) (by decide) (fun K hK => ?_)
                  refine goes_ Try.func33 (by kernel_rfl) rfl #[.slice A256_0 (rd_L2 t250 x6_1).length c256_0, .slice A257_0 (rd_L2 t253 x6_1).length c257_0] (by rfl) rfl rfl (by (try simp only [List.map_toArray, List.map_cons, List.map_nil]); first | done | rfl | (simp only [List.length_drop, List.length_take]; rfl)) ?_
                  with_reducible refine (laws_sameInts.calls k1 _ _ (rd_L2 t250 x6_1) _ _ (rd_L2 t253 x6_1) true _ ?side1 ?side2 ?side3 ?side4 A16.out).mono ?_
                  (case side1 => repeat (first | exact (by repeat (first | (with_reducible exact HR256_0.out) | (with_reducible refine Kd.C_alloc ?_ _) | (with_reducible refine Kd.C_drewN ?_ _) | (with_reducible refine Kd.C_drew ?_) | exact HR256_0.out)) | (with_reducible refine Kd.C_alloc ?_ _) | (with_reducible refine Kd.C_drewN ?_ _) | (with_reducible refine Kd.C_drew ?_)))
                  (case side2 => exact HC256_0.out)
                  (case side3 => repeat (first | exact (by repeat (first | (with_reducible exact HR257_0.out) | (with_reducible refine Kd.C_alloc ?_ _) | (with_reducible refine Kd.C_drewN ?_ _) | (with_reducible refine Kd.C_drew ?_) | exact HR257_0.out)) | (with_reducible refine Kd.C_alloc ?_ _) | (with_reducible refine Kd.C_drewN ?_ _) | (with_reducible refine Kd.C_drew ?_)))
                  (case side4 => exact HC257_0.out)
                  rintro e w' ⟨rfl, ⟨nd, rfl⟩⟩
                  refine ⟨_, rfl, ?_⟩
                  refine hK.out _ _ ⟨hHeld.1, hHeld.2⟩ (fun hHeld => ?_)
                  clear hK K
                  refine norm_ (a' := ?_) ?_ ?_
                  rotate_left
                  · show Act.put _ (some 39) _ = _
                    simp only [Act.put, List.setIfInBounds_toArray, List.set_cons_zero, List.set_cons_succ, i64_w, i32_w]
                    rfl
                  refine pure_ (i := 9) (N := some 40) (v := ?_) (a' := ?_) #[true, true, true, true, true, true, true, true, true, true] rfl rfl (any_of HT_.out (by kernel_rfl)) (fun _ _ _ h => h) (Or.inl ⟨by rfl, ?_⟩) ?_ ?_
                  rotate_left
                  · intro w'
                    go_simp
                    with_reducible rfl
                  rotate_left
                  · simp only [Act.put, List.setIfInBounds_toArray, List.set_cons_zero, List.set_cons_succ, i64_w, i32_w]
                    rfl
                  refine done_ (done_of HT_.out (by kernel_rfl)) ?_
                  try go_wp2
                  go_roundg k1
                  case measure => have := HK1.out; omega
                  case rel => exact ⟨(wrap64 (x6_1 + 1)), (by first | rfl | (simp; done) | (simp [*]; done)), H', ⟨by have := HK1.out; omega⟩, ⟨by (with_reducible repeat (first | apply Kd.R_alloc | apply Kd.R_drewN | apply Kd.R_drew)); exact HO_3.out⟩, ⟨by (with_reducible repeat (first | apply Kd.S_alloc | apply Kd.S_drewN | apply Kd.S_drew)); exact HO_4.out⟩, ⟨by (with_reducible repeat (first | apply Kd.S_alloc | apply Kd.S_drewN | apply Kd.S_drew)); exact HO_5.out⟩, ⟨by repeat (first | (with_reducible first | exact HB.out | apply below_alloc | apply pw_below_drewN | apply below_drew1) | exact HB.out)⟩⟩
                · replace c17 := Bool.eq_false_iff.mpr c17
                  subst c17
                  have H1 : (some false) = some r := by rw [if_neg (show ¬ (false = true) by decide)] at H; exact H
                  clear H
                  have H := H1
                  clear H1
                  obtain rfl := Option.some.inj H
                  try go_wp2
                  have n0_ := Aside0.mk (Kd.R_drew HO_3.out)
                  have n1_ := Aside0.mk (Kd.S_drew HO_4.out)
                  have n2_ := Aside0.mk (Kd.S_drew HO_5.out)
                  have n3_ := Aside0.mk (below_drew1 HB.out)
                  clear HO_3
                  clear HO_4
                  clear HO_5
                  clear HB
                  have HO_3 := n0_
                  have HO_4 := n1_
                  have HO_5 := n2_
                  have HB := n3_
                  clear n0_ n1_ n2_ n3_
                  have p256 : 0 ≤ (x6_1 : Int) := of_decide_eq_true (by first | (with_reducible assumption) | assumption)
                  have q256 : x6_1 < (t250.length : Int) := of_decide_eq_true (by first | (with_reducible assumption) | assumption)
                  obtain ⟨ad256, A256_0, c256_0, e256, hx256_0, hl256_0, hi256_0⟩ := at_L2 (Kd.S_reads' HO_4.out).2.2 x6_1 p256 q256
                  cases e256
                  obtain ⟨ce256, hce256, hMe256, hcc256⟩ := Kd.S_get HO_4.out [] x6_1 p256 (by first | exact q256 | exact of_decide_eq_true (by first | (with_reducible assumption) | assumption) | (have e_ := (Kd.S_reads' HO_4.out).1; omega))
                  obtain ⟨ve256_0, rfl, ge256_0⟩ := hMe256
                  have hv256_0 := hcc256 0 _ rfl
                  rw [Nat.add_zero, show ((Kd.slice 3 (Kd.int .i64))).sz = 1 from rfl, Nat.mul_one] at hv256_0
                  replace hv256_0 := Option.some.inj (hv256_0.symm.trans hx256_0)
                  rw [hv256_0] at ge256_0
                  have HL256_0 := Aside0.mk (show Kd.R (Kd.int .i64) 3 _ _ _ _ (rd_L2 t250 x6_1) from ge256_0)
                  clear hv256_0 ge256_0
                  clear hcc256 hce256
                  have HR256_0 := Aside0.mk hi256_0
                  have HC256_0 := Aside0.mk hl256_0
                  clear hi256_0 hl256_0
                  replace p256 := eq_true p256
                  replace q256 := eq_true q256
                  have p257 : 0 ≤ (x6_1 : Int) := of_decide_eq_true (by first | (with_reducible assumption) | assumption)
                  have q257 : x6_1 < (t253.length : Int) := of_decide_eq_true (by first | (with_reducible assumption) | assumption)
                  obtain ⟨ad257, A257_0, c257_0, e257, hx257_0, hl257_0, hi257_0⟩ := at_L2 (Kd.S_reads' HO_5.out).2.2 x6_1 p257 q257
                  cases e257
                  obtain ⟨ce257, hce257, hMe257, hcc257⟩ := Kd.S_get HO_5.out [] x6_1 p257 (by first | exact q257 | exact of_decide_eq_true (by first | (with_reducible assumption) | assumption) | (have e_ := (Kd.S_reads' HO_5.out).1; omega))
                  obtain ⟨ve257_0, rfl, ge257_0⟩ := hMe257
                  have hv257_0 := hcc257 0 _ rfl
                  rw [Nat.add_zero, show ((Kd.slice 3 (Kd.int .i64))).sz = 1 from rfl, Nat.mul_one] at hv257_0
                  replace hv257_0 := Option.some.inj (hv257_0.symm.trans hx257_0)
                  rw [hv257_0] at ge257_0
                  have HL257_0 := Aside0.mk (show Kd.R (Kd.int .i64) 3 _ _ _ _ (rd_L2 t253 x6_1) from ge257_0)
                  clear hv257_0 ge257_0
                  clear hcc257 hce257
                  have HR257_0 := Aside0.mk hi257_0
                  have HC257_0 := Aside0.mk hl257_0
                  clear hi257_0 hl257_0
                  replace p257 := eq_true p257
                  replace q257 := eq_true q257
                  refine start_ (n := 10) (S := fun w' => w'.cell? (ad256.add (x6_1).toNat) = some (.slice A256_0 (rd_L2 t250 x6_1).length c256_0) ∧ w'.cell? (ad257.add (x6_1).toNat) = some (.slice A257_0 (rd_L2 t253 x6_1).length c257_0)) (ds := []) #[false, false, false, false, false, false, false, false, false, false] (by kernel_rfl) rfl rfl ⟨hx256_0, hx257_0⟩ (fun hHeld => ?_); refine with_tabW laws_FnBusyOf.tab11 laws_FnBusyOf.bits11 (fun HT_ HW_ => ?_)
                  generalize wr.drew = w19 at HO_3 HO_4 HO_5 HB HL256_0 HL257_0 HR256_0 HR257_0 hx256_0 hx257_0 hHeld ⊢
                  refine pure_ (i := 0) (N := some 31) (v := ?_) (a' := ?_) #[true, false, false, false, false, false, false, false, false, false] rfl rfl (any_of HT_.out (by kernel_rfl)) (fun _ _ _ h => h) (Or.inl ⟨by rfl, ?_⟩) ?_ ?_
                  rotate_left
                  · intro w'
                    go_simp
                    with_reducible rfl
                  rotate_left
                  · simp only [Act.put, List.setIfInBounds_toArray, List.set_cons_zero, List.set_cons_succ, i64_w, i32_w]
                    rfl
                  refine pure_ (i := 1) (N := some 32) (v := ?_) (a' := ?_) #[true, true, false, false, false, false, false, false, false, false] rfl rfl (any_of HT_.out (by kernel_rfl)) (fun _ _ _ h => h) (Or.inl ⟨by rfl, ?_⟩) ?_ ?_
                  rotate_left
                  · intro w'
                    go_simp
                    with_reducible rfl
                  rotate_left
                  · simp only [Act.put, List.setIfInBounds_toArray, List.set_cons_zero, List.set_cons_succ, i64_w, i32_w]
                    rfl
                  refine pure_ (i := 2) (N := some 33) (v := ?_) (a' := ?_) #[true, true, true, false, false, false, false, false, false, false] rfl rfl (any_of HT_.out (by kernel_rfl)) (fun _ _ _ h => h) (Or.inl ⟨by rfl, ?_⟩) ?_ ?_
                  rotate_left
                  · intro w'
                    go_simp
                    with_reducible rfl
                  rotate_left
                  · simp only [Act.put, List.setIfInBounds_toArray, List.set_cons_zero, List.set_cons_succ, i64_w, i32_w]
                    rfl
                  refine pure_ (i := 4) (N := some 35) (v := ?_) (a' := ?_) #[true, true, true, false, true, false, false, false, false, false] rfl rfl (any_of HT_.out (by kernel_rfl)) (fun _ _ _ h => h) (Or.inl ⟨by rfl, ?_⟩) ?_ ?_
                  rotate_left
                  · intro w'
                    go_simp
                    with_reducible rfl
                  rotate_left
                  · simp only [Act.put, List.setIfInBounds_toArray, List.set_cons_zero, List.set_cons_succ, i64_w, i32_w]
                    rfl
                  refine pure_ (i := 5) (N := some 36) (v := ?_) (a' := ?_) #[true, true, true, false, true, true, false, false, false, false] rfl rfl (any_of HT_.out (by kernel_rfl)) (fun _ _ _ h => h) (Or.inl ⟨by rfl, ?_⟩) ?_ ?_
                  rotate_left
                  · intro w'
                    go_simp
                    with_reducible rfl
                  rotate_left
                  · simp only [Act.put, List.setIfInBounds_toArray, List.set_cons_zero, List.set_cons_succ, i64_w, i32_w]
                    rfl
                  refine pure_ (i := 6) (N := some 37) (v := ?_) (a' := ?_) #[true, true, true, false, true, true, true, false, false, false] rfl rfl (any_of HT_.out (by kernel_rfl)) (fun _ _ _ h => h) (Or.inl ⟨by rfl, ?_⟩) ?_ ?_
                  rotate_left
                  · intro w'
                    go_simp
                    with_reducible rfl
                  rotate_left
                  · simp only [Act.put, List.setIfInBounds_toArray, List.set_cons_zero, List.set_cons_succ, i64_w, i32_w]
                    rfl
                  refine take_ (i := 3) (N := some 34) (v := ?_) (a' := ?_) #[true, true, true, true, true, true, true, false, false, false] rfl rfl (take_ofW HT_.out HW_.out (by kernel_rfl)) (fun _ _ _ h => h) (Or.inl ⟨by rfl, ?_⟩) hHeld ?_ ?_
                  rotate_left
                  · rintro w' ⟨s0, s1⟩
                    go_simp
                    with_reducible rfl
                  rotate_left
                  · simp only [Act.put, List.setIfInBounds_toArray, List.set_cons_zero, List.set_cons_succ, i64_w, i32_w]
                    rfl
                  refine take_ (i := 7) (N := some 38) (v := ?_) (a' := ?_) #[true, true, true, true, true, true, true, true, false, false] rfl rfl (take_ofW HT_.out HW_.out (by kernel_rfl)) (fun _ _ _ h => h) (Or.inl ⟨by rfl, ?_⟩) hHeld ?_ ?_
                  rotate_left
                  · rintro w' ⟨s0, s1⟩
                    go_simp
                    with_reducible rfl
                  rotate_left
                  · simp only [Act.put, List.setIfInBounds_toArray, List.set_cons_zero, List.set_cons_succ, i64_w, i32_w]
                    rfl
                  refine one_ (i := 8) (N := some 39) #[true, true, true, true, true, true, true, true, true, false] rfl rfl (one_of HT_.out (by kernel_rfl)) (by decide) (fun K hK => ?_)
                  refine goes_ Try.func33 (by kernel_rfl) rfl #[.slice A256_0 (rd_L2 t250 x6_1).length c256_0, .slice A257_0 (rd_L2 t253 x6_1).length c257_0] (by rfl) rfl rfl (by (try simp only [List.map_toArray, List.map_cons, List.map_nil]); first | done | rfl | (simp only [List.length_drop, List.length_take]; rfl)) ?_
                  with_reducible refine (laws_sameInts.calls k1 _ _ (rd_L2 t250 x6_1) _ _ (rd_L2 t253 x6_1) false _ ?side1 ?side2 ?side3 ?side4 A16.out).mono ?_
                  (case side1 => repeat (first | exact (by repeat (first | (with_reducible exact HR256_0.out) | (with_reducible refine Kd.C_alloc ?_ _) | (with_reducible refine Kd.C_drewN ?_ _) | (with_reducible refine Kd.C_drew ?_) | exact HR256_0.out)) | (with_reducible refine Kd.C_alloc ?_ _) | (with_reducible refine Kd.C_drewN ?_ _) | (with_reducible refine Kd.C_drew ?_)))
                  (case side2 => exact HC256_0.out)
                  (case side3 => repeat (first | exact (by repeat (first | (with_reducible exact HR257_0.out) | (with_reducible refine Kd.C_alloc ?_ _) | (with_reducible refine Kd.C_drewN ?_ _) | (with_reducible refine Kd.C_drew ?_) | exact HR257_0.out)) | (with_reducible refine Kd.C_alloc ?_ _) | (with_reducible refine Kd.C_drewN ?_ _) | (with_reducible refine Kd.C_drew ?_)))
                  (case side4 => exact HC257_0.out)
                  rintro e w' ⟨rfl, ⟨nd, rfl⟩⟩
                  refine ⟨_, rfl, ?_⟩
                  refine hK.out _ _ ⟨hHeld.1, hHeld.2⟩ (fun hHeld => ?_)
                  clear hK K
                  refine norm_ (a' := ?_) ?_ ?_
                  rotate_left
                  · show Act.put _ (some 39) _ = _
                    simp only [Act.put, List.setIfInBounds_toArray, List.set_cons_zero, List.set_cons_succ, i64_w, i32_w]
                    rfl
                  refine pure_ (i := 9) (N := some 40) (v := ?_) (a' := ?_) #[true, true, true, true, true, true, true, true, true, true] rfl rfl (any_of HT_.out (by kernel_rfl)) (fun _ _ _ h => h) (Or.inl ⟨by rfl, ?_⟩) ?_ ?_
                  rotate_left
                  · intro w'
                    go_simp
                    with_reducible rfl
                  rotate_left
                  · simp only [Act.put, List.setIfInBounds_toArray, List.set_cons_zero, List.set_cons_succ, i64_w, i32_w]
                    rfl
                  refine done_ (done_of HT_.out (by kernel_rfl)) ?_
                  try go_wp2
                  go_ret
                  exact ⟨by first | rfl | (simp [errW_none, errW_some] <;> rfl) | (simp [*, errW_none, errW_some] <;> rfl), by repeat (first | (with_reducible first | exact HB.out | apply below_alloc | apply pw_below_drewN | apply below_drew1) | exact HB.out)⟩
              · rw [if_neg c15] at H
                exact absurd H (by simp)
            · rw [if_neg c14] at H
              exact absurd H (by simp)
          · rw [if_neg c13] at H
            have c13b0 : decide (x6_1 < (t250.length : Int)) = false := decide_eq_false c13
            clear c13
            have H' := Aside0.mk H
            clear H
            go_wp2
            go_loopg [7] k1 (fun kq v7 w' => ∃ (x7_2 : Int), v7 = .int .i64 x7_2 ∧ Aside0 (laws_FnBusyOf.l1 kq t247 t253 x7_2 = some r) ∧ Aside0 (kq ≤ k1) ∧ Aside0 (Kd.R k46 46 w' w.heap.size (fun _ => True) (.slice Ao8 t247.length co8) t247) ∧ Aside0 (Kd.S (Kd.slice 3 (Kd.int .i64)) 44 w' w.heap.size (fun _ => True) (.slice Ao12 t253.length co12) t253) ∧ Aside0 (Below w.heap.size w w'))
            case atStart => exact ⟨(0), (by first | rfl | (simp; done) | (simp [*]; done)), H', ⟨Nat.le_refl _⟩, ⟨by (with_reducible repeat (first | apply Kd.R_alloc | apply Kd.R_drewN | apply Kd.R_drew)); exact HO_3.out⟩, ⟨by (with_reducible repeat (first | apply Kd.S_alloc | apply Kd.S_drewN | apply Kd.S_drew)); exact Kd.S_mono HO_5.out (fun _ hk => trivial)⟩, ⟨by repeat (first | (with_reducible first | exact HB.out | apply below_alloc | apply pw_below_drewN | apply below_drew1) | exact HB.out)⟩⟩
            case round =>
              clear H'
              try clear c1
              try clear c2
              try clear c2b0
              try clear c2b1
              try clear p2
              try clear q2
              try clear hx2
              try clear c3
              try clear c6
              try clear c6b0
              try clear c6b1
              try clear c6b2
              try clear p6
              try clear c8
              try clear c13
              try clear c13b0
              try clear c14
              try clear c14b0
              try clear c15
              try clear c15b0
              try clear c17
              try clear hx256_0
              try clear hx257_0
              try clear p2
              try clear p256
              try clear p257
              try clear q256
              try clear q257
              obtain ⟨x7_2, rfl, HA, HK2, HO_3, HO_5, HB⟩ := hrel
              cases gk with
              | zero => exact absurd HA.out (by simp [laws_FnBusyOf.l1])
              | succ k2 =>
                have H := HA.out
                clear HA
                simp only [laws_FnBusyOf.l1] at H
                by_cases c20 : x7_2 < (t253.length : Int)
                · rw [if_pos c20] at H
                  have c20b0 : decide (x7_2 < (t253.length : Int)) = true := decide_eq_true c20
                  clear c20
                  have H' := Aside0.mk H
                  clear H
                  go_wp2
                  go_loopg [8, 9, 10] k2 (fun kq v8 v9 v10 w' => ∃ (x8_3 : Int) (x9_3 : Bool) (x10_3 : Int), v8 = .int .i64 x8_3 ∧ v9 = .bool x9_3 ∧ v10 = .int .i64 x10_3 ∧ Aside0 (laws_FnBusyOf.l2 kq t247 t253 x7_2 x8_3 x9_3 x10_3 = some r) ∧ Aside0 (kq ≤ k2) ∧ Aside0 (Kd.R k46 46 w' w.heap.size (fun _ => True) (.slice Ao8 t247.length co8) t247) ∧ Aside0 (Kd.S (Kd.slice 3 (Kd.int .i64)) 44 w' w.heap.size (fun _ => True) (.slice Ao12 t253.length co12) t253) ∧ Aside0 (Below w.heap.size w w'))
                  case atStart => exact ⟨(0), (false), (0), (by first | rfl | (simp; done) | (simp [*]; done)), (by first | rfl | (simp; done) | (simp [*]; done)), (by first | rfl | (simp; done) | (simp [*]; done)), H', ⟨Nat.le_refl _⟩, ⟨by (with_reducible repeat (first | apply Kd.R_alloc | apply Kd.R_drewN | apply Kd.R_drew)); exact HO_3.out⟩, ⟨by (with_reducible repeat (first | apply Kd.S_alloc | apply Kd.S_drewN | apply Kd.S_drew)); exact HO_5.out⟩, ⟨by repeat (first | (with_reducible first | exact HB.out | apply below_alloc | apply pw_below_drewN | apply below_drew1) | exact HB.out)⟩⟩
                  case round =>
                    clear H'
                    try clear c1
                    try clear c2
                    try clear c2b0
                    try clear c2b1
                    try clear p2
                    try clear q2
                    try clear hx2
                    try clear c3
                    try clear c6
                    try clear c6b0
                    try clear c6b1
                    try clear c6b2
                    try clear p6
                    try clear c8
                    try clear c13
                    try clear c13b0
                    try clear c14
                    try clear c14b0
                    try clear c15
                    try clear c15b0
                    try clear c17
                    try clear c20
                    try clear c20b0
                    try clear hx256_0
                    try clear hx257_0
                    try clear p2
                    try clear p256
                    try clear p257
                    try clear p6
                    try clear q2
                    try clear q256
                    try clear q257
                    obtain ⟨x8_3, x9_3, x10_3, rfl, rfl, rfl, HA, HK3, HO_3, HO_5, HB⟩ := hrel
                    cases gk with
                    | zero => exact absurd HA.out (by simp [laws_FnBusyOf.l2])
                    | succ k3 =>
                      have H := HA.out
                      clear HA
                      simp only [laws_FnBusyOf.l2] at H
                      by_cases c21 : x10_3 < (t247.length : Int)
                      · rw [if_pos c21] at H
                        have c21b0 : decide (x10_3 < (t247.length : Int)) = true := decide_eq_true c21
                        clear c21
                        by_cases c22 : 0 ≤ x10_3
                        · rw [if_pos c22] at H
                          have c22b0 : decide (0 ≤ x10_3) = true := decide_eq_true c22
                          clear c22
                          by_cases c23 : 0 ≤ x7_2
                          · rw [if_pos c23] at H
                            have c23b0 : decide (0 ≤ x7_2) = true := decide_eq_true c23
                            clear c23
                            by_cases c24 : x7_2 < (t253.length : Int)
                            · rw [if_pos c24] at H
                              have c24b0 : decide (x7_2 < (t253.length : Int)) = true := decide_eq_true c24
                              clear c24
                              by_cases c25 : 0 < ((rd_L2 t253 x7_2).length : Int)
                              · rw [if_pos c25] at H
                                have c25b0 : decide (0 < ((rd_L2 t253 x7_2).length : Int)) = true := decide_eq_true c25
                                have c25b1 : decide (0 < (rd_L2 t253 x7_2).length) = true := decide_eq_true (by omega)
                                clear c25
                                by_cases c26 : ((rd_T46 t247 x10_3).f0) ≥ (rd (rd_L2 t253 x7_2) 0)
                                · rw [if_pos c26] at H
                                  have c26b0 : decide ((rd (rd_L2 t253 x7_2) 0) ≤ ((rd_T46 t247 x10_3).f0)) = true := decide_eq_true c26
                                  clear c26
                                  by_cases c27 : 1 < ((rd_L2 t253 x7_2).length : Int)
                                  · rw [if_pos c27] at H
                                    have c27b0 : decide (1 < ((rd_L2 t253 x7_2).length : Int)) = true := decide_eq_true c27
                                    have c27b1 : decide (1 < (rd_L2 t253 x7_2).length) = true := decide_eq_true (by omega)
                                    clear c27
                                    by_cases c28 : ((rd_T46 t247 x10_3).f0) < (rd (rd_L2 t253 x7_2) 1)
                                    · rw [if_pos c28] at H
                                      have c28b0 : decide (((rd_T46 t247 x10_3).f0) < (rd (rd_L2 t253 x7_2) 1)) = true := decide_eq_true c28
                                      clear c28
                                      by_cases c29 : x9_3 = true
                                      · subst c29
                                        have H1 : (laws_FnBusyOf.l2 k3 t247 t253 x7_2 (wrap64 (x8_3 + ((rd_T46 t247 x10_3).f1))) true (wrap64 (x10_3 + 1))) = some r := by rw [if_pos rfl] at H; exact H
                                        clear H
                                        have H := H1
                                        clear H1
                                        have H' := Aside0.mk H
                                        clear H
                                        try go_wp2
                                        have p259 : 0 ≤ (x10_3 : Int) := of_decide_eq_true (by first | (with_reducible assumption) | assumption)
                                        have q259 : x10_3 < (t247.length : Int) := of_decide_eq_true (by first | (with_reducible assumption) | assumption)
                                        obtain ⟨ad259, e259, hx259_0, hx259_1⟩ := at_T46 (Kd.R_reads' HO_3.out).2.2 x10_3 p259 q259
                                        cases e259
                                        replace p259 := eq_true p259
                                        replace q259 := eq_true q259
                                        have p260 : 0 ≤ (x7_2 : Int) := of_decide_eq_true (by first | (with_reducible assumption) | assumption)
                                        have q260 : x7_2 < (t253.length : Int) := of_decide_eq_true (by first | (with_reducible assumption) | assumption)
                                        obtain ⟨ad260, A260_0, c260_0, e260, hx260_0, hl260_0, hi260_0⟩ := at_L2 (Kd.S_reads' HO_5.out).2.2 x7_2 p260 q260
                                        cases e260
                                        obtain ⟨ce260, hce260, hMe260, hcc260⟩ := Kd.S_get HO_5.out [] x7_2 p260 (by first | exact q260 | exact of_decide_eq_true (by first | (with_reducible assumption) | assumption) | (have e_ := (Kd.S_reads' HO_5.out).1; omega))
                                        obtain ⟨ve260_0, rfl, ge260_0⟩ := hMe260
                                        have hv260_0 := hcc260 0 _ rfl
                                        rw [Nat.add_zero, show ((Kd.slice 3 (Kd.int .i64))).sz = 1 from rfl, Nat.mul_one] at hv260_0
                                        replace hv260_0 := Option.some.inj (hv260_0.symm.trans hx260_0)
                                        rw [hv260_0] at ge260_0
                                        have HL260_0 := Aside0.mk (show Kd.R (Kd.int .i64) 3 _ _ _ _ (rd_L2 t253 x7_2) from ge260_0)
                                        clear hv260_0 ge260_0
                                        clear hcc260 hce260
                                        have HR260_0 := Aside0.mk hi260_0
                                        have HC260_0 := Aside0.mk hl260_0
                                        clear hi260_0 hl260_0
                                        replace p260 := eq_true p260
                                        replace q260 := eq_true q260
                                        have p261 : 0 ≤ (0 : Int) := (by omega)
                                        have q261 : 0 < ((rd_L2 t253 x7_2).length : Int) := of_decide_eq_true (by first | (with_reducible assumption) | assumption)
                                        obtain ⟨ad261, e261, hx261_0⟩ := Kd.at_int (by repeat (first | (with_reducible exact HR260_0.out) | (with_reducible refine Kd.C_alloc ?_ _) | (with_reducible refine Kd.C_drewN ?_ _) | (with_reducible refine Kd.C_drew ?_) | exact HR260_0.out)) 0 p261 q261
                                        cases e261
                                        have qi261 : (0 < (rd_L2 t253 x7_2).length) = True := eq_true (by omega)
                                        (try rw [show ((0 : Int)).toNat = 0 from rfl] at hx261_0)
                                        (try rw [Addr.add_zero'] at hx261_0)
                                        replace p261 := eq_true p261
                                        replace q261 := eq_true q261
                                        have p262 : 0 ≤ (x10_3 : Int) := of_decide_eq_true (by first | (with_reducible assumption) | assumption)
                                        have q262 : x10_3 < (t247.length : Int) := of_decide_eq_true (by first | (with_reducible assumption) | assumption)
                                        obtain ⟨ad262, e262, hx262_0, hx262_1⟩ := at_T46 (Kd.R_reads' HO_3.out).2.2 x10_3 p262 q262
                                        obtain rfl : ad259 = ad262 := (by injection e262)
                                        replace p262 := eq_true p262
                                        replace q262 := eq_true q262
                                        have p263 : 0 ≤ (x7_2 : Int) := of_decide_eq_true (by first | (with_reducible assumption) | assumption)
                                        have q263 : x7_2 < (t253.length : Int) := of_decide_eq_true (by first | (with_reducible assumption) | assumption)
                                        obtain ⟨ad263, A263_0, c263_0, e263, hx263_0, hl263_0, hi263_0⟩ := at_L2 (Kd.S_reads' HO_5.out).2.2 x7_2 p263 q263
                                        obtain rfl : ad260 = ad263 := (by injection e263)
                                        obtain ⟨ce263, hce263, hMe263, hcc263⟩ := Kd.S_get HO_5.out [] x7_2 p263 (by first | exact q263 | exact of_decide_eq_true (by first | (with_reducible assumption) | assumption) | (have e_ := (Kd.S_reads' HO_5.out).1; omega))
                                        obtain ⟨ve263_0, rfl, ge263_0⟩ := hMe263
                                        have hv263_0 := hcc263 0 _ rfl
                                        rw [Nat.add_zero, show ((Kd.slice 3 (Kd.int .i64))).sz = 1 from rfl, Nat.mul_one] at hv263_0
                                        replace hv263_0 := Option.some.inj (hv263_0.symm.trans hx263_0)
                                        rw [hv263_0] at ge263_0
                                        have HL263_0 := Aside0.mk (show Kd.R (Kd.int .i64) 3 _ _ _ _ (rd_L2 t253 x7_2) from ge263_0)
                                        clear hv263_0 ge263_0
                                        clear hcc263 hce263
                                        have HR263_0 := Aside0.mk hi263_0
                                        have HC263_0 := Aside0.mk hl263_0
                                        clear hi263_0 hl263_0
                                        replace p263 := eq_true p263
                                        replace q263 := eq_true q263
                                        have ea_ := Option.some.inj (hx260_0.symm.trans hx263_0)
                                        injection ea_ with ea_ en_ ec_
                                        subst ea_
                                        subst ec_
                                        clear en_
                                        have p264 : 0 ≤ (1 : Int) := (by omega)
                                        have q264 : 1 < ((rd_L2 t253 x7_2).length : Int) := of_decide_eq_true (by first | (with_reducible assumption) | assumption)
                                        obtain ⟨ad264, e264, hx264_0⟩ := Kd.at_int (by repeat (first | (with_reducible exact HR263_0.out) | (with_reducible refine Kd.C_alloc ?_ _) | (with_reducible refine Kd.C_drewN ?_ _) | (with_reducible refine Kd.C_drew ?_) | exact HR263_0.out)) 1 p264 q264
                                        cases e264
                                        (try simp only [show (1 : Int).toNat = 1 from rfl, Nat.reduceMul, Nat.reduceEqDiff, Go.Addr.add, ↓reduceIte] at hx264_0)
                                        have qi264 : (1 < (rd_L2 t253 x7_2).length) = True := eq_true (by omega)
                                        (try rw [show ((1 : Int)).toNat = 1 from rfl] at hx264_0)
                                        replace p264 := eq_true p264
                                        replace q264 := eq_true q264
                                        go_quiet (fail)
                                        have p265 : 0 ≤ (x10_3 : Int) := of_decide_eq_true (by first | (with_reducible assumption) | assumption)
                                        have q265 : x10_3 < (t247.length : Int) := of_decide_eq_true (by first | (with_reducible assumption) | assumption)
                                        obtain ⟨ad265, e265, hx265_0, hx265_1⟩ := at_T46 (Kd.R_reads' HO_3.out).2.2 x10_3 p265 q265
                                        obtain rfl : ad259 = ad265 := (by injection e265)
                                        replace p265 := eq_true p265
                                        replace q265 := eq_true q265
                                        try go_wp2
                                        go_quiet (fail)
                                        try go_wp2
                                        go_roundg k3
                                        case measure => have := HK1.out; have := HK2.out; have := HK3.out; omega
                                        case rel => exact ⟨(wrap64 (x8_3 + ((rd_T46 t247 x10_3).f1))), (true), (wrap64 (x10_3 + 1)), (by first | rfl | (simp; done) | (simp [*]; done)), (by first | rfl | (simp; done) | (simp [*]; done)), (by first | rfl | (simp; done) | (simp [*]; done)), H', ⟨by have := HK1.out; have := HK2.out; have := HK3.out; omega⟩, ⟨by (with_reducible repeat (first | apply Kd.R_alloc | apply Kd.R_drewN | apply Kd.R_drew)); exact HO_3.out⟩, ⟨by (with_reducible repeat (first | apply Kd.S_alloc | apply Kd.S_drewN | apply Kd.S_drew)); exact HO_5.out⟩, ⟨by repeat (first | (with_reducible first | exact HB.out | apply below_alloc | apply pw_below_drewN | apply below_drew1) | exact HB.out)⟩⟩
                                      · replace c29 := Bool.eq_false_iff.mpr c29
                                        subst c29
                                        have H1 : (laws_FnBusyOf.l2 k3 t247 t253 x7_2 (wrap64 (x8_3 + ((rd_T46 t247 x10_3).f1))) (((rd_T46 t247 x10_3).f0) == (rd (rd_L2 t253 x7_2) 0)) (wrap64 (x10_3 + 1))) = some r := by rw [if_neg (show ¬ (false = true) by decide)] at H; exact H
                                        clear H
                                        have H := H1
                                        clear H1
                                        have H' := Aside0.mk H
                                        clear H
                                        try go_wp2
                                        have p259 : 0 ≤ (x10_3 : Int) := of_decide_eq_true (by first | (with_reducible assumption) | assumption)
                                        have q259 : x10_3 < (t247.length : Int) := of_decide_eq_true (by first | (with_reducible assumption) | assumption)
                                        obtain ⟨ad259, e259, hx259_0, hx259_1⟩ := at_T46 (Kd.R_reads' HO_3.out).2.2 x10_3 p259 q259
                                        cases e259
                                        replace p259 := eq_true p259
                                        replace q259 := eq_true q259
                                        have p260 : 0 ≤ (x7_2 : Int) := of_decide_eq_true (by first | (with_reducible assumption) | assumption)
                                        have q260 : x7_2 < (t253.length : Int) := of_decide_eq_true (by first | (with_reducible assumption) | assumption)
                                        obtain ⟨ad260, A260_0, c260_0, e260, hx260_0, hl260_0, hi260_0⟩ := at_L2 (Kd.S_reads' HO_5.out).2.2 x7_2 p260 q260
                                        cases e260
                                        obtain ⟨ce260, hce260, hMe260, hcc260⟩ := Kd.S_get HO_5.out [] x7_2 p260 (by first | exact q260 | exact of_decide_eq_true (by first | (with_reducible assumption) | assumption) | (have e_ := (Kd.S_reads' HO_5.out).1; omega))
                                        obtain ⟨ve260_0, rfl, ge260_0⟩ := hMe260
                                        have hv260_0 := hcc260 0 _ rfl
                                        rw [Nat.add_zero, show ((Kd.slice 3 (Kd.int .i64))).sz = 1 from rfl, Nat.mul_one] at hv260_0
                                        replace hv260_0 := Option.some.inj (hv260_0.symm.trans hx260_0)
                                        rw [hv260_0] at ge260_0
                                        have HL260_0 := Aside0.mk (show Kd.R (Kd.int .i64) 3 _ _ _ _ (rd_L2 t253 x7_2) from ge260_0)
                                        clear hv260_0 ge260_0
                                        clear hcc260 hce260
                                        have HR260_0 := Aside0.mk hi260_0
                                        have HC260_0 := Aside0.mk hl260_0
                                        clear hi260_0 hl260_0
                                        replace p260 := eq_true p260
                                        replace q260 := eq_true q260
                                        have p261 : 0 ≤ (0 : Int) := (by omega)
                                        have q261 : 0 < ((rd_L2 t253 x7_2).length : Int) := of_decide_eq_true (by first | (with_reducible assumption) | assumption)
                                        obtain ⟨ad261, e261, hx261_0⟩ := Kd.at_int (by repeat (first | (with_reducible exact HR260_0.out) | (with_reducible refine Kd.C_alloc ?_ _) | (with_reducible refine Kd.C_drewN ?_ _) | (with_reducible refine Kd.C_drew ?_) | exact HR260_0.out)) 0 p261 q261
                                        cases e261
                                        have qi261 : (0 < (rd_L2 t253 x7_2).length) = True := eq_true (by omega)
                                        (try rw [show ((0 : Int)).toNat = 0 from rfl] at hx261_0)
                                        (try rw [Addr.add_zero'] at hx261_0)
                                        replace p261 := eq_true p261
                                        replace q261 := eq_true q261
                                        have p262 : 0 ≤ (x10_3 : Int) := of_decide_eq_true (by first | (with_reducible assumption) | assumption)
                                        have q262 : x10_3 < (t247.length : Int) := of_decide_eq_true (by first | (with_reducible assumption) | assumption)
                                        obtain ⟨ad262, e262, hx262_0, hx262_1⟩ := at_T46 (Kd.R_reads' HO_3.out).2.2 x10_3 p262 q262
                                        obtain rfl : ad259 = ad262 := (by injection e262)
                                        replace p262 := eq_true p262
                                        replace q262 := eq_true q262
                                        have p263 : 0 ≤ (x7_2 : Int) := of_decide_eq_true (by first | (with_reducible assumption) | assumption)
                                        have q263 : x7_2 < (t253.length : Int) := of_decide_eq_true (by first | (with_reducible assumption) | assumption)
                                        obtain ⟨ad263, A263_0, c263_0, e263, hx263_0, hl263_0, hi263_0⟩ := at_L2 (Kd.S_reads' HO_5.out).2.2 x7_2 p263 q263
                                        obtain rfl : ad260 = ad263 := (by injection e263)
                                        obtain ⟨ce263, hce263, hMe263, hcc263⟩ := Kd.S_get HO_5.out [] x7_2 p263 (by first | exact q263 | exact of_decide_eq_true (by first | (with_reducible assumption) | assumption) | (have e_ := (Kd.S_reads' HO_5.out).1; omega))
                                        obtain ⟨ve263_0, rfl, ge263_0⟩ := hMe263
                                        have hv263_0 := hcc263 0 _ rfl
                                        rw [Nat.add_zero, show ((Kd.slice 3 (Kd.int .i64))).sz = 1 from rfl, Nat.mul_one] at hv263_0
                                        replace hv263_0 := Option.some.inj (hv263_0.symm.trans hx263_0)
                                        rw [hv263_0] at ge263_0
                                        have HL263_0 := Aside0.mk (show Kd.R (Kd.int .i64) 3 _ _ _ _ (rd_L2 t253 x7_2) from ge263_0)
                                        clear hv263_0 ge263_0
                                        clear hcc263 hce263
                                        have HR263_0 := Aside0.mk hi263_0
                                        have HC263_0 := Aside0.mk hl263_0
                                        clear hi263_0 hl263_0
                                        replace p263 := eq_true p263
                                        replace q263 := eq_true q263
                                        have ea_ := Option.some.inj (hx260_0.symm.trans hx263_0)
                                        injection ea_ with ea_ en_ ec_
                                        subst ea_
                                        subst ec_
                                        clear en_
                                        have p264 : 0 ≤ (1 : Int) := (by omega)
                                        have q264 : 1 < ((rd_L2 t253 x7_2).length : Int) := of_decide_eq_true (by first | (with_reducible assumption) | assumption)
                                        obtain ⟨ad264, e264, hx264_0⟩ := Kd.at_int (by repeat (first | (with_reducible exact HR263_0.out) | (with_reducible refine Kd.C_alloc ?_ _) | (with_reducible refine Kd.C_drewN ?_ _) | (with_reducible refine Kd.C_drew ?_) | exact HR263_0.out)) 1 p264 q264
                                        cases e264
                                        (try simp only [show (1 : Int).toNat = 1 from rfl, Nat.reduceMul, Nat.reduceEqDiff, Go.Addr.add, ↓reduceIte] at hx264_0)
                                        have qi264 : (1 < (rd_L2 t253 x7_2).length) = True := eq_true (by omega)
                                        (try rw [show ((1 : Int)).toNat = 1 from rfl] at hx264_0)
                                        replace p264 := eq_true p264
                                        replace q264 := eq_true q264
                                        go_quiet (fail)
                                        have p265 : 0 ≤ (x10_3 : Int) := of_decide_eq_true (by first | (with_reducible assumption) | assumption)
                                        have q265 : x10_3 < (t247.length : Int) := of_decide_eq_true (by first | (with_reducible assumption) | assumption)
                                        obtain ⟨ad265, e265, hx265_0, hx265_1⟩ := at_T46 (Kd.R_reads' HO_3.out).2.2 x10_3 p265 q265
                                        obtain rfl : ad259 = ad265 := (by injection e265)
                                        replace p265 := eq_true p265
                                        replace q265 := eq_true q265
                                        try go_wp2
                                        have p266 : 0 ≤ (x10_3 : Int) := of_decide_eq_true (by first | (with_reducible assumption) | assumption)
                                        have q266 : x10_3 < (t247.length : Int) := of_decide_eq_true (by first | (with_reducible assumption) | assumption)
                                        obtain ⟨ad266, e266, hx266_0, hx266_1⟩ := at_T46 (Kd.R_reads' HO_3.out).2.2 x10_3 p266 q266
                                        obtain rfl : ad259 = ad266 := (by injection e266)
                                        replace p266 := eq_true p266
                                        replace q266 := eq_true q266
                                        have p267 : 0 ≤ (x7_2 : Int) := of_decide_eq_true (by first | (with_reducible assumption) | assumption)
                                        have q267 : x7_2 < (t253.length : Int) := of_decide_eq_true (by first | (with_reducible assumption) | assumption)
                                        obtain ⟨ad267, A267_0, c267_0, e267, hx267_0, hl267_0, hi267_0⟩ := at_L2 (Kd.S_reads' HO_5.out).2.2 x7_2 p267 q267
                                        obtain rfl : ad260 = ad267 := (by injection e267)
                                        obtain ⟨ce267, hce267, hMe267, hcc267⟩ := Kd.S_get HO_5.out [] x7_2 p267 (by first | exact q267 | exact of_decide_eq_true (by first | (with_reducible assumption) | assumption) | (have e_ := (Kd.S_reads' HO_5.out).1; omega))
                                        obtain ⟨ve267_0, rfl, ge267_0⟩ := hMe267
                                        have hv267_0 := hcc267 0 _ rfl
                                        rw [Nat.add_zero, show ((Kd.slice 3 (Kd.int .i64))).sz = 1 from rfl, Nat.mul_one] at hv267_0
                                        replace hv267_0 := Option.some.inj (hv267_0.symm.trans hx267_0)
                                        rw [hv267_0] at ge267_0
                                        have HL267_0 := Aside0.mk (show Kd.R (Kd.int .i64) 3 _ _ _ _ (rd_L2 t253 x7_2) from ge267_0)
                                        clear hv267_0 ge267_0
                                        clear hcc267 hce267
                                        have HR267_0 := Aside0.mk hi267_0
                                        have HC267_0 := Aside0.mk hl267_0
                                        clear hi267_0 hl267_0
                                        replace p267 := eq_true p267
                                        replace q267 := eq_true q267
                                        have p268 : 0 ≤ (0 : Int) := (by omega)
                                        have q268 : 0 < ((rd_L2 t253 x7_2).length : Int) := of_decide_eq_true (by first | (with_reducible assumption) | assumption)
                                        obtain ⟨ad268, e268, hx268_0⟩ := Kd.at_int (by repeat (first | (with_reducible exact HR267_0.out) | (with_reducible refine Kd.C_alloc ?_ _) | (with_reducible refine Kd.C_drewN ?_ _) | (with_reducible refine Kd.C_drew ?_) | exact HR267_0.out)) 0 p268 q268
                                        cases e268
                                        have qi268 : (0 < (rd_L2 t253 x7_2).length) = True := eq_true (by omega)
                                        (try rw [show ((0 : Int)).toNat = 0 from rfl] at hx268_0)
                                        (try rw [Addr.add_zero'] at hx268_0)
                                        replace p268 := eq_true p268
                                        replace q268 := eq_true q268
                                        go_quiet (fail)
                                        try go_wp2
                                        go_roundg k3
                                        case measure => have := HK1.out; have := HK2.out; have := HK3.out; omega
                                        case rel => exact ⟨(wrap64 (x8_3 + ((rd_T46 t247 x10_3).f1))), ((((rd_T46 t247 x10_3).f0) == (rd (rd_L2 t253 x7_2) 0))), (wrap64 (x10_3 + 1)), (by first | rfl | (simp; done) | (simp [*]; done)), (by first | rfl | (simp; done) | (simp [*]; done)), (by first | rfl | (simp; done) | (simp [*]; done)), H', ⟨by have := HK1.out; have := HK2.out; have := HK3.out; omega⟩, ⟨by (with_reducible repeat (first | apply Kd.R_alloc | apply Kd.R_drewN | apply Kd.R_drew)); exact HO_3.out⟩, ⟨by (with_reducible repeat (first | apply Kd.S_alloc | apply Kd.S_drewN | apply Kd.S_drew)); exact HO_5.out⟩, ⟨by repeat (first | (with_reducible first | exact HB.out | apply below_alloc | apply pw_below_drewN | apply below_drew1) | exact HB.out)⟩⟩
                                    · rw [if_neg c28] at H
                                      have c28b0 : decide (((rd_T46 t247 x10_3).f0) < (rd (rd_L2 t253 x7_2) 1)) = false := decide_eq_false c28
                                      clear c28
                                      by_cases c34 : x9_3 = true
                                      · subst c34
                                        have H1 : (laws_FnBusyOf.l2 k3 t247 t253 x7_2 x8_3 true (wrap64 (x10_3 + 1))) = some r := by rw [if_pos rfl] at H; exact H
                                        clear H
                                        have H := H1
                                        clear H1
                                        have H' := Aside0.mk H
                                        clear H
                                        try go_wp2
                                        have p259 : 0 ≤ (x10_3 : Int) := of_decide_eq_true (by first | (with_reducible assumption) | assumption)
                                        have q259 : x10_3 < (t247.length : Int) := of_decide_eq_true (by first | (with_reducible assumption) | assumption)
                                        obtain ⟨ad259, e259, hx259_0, hx259_1⟩ := at_T46 (Kd.R_reads' HO_3.out).2.2 x10_3 p259 q259
                                        cases e259
                                        replace p259 := eq_true p259
                                        replace q259 := eq_true q259
                                        have p260 : 0 ≤ (x7_2 : Int) := of_decide_eq_true (by first | (with_reducible assumption) | assumption)
                                        have q260 : x7_2 < (t253.length : Int) := of_decide_eq_true (by first | (with_reducible assumption) | assumption)
                                        obtain ⟨ad260, A260_0, c260_0, e260, hx260_0, hl260_0, hi260_0⟩ := at_L2 (Kd.S_reads' HO_5.out).2.2 x7_2 p260 q260
                                        cases e260
                                        obtain ⟨ce260, hce260, hMe260, hcc260⟩ := Kd.S_get HO_5.out [] x7_2 p260 (by first | exact q260 | exact of_decide_eq_true (by first | (with_reducible assumption) | assumption) | (have e_ := (Kd.S_reads' HO_5.out).1; omega))
                                        obtain ⟨ve260_0, rfl, ge260_0⟩ := hMe260
                                        have hv260_0 := hcc260 0 _ rfl
                                        rw [Nat.add_zero, show ((Kd.slice 3 (Kd.int .i64))).sz = 1 from rfl, Nat.mul_one] at hv260_0
                                        replace hv260_0 := Option.some.inj (hv260_0.symm.trans hx260_0)
                                        rw [hv260_0] at ge260_0
                                        have HL260_0 := Aside0.mk (show Kd.R (Kd.int .i64) 3 _ _ _ _ (rd_L2 t253 x7_2) from ge260_0)
                                        clear hv260_0 ge260_0
                                        clear hcc260 hce260
                                        have HR260_0 := Aside0.mk hi260_0
                                        have HC260_0 := Aside0.mk hl260_0
                                        clear hi260_0 hl260_0
                                        replace p260 := eq_true p260
                                        replace q260 := eq_true q260
                                        have p261 : 0 ≤ (0 : Int) := (by omega)
                                        have q261 : 0 < ((rd_L2 t253 x7_2).length : Int) := of_decide_eq_true (by first | (with_reducible assumption) | assumption)
                                        obtain ⟨ad261, e261, hx261_0⟩ := Kd.at_int (by repeat (first | (with_reducible exact HR260_0.out) | (with_reducible refine Kd.C_alloc ?_ _) | (with_reducible refine Kd.C_drewN ?_ _) | (with_reducible refine Kd.C_drew ?_) | exact HR260_0.out)) 0 p261 q261
                                        cases e261
                                        have qi261 : (0 < (rd_L2 t253 x7_2).length) = True := eq_true (by omega)
                                        (try rw [show ((0 : Int)).toNat = 0 from rfl] at hx261_0)
                                        (try rw [Addr.add_zero'] at hx261_0)
                                        replace p261 := eq_true p261
                                        replace q261 := eq_true q261
                                        have p262 : 0 ≤ (x10_3 : Int) := of_decide_eq_true (by first | (with_reducible assumption) | assumption)
                                        have q262 : x10_3 < (t247.length : Int) := of_decide_eq_true (by first | (with_reducible assumption) | assumption)
                                        obtain ⟨ad262, e262, hx262_0, hx262_1⟩ := at_T46 (Kd.R_reads' HO_3.out).2.2 x10_3 p262 q262
                                        obtain rfl : ad259 = ad262 := (by injection e262)
                                        replace p262 := eq_true p262
                                        replace q262 := eq_true q262
                                        have p263 : 0 ≤ (x7_2 : Int) := of_decide_eq_true (by first | (with_reducible assumption) | assumption)
                                        have q263 : x7_2 < (t253.length : Int) := of_decide_eq_true (by first | (with_reducible assumption) | assumption)
                                        obtain ⟨ad263, A263_0, c263_0, e263, hx263_0, hl263_0, hi263_0⟩ := at_L2 (Kd.S_reads' HO_5.out).2.2 x7_2 p263 q263
                                        obtain rfl : ad260 = ad263 := (by injection e263)
                                        obtain ⟨ce263, hce263, hMe263, hcc263⟩ := Kd.S_get HO_5.out [] x7_2 p263 (by first | exact q263 | exact of_decide_eq_true (by first | (with_reducible assumption) | assumption) | (have e_ := (Kd.S_reads' HO_5.out).1; omega))
                                        obtain ⟨ve263_0, rfl, ge263_0⟩ := hMe263
                                        have hv263_0 := hcc263 0 _ rfl
                                        rw [Nat.add_zero, show ((Kd.slice 3 (Kd.int .i64))).sz = 1 from rfl, Nat.mul_one] at hv263_0
                                        replace hv263_0 := Option.some.inj (hv263_0.symm.trans hx263_0)
                                        rw [hv263_0] at ge263_0
                                        have HL263_0 := Aside0.mk (show Kd.R (Kd.int .i64) 3 _ _ _ _ (rd_L2 t253 x7_2) from ge263_0)
                                        clear hv263_0 ge263_0
                                        clear hcc263 hce263
                                        have HR263_0 := Aside0.mk hi263_0
                                        have HC263_0 := Aside0.mk hl263_0
                                        clear hi263_0 hl263_0
                                        replace p263 := eq_true p263
                                        replace q263 := eq_true q263
                                        have ea_ := Option.some.inj (hx260_0.symm.trans hx263_0)
                                        injection ea_ with ea_ en_ ec_
                                        subst ea_
                                        subst ec_
                                        clear en_
                                        have p264 : 0 ≤ (1 : Int) := (by omega)
                                        have q264 : 1 < ((rd_L2 t253 x7_2).length : Int) := of_decide_eq_true (by first | (with_reducible assumption) | assumption)
                                        obtain ⟨ad264, e264, hx264_0⟩ := Kd.at_int (by repeat (first | (with_reducible exact HR263_0.out) | (with_reducible refine Kd.C_alloc ?_ _) | (with_reducible refine Kd.C_drewN ?_ _) | (with_reducible refine Kd.C_drew ?_) | exact HR263_0.out)) 1 p264 q264
                                        cases e264
                                        (try simp only [show (1 : Int).toNat = 1 from rfl, Nat.reduceMul, Nat.reduceEqDiff, Go.Addr.add, ↓reduceIte] at hx264_0)
                                        have qi264 : (1 < (rd_L2 t253 x7_2).length) = True := eq_true (by omega)
                                        (try rw [show ((1 : Int)).toNat = 1 from rfl] at hx264_0)
                                        replace p264 := eq_true p264
                                        replace q264 := eq_true q264
                                        go_quiet (fail)
                                        try go_wp2
                                        go_quiet (fail)
                                        try go_wp2
                                        go_roundg k3
                                        case measure => have := HK1.out; have := HK2.out; have := HK3.out; omega
                                        case rel => exact ⟨(x8_3), (true), (wrap64 (x10_3 + 1)), (by first | rfl | (simp; done) | (simp [*]; done)), (by first | rfl | (simp; done) | (simp [*]; done)), (by first | rfl | (simp; done) | (simp [*]; done)), H', ⟨by have := HK1.out; have := HK2.out; have := HK3.out; omega⟩, ⟨by (with_reducible repeat (first | apply Kd.R_alloc | apply Kd.R_drewN | apply Kd.R_drew)); exact HO_3.out⟩, ⟨by (with_reducible repeat (first | apply Kd.S_alloc | apply Kd.S_drewN | apply Kd.S_drew)); exact HO_5.out⟩, ⟨by repeat (first | (with_reducible first | exact HB.out | apply below_alloc | apply pw_below_drewN | apply below_drew1) | exact HB.out)⟩⟩
                                      · replace c34 := Bool.eq_false_iff.mpr c34
                                        subst c34
                                        have H1 : (laws_FnBusyOf.l2 k3 t247 t253 x7_2 x8_3 (((rd_T46 t247 x10_3).f0) == (rd (rd_L2 t253 x7_2) 0)) (wrap64 (x10_3 + 1))) = some r := by rw [if_neg (show ¬ (false = true) by decide)] at H; exact H
                                        clear H
                                        have H := H1
                                        clear H1
                                        have H' := Aside0.mk H
                                        clear H
                                        try go_wp2
                                        have p259 : 0 ≤ (x10_3 : Int) := of_decide_eq_true (by first | (with_reducible assumption) | assumption)
                                        have q259 : x10_3 < (t247.length : Int) := of_decide_eq_true (by first | (with_reducible assumption) | assumption)
                                        obtain ⟨ad259, e259, hx259_0, hx259_1⟩ := at_T46 (Kd.R_reads' HO_3.out).2.2 x10_3 p259 q259
                                        cases e259
                                        replace p259 := eq_true p259
                                        replace q259 := eq_true q259
                                        have p260 : 0 ≤ (x7_2 : Int) := of_decide_eq_true (by first | (with_reducible assumption) | assumption)
                                        have q260 : x7_2 < (t253.length : Int) := of_decide_eq_true (by first | (with_reducible assumption) | assumption)
                                        obtain ⟨ad260, A260_0, c260_0, e260, hx260_0, hl260_0, hi260_0⟩ := at_L2 (Kd.S_reads' HO_5.out).2.2 x7_2 p260 q260
                                        cases e260
                                        obtain ⟨ce260, hce260, hMe260, hcc260⟩ := Kd.S_get HO_5.out [] x7_2 p260 (by first | exact q260 | exact of_decide_eq_true (by first | (with_reducible assumption) | assumption) | (have e_ := (Kd.S_reads' HO_5.out).1; omega))
                                        obtain ⟨ve260_0, rfl, ge260_0⟩ := hMe260
                                        have hv260_0 := hcc260 0 _ rfl
                                        rw [Nat.add_zero, show ((Kd.slice 3 (Kd.int .i64))).sz = 1 from rfl, Nat.mul_one] at hv260_0
                                        replace hv260_0 := Option.some.inj (hv260_0.symm.trans hx260_0)
                                        rw [hv260_0] at ge260_0
                                        have HL260_0 := Aside0.mk (show Kd.R (Kd.int .i64) 3 _ _ _ _ (rd_L2 t253 x7_2) from ge260_0)
                                        clear hv260_0 ge260_0
                                        clear hcc260 hce260
                                        have HR260_0 := Aside0.mk hi260_0
                                        have HC260_0 := Aside0.mk hl260_0
                                        clear hi260_0 hl260_0
                                        replace p260 := eq_true p260
                                        replace q260 := eq_true q260
                                        have p261 : 0 ≤ (0 : Int) := (by omega)
                                        have q261 : 0 < ((rd_L2 t253 x7_2).length : Int) := of_decide_eq_true (by first | (with_reducible assumption) | assumption)
                                        obtain ⟨ad261, e261, hx261_0⟩ := Kd.at_int (by repeat (first | (with_reducible exact HR260_0.out) | (with_reducible refine Kd.C_alloc ?_ _) | (with_reducible refine Kd.C_drewN ?_ _) | (with_reducible refine Kd.C_drew ?_) | exact HR260_0.out)) 0 p261 q261
                                        cases e261
                                        have qi261 : (0 < (rd_L2 t253 x7_2).length) = True := eq_true (by omega)
                                        (try rw [show ((0 : Int)).toNat = 0 from rfl] at hx261_0)
                                        (try rw [Addr.add_zero'] at hx261_0)
                                        replace p261 := eq_true p261
                                        replace q261 := eq_true q261
                                        have p262 : 0 ≤ (x10_3 : Int) := of_decide_eq_true (by first | (with_reducible assumption) | assumption)
                                        have q262 : x10_3 < (t247.length : Int) := of_decide_eq_true (by first | (with_reducible assumption) | assumption)
                                        obtain ⟨ad262, e262, hx262_0, hx262_1⟩ := at_T46 (Kd.R_reads' HO_3.out).2.2 x10_3 p262 q262
                                        obtain rfl : ad259 = ad262 := (by injection e262)
                                        replace p262 := eq_true p262
                                        replace q262 := eq_true q262
                                        have p263 : 0 ≤ (x7_2 : Int) := of_decide_eq_true (by first | (with_reducible assumption) | assumption)
                                        have q263 : x7_2 < (t253.length : Int) := of_decide_eq_true (by first | (with_reducible assumption) | assumption)
                                        obtain ⟨ad263, A263_0, c263_0, e263, hx263_0, hl263_0, hi263_0⟩ := at_L2 (Kd.S_reads' HO_5.out).2.2 x7_2 p263 q263
                                        obtain rfl : ad260 = ad263 := (by injection e263)
                                        obtain ⟨ce263, hce263, hMe263, hcc263⟩ := Kd.S_get HO_5.out [] x7_2 p263 (by first | exact q263 | exact of_decide_eq_true (by first | (with_reducible assumption) | assumption) | (have e_ := (Kd.S_reads' HO_5.out).1; omega))
                                        obtain ⟨ve263_0, rfl, ge263_0⟩ := hMe263
                                        have hv263_0 := hcc263 0 _ rfl
                                        rw [Nat.add_zero, show ((Kd.slice 3 (Kd.int .i64))).sz = 1 from rfl, Nat.mul_one] at hv263_0
                                        replace hv263_0 := Option.some.inj (hv263_0.symm.trans hx263_0)
                                        rw [hv263_0] at ge263_0
                                        have HL263_0 := Aside0.mk (show Kd.R (Kd.int .i64) 3 _ _ _ _ (rd_L2 t253 x7_2) from ge263_0)
                                        clear hv263_0 ge263_0
                                        clear hcc263 hce263
                                        have HR263_0 := Aside0.mk hi263_0
                                        have HC263_0 := Aside0.mk hl263_0
                                        clear hi263_0 hl263_0
                                        replace p263 := eq_true p263
                                        replace q263 := eq_true q263
                                        have ea_ := Option.some.inj (hx260_0.symm.trans hx263_0)
                                        injection ea_ with ea_ en_ ec_
                                        subst ea_
                                        subst ec_
                                        clear en_
                                        have p264 : 0 ≤ (1 : Int) := (by omega)
                                        have q264 : 1 < ((rd_L2 t253 x7_2).length : Int) := of_decide_eq_true (by first | (with_reducible assumption) | assumption)
                                        obtain ⟨ad264, e264, hx264_0⟩ := Kd.at_int (by repeat (first | (with_reducible exact HR263_0.out) | (with_reducible refine Kd.C_alloc ?_ _) | (with_reducible refine Kd.C_drewN ?_ _) | (with_reducible refine Kd.C_drew ?_) | exact HR263_0.out)) 1 p264 q264
                                        cases e264
                                        (try simp only [show (1 : Int).toNat = 1 from rfl, Nat.reduceMul, Nat.reduceEqDiff, Go.Addr.add, ↓reduceIte] at hx264_0)
                                        have qi264 : (1 < (rd_L2 t253 x7_2).length) = True := eq_true (by omega)
                                        (try rw [show ((1 : Int)).toNat = 1 from rfl] at hx264_0)
                                        replace p264 := eq_true p264
                                        replace q264 := eq_true q264
                                        go_quiet (fail)
                                        try go_wp2
                                        have p269 : 0 ≤ (x10_3 : Int) := of_decide_eq_true (by first | (with_reducible assumption) | assumption)
                                        have q269 : x10_3 < (t247.length : Int) := of_decide_eq_true (by first | (with_reducible assumption) | assumption)
                                        obtain ⟨ad269, e269, hx269_0, hx269_1⟩ := at_T46 (Kd.R_reads' HO_3.out).2.2 x10_3 p269 q269
                                        obtain rfl : ad259 = ad269 := (by injection e269)
                                        replace p269 := eq_true p269
                                        replace q269 := eq_true q269
                                        have p270 : 0 ≤ (x7_2 : Int) := of_decide_eq_true (by first | (with_reducible assumption) | assumption)
                                        have q270 : x7_2 < (t253.length : Int) := of_decide_eq_true (by first | (with_reducible assumption) | assumption)
                                        obtain ⟨ad270, A270_0, c270_0, e270, hx270_0, hl270_0, hi270_0⟩ := at_L2 (Kd.S_reads' HO_5.out).2.2 x7_2 p270 q270
                                        obtain rfl : ad260 = ad270 := (by injection e270)
                                        obtain ⟨ce270, hce270, hMe270, hcc270⟩ := Kd.S_get HO_5.out [] x7_2 p270 (by first | exact q270 | exact of_decide_eq_true (by first | (with_reducible assumption) | assumption) | (have e_ := (Kd.S_reads' HO_5.out).1; omega))
                                        obtain ⟨ve270_0, rfl, ge270_0⟩ := hMe270
                                        have hv270_0 := hcc270 0 _ rfl
                                        rw [Nat.add_zero, show ((Kd.slice 3 (Kd.int .i64))).sz = 1 from rfl, Nat.mul_one] at hv270_0
                                        replace hv270_0 := Option.some.inj (hv270_0.symm.trans hx270_0)
                                        rw [hv270_0] at ge270_0
                                        have HL270_0 := Aside0.mk (show Kd.R (Kd.int .i64) 3 _ _ _ _ (rd_L2 t253 x7_2) from ge270_0)
                                        clear hv270_0 ge270_0
                                        clear hcc270 hce270
                                        have HR270_0 := Aside0.mk hi270_0
                                        have HC270_0 := Aside0.mk hl270_0
                                        clear hi270_0 hl270_0
                                        replace p270 := eq_true p270
                                        replace q270 := eq_true q270
                                        have p271 : 0 ≤ (0 : Int) := (by omega)
                                        have q271 : 0 < ((rd_L2 t253 x7_2).length : Int) := of_decide_eq_true (by first | (with_reducible assumption) | assumption)
                                        obtain ⟨ad271, e271, hx271_0⟩ := Kd.at_int (by repeat (first | (with_reducible exact HR270_0.out) | (with_reducible refine Kd.C_alloc ?_ _) | (with_reducible refine Kd.C_drewN ?_ _) | (with_reducible refine Kd.C_drew ?_) | exact HR270_0.out)) 0 p271 q271
                                        cases e271
                                        have qi271 : (0 < (rd_L2 t253 x7_2).length) = True := eq_true (by omega)
                                        (try rw [show ((0 : Int)).toNat = 0 from rfl] at hx271_0)
                                        (try rw [Addr.add_zero'] at hx271_0)
                                        replace p271 := eq_true p271
                                        replace q271 := eq_true q271
                                        go_quiet (fail)
                                        try go_wp2
                                        go_roundg k3
                                        case measure => have := HK1.out; have := HK2.out; have := HK3.out; omega
                                        case rel => exact ⟨(x8_3), ((((rd_T46 t247 x10_3).f0) == (rd (rd_L2 t253 x7_2) 0))), (wrap64 (x10_3 + 1)), (by first | rfl | (simp; done) | (simp [*]; done)), (by first | rfl | (simp; done) | (simp [*]; done)), (by first | rfl | (simp; done) | (simp [*]; done)), H', ⟨by have := HK1.out; have := HK2.out; have := HK3.out; omega⟩, ⟨by (with_reducible repeat (first | apply Kd.R_alloc | apply Kd.R_drewN | apply Kd.R_drew)); exact HO_3.out⟩, ⟨by (with_reducible repeat (first | apply Kd.S_alloc | apply Kd.S_drewN | apply Kd.S_drew)); exact HO_5.out⟩, ⟨by repeat (first | (with_reducible first | exact HB.out | apply below_alloc | apply pw_below_drewN | apply below_drew1) | exact HB.out)⟩⟩
                                  · rw [if_neg c27] at H
                                    exact absurd H (by simp)
                                · rw [if_neg c26] at H
                                  have c26b0 : decide ((rd (rd_L2 t253 x7_2) 0) ≤ ((rd_T46 t247 x10_3).f0)) = false := decide_eq_false c26
                                  clear c26
                                  by_cases c39 : x9_3 = true
                                  · subst c39
                                    have H1 : (laws_FnBusyOf.l2 k3 t247 t253 x7_2 x8_3 true (wrap64 (x10_3 + 1))) = some r := by rw [if_pos rfl] at H; exact H
                                    clear H
                                    have H := H1
                                    clear H1
                                    have H' := Aside0.mk H
                                    clear H
                                    try go_wp2
                                    have p259 : 0 ≤ (x10_3 : Int) := of_decide_eq_true (by first | (with_reducible assumption) | assumption)
                                    have q259 : x10_3 < (t247.length : Int) := of_decide_eq_true (by first | (with_reducible assumption) | assumption)
                                    obtain ⟨ad259, e259, hx259_0, hx259_1⟩ := at_T46 (Kd.R_reads' HO_3.out).2.2 x10_3 p259 q259
                                    cases e259
                                    replace p259 := eq_true p259
                                    replace q259 := eq_true q259
                                    have p260 : 0 ≤ (x7_2 : Int) := of_decide_eq_true (by first | (with_reducible assumption) | assumption)
                                    have q260 : x7_2 < (t253.length : Int) := of_decide_eq_true (by first | (with_reducible assumption) | assumption)
                                    obtain ⟨ad260, A260_0, c260_0, e260, hx260_0, hl260_0, hi260_0⟩ := at_L2 (Kd.S_reads' HO_5.out).2.2 x7_2 p260 q260
                                    cases e260
                                    obtain ⟨ce260, hce260, hMe260, hcc260⟩ := Kd.S_get HO_5.out [] x7_2 p260 (by first | exact q260 | exact of_decide_eq_true (by first | (with_reducible assumption) | assumption) | (have e_ := (Kd.S_reads' HO_5.out).1; omega))
                                    obtain ⟨ve260_0, rfl, ge260_0⟩ := hMe260
                                    have hv260_0 := hcc260 0 _ rfl
                                    rw [Nat.add_zero, show ((Kd.slice 3 (Kd.int .i64))).sz = 1 from rfl, Nat.mul_one] at hv260_0
                                    replace hv260_0 := Option.some.inj (hv260_0.symm.trans hx260_0)
                                    rw [hv260_0] at ge260_0
                                    have HL260_0 := Aside0.mk (show Kd.R (Kd.int .i64) 3 _ _ _ _ (rd_L2 t253 x7_2) from ge260_0)
                                    clear hv260_0 ge260_0
                                    clear hcc260 hce260
                                    have HR260_0 := Aside0.mk hi260_0
                                    have HC260_0 := Aside0.mk hl260_0
                                    clear hi260_0 hl260_0
                                    replace p260 := eq_true p260
                                    replace q260 := eq_true q260
                                    have p261 : 0 ≤ (0 : Int) := (by omega)
                                    have q261 : 0 < ((rd_L2 t253 x7_2).length : Int) := of_decide_eq_true (by first | (with_reducible assumption) | assumption)
                                    obtain ⟨ad261, e261, hx261_0⟩ := Kd.at_int (by repeat (first | (with_reducible exact HR260_0.out) | (with_reducible refine Kd.C_alloc ?_ _) | (with_reducible refine Kd.C_drewN ?_ _) | (with_reducible refine Kd.C_drew ?_) | exact HR260_0.out)) 0 p261 q261
                                    cases e261
                                    have qi261 : (0 < (rd_L2 t253 x7_2).length) = True := eq_true (by omega)
                                    (try rw [show ((0 : Int)).toNat = 0 from rfl] at hx261_0)
                                    (try rw [Addr.add_zero'] at hx261_0)
                                    replace p261 := eq_true p261
                                    replace q261 := eq_true q261
                                    go_quiet (fail)
                                    try go_wp2
                                    go_quiet (fail)
                                    try go_wp2
                                    go_roundg k3
                                    case measure => have := HK1.out; have := HK2.out; have := HK3.out; omega
                                    case rel => exact ⟨(x8_3), (true), (wrap64 (x10_3 + 1)), (by first | rfl | (simp; done) | (simp [*]; done)), (by first | rfl | (simp; done) | (simp [*]; done)), (by first | rfl | (simp; done) | (simp [*]; done)), H', ⟨by have := HK1.out; have := HK2.out; have := HK3.out; omega⟩, ⟨by (with_reducible repeat (first | apply Kd.R_alloc | apply Kd.R_drewN | apply Kd.R_drew)); exact HO_3.out⟩, ⟨by (with_reducible repeat (first | apply Kd.S_alloc | apply Kd.S_drewN | apply Kd.S_drew)); exact HO_5.out⟩, ⟨by repeat (first | (with_reducible first | exact HB.out | apply below_alloc | apply pw_below_drewN | apply below_drew1) | exact HB.out)⟩⟩
                                  · replace c39 := Bool.eq_false_iff.mpr c39
                                    subst c39
                                    have H1 : (laws_FnBusyOf.l2 k3 t247 t253 x7_2 x8_3 (((rd_T46 t247 x10_3).f0) == (rd (rd_L2 t253 x7_2) 0)) (wrap64 (x10_3 + 1))) = some r := by rw [if_neg (show ¬ (false = true) by decide)] at H; exact H
                                    clear H
                                    have H := H1
                                    clear H1
                                    have H' := Aside0.mk H
                                    clear H
                                    try go_wp2
                                    have p259 : 0 ≤ (x10_3 : Int) := of_decide_eq_true (by first | (with_reducible assumption) | assumption)
                                    have q259 : x10_3 < (t247.length : Int) := of_decide_eq_true (by first | (with_reducible assumption) | assumption)
                                    obtain ⟨ad259, e259, hx259_0, hx259_1⟩ := at_T46 (Kd.R_reads' HO_3.out).2.2 x10_3 p259 q259
                                    cases e259
                                    replace p259 := eq_true p259
                                    replace q259 := eq_true q259
                                    have p260 : 0 ≤ (x7_2 : Int) := of_decide_eq_true (by first | (with_reducible assumption) | assumption)
                                    have q260 : x7_2 < (t253.length : Int) := of_decide_eq_true (by first | (with_reducible assumption) | assumption)
                                    obtain ⟨ad260, A260_0, c260_0, e260, hx260_0, hl260_0, hi260_0⟩ := at_L2 (Kd.S_reads' HO_5.out).2.2 x7_2 p260 q260
                                    cases e260
                                    obtain ⟨ce260, hce260, hMe260, hcc260⟩ := Kd.S_get HO_5.out [] x7_2 p260 (by first | exact q260 | exact of_decide_eq_true (by first | (with_reducible assumption) | assumption) | (have e_ := (Kd.S_reads' HO_5.out).1; omega))
                                    obtain ⟨ve260_0, rfl, ge260_0⟩ := hMe260
                                    have hv260_0 := hcc260 0 _ rfl
                                    rw [Nat.add_zero, show ((Kd.slice 3 (Kd.int .i64))).sz = 1 from rfl, Nat.mul_one] at hv260_0
                                    replace hv260_0 := Option.some.inj (hv260_0.symm.trans hx260_0)
                                    rw [hv260_0] at ge260_0
                                    have HL260_0 := Aside0.mk (show Kd.R (Kd.int .i64) 3 _ _ _ _ (rd_L2 t253 x7_2) from ge260_0)
                                    clear hv260_0 ge260_0
                                    clear hcc260 hce260
                                    have HR260_0 := Aside0.mk hi260_0
                                    have HC260_0 := Aside0.mk hl260_0
                                    clear hi260_0 hl260_0
                                    replace p260 := eq_true p260
                                    replace q260 := eq_true q260
                                    have p261 : 0 ≤ (0 : Int) := (by omega)
                                    have q261 : 0 < ((rd_L2 t253 x7_2).length : Int) := of_decide_eq_true (by first | (with_reducible assumption) | assumption)
                                    obtain ⟨ad261, e261, hx261_0⟩ := Kd.at_int (by repeat (first | (with_reducible exact HR260_0.out) | (with_reducible refine Kd.C_alloc ?_ _) | (with_reducible refine Kd.C_drewN ?_ _) | (with_reducible refine Kd.C_drew ?_) | exact HR260_0.out)) 0 p261 q261
                                    cases e261
                                    have qi261 : (0 < (rd_L2 t253 x7_2).length) = True := eq_true (by omega)
                                    (try rw [show ((0 : Int)).toNat = 0 from rfl] at hx261_0)
                                    (try rw [Addr.add_zero'] at hx261_0)
                                    replace p261 := eq_true p261
                                    replace q261 := eq_true q261
                                    go_quiet (fail)
                                    try go_wp2
                                    have p272 : 0 ≤ (x10_3 : Int) := of_decide_eq_true (by first | (with_reducible assumption) | assumption)
                                    have q272 : x10_3 < (t247.length : Int) := of_decide_eq_true (by first | (with_reducible assumption) | assumption)
                                    obtain ⟨ad272, e272, hx272_0, hx272_1⟩ := at_T46 (Kd.R_reads' HO_3.out).2.2 x10_3 p272 q272
                                    obtain rfl : ad259 = ad272 := (by injection e272)
                                    replace p272 := eq_true p272
                                    replace q272 := eq_true q272
                                    have p273 : 0 ≤ (x7_2 : Int) := of_decide_eq_true (by first | (with_reducible assumption) | assumption)
                                    have q273 : x7_2 < (t253.length : Int) := of_decide_eq_true (by first | (with_reducible assumption) | assumption)
                                    obtain ⟨ad273, A273_0, c273_0, e273, hx273_0, hl273_0, hi273_0⟩ := at_L2 (Kd.S_reads' HO_5.out).2.2 x7_2 p273 q273
                                    obtain rfl : ad260 = ad273 := (by injection e273)
                                    obtain ⟨ce273, hce273, hMe273, hcc273⟩ := Kd.S_get HO_5.out [] x7_2 p273 (by first | exact q273 | exact of_decide_eq_true (by first | (with_reducible assumption) | assumption) | (have e_ := (Kd.S_reads' HO_5.out).1; omega))
                                    obtain ⟨ve273_0, rfl, ge273_0⟩ := hMe273
                                    have hv273_0 := hcc273 0 _ rfl
                                    rw [Nat.add_zero, show ((Kd.slice 3 (Kd.int .i64))).sz = 1 from rfl, Nat.mul_one] at hv273_0
                                    replace hv273_0 := Option.some.inj (hv273_0.symm.trans hx273_0)
                                    rw [hv273_0] at ge273_0
                                    have HL273_0 := Aside0.mk (show Kd.R (Kd.int .i64) 3 _ _ _ _ (rd_L2 t253 x7_2) from ge273_0)
                                    clear hv273_0 ge273_0
                                    clear hcc273 hce273
                                    have HR273_0 := Aside0.mk hi273_0
                                    have HC273_0 := Aside0.mk hl273_0
                                    clear hi273_0 hl273_0
                                    replace p273 := eq_true p273
                                    replace q273 := eq_true q273
                                    have p274 : 0 ≤ (0 : Int) := (by omega)
                                    have q274 : 0 < ((rd_L2 t253 x7_2).length : Int) := of_decide_eq_true (by first | (with_reducible assumption) | assumption)
                                    obtain ⟨ad274, e274, hx274_0⟩ := Kd.at_int (by repeat (first | (with_reducible exact HR273_0.out) | (with_reducible refine Kd.C_alloc ?_ _) | (with_reducible refine Kd.C_drewN ?_ _) | (with_reducible refine Kd.C_drew ?_) | exact HR273_0.out)) 0 p274 q274
                                    cases e274
                                    have qi274 : (0 < (rd_L2 t253 x7_2).length) = True := eq_true (by omega)
                                    (try rw [show ((0 : Int)).toNat = 0 from rfl] at hx274_0)
                                    (try rw [Addr.add_zero'] at hx274_0)
                                    replace p274 := eq_true p274
                                    replace q274 := eq_true q274
                                    go_quiet (fail)
                                    try go_wp2
                                    go_roundg k3
                                    case measure => have := HK1.out; have := HK2.out; have := HK3.out; omega
                                    case rel => exact ⟨(x8_3), ((((rd_T46 t247 x10_3).f0) == (rd (rd_L2 t253 x7_2) 0))), (wrap64 (x10_3 + 1)), (by first | rfl | (simp; done) | (simp [*]; done)), (by first | rfl | (simp; done) | (simp [*]; done)), (by first | rfl | (simp; done) | (simp [*]; done)), H', ⟨by have := HK1.out; have := HK2.out; have := HK3.out; omega⟩, ⟨by (with_reducible repeat (first | apply Kd.R_alloc | apply Kd.R_drewN | apply Kd.R_drew)); exact HO_3.out⟩, ⟨by (with_reducible repeat (first | apply Kd.S_alloc | apply Kd.S_drewN | apply Kd.S_drew)); exact HO_5.out⟩, ⟨by repeat (first | (with_reducible first | exact HB.out | apply below_alloc | apply pw_below_drewN | apply below_drew1) | exact HB.out)⟩⟩
                              · rw [if_neg c25] at H
                                exact absurd H (by simp)
                            · rw [if_neg c24] at H
                              exact absurd H (by simp)
                          · rw [if_neg c23] at H
                            exact absurd H (by simp)
                        · rw [if_neg c22] at H
                          exact absurd H (by simp)
                      · rw [if_neg c21] at H
                        have c21b0 : decide (x10_3 < (t247.length : Int)) = false := decide_eq_false c21
                        clear c21
                        by_cases c44 : 0 ≤ x7_2
                        · rw [if_pos c44] at H
                          have c44b0 : decide (0 ≤ x7_2) = true := decide_eq_true c44
                          clear c44
                          by_cases c45 : x7_2 < (t253.length : Int)
                          · rw [if_pos c45] at H
                            have c45b0 : decide (x7_2 < (t253.length : Int)) = true := decide_eq_true c45
                            clear c45
                            by_cases c46 : 1 < ((rd_L2 t253 x7_2).length : Int)
                            · rw [if_pos c46] at H
                              have c46b0 : decide (1 < ((rd_L2 t253 x7_2).length : Int)) = true := decide_eq_true c46
                              have c46b1 : decide (1 < (rd_L2 t253 x7_2).length) = true := decide_eq_true (by omega)
                              clear c46
                              by_cases c47 : 0 < ((rd_L2 t253 x7_2).length : Int)
                              · rw [if_pos c47] at H
                                have c47b0 : decide (0 < ((rd_L2 t253 x7_2).length : Int)) = true := decide_eq_true c47
                                have c47b1 : decide (0 < (rd_L2 t253 x7_2).length) = true := decide_eq_true (by omega)
                                clear c47
                                by_cases c48 : (wrap64 ((rd (rd_L2 t253 x7_2) 1) - (rd (rd_L2 t253 x7_2) 0))) = x8_3
                                · rw [if_pos c48] at H
                                  have c48b0 : ((wrap64 ((rd (rd_L2 t253 x7_2) 1) - (rd (rd_L2 t253 x7_2) 0))) == x8_3) = true := beq_iff_eq.mpr c48
                                  have c48b1 : ((wrap64 ((rd (rd_L2 t253 x7_2) 1) - (rd (rd_L2 t253 x7_2) 0))) != x8_3) = false := bne_eq_false_iff_eq.mpr c48
                                  clear c48
                                  by_cases c49 : x9_3 = true
                                  · subst c49
                                    have H1 : (if x7_2 > 0 then (if 0 ≤ (wrap64 (x7_2 - 1)) then (if (wrap64 (x7_2 - 1)) < (t253.length : Int) then (if 1 < ((rd_L2 t253 (wrap64 (x7_2 - 1))).length : Int) then (if (rd (rd_L2 t253 x7_2) 0) ≤ (rd (rd_L2 t253 (wrap64 (x7_2 - 1))) 1) then (some false) else (laws_FnBusyOf.l1 k3 t247 t253 (wrap64 (x7_2 + 1)))) else (none)) else (none)) else (none)) else (laws_FnBusyOf.l1 k3 t247 t253 (wrap64 (x7_2 + 1)))) = some r := by rw [if_pos rfl] at H; exact H
                                    clear H
                                    have H := H1
                                    clear H1
                                    by_cases c50 : x7_2 > 0
                                    · rw [if_pos c50] at H
                                      have c50b0 : decide (0 < x7_2) = true := decide_eq_true c50
                                      clear c50
                                      obtain ⟨ji51, hji51⟩ : ∃ j_ : Int, (wrap64 (x7_2 - 1)) = j_ := ⟨_, rfl⟩
                                      replace H : (if 0 ≤ (ji51) then (if (ji51) < (t253.length : Int) then (if 1 < ((rd_L2 t253 (ji51)).length : Int) then (if (rd (rd_L2 t253 x7_2) 0) ≤ (rd (rd_L2 t253 (ji51)) 1) then (some false) else (laws_FnBusyOf.l1 k3 t247 t253 (wrap64 (x7_2 + 1)))) else (none)) else (none)) else (none)) = some r := by first | (rw [hji51] at H; exact H) | (simp only [hji51] at H ⊢; exact H)
                                      have hji51w : (IntKind.i64.wrap (x7_2 - 1)) = ji51 := (i64_w _).trans hji51
                                      by_cases c52 : 0 ≤ (ji51)
                                      · rw [if_pos c52] at H
                                        have c52b0 : decide (0 ≤ (ji51)) = true := decide_eq_true c52
                                        clear c52
                                        by_cases c53 : (ji51) < (t253.length : Int)
                                        · rw [if_pos c53] at H
                                          have c53b0 : decide ((ji51) < (t253.length : Int)) = true := decide_eq_true c53
                                          clear c53
                                          by_cases c54 : 1 < ((rd_L2 t253 (ji51)).length : Int)
                                          · rw [if_pos c54] at H
                                            have c54b0 : decide (1 < ((rd_L2 t253 (ji51)).length : Int)) = true := decide_eq_true c54
                                            have c54b1 : decide (1 < (rd_L2 t253 (ji51)).length) = true := decide_eq_true (by omega)
                                            clear c54
                                            by_cases c55 : (rd (rd_L2 t253 x7_2) 0) ≤ (rd (rd_L2 t253 (ji51)) 1)
                                            · rw [if_pos c55] at H
                                              have c55b0 : decide ((rd (rd_L2 t253 x7_2) 0) ≤ (rd (rd_L2 t253 (ji51)) 1)) = true := decide_eq_true c55
                                              clear c55
                                              obtain rfl := Option.some.inj H
                                              try go_wp2
                                              have p275 : 0 ≤ (x7_2 : Int) := of_decide_eq_true (by first | (with_reducible assumption) | assumption)
                                              have q275 : x7_2 < (t253.length : Int) := of_decide_eq_true (by first | (with_reducible assumption) | assumption)
                                              obtain ⟨ad275, A275_0, c275_0, e275, hx275_0, hl275_0, hi275_0⟩ := at_L2 (Kd.S_reads' HO_5.out).2.2 x7_2 p275 q275
                                              cases e275
                                              obtain ⟨ce275, hce275, hMe275, hcc275⟩ := Kd.S_get HO_5.out [] x7_2 p275 (by first | exact q275 | exact of_decide_eq_true (by first | (with_reducible assumption) | assumption) | (have e_ := (Kd.S_reads' HO_5.out).1; omega))
                                              obtain ⟨ve275_0, rfl, ge275_0⟩ := hMe275
                                              have hv275_0 := hcc275 0 _ rfl
                                              rw [Nat.add_zero, show ((Kd.slice 3 (Kd.int .i64))).sz = 1 from rfl, Nat.mul_one] at hv275_0
                                              replace hv275_0 := Option.some.inj (hv275_0.symm.trans hx275_0)
                                              rw [hv275_0] at ge275_0
                                              have HL275_0 := Aside0.mk (show Kd.R (Kd.int .i64) 3 _ _ _ _ (rd_L2 t253 x7_2) from ge275_0)
                                              clear hv275_0 ge275_0
                                              clear hcc275 hce275
                                              have HR275_0 := Aside0.mk hi275_0
                                              have HC275_0 := Aside0.mk hl275_0
                                              clear hi275_0 hl275_0
                                              replace p275 := eq_true p275
                                              replace q275 := eq_true q275
                                              have p276 : 0 ≤ (1 : Int) := (by omega)
                                              have q276 : 1 < ((rd_L2 t253 x7_2).length : Int) := of_decide_eq_true (by first | (with_reducible assumption) | assumption)
                                              obtain ⟨ad276, e276, hx276_0⟩ := Kd.at_int (by repeat (first | (with_reducible exact HR275_0.out) | (with_reducible refine Kd.C_alloc ?_ _) | (with_reducible refine Kd.C_drewN ?_ _) | (with_reducible refine Kd.C_drew ?_) | exact HR275_0.out)) 1 p276 q276
                                              cases e276
                                              (try simp only [show (1 : Int).toNat = 1 from rfl, Nat.reduceMul, Nat.reduceEqDiff, Go.Addr.add, ↓reduceIte] at hx276_0)
                                              have qi276 : (1 < (rd_L2 t253 x7_2).length) = True := eq_true (by omega)
                                              (try rw [show ((1 : Int)).toNat = 1 from rfl] at hx276_0)
                                              replace p276 := eq_true p276
                                              replace q276 := eq_true q276
                                              have p277 : 0 ≤ (x7_2 : Int) := of_decide_eq_true (by first | (with_reducible assumption) | assumption)
                                              have q277 : x7_2 < (t253.length : Int) := of_decide_eq_true (by first | (with_reducible assumption) | assumption)
                                              obtain ⟨ad277, A277_0, c277_0, e277, hx277_0, hl277_0, hi277_0⟩ := at_L2 (Kd.S_reads' HO_5.out).2.2 x7_2 p277 q277
                                              obtain rfl : ad275 = ad277 := (by injection e277)
                                              obtain ⟨ce277, hce277, hMe277, hcc277⟩ := Kd.S_get HO_5.out [] x7_2 p277 (by first | exact q277 | exact of_decide_eq_true (by first | (with_reducible assumption) | assumption) | (have e_ := (Kd.S_reads' HO_5.out).1; omega))
                                              obtain ⟨ve277_0, rfl, ge277_0⟩ := hMe277
                                              have hv277_0 := hcc277 0 _ rfl
                                              rw [Nat.add_zero, show ((Kd.slice 3 (Kd.int .i64))).sz = 1 from rfl, Nat.mul_one] at hv277_0
                                              replace hv277_0 := Option.some.inj (hv277_0.symm.trans hx277_0)
                                              rw [hv277_0] at ge277_0
                                              have HL277_0 := Aside0.mk (show Kd.R (Kd.int .i64) 3 _ _ _ _ (rd_L2 t253 x7_2) from ge277_0)
                                              clear hv277_0 ge277_0
                                              clear hcc277 hce277
                                              have HR277_0 := Aside0.mk hi277_0
                                              have HC277_0 := Aside0.mk hl277_0
                                              clear hi277_0 hl277_0
                                              replace p277 := eq_true p277
                                              replace q277 := eq_true q277
                                              have ea_ := Option.some.inj (hx275_0.symm.trans hx277_0)
                                              injection ea_ with ea_ en_ ec_
                                              subst ea_
                                              subst ec_
                                              clear en_
                                              have p278 : 0 ≤ (0 : Int) := (by omega)
                                              have q278 : 0 < ((rd_L2 t253 x7_2).length : Int) := of_decide_eq_true (by first | (with_reducible assumption) | assumption)
                                              obtain ⟨ad278, e278, hx278_0⟩ := Kd.at_int (by repeat (first | (with_reducible exact HR277_0.out) | (with_reducible refine Kd.C_alloc ?_ _) | (with_reducible refine Kd.C_drewN ?_ _) | (with_reducible refine Kd.C_drew ?_) | exact HR277_0.out)) 0 p278 q278
                                              cases e278
                                              have qi278 : (0 < (rd_L2 t253 x7_2).length) = True := eq_true (by omega)
                                              (try rw [show ((0 : Int)).toNat = 0 from rfl] at hx278_0)
                                              (try rw [Addr.add_zero'] at hx278_0)
                                              replace p278 := eq_true p278
                                              replace q278 := eq_true q278
                                              have p279 : 0 ≤ (x7_2 : Int) := of_decide_eq_true (by first | (with_reducible assumption) | assumption)
                                              have q279 : x7_2 < (t253.length : Int) := of_decide_eq_true (by first | (with_reducible assumption) | assumption)
                                              obtain ⟨ad279, A279_0, c279_0, e279, hx279_0, hl279_0, hi279_0⟩ := at_L2 (Kd.S_reads' HO_5.out).2.2 x7_2 p279 q279
                                              obtain rfl : ad275 = ad279 := (by injection e279)
                                              obtain ⟨ce279, hce279, hMe279, hcc279⟩ := Kd.S_get HO_5.out [] x7_2 p279 (by first | exact q279 | exact of_decide_eq_true (by first | (with_reducible assumption) | assumption) | (have e_ := (Kd.S_reads' HO_5.out).1; omega))
                                              obtain ⟨ve279_0, rfl, ge279_0⟩ := hMe279
                                              have hv279_0 := hcc279 0 _ rfl
                                              rw [Nat.add_zero, show ((Kd.slice 3 (Kd.int .i64))).sz = 1 from rfl, Nat.mul_one] at hv279_0
                                              replace hv279_0 := Option.some.inj (hv279_0.symm.trans hx279_0)
                                              rw [hv279_0] at ge279_0
                                              have HL279_0 := Aside0.mk (show Kd.R (Kd.int .i64) 3 _ _ _ _ (rd_L2 t253 x7_2) from ge279_0)
                                              clear hv279_0 ge279_0
                                              clear hcc279 hce279
                                              have HR279_0 := Aside0.mk hi279_0
                                              have HC279_0 := Aside0.mk hl279_0
                                              clear hi279_0 hl279_0
                                              replace p279 := eq_true p279
                                              replace q279 := eq_true q279
                                              have ea_ := Option.some.inj (hx275_0.symm.trans hx279_0)
                                              injection ea_ with ea_ en_ ec_
                                              subst ea_
                                              subst ec_
                                              clear en_
                                              have p280 : 0 ≤ (0 : Int) := (by omega)
                                              have q280 : 0 < ((rd_L2 t253 x7_2).length : Int) := of_decide_eq_true (by first | (with_reducible assumption) | assumption)
                                              obtain ⟨ad280, e280, hx280_0⟩ := Kd.at_int (by repeat (first | (with_reducible exact HR279_0.out) | (with_reducible refine Kd.C_alloc ?_ _) | (with_reducible refine Kd.C_drewN ?_ _) | (with_reducible refine Kd.C_drew ?_) | exact HR279_0.out)) 0 p280 q280
                                              cases e280
                                              have qi280 : (0 < (rd_L2 t253 x7_2).length) = True := eq_true (by omega)
                                              (try rw [show ((0 : Int)).toNat = 0 from rfl] at hx280_0)
                                              (try rw [Addr.add_zero'] at hx280_0)
                                              replace p280 := eq_true p280
                                              replace q280 := eq_true q280
                                              have p281 : 0 ≤ ((ji51) : Int) := of_decide_eq_true (by first | (with_reducible assumption) | assumption)
                                              have q281 : (ji51) < (t253.length : Int) := of_decide_eq_true (by first | (with_reducible assumption) | assumption)
                                              obtain ⟨ad281, A281_0, c281_0, e281, hx281_0, hl281_0, hi281_0⟩ := at_L2 (Kd.S_reads' HO_5.out).2.2 (ji51) p281 q281
                                              obtain rfl : ad275 = ad281 := (by injection e281)
                                              obtain ⟨ce281, hce281, hMe281, hcc281⟩ := Kd.S_get HO_5.out [] (ji51) p281 (by first | exact q281 | exact of_decide_eq_true (by first | (with_reducible assumption) | assumption) | (have e_ := (Kd.S_reads' HO_5.out).1; omega))
                                              obtain ⟨ve281_0, rfl, ge281_0⟩ := hMe281
                                              have hv281_0 := hcc281 0 _ rfl
                                              rw [Nat.add_zero, show ((Kd.slice 3 (Kd.int .i64))).sz = 1 from rfl, Nat.mul_one] at hv281_0
                                              replace hv281_0 := Option.some.inj (hv281_0.symm.trans hx281_0)
                                              rw [hv281_0] at ge281_0
                                              have HL281_0 := Aside0.mk (show Kd.R (Kd.int .i64) 3 _ _ _ _ (rd_L2 t253 (ji51)) from ge281_0)
                                              clear hv281_0 ge281_0
                                              clear hcc281 hce281
                                              have HR281_0 := Aside0.mk hi281_0
                                              have HC281_0 := Aside0.mk hl281_0
                                              clear hi281_0 hl281_0
                                              replace p281 := eq_true p281
                                              replace q281 := eq_true q281
                                              have p282 : 0 ≤ (1 : Int) := (by omega)
                                              have q282 : 1 < ((rd_L2 t253 (ji51)).length : Int) := of_decide_eq_true (by first | (with_reducible assumption) | assumption)
                                              obtain ⟨ad282, e282, hx282_0⟩ := Kd.at_int (by repeat (first | (with_reducible exact HR281_0.out) | (with_reducible refine Kd.C_alloc ?_ _) | (with_reducible refine Kd.C_drewN ?_ _) | (with_reducible refine Kd.C_drew ?_) | exact HR281_0.out)) 1 p282 q282
                                              cases e282
                                              (try simp only [show (1 : Int).toNat = 1 from rfl, Nat.reduceMul, Nat.reduceEqDiff, Go.Addr.add, ↓reduceIte] at hx282_0)
                                              have qi282 : (1 < (rd_L2 t253 (ji51)).length) = True := eq_true (by omega)
                                              (try rw [show ((1 : Int)).toNat = 1 from rfl] at hx282_0)
                                              replace p282 := eq_true p282
                                              replace q282 := eq_true q282
                                              go_quiet (fail)
                                              try go_wp2
                                              go_ret
                                              exact ⟨by first | rfl | (simp [errW_none, errW_some] <;> rfl) | (simp only [← hji51]; first | rfl | (simp [errW_none, errW_some] <;> rfl)) | (simp [*, errW_none, errW_some] <;> rfl), by repeat (first | (with_reducible first | exact HB.out | apply below_alloc | apply pw_below_drewN | apply below_drew1) | exact HB.out)⟩
                                            · rw [if_neg c55] at H
                                              have c55b0 : decide ((rd (rd_L2 t253 x7_2) 0) ≤ (rd (rd_L2 t253 (ji51)) 1)) = false := decide_eq_false c55
                                              clear c55
                                              have H' := Aside0.mk H
                                              clear H
                                              try go_wp2
                                              have p275 : 0 ≤ (x7_2 : Int) := of_decide_eq_true (by first | (with_reducible assumption) | assumption)
                                              have q275 : x7_2 < (t253.length : Int) := of_decide_eq_true (by first | (with_reducible assumption) | assumption)
                                              obtain ⟨ad275, A275_0, c275_0, e275, hx275_0, hl275_0, hi275_0⟩ := at_L2 (Kd.S_reads' HO_5.out).2.2 x7_2 p275 q275
                                              cases e275
                                              obtain ⟨ce275, hce275, hMe275, hcc275⟩ := Kd.S_get HO_5.out [] x7_2 p275 (by first | exact q275 | exact of_decide_eq_true (by first | (with_reducible assumption) | assumption) | (have e_ := (Kd.S_reads' HO_5.out).1; omega))
                                              obtain ⟨ve275_0, rfl, ge275_0⟩ := hMe275
                                              have hv275_0 := hcc275 0 _ rfl
                                              rw [Nat.add_zero, show ((Kd.slice 3 (Kd.int .i64))).sz = 1 from rfl, Nat.mul_one] at hv275_0
                                              replace hv275_0 := Option.some.inj (hv275_0.symm.trans hx275_0)
                                              rw [hv275_0] at ge275_0
                                              have HL275_0 := Aside0.mk (show Kd.R (Kd.int .i64) 3 _ _ _ _ (rd_L2 t253 x7_2) from ge275_0)
                                              clear hv275_0 ge275_0
                                              clear hcc275 hce275
                                              have HR275_0 := Aside0.mk hi275_0
                                              have HC275_0 := Aside0.mk hl275_0
                                              clear hi275_0 hl275_0
                                              replace p275 := eq_true p275
                                              replace q275 := eq_true q275
                                              have p276 : 0 ≤ (1 : Int) := (by omega)
                                              have q276 : 1 < ((rd_L2 t253 x7_2).length : Int) := of_decide_eq_true (by first | (with_reducible assumption) | assumption)
                                              obtain ⟨ad276, e276, hx276_0⟩ := Kd.at_int (by repeat (first | (with_reducible exact HR275_0.out) | (with_reducible refine Kd.C_alloc ?_ _) | (with_reducible refine Kd.C_drewN ?_ _) | (with_reducible refine Kd.C_drew ?_) | exact HR275_0.out)) 1 p276 q276
                                              cases e276
                                              (try simp only [show (1 : Int).toNat = 1 from rfl, Nat.reduceMul, Nat.reduceEqDiff, Go.Addr.add, ↓reduceIte] at hx276_0)
                                              have qi276 : (1 < (rd_L2 t253 x7_2).length) = True := eq_true (by omega)
                                              (try rw [show ((1 : Int)).toNat = 1 from rfl] at hx276_0)
                                              replace p276 := eq_true p276
                                              replace q276 := eq_true q276
                                              have p277 : 0 ≤ (x7_2 : Int) := of_decide_eq_true (by first | (with_reducible assumption) | assumption)
                                              have q277 : x7_2 < (t253.length : Int) := of_decide_eq_true (by first | (with_reducible assumption) | assumption)
                                              obtain ⟨ad277, A277_0, c277_0, e277, hx277_0, hl277_0, hi277_0⟩ := at_L2 (Kd.S_reads' HO_5.out).2.2 x7_2 p277 q277
                                              obtain rfl : ad275 = ad277 := (by injection e277)
                                              obtain ⟨ce277, hce277, hMe277, hcc277⟩ := Kd.S_get HO_5.out [] x7_2 p277 (by first | exact q277 | exact of_decide_eq_true (by first | (with_reducible assumption) | assumption) | (have e_ := (Kd.S_reads' HO_5.out).1; omega))
                                              obtain ⟨ve277_0, rfl, ge277_0⟩ := hMe277
                                              have hv277_0 := hcc277 0 _ rfl
                                              rw [Nat.add_zero, show ((Kd.slice 3 (Kd.int .i64))).sz = 1 from rfl, Nat.mul_one] at hv277_0
                                              replace hv277_0 := Option.some.inj (hv277_0.symm.trans hx277_0)
                                              rw [hv277_0] at ge277_0
                                              have HL277_0 := Aside0.mk (show Kd.R (Kd.int .i64) 3 _ _ _ _ (rd_L2 t253 x7_2) from ge277_0)
                                              clear hv277_0 ge277_0
                                              clear hcc277 hce277
                                              have HR277_0 := Aside0.mk hi277_0
                                              have HC277_0 := Aside0.mk hl277_0
                                              clear hi277_0 hl277_0
                                              replace p277 := eq_true p277
                                              replace q277 := eq_true q277
                                              have ea_ := Option.some.inj (hx275_0.symm.trans hx277_0)
                                              injection ea_ with ea_ en_ ec_
                                              subst ea_
                                              subst ec_
                                              clear en_
                                              have p278 : 0 ≤ (0 : Int) := (by omega)
                                              have q278 : 0 < ((rd_L2 t253 x7_2).length : Int) := of_decide_eq_true (by first | (with_reducible assumption) | assumption)
                                              obtain ⟨ad278, e278, hx278_0⟩ := Kd.at_int (by repeat (first | (with_reducible exact HR277_0.out) | (with_reducible refine Kd.C_alloc ?_ _) | (with_reducible refine Kd.C_drewN ?_ _) | (with_reducible refine Kd.C_drew ?_) | exact HR277_0.out)) 0 p278 q278
                                              cases e278
                                              have qi278 : (0 < (rd_L2 t253 x7_2).length) = True := eq_true (by omega)
                                              (try rw [show ((0 : Int)).toNat = 0 from rfl] at hx278_0)
                                              (try rw [Addr.add_zero'] at hx278_0)
                                              replace p278 := eq_true p278
                                              replace q278 := eq_true q278
                                              have p279 : 0 ≤ (x7_2 : Int) := of_decide_eq_true (by first | (with_reducible assumption) | assumption)
                                              have q279 : x7_2 < (t253.length : Int) := of_decide_eq_true (by first | (with_reducible assumption) | assumption)
                                              obtain ⟨ad279, A279_0, c279_0, e279, hx279_0, hl279_0, hi279_0⟩ := at_L2 (Kd.S_reads' HO_5.out).2.2 x7_2 p279 q279
                                              obtain rfl : ad275 = ad279 := (by injection e279)
                                              obtain ⟨ce279, hce279, hMe279, hcc279⟩ := Kd.S_get HO_5.out [] x7_2 p279 (by first | exact q279 | exact of_decide_eq_true (by first | (with_reducible assumption) | assumption) | (have e_ := (Kd.S_reads' HO_5.out).1; omega))
                                              obtain ⟨ve279_0, rfl, ge279_0⟩ := hMe279
                                              have hv279_0 := hcc279 0 _ rfl
                                              rw [Nat.add_zero, show ((Kd.slice 3 (Kd.int .i64))).sz = 1 from rfl, Nat.mul_one] at hv279_0
                                              replace hv279_0 := Option.some.inj (hv279_0.symm.trans hx279_0)
                                              rw [hv279_0] at ge279_0
                                              have HL279_0 := Aside0.mk (show Kd.R (Kd.int .i64) 3 _ _ _ _ (rd_L2 t253 x7_2) from ge279_0)
                                              clear hv279_0 ge279_0
                                              clear hcc279 hce279
                                              have HR279_0 := Aside0.mk hi279_0
                                              have HC279_0 := Aside0.mk hl279_0
                                              clear hi279_0 hl279_0
                                              replace p279 := eq_true p279
                                              replace q279 := eq_true q279
                                              have ea_ := Option.some.inj (hx275_0.symm.trans hx279_0)
                                              injection ea_ with ea_ en_ ec_
                                              subst ea_
                                              subst ec_
                                              clear en_
                                              have p280 : 0 ≤ (0 : Int) := (by omega)
                                              have q280 : 0 < ((rd_L2 t253 x7_2).length : Int) := of_decide_eq_true (by first | (with_reducible assumption) | assumption)
                                              obtain ⟨ad280, e280, hx280_0⟩ := Kd.at_int (by repeat (first | (with_reducible exact HR279_0.out) | (with_reducible refine Kd.C_alloc ?_ _) | (with_reducible refine Kd.C_drewN ?_ _) | (with_reducible refine Kd.C_drew ?_) | exact HR279_0.out)) 0 p280 q280
                                              cases e280
                                              have qi280 : (0 < (rd_L2 t253 x7_2).length) = True := eq_true (by omega)
                                              (try rw [show ((0 : Int)).toNat = 0 from rfl] at hx280_0)
                                              (try rw [Addr.add_zero'] at hx280_0)
                                              replace p280 := eq_true p280
                                              replace q280 := eq_true q280
                                              have p281 : 0 ≤ ((ji51) : Int) := of_decide_eq_true (by first | (with_reducible assumption) | assumption)
                                              have q281 : (ji51) < (t253.length : Int) := of_decide_eq_true (by first | (with_reducible assumption) | assumption)
                                              obtain ⟨ad281, A281_0, c281_0, e281, hx281_0, hl281_0, hi281_0⟩ := at_L2 (Kd.S_reads' HO_5.out).2.2 (ji51) p281 q281
                                              obtain rfl : ad275 = ad281 := (by injection e281)
                                              obtain ⟨ce281, hce281, hMe281, hcc281⟩ := Kd.S_get HO_5.out [] (ji51) p281 (by first | exact q281 | exact of_decide_eq_true (by first | (with_reducible assumption) | assumption) | (have e_ := (Kd.S_reads' HO_5.out).1; omega))
                                              obtain ⟨ve281_0, rfl, ge281_0⟩ := hMe281
                                              have hv281_0 := hcc281 0 _ rfl
                                              rw [Nat.add_zero, show ((Kd.slice 3 (Kd.int .i64))).sz = 1 from rfl, Nat.mul_one] at hv281_0
                                              replace hv281_0 := Option.some.inj (hv281_0.symm.trans hx281_0)
                                              rw [hv281_0] at ge281_0
                                              have HL281_0 := Aside0.mk (show Kd.R (Kd.int .i64) 3 _ _ _ _ (rd_L2 t253 (ji51)) from ge281_0)
                                              clear hv281_0 ge281_0
                                              clear hcc281 hce281
                                              have HR281_0 := Aside0.mk hi281_0
                                              have HC281_0 := Aside0.mk hl281_0
                                              clear hi281_0 hl281_0
                                              replace p281 := eq_true p281
                                              replace q281 := eq_true q281
                                              have p282 : 0 ≤ (1 : Int) := (by omega)
                                              have q282 : 1 < ((rd_L2 t253 (ji51)).length : Int) := of_decide_eq_true (by first | (with_reducible assumption) | assumption)
                                              obtain ⟨ad282, e282, hx282_0⟩ := Kd.at_int (by repeat (first | (with_reducible exact HR281_0.out) | (with_reducible refine Kd.C_alloc ?_ _) | (with_reducible refine Kd.C_drewN ?_ _) | (with_reducible refine Kd.C_drew ?_) | exact HR281_0.out)) 1 p282 q282
                                              cases e282
                                              (try simp only [show (1 : Int).toNat = 1 from rfl, Nat.reduceMul, Nat.reduceEqDiff, Go.Addr.add, ↓reduceIte] at hx282_0)
                                              have qi282 : (1 < (rd_L2 t253 (ji51)).length) = True := eq_true (by omega)
                                              (try rw [show ((1 : Int)).toNat = 1 from rfl] at hx282_0)
                                              replace p282 := eq_true p282
                                              replace q282 := eq_true q282
                                              go_quiet (fail)
                                              try go_wp2
                                              go_roundg k3
                                              case measure => have := HK1.out; have := HK2.out; have := HK3.out; omega
                                              case rel => exact ⟨(wrap64 (x7_2 + 1)), (by first | rfl | (simp; done) | (simp [*]; done)), H', ⟨by have := HK1.out; have := HK2.out; have := HK3.out; omega⟩, ⟨by (with_reducible repeat (first | apply Kd.R_alloc | apply Kd.R_drewN | apply Kd.R_drew)); exact HO_3.out⟩, ⟨by (with_reducible repeat (first | apply Kd.S_alloc | apply Kd.S_drewN | apply Kd.S_drew)); exact HO_5.out⟩, ⟨by repeat (first | (with_reducible first | exact HB.out | apply below_alloc | apply pw_below_drewN | apply below_drew1) | exact HB.out)⟩⟩
                                          · rw [if_neg c54] at H
                                            exact absurd H (by simp)
                                        · rw [if_neg c53] at H
                                          exact absurd H (by simp)
                                      · rw [if_neg c52] at H
                                        exact absurd H (by simp)
                                    · rw [if_neg c50] at H
                                      have c50b0 : decide (0 < x7_2) = false := decide_eq_false c50
                                      clear c50
                                      have H' := Aside0.mk H
                                      clear H
                                      try go_wp2
                                      have p275 : 0 ≤ (x7_2 : Int) := of_decide_eq_true (by first | (with_reducible assumption) | assumption)
                                      have q275 : x7_2 < (t253.length : Int) := of_decide_eq_true (by first | (with_reducible assumption) | assumption)
                                      obtain ⟨ad275, A275_0, c275_0, e275, hx275_0, hl275_0, hi275_0⟩ := at_L2 (Kd.S_reads' HO_5.out).2.2 x7_2 p275 q275
                                      cases e275
                                      obtain ⟨ce275, hce275, hMe275, hcc275⟩ := Kd.S_get HO_5.out [] x7_2 p275 (by first | exact q275 | exact of_decide_eq_true (by first | (with_reducible assumption) | assumption) | (have e_ := (Kd.S_reads' HO_5.out).1; omega))
                                      obtain ⟨ve275_0, rfl, ge275_0⟩ := hMe275
                                      have hv275_0 := hcc275 0 _ rfl
                                      rw [Nat.add_zero, show ((Kd.slice 3 (Kd.int .i64))).sz = 1 from rfl, Nat.mul_one] at hv275_0
                                      replace hv275_0 := Option.some.inj (hv275_0.symm.trans hx275_0)
                                      rw [hv275_0] at ge275_0
                                      have HL275_0 := Aside0.mk (show Kd.R (Kd.int .i64) 3 _ _ _ _ (rd_L2 t253 x7_2) from ge275_0)
                                      clear hv275_0 ge275_0
                                      clear hcc275 hce275
                                      have HR275_0 := Aside0.mk hi275_0
                                      have HC275_0 := Aside0.mk hl275_0
                                      clear hi275_0 hl275_0
                                      replace p275 := eq_true p275
                                      replace q275 := eq_true q275
                                      have p276 : 0 ≤ (1 : Int) := (by omega)
                                      have q276 : 1 < ((rd_L2 t253 x7_2).length : Int) := of_decide_eq_true (by first | (with_reducible assumption) | assumption)
                                      obtain ⟨ad276, e276, hx276_0⟩ := Kd.at_int (by repeat (first | (with_reducible exact HR275_0.out) | (with_reducible refine Kd.C_alloc ?_ _) | (with_reducible refine Kd.C_drewN ?_ _) | (with_reducible refine Kd.C_drew ?_) | exact HR275_0.out)) 1 p276 q276
                                      cases e276
                                      (try simp only [show (1 : Int).toNat = 1 from rfl, Nat.reduceMul, Nat.reduceEqDiff, Go.Addr.add, ↓reduceIte] at hx276_0)
                                      have qi276 : (1 < (rd_L2 t253 x7_2).length) = True := eq_true (by omega)
                                      (try rw [show ((1 : Int)).toNat = 1 from rfl] at hx276_0)
                                      replace p276 := eq_true p276
                                      replace q276 := eq_true q276
                                      have p277 : 0 ≤ (x7_2 : Int) := of_decide_eq_true (by first | (with_reducible assumption) | assumption)
                                      have q277 : x7_2 < (t253.length : Int) := of_decide_eq_true (by first | (with_reducible assumption) | assumption)
                                      obtain ⟨ad277, A277_0, c277_0, e277, hx277_0, hl277_0, hi277_0⟩ := at_L2 (Kd.S_reads' HO_5.out).2.2 x7_2 p277 q277
                                      obtain rfl : ad275 = ad277 := (by injection e277)
                                      obtain ⟨ce277, hce277, hMe277, hcc277⟩ := Kd.S_get HO_5.out [] x7_2 p277 (by first | exact q277 | exact of_decide_eq_true (by first | (with_reducible assumption) | assumption) | (have e_ := (Kd.S_reads' HO_5.out).1; omega))
                                      obtain ⟨ve277_0, rfl, ge277_0⟩ := hMe277
                                      have hv277_0 := hcc277 0 _ rfl
                                      rw [Nat.add_zero, show ((Kd.slice 3 (Kd.int .i64))).sz = 1 from rfl, Nat.mul_one] at hv277_0
                                      replace hv277_0 := Option.some.inj (hv277_0.symm.trans hx277_0)
                                      rw [hv277_0] at ge277_0
                                      have HL277_0 := Aside0.mk (show Kd.R (Kd.int .i64) 3 _ _ _ _ (rd_L2 t253 x7_2) from ge277_0)
                                      clear hv277_0 ge277_0
                                      clear hcc277 hce277
                                      have HR277_0 := Aside0.mk hi277_0
                                      have HC277_0 := Aside0.mk hl277_0
                                      clear hi277_0 hl277_0
                                      replace p277 := eq_true p277
                                      replace q277 := eq_true q277
                                      have ea_ := Option.some.inj (hx275_0.symm.trans hx277_0)
                                      injection ea_ with ea_ en_ ec_
                                      subst ea_
                                      subst ec_
                                      clear en_
                                      have p278 : 0 ≤ (0 : Int) := (by omega)
                                      have q278 : 0 < ((rd_L2 t253 x7_2).length : Int) := of_decide_eq_true (by first | (with_reducible assumption) | assumption)
                                      obtain ⟨ad278, e278, hx278_0⟩ := Kd.at_int (by repeat (first | (with_reducible exact HR277_0.out) | (with_reducible refine Kd.C_alloc ?_ _) | (with_reducible refine Kd.C_drewN ?_ _) | (with_reducible refine Kd.C_drew ?_) | exact HR277_0.out)) 0 p278 q278
                                      cases e278
                                      have qi278 : (0 < (rd_L2 t253 x7_2).length) = True := eq_true (by omega)
                                      (try rw [show ((0 : Int)).toNat = 0 from rfl] at hx278_0)
                                      (try rw [Addr.add_zero'] at hx278_0)
                                      replace p278 := eq_true p278
                                      replace q278 := eq_true q278
                                      go_quiet (fail)
                                      try go_wp2
                                      go_roundg k3
                                      case measure => have := HK1.out; have := HK2.out; have := HK3.out; omega
                                      case rel => exact ⟨(wrap64 (x7_2 + 1)), (by first | rfl | (simp; done) | (simp [*]; done)), H', ⟨by have := HK1.out; have := HK2.out; have := HK3.out; omega⟩, ⟨by (with_reducible repeat (first | apply Kd.R_alloc | apply Kd.R_drewN | apply Kd.R_drew)); exact HO_3.out⟩, ⟨by (with_reducible repeat (first | apply Kd.S_alloc | apply Kd.S_drewN | apply Kd.S_drew)); exact HO_5.out⟩, ⟨by repeat (first | (with_reducible first | exact HB.out | apply below_alloc | apply pw_below_drewN | apply below_drew1) | exact HB.out)⟩⟩
                                  · replace c49 := Bool.eq_false_iff.mpr c49
                                    subst c49
                                    have H1 : (some false) = some r := by rw [if_neg (show ¬ (false = true) by decide)] at H; exact H
                                    clear H
                                    have H := H1
                                    clear H1
                                    obtain rfl := Option.some.inj H
                                    try go_wp2
                                    have p275 : 0 ≤ (x7_2 : Int) := of_decide_eq_true (by first | (with_reducible assumption) | assumption)
                                    have q275 : x7_2 < (t253.length : Int) := of_decide_eq_true (by first | (with_reducible assumption) | assumption)
                                    obtain ⟨ad275, A275_0, c275_0, e275, hx275_0, hl275_0, hi275_0⟩ := at_L2 (Kd.S_reads' HO_5.out).2.2 x7_2 p275 q275
                                    cases e275
                                    obtain ⟨ce275, hce275, hMe275, hcc275⟩ := Kd.S_get HO_5.out [] x7_2 p275 (by first | exact q275 | exact of_decide_eq_true (by first | (with_reducible assumption) | assumption) | (have e_ := (Kd.S_reads' HO_5.out).1; omega))
                                    obtain ⟨ve275_0, rfl, ge275_0⟩ := hMe275
                                    have hv275_0 := hcc275 0 _ rfl
                                    rw [Nat.add_zero, show ((Kd.slice 3 (Kd.int .i64))).sz = 1 from rfl, Nat.mul_one] at hv275_0
                                    replace hv275_0 := Option.some.inj (hv275_0.symm.trans hx275_0)
                                    rw [hv275_0] at ge275_0
                                    have HL275_0 := Aside0.mk (show Kd.R (Kd.int .i64) 3 _ _ _ _ (rd_L2 t253 x7_2) from ge275_0)
                                    clear hv275_0 ge275_0
                                    clear hcc275 hce275
                                    have HR275_0 := Aside0.mk hi275_0
                                    have HC275_0 := Aside0.mk hl275_0
                                    clear hi275_0 hl275_0
                                    replace p275 := eq_true p275
                                    replace q275 := eq_true q275
                                    have p276 : 0 ≤ (1 : Int) := (by omega)
                                    have q276 : 1 < ((rd_L2 t253 x7_2).length : Int) := of_decide_eq_true (by first | (with_reducible assumption) | assumption)
                                    obtain ⟨ad276, e276, hx276_0⟩ := Kd.at_int (by repeat (first | (with_reducible exact HR275_0.out) | (with_reducible refine Kd.C_alloc ?_ _) | (with_reducible refine Kd.C_drewN ?_ _) | (with_reducible refine Kd.C_drew ?_) | exact HR275_0.out)) 1 p276 q276
                                    cases e276
                                    (try simp only [show (1 : Int).toNat = 1 from rfl, Nat.reduceMul, Nat.reduceEqDiff, Go.Addr.add, ↓reduceIte] at hx276_0)
                                    have qi276 : (1 < (rd_L2 t253 x7_2).length) = True := eq_true (by omega)
                                    (try rw [show ((1 : Int)).toNat = 1 from rfl] at hx276_0)
                                    replace p276 := eq_true p276
                                    replace q276 := eq_true q276
                                    have p277 : 0 ≤ (x7_2 : Int) := of_decide_eq_true (by first | (with_reducible assumption) | assumption)
                                    have q277 : x7_2 < (t253.length : Int) := of_decide_eq_true (by first | (with_reducible assumption) | assumption)
                                    obtain ⟨ad277, A277_0, c277_0, e277, hx277_0, hl277_0, hi277_0⟩ := at_L2 (Kd.S_reads' HO_5.out).2.2 x7_2 p277 q277
                                    obtain rfl : ad275 = ad277 := (by injection e277)
                                    obtain ⟨ce277, hce277, hMe277, hcc277⟩ := Kd.S_get HO_5.out [] x7_2 p277 (by first | exact q277 | exact of_decide_eq_true (by first | (with_reducible assumption) | assumption) | (have e_ := (Kd.S_reads' HO_5.out).1; omega))
                                    obtain ⟨ve277_0, rfl, ge277_0⟩ := hMe277
                                    have hv277_0 := hcc277 0 _ rfl
                                    rw [Nat.add_zero, show ((Kd.slice 3 (Kd.int .i64))).sz = 1 from rfl, Nat.mul_one] at hv277_0
                                    replace hv277_0 := Option.some.inj (hv277_0.symm.trans hx277_0)
                                    rw [hv277_0] at ge277_0
                                    have HL277_0 := Aside0.mk (show Kd.R (Kd.int .i64) 3 _ _ _ _ (rd_L2 t253 x7_2) from ge277_0)
                                    clear hv277_0 ge277_0
                                    clear hcc277 hce277
                                    have HR277_0 := Aside0.mk hi277_0
                                    have HC277_0 := Aside0.mk hl277_0
                                    clear hi277_0 hl277_0
                                    replace p277 := eq_true p277
                                    replace q277 := eq_true q277
                                    have ea_ := Option.some.inj (hx275_0.symm.trans hx277_0)
                                    injection ea_ with ea_ en_ ec_
                                    subst ea_
                                    subst ec_
                                    clear en_
                                    have p278 : 0 ≤ (0 : Int) := (by omega)
                                    have q278 : 0 < ((rd_L2 t253 x7_2).length : Int) := of_decide_eq_true (by first | (with_reducible assumption) | assumption)
                                    obtain ⟨ad278, e278, hx278_0⟩ := Kd.at_int (by repeat (first | (with_reducible exact HR277_0.out) | (with_reducible refine Kd.C_alloc ?_ _) | (with_reducible refine Kd.C_drewN ?_ _) | (with_reducible refine Kd.C_drew ?_) | exact HR277_0.out)) 0 p278 q278
                                    cases e278
                                    have qi278 : (0 < (rd_L2 t253 x7_2).length) = True := eq_true (by omega)
                                    (try rw [show ((0 : Int)).toNat = 0 from rfl] at hx278_0)
                                    (try rw [Addr.add_zero'] at hx278_0)
                                    replace p278 := eq_true p278
                                    replace q278 := eq_true q278
                                    go_quiet (fail)
                                    try go_wp2
                                    go_ret
                                    exact ⟨by first | rfl | (simp [errW_none, errW_some] <;> rfl) | (simp [*, errW_none, errW_some] <;> rfl), by repeat (first | (with_reducible first | exact HB.out | apply below_alloc | apply pw_below_drewN | apply below_drew1) | exact HB.out)⟩
                                · rw [if_neg c48] at H
                                  have c48b0 : ((wrap64 ((rd (rd_L2 t253 x7_2) 1) - (rd (rd_L2 t253 x7_2) 0))) == x8_3) = false := beq_eq_false_iff_ne.mpr c48
                                  have c48b1 : ((wrap64 ((rd (rd_L2 t253 x7_2) 1) - (rd (rd_L2 t253 x7_2) 0))) != x8_3) = true := bne_iff_ne.mpr c48
                                  obtain rfl := Option.some.inj H
                                  try go_wp2
                                  have p275 : 0 ≤ (x7_2 : Int) := of_decide_eq_true (by first | (with_reducible assumption) | assumption)
                                  have q275 : x7_2 < (t253.length : Int) := of_decide_eq_true (by first | (with_reducible assumption) | assumption)
                                  obtain ⟨ad275, A275_0, c275_0, e275, hx275_0, hl275_0, hi275_0⟩ := at_L2 (Kd.S_reads' HO_5.out).2.2 x7_2 p275 q275
                                  cases e275
                                  obtain ⟨ce275, hce275, hMe275, hcc275⟩ := Kd.S_get HO_5.out [] x7_2 p275 (by first | exact q275 | exact of_decide_eq_true (by first | (with_reducible assumption) | assumption) | (have e_ := (Kd.S_reads' HO_5.out).1; omega))
                                  obtain ⟨ve275_0, rfl, ge275_0⟩ := hMe275
                                  have hv275_0 := hcc275 0 _ rfl
                                  rw [Nat.add_zero, show ((Kd.slice 3 (Kd.int .i64))).sz = 1 from rfl, Nat.mul_one] at hv275_0
                                  replace hv275_0 := Option.some.inj (hv275_0.symm.trans hx275_0)
                                  rw [hv275_0] at ge275_0
                                  have HL275_0 := Aside0.mk (show Kd.R (Kd.int .i64) 3 _ _ _ _ (rd_L2 t253 x7_2) from ge275_0)
                                  clear hv275_0 ge275_0
                                  clear hcc275 hce275
                                  have HR275_0 := Aside0.mk hi275_0
                                  have HC275_0 := Aside0.mk hl275_0
                                  clear hi275_0 hl275_0
                                  replace p275 := eq_true p275
                                  replace q275 := eq_true q275
                                  have p276 : 0 ≤ (1 : Int) := (by omega)
                                  have q276 : 1 < ((rd_L2 t253 x7_2).length : Int) := of_decide_eq_true (by first | (with_reducible assumption) | assumption)
                                  obtain ⟨ad276, e276, hx276_0⟩ := Kd.at_int (by repeat (first | (with_reducible exact HR275_0.out) | (with_reducible refine Kd.C_alloc ?_ _) | (with_reducible refine Kd.C_drewN ?_ _) | (with_reducible refine Kd.C_drew ?_) | exact HR275_0.out)) 1 p276 q276
                                  cases e276
                                  (try simp only [show (1 : Int).toNat = 1 from rfl, Nat.reduceMul, Nat.reduceEqDiff, Go.Addr.add, ↓reduceIte] at hx276_0)
                                  have qi276 : (1 < (rd_L2 t253 x7_2).length) = True := eq_true (by omega)
                                  (try rw [show ((1 : Int)).toNat = 1 from rfl] at hx276_0)
                                  replace p276 := eq_true p276
                                  replace q276 := eq_true q276
                                  have p277 : 0 ≤ (x7_2 : Int) := of_decide_eq_true (by first | (with_reducible assumption) | assumption)
                                  have q277 : x7_2 < (t253.length : Int) := of_decide_eq_true (by first | (with_reducible assumption) | assumption)
                                  obtain ⟨ad277, A277_0, c277_0, e277, hx277_0, hl277_0, hi277_0⟩ := at_L2 (Kd.S_reads' HO_5.out).2.2 x7_2 p277 q277
                                  obtain rfl : ad275 = ad277 := (by injection e277)
                                  obtain ⟨ce277, hce277, hMe277, hcc277⟩ := Kd.S_get HO_5.out [] x7_2 p277 (by first | exact q277 | exact of_decide_eq_true (by first | (with_reducible assumption) | assumption) | (have e_ := (Kd.S_reads' HO_5.out).1; omega))
                                  obtain ⟨ve277_0, rfl, ge277_0⟩ := hMe277
                                  have hv277_0 := hcc277 0 _ rfl
                                  rw [Nat.add_zero, show ((Kd.slice 3 (Kd.int .i64))).sz = 1 from rfl, Nat.mul_one] at hv277_0
                                  replace hv277_0 := Option.some.inj (hv277_0.symm.trans hx277_0)
                                  rw [hv277_0] at ge277_0
                                  have HL277_0 := Aside0.mk (show Kd.R (Kd.int .i64) 3 _ _ _ _ (rd_L2 t253 x7_2) from ge277_0)
                                  clear hv277_0 ge277_0
                                  clear hcc277 hce277
                                  have HR277_0 := Aside0.mk hi277_0
                                  have HC277_0 := Aside0.mk hl277_0
                                  clear hi277_0 hl277_0
                                  replace p277 := eq_true p277
                                  replace q277 := eq_true q277
                                  have ea_ := Option.some.inj (hx275_0.symm.trans hx277_0)
                                  injection ea_ with ea_ en_ ec_
                                  subst ea_
                                  subst ec_
                                  clear en_
                                  have p278 : 0 ≤ (0 : Int) := (by omega)
                                  have q278 : 0 < ((rd_L2 t253 x7_2).length : Int) := of_decide_eq_true (by first | (with_reducible assumption) | assumption)
                                  obtain ⟨ad278, e278, hx278_0⟩ := Kd.at_int (by repeat (first | (with_reducible exact HR277_0.out) | (with_reducible refine Kd.C_alloc ?_ _) | (with_reducible refine Kd.C_drewN ?_ _) | (with_reducible refine Kd.C_drew ?_) | exact HR277_0.out)) 0 p278 q278
                                  cases e278
                                  have qi278 : (0 < (rd_L2 t253 x7_2).length) = True := eq_true (by omega)
                                  (try rw [show ((0 : Int)).toNat = 0 from rfl] at hx278_0)
                                  (try rw [Addr.add_zero'] at hx278_0)
                                  replace p278 := eq_true p278
                                  replace q278 := eq_true q278
                                  go_quiet (fail)
                                  try go_wp2
                                  go_ret
                                  exact ⟨by first | rfl | (simp [errW_none, errW_some] <;> rfl) | (simp [*, errW_none, errW_some] <;> rfl), by repeat (first | (with_reducible first | exact HB.out | apply below_alloc | apply pw_below_drewN | apply below_drew1) | exact HB.out)⟩
                              · rw [if_neg c47] at H
                                exact absurd H (by simp)
                            · rw [if_neg c46] at H
                              exact absurd H (by simp)
                          · rw [if_neg c45] at H
                            exact absurd H (by simp)
                        · rw [if_neg c44] at H
                          exact absurd H (by simp)
                · rw [if_neg c20] at H
                  have c20b0 : decide (x7_2 < (t253.length : Int)) = false := decide_eq_false c20
                  clear c20
                  by_cases c61 : (t253.length : Int) = 0
                  · rw [if_pos c61] at H
                    have c61b0 : ((t253.length : Int) == 0) = true := beq_iff_eq.mpr c61
                    have c61b1 : ((t253.length : Int) != 0) = false := bne_eq_false_iff_eq.mpr c61
                    clear c61
                    by_cases c62 : (t247.length : Int) = 0
                    · rw [if_pos c62] at H
                      have c62b0 : ((t247.length : Int) == 0) = true := beq_iff_eq.mpr c62
                      have c62b1 : ((t247.length : Int) != 0) = false := bne_eq_false_iff_eq.mpr c62
                      clear c62
                      replace H := Option.bind_eq_some_iff.mp H
                      obtain ⟨t283, A630, H⟩ := H
                      replace H : (some t283) = some r := H
                      have A63 := Aside0.mk A630
                      clear A630
                      obtain rfl := Option.some.inj H
                      go_wp2_with (first | (go_at_call 19; (with_reducible refine (laws_alive.calls k2  t283 _ A63.out).mono ?_); rintro e w64 ⟨rfl, hb⟩; have n0_ := Aside0.mk (Kd.R_below (by (with_reducible repeat (first | apply Kd.R_alloc | apply Kd.R_drewN | apply Kd.R_drew)); exact HO_3.out) hb); have n1_ := Aside0.mk (Kd.S_below (by (with_reducible repeat (first | apply Kd.S_alloc | apply Kd.S_drewN | apply Kd.S_drew)); exact HO_5.out) hb); have n2_ := Aside0.mk (below_step (by repeat (first | (with_reducible first | exact HB.out | apply below_alloc | apply pw_below_drewN | apply below_drew1) | exact HB.out)) hb); clear HO_3; clear HO_5; clear HB; have HO_3 := n0_; have HO_5 := n1_; have HB := n2_; clear n0_ n1_ n2_; (try clear hb); (try clear hb2); (try clear hk); (try clear hi)))
                      go_ret
                      exact ⟨by first | rfl | (simp [errW_none, errW_some] <;> rfl) | (simp [*, errW_none, errW_some] <;> rfl), by repeat (first | (with_reducible first | exact HB.out | apply below_alloc | apply pw_below_drewN | apply below_drew1) | exact HB.out)⟩
                    · rw [if_neg c62] at H
                      have c62b0 : ((t247.length : Int) == 0) = false := beq_eq_false_iff_ne.mpr c62
                      have c62b1 : ((t247.length : Int) != 0) = true := bne_iff_ne.mpr c62
                      have c62b2 : ¬ (t247 = []) := fun h_ => c62 (by rw [h_]; rfl)
                      replace H := Option.bind_eq_some_iff.mp H
                      obtain ⟨t284, A650, H⟩ := H
                      replace H : (if t284 = true then (some false) else ((laws_alive.f k2).bind fun t285 => (some t285))) = some r := H
                      have A65 := Aside0.mk A650
                      clear A650
                      by_cases c66 : t284 = true
                      · subst c66
                        have H1 : (some false) = some r := by rw [if_pos rfl] at H; exact H
                        clear H
                        have H := H1
                        clear H1
                        obtain rfl := Option.some.inj H
                        go_wp2_with (first | (go_at_call 34; (with_reducible refine (impl_CustomersOk.calls k2 _ _ t247 true _ ?side1 ?side2 A65.out).mono ?_); (case side1 => repeat (first | exact (Kd.R_reads' HO_3.out).2.2 | (with_reducible refine Kd.C_alloc ?_ _) | (with_reducible refine Kd.C_drewN ?_ _) | (with_reducible refine Kd.C_drew ?_))); (case side2 => exact (Kd.R_reads' HO_3.out).2.1); rintro e w67 ⟨rfl, hb⟩; have n0_ := Aside0.mk (Kd.R_below (by (with_reducible repeat (first | apply Kd.R_alloc | apply Kd.R_drewN | apply Kd.R_drew)); exact HO_3.out) hb); have n1_ := Aside0.mk (Kd.S_below (by (with_reducible repeat (first | apply Kd.S_alloc | apply Kd.S_drewN | apply Kd.S_drew)); exact HO_5.out) hb); have n2_ := Aside0.mk (below_step (by repeat (first | (with_reducible first | exact HB.out | apply below_alloc | apply pw_below_drewN | apply below_drew1) | exact HB.out)) hb); clear HO_3; clear HO_5; clear HB; have HO_3 := n0_; have HO_5 := n1_; have HB := n2_; clear n0_ n1_ n2_; (try clear hb); (try clear hb2); (try clear hk); (try clear hi)))
                        go_ret
                        exact ⟨by first | rfl | (simp [errW_none, errW_some] <;> rfl) | (simp [*, errW_none, errW_some] <;> rfl), by repeat (first | (with_reducible first | exact HB.out | apply below_alloc | apply pw_below_drewN | apply below_drew1) | exact HB.out)⟩
                      · replace c66 := Bool.eq_false_iff.mpr c66
                        subst c66
                        have H1 : ((laws_alive.f k2).bind fun t285 => (some t285)) = some r := by rw [if_neg (show ¬ (false = true) by decide)] at H; exact H
                        clear H
                        have H := H1
                        clear H1
                        replace H := Option.bind_eq_some_iff.mp H
                        obtain ⟨t285, A680, H⟩ := H
                        replace H : (some t285) = some r := H
                        have A68 := Aside0.mk A680
                        clear A680
                        obtain rfl := Option.some.inj H
                        go_wp2_with (first | (go_at_call 34; (with_reducible refine (impl_CustomersOk.calls k2 _ _ t247 false _ ?side1 ?side2 A65.out).mono ?_); (case side1 => repeat (first | exact (Kd.R_reads' HO_3.out).2.2 | (with_reducible refine Kd.C_alloc ?_ _) | (with_reducible refine Kd.C_drewN ?_ _) | (with_reducible refine Kd.C_drew ?_))); (case side2 => exact (Kd.R_reads' HO_3.out).2.1); rintro e w69 ⟨rfl, hb⟩; have n0_ := Aside0.mk (Kd.R_below (by (with_reducible repeat (first | apply Kd.R_alloc | apply Kd.R_drewN | apply Kd.R_drew)); exact HO_3.out) hb); have n1_ := Aside0.mk (Kd.S_below (by (with_reducible repeat (first | apply Kd.S_alloc | apply Kd.S_drewN | apply Kd.S_drew)); exact HO_5.out) hb); have n2_ := Aside0.mk (below_step (by repeat (first | (with_reducible first | exact HB.out | apply below_alloc | apply pw_below_drewN | apply below_drew1) | exact HB.out)) hb); clear HO_3; clear HO_5; clear HB; have HO_3 := n0_; have HO_5 := n1_; have HB := n2_; clear n0_ n1_ n2_; (try clear hb); (try clear hb2); (try clear hk); (try clear hi)) | (go_at_call 19; (with_reducible refine (laws_alive.calls k2  t285 _ A68.out).mono ?_); rintro e w70 ⟨rfl, hb⟩; have n0_ := Aside0.mk (Kd.R_below (by (with_reducible repeat (first | apply Kd.R_alloc | apply Kd.R_drewN | apply Kd.R_drew)); exact HO_3.out) hb); have n1_ := Aside0.mk (Kd.S_below (by (with_reducible repeat (first | apply Kd.S_alloc | apply Kd.S_drewN | apply Kd.S_drew)); exact HO_5.out) hb); have n2_ := Aside0.mk (below_step (by repeat (first | (with_reducible first | exact HB.out | apply below_alloc | apply pw_below_drewN | apply below_drew1) | exact HB.out)) hb); clear HO_3; clear HO_5; clear HB; have HO_3 := n0_; have HO_5 := n1_; have HB := n2_; clear n0_ n1_ n2_; (try clear hb); (try clear hb2); (try clear hk); (try clear hi)))
                        go_ret
                        exact ⟨by first | rfl | (simp [errW_none, errW_some] <;> rfl) | (simp [*, errW_none, errW_some] <;> rfl), by repeat (first | (with_reducible first | exact HB.out | apply below_alloc | apply pw_below_drewN | apply below_drew1) | exact HB.out)⟩
                  · rw [if_neg c61] at H
                    have c61b0 : ((t253.length : Int) == 0) = false := beq_eq_false_iff_ne.mpr c61
                    have c61b1 : ((t253.length : Int) != 0) = true := bne_iff_ne.mpr c61
                    have c61b2 : ¬ (t253 = []) := fun h_ => c61 (by rw [h_]; rfl)
                    obtain ⟨ji71, hji71⟩ : ∃ j_ : Int, (wrap64 ((t253.length : Int) - 1)) = j_ := ⟨_, rfl⟩
                    replace H : (if 0 ≤ (ji71) then (if (ji71) < (t253.length : Int) then (if 1 < ((rd_L2 t253 (ji71)).length : Int) then ((impl_LastLeave.f k2 t247).bind fun t288 => (some ((rd (rd_L2 t253 (ji71)) 1) == t288))) else (none)) else (none)) else (none)) = some r := by first | (rw [hji71] at H; exact H) | (simp only [hji71] at H ⊢; exact H)
                    have hji71w : (IntKind.i64.wrap ((t253.length : Int) - 1)) = ji71 := (i64_w _).trans hji71
                    by_cases c72 : 0 ≤ (ji71)
                    · rw [if_pos c72] at H
                      have c72b0 : decide (0 ≤ (ji71)) = true := decide_eq_true c72
                      clear c72
                      by_cases c73 : (ji71) < (t253.length : Int)
                      · rw [if_pos c73] at H
                        have c73b0 : decide ((ji71) < (t253.length : Int)) = true := decide_eq_true c73
                        clear c73
                        by_cases c74 : 1 < ((rd_L2 t253 (ji71)).length : Int)
                        · rw [if_pos c74] at H
                          have c74b0 : decide (1 < ((rd_L2 t253 (ji71)).length : Int)) = true := decide_eq_true c74
                          have c74b1 : decide (1 < (rd_L2 t253 (ji71)).length) = true := decide_eq_true (by omega)
                          clear c74
                          replace H := Option.bind_eq_some_iff.mp H
                          obtain ⟨t288, A750, H⟩ := H
                          replace H : (some ((rd (rd_L2 t253 (ji71)) 1) == t288)) = some r := H
                          have A75 := Aside0.mk A750
                          clear A750
                          obtain rfl := Option.some.inj H
                          try go_wp2
                          have n0_ := Aside0.mk (Kd.R_drew HO_3.out)
                          have n1_ := Aside0.mk (Kd.S_drew HO_5.out)
                          have n2_ := Aside0.mk (below_drew1 HB.out)
                          clear HO_3
                          clear HO_5
                          clear HB
                          have HO_3 := n0_
                          have HO_5 := n1_
                          have HB := n2_
                          clear n0_ n1_ n2_
                          have p286 : 0 ≤ ((ji71) : Int) := of_decide_eq_true (by first | (with_reducible assumption) | assumption)
                          have q286 : (ji71) < (t253.length : Int) := of_decide_eq_true (by first | (with_reducible assumption) | assumption)
                          obtain ⟨ad286, A286_0, c286_0, e286, hx286_0, hl286_0, hi286_0⟩ := at_L2 (Kd.S_reads' HO_5.out).2.2 (ji71) p286 q286
                          cases e286
                          obtain ⟨ce286, hce286, hMe286, hcc286⟩ := Kd.S_get HO_5.out [] (ji71) p286 (by first | exact q286 | exact of_decide_eq_true (by first | (with_reducible assumption) | assumption) | (have e_ := (Kd.S_reads' HO_5.out).1; omega))
                          obtain ⟨ve286_0, rfl, ge286_0⟩ := hMe286
                          have hv286_0 := hcc286 0 _ rfl
                          rw [Nat.add_zero, show ((Kd.slice 3 (Kd.int .i64))).sz = 1 from rfl, Nat.mul_one] at hv286_0
                          replace hv286_0 := Option.some.inj (hv286_0.symm.trans hx286_0)
                          rw [hv286_0] at ge286_0
                          have HL286_0 := Aside0.mk (show Kd.R (Kd.int .i64) 3 _ _ _ _ (rd_L2 t253 (ji71)) from ge286_0)
                          clear hv286_0 ge286_0
                          clear hcc286 hce286
                          have HR286_0 := Aside0.mk hi286_0
                          have HC286_0 := Aside0.mk hl286_0
                          clear hi286_0 hl286_0
                          replace p286 := eq_true p286
                          replace q286 := eq_true q286
                          have p287 : 0 ≤ (1 : Int) := (by omega)
                          have q287 : 1 < ((rd_L2 t253 (ji71)).length : Int) := of_decide_eq_true (by first | (with_reducible assumption) | assumption)
                          obtain ⟨ad287, e287, hx287_0⟩ := Kd.at_int (by repeat (first | (with_reducible exact HR286_0.out) | (with_reducible refine Kd.C_alloc ?_ _) | (with_reducible refine Kd.C_drewN ?_ _) | (with_reducible refine Kd.C_drew ?_) | exact HR286_0.out)) 1 p287 q287
                          cases e287
                          (try simp only [show (1 : Int).toNat = 1 from rfl, Nat.reduceMul, Nat.reduceEqDiff, Go.Addr.add, ↓reduceIte] at hx287_0)
                          have qi287 : (1 < (rd_L2 t253 (ji71)).length) = True := eq_true (by omega)
                          (try rw [show ((1 : Int)).toNat = 1 from rfl] at hx287_0)
                          replace p287 := eq_true p287
                          replace q287 := eq_true q287
                          refine start_ (n := 12) (S := fun w' => w'.cell? (ad286.add ((ji71)).toNat) = some (.slice (some ad287) (rd_L2 t253 (ji71)).length c286_0) ∧ w'.cell? ⟨ad287.block, ad287.off + 1, none⟩ = some (.int .i64 (rd (rd_L2 t253 (ji71)) 1))) (ds := []) #[false, false, false, false, false, false, false, false, false, false, false, false] (by kernel_rfl) rfl rfl ⟨hx286_0, hx287_0⟩ (fun hHeld => ?_); refine with_tabW laws_FnBusyOf.tab28 laws_FnBusyOf.bits28 (fun HT_ HW_ => ?_)
                          generalize wr.drew = w76 at HO_3 HO_5 HB HL286_0 HR286_0 hx286_0 hx287_0 hHeld ⊢
                          refine pure_ (i := 0) (N := some 154) (v := ?_) (a' := ?_) #[true, false, false, false, false, false, false, false, false, false, false, false] rfl rfl (any_of HT_.out (by kernel_rfl)) (fun _ _ _ h => h) (Or.inl ⟨by rfl, ?_⟩) ?_ ?_
                          rotate_left
                          · intro w'
                            go_simp
                            with_reducible rfl
                          rotate_left
                          · simp only [Act.put, List.setIfInBounds_toArray, List.set_cons_zero, List.set_cons_succ, i64_w, i32_w]
                            rfl
                          refine pure_ (i := 1) (N := some 155) (v := ?_) (a' := ?_) #[true, true, false, false, false, false, false, false, false, false, false, false] rfl rfl (any_of HT_.out (by kernel_rfl)) (fun _ _ _ h => h) (Or.inl ⟨by rfl, ?_⟩) ?_ ?_
                          rotate_left
                          · intro w'
                            go_simp
                            with_reducible rfl
                          rotate_left
                          · simp only [Act.put, List.setIfInBounds_toArray, List.set_cons_zero, List.set_cons_succ, i64_w, i32_w]
                            rfl
                          refine pure_ (i := 2) (N := some 156) (v := ?_) (a' := ?_) #[true, true, true, false, false, false, false, false, false, false, false, false] rfl rfl (any_of HT_.out (by kernel_rfl)) (fun _ _ _ h => h) (Or.inl ⟨by rfl, ?_⟩) ?_ ?_
                          rotate_left
                          · intro w'
                            go_simp
                            with_reducible rfl
                          rotate_left
                          · simp only [Act.put, List.setIfInBounds_toArray, List.set_cons_zero, List.set_cons_succ, i64_w, i32_w]
                            rfl
                          refine pure_ (i := 3) (N := some 157) (v := ?_) (a' := ?_) #[true, true, true, true, false, false, false, false, false, false, false, false] rfl rfl (any_of HT_.out (by kernel_rfl)) (fun _ _ _ h => h) (Or.inl ⟨by rfl, ?_⟩) ?_ ?_
                          rotate_left
                          · intro w'
                            go_simp
                            with_reducible rfl
                          rotate_left
                          · simp only [Act.put, List.setIfInBounds_toArray, List.set_cons_zero, List.set_cons_succ, i64_w, i32_w]
                            rfl
                          refine pure_ (i := 4) (N := some 158) (v := ?_) (a' := ?_) #[true, true, true, true, true, false, false, false, false, false, false, false] rfl rfl (any_of HT_.out (by kernel_rfl)) (fun _ _ _ h => h) (Or.inl ⟨by rfl, ?_⟩) ?_ ?_
                          rotate_left
                          · intro w'
                            go_simp
                            with_reducible rfl
                          rotate_left
                          · simp only [Act.put, List.setIfInBounds_toArray, List.set_cons_zero, List.set_cons_succ, i64_w, i32_w]
                            rfl
                          refine pure_ (i := 8) (N := some 162) (v := ?_) (a' := ?_) #[true, true, true, true, true, false, false, false, true, false, false, false] rfl rfl (any_of HT_.out (by kernel_rfl)) (fun _ _ _ h => h) (Or.inl ⟨by rfl, ?_⟩) ?_ ?_
                          rotate_left
                          · intro w'
                            go_simp
                            with_reducible rfl
                          rotate_left
                          · simp only [Act.put, List.setIfInBounds_toArray, List.set_cons_zero, List.set_cons_succ, i64_w, i32_w]
                            rfl
                          refine take_ (i := 5) (N := some 159) (v := ?_) (a' := ?_) #[true, true, true, true, true, true, false, false, true, false, false, false] rfl rfl (take_ofW HT_.out HW_.out (by kernel_rfl)) (fun _ _ _ h => h) (Or.inl ⟨by rfl, ?_⟩) hHeld ?_ ?_
                          rotate_left
                          · rintro w' ⟨s0, s1⟩
                            go_simp
                            with_reducible rfl
                          rotate_left
                          · simp only [Act.put, List.setIfInBounds_toArray, List.set_cons_zero, List.set_cons_succ, i64_w, i32_w]
                            rfl
                          refine pure_ (i := 6) (N := some 160) (v := ?_) (a' := ?_) #[true, true, true, true, true, true, true, false, true, false, false, false] rfl rfl (any_of HT_.out (by kernel_rfl)) (fun _ _ _ h => h) (Or.inl ⟨by rfl, ?_⟩) ?_ ?_
                          rotate_left
                          · intro w'
                            go_simp
                            with_reducible rfl
                          rotate_left
                          · simp only [Act.put, List.setIfInBounds_toArray, List.set_cons_zero, List.set_cons_succ, i64_w, i32_w]
                            rfl
                          refine take_ (i := 7) (N := some 161) (v := ?_) (a' := ?_) #[true, true, true, true, true, true, true, true, true, false, false, false] rfl rfl (take_ofW HT_.out HW_.out (by kernel_rfl)) (fun _ _ _ h => h) (Or.inl ⟨by rfl, ?_⟩) hHeld ?_ ?_
                          rotate_left
                          · rintro w' ⟨s0, s1⟩
                            go_simp
                            with_reducible rfl
                          rotate_left
                          · simp only [Act.put, List.setIfInBounds_toArray, List.set_cons_zero, List.set_cons_succ, i64_w, i32_w]
                            rfl
                          refine one_ (i := 9) (N := some 163) #[true, true, true, true, true, true, true, true, true, true, false, false] rfl rfl (one_of HT_.out (by kernel_rfl)) (by decide) (fun K hK => ?_)
                          refine goes_ Try.func22 (by kernel_rfl) rfl #[.slice Ao8 t247.length co8] (by rfl) rfl rfl (by (try simp only [List.map_toArray, List.map_cons, List.map_nil]); first | done | rfl | (simp only [List.length_drop, List.length_take]; rfl)) ?_
                          with_reducible refine (impl_LastLeave.calls k2 _ _ t247 t288 _ ?side1 ?side2 A75.out).mono ?_
                          (case side1 => repeat (first | exact (Kd.R_reads' HO_3.out).2.2 | (with_reducible refine Kd.C_alloc ?_ _) | (with_reducible refine Kd.C_drewN ?_ _) | (with_reducible refine Kd.C_drew ?_)))
                          (case side2 => exact (Kd.R_reads' HO_3.out).2.1)
                          rintro e w77 ⟨rfl, hb⟩
                          have HS0_ := (hb.cell (World.block_lt_of_cell? _ _ (hHeld.1))).trans (hHeld.1)
                          have HS1_ := (hb.cell (World.block_lt_of_cell? _ _ (hHeld.2))).trans (hHeld.2)
                          refine ⟨_, rfl, ?_⟩
                          have n0_ := Aside0.mk (Kd.R_below (by (with_reducible repeat (first | apply Kd.R_alloc | apply Kd.R_drewN | apply Kd.R_drew)); exact HO_3.out) hb)
                          have n1_ := Aside0.mk (Kd.S_below (by (with_reducible repeat (first | apply Kd.S_alloc | apply Kd.S_drewN | apply Kd.S_drew)); exact HO_5.out) hb)
                          have n2_ := Aside0.mk (Kd.R_below (by (with_reducible repeat (first | apply Kd.R_alloc | apply Kd.R_drewN | apply Kd.R_drew)); exact HL286_0.out) hb)
                          have n3_ := Aside0.mk (Kd.C_below (by repeat (first | (with_reducible exact HR286_0.out) | (with_reducible refine Kd.C_alloc ?_ _) | (with_reducible refine Kd.C_drewN ?_ _) | (with_reducible refine Kd.C_drew ?_) | exact HR286_0.out)) hb)
                          have n4_ := Aside0.mk (below_step (by repeat (first | (with_reducible first | exact HB.out | apply below_alloc | apply pw_below_drewN | apply below_drew1) | exact HB.out)) hb)
                          clear HO_3
                          clear HO_5
                          clear HL286_0
                          clear HR286_0
                          clear HB
                          have HO_3 := n0_
                          have HO_5 := n1_
                          have HL286_0 := n2_
                          have HR286_0 := n3_
                          have HB := n4_
                          clear n0_ n1_ n2_ n3_ n4_
                          (try clear hb)
                          (try clear hb2)
                          (try clear hk)
                          (try clear hi)
                          refine hK.out _ _ ⟨HS0_, HS1_⟩ (fun hHeld => ?_)
                          clear hK K
                          refine norm_ (a' := ?_) ?_ ?_
                          rotate_left
                          · show Act.put _ (some 163) _ = _
                            simp only [Act.put, List.setIfInBounds_toArray, List.set_cons_zero, List.set_cons_succ, i64_w, i32_w]
                            rfl
                          refine pure_ (i := 10) (N := some 164) (v := ?_) (a' := ?_) #[true, true, true, true, true, true, true, true, true, true, true, false] rfl rfl (any_of HT_.out (by kernel_rfl)) (fun _ _ _ h => h) (Or.inl ⟨by rfl, ?_⟩) ?_ ?_
                          rotate_left
                          · intro w'
                            go_simp
                            with_reducible rfl
                          rotate_left
                          · simp only [Act.put, List.setIfInBounds_toArray, List.set_cons_zero, List.set_cons_succ, i64_w, i32_w]
                            rfl
                          refine pure_ (i := 11) (N := some 2) (v := ?_) (a' := ?_) #[true, true, true, true, true, true, true, true, true, true, true, true] rfl rfl (any_of HT_.out (by kernel_rfl)) (fun _ _ _ h => h) (Or.inl ⟨by rfl, ?_⟩) ?_ ?_
                          rotate_left
                          · intro w'
                            go_simp
                            with_reducible rfl
                          rotate_left
                          · simp only [Act.put, List.setIfInBounds_toArray, List.set_cons_zero, List.set_cons_succ, i64_w, i32_w]
                            rfl
                          refine done_ (done_of HT_.out (by kernel_rfl)) ?_
                          try go_wp2
                          go_ret
                          exact ⟨by first | rfl | (simp [errW_none, errW_some] <;> rfl) | (simp only [← hji71]; first | rfl | (simp [errW_none, errW_some] <;> rfl)) | (simp [*, errW_none, errW_some] <;> rfl), by repeat (first | (with_reducible first | exact HB.out | apply below_alloc | apply pw_below_drewN | apply below_drew1) | exact HB.out)⟩
                        · rw [if_neg c74] at H
                          exact absurd H (by simp)
                      · rw [if_neg c73] at H
                        exact absurd H (by simp)
                    · rw [if_neg c72] at H
                      exact absurd H (by simp)
    · rw [if_neg c6] at H
      have c6b0 : ((t250.length : Int) == (t253.length : Int)) = false := beq_eq_false_iff_ne.mpr c6
      have c6b1 : ((t250.length : Int) != (t253.length : Int)) = true := bne_iff_ne.mpr c6
      have c6b2 : (t250.length == t253.length) = false := by first | simpa using c6 | (simp at c6 ⊢; omega)
      obtain rfl := Option.some.inj H
      go_enter Try.func8, Try.ntmps8
      go_wp2_with (first | ((with_reducible refine gate_callee (f := 32) rfl ?_); refine goesL_ (some 15) rfl rfl Try.func32 (by kernel_rfl) rfl #[.slice A0 l0.length c0] rfl (by (try simp only [List.map_toArray, List.map_cons, List.map_nil]); first | done | rfl | (simp only [List.length_drop, List.length_take]; rfl)) ?_; (with_reducible refine (spec_DrawBusyOf.calls k _ _ l0 t247 _ ?side1 ?side2 A3.out).mono ?_); (case side1 => repeat (first | exact HR0.out | (with_reducible refine Kd.C_alloc ?_ _) | (with_reducible refine Kd.C_drewN ?_ _) | (with_reducible refine Kd.C_drew ?_))); (case side2 => exact HC0.out); rintro e w78 ⟨v248, rfl, ho0, hb⟩; refine ⟨_, rfl, ?_⟩; have n0_ := Aside0.mk (Kd.R_lower ho0 (below_size (by repeat (first | (with_reducible first | exact HB.out | apply below_alloc | apply pw_below_drewN | apply below_drew1) | exact HB.out)))); have n1_ := Aside0.mk (below_step (by repeat (first | (with_reducible first | exact HB.out | apply below_alloc | apply pw_below_drewN | apply below_drew1) | exact HB.out)) hb); clear HB; have HO249 := n0_; have HB := n1_; clear n0_ n1_; (try clear hb); (try clear hb2); (try clear hk); (try clear hi); (try clear ho0); obtain ⟨Ao79, co79, eo79⟩ := Kd.R_slice HO249.out; subst eo79) | ((with_reducible refine gate_callee (f := 27) rfl ?_); refine goesL_ (some 17) rfl rfl Try.func27 (by kernel_rfl) rfl #[.slice Ao79 t247.length co79] rfl (by (try simp only [List.map_toArray, List.map_cons, List.map_nil]); first | done | rfl | (simp only [List.length_drop, List.length_take]; rfl)) ?_; (with_reducible refine (impl_BusyOf.calls k _ _ t247 t250 _ ?side1 ?side2 A4.out).mono ?_); (case side1 => repeat (first | exact (Kd.R_reads' HO249.out).2.2 | (with_reducible refine Kd.C_alloc ?_ _) | (with_reducible refine Kd.C_drewN ?_ _) | (with_reducible refine Kd.C_drew ?_))); (case side2 => exact (Kd.R_reads' HO249.out).2.1); rintro e w80 ⟨v251, rfl, ho0, hb⟩; refine ⟨_, rfl, ?_⟩; have n0_ := Aside0.mk (Kd.R_below (by (with_reducible repeat (first | apply Kd.R_alloc | apply Kd.R_drewN | apply Kd.R_drew)); exact HO249.out) hb); have n1_ := Aside0.mk (Kd.S_lower ho0 (below_size (by repeat (first | (with_reducible first | exact HB.out | apply below_alloc | apply pw_below_drewN | apply below_drew1) | exact HB.out)))); have n2_ := Aside0.mk (below_step (by repeat (first | (with_reducible first | exact HB.out | apply below_alloc | apply pw_below_drewN | apply below_drew1) | exact HB.out)) hb); clear HO249; clear HB; have HO249 := n0_; have HO252 := n1_; have HB := n2_; clear n0_ n1_ n2_; (try clear hb); (try clear hb2); (try clear hk); (try clear hi); (try clear ho0)) | ((with_reducible refine gate_callee (f := 26) rfl ?_); refine goesL_ (some 19) rfl rfl Try.func26 (by kernel_rfl) rfl #[.slice Ao79 t247.length co79] rfl (by (try simp only [List.map_toArray, List.map_cons, List.map_nil]); first | done | rfl | (simp only [List.length_drop, List.length_take]; rfl)) ?_; (with_reducible refine (spec_BusyOf.calls k _ _ t247 t253 _ ?side1 ?side2 A5.out).mono ?_); (case side1 => repeat (first | exact (Kd.R_reads' HO249.out).2.2 | (with_reducible refine Kd.C_alloc ?_ _) | (with_reducible refine Kd.C_drewN ?_ _) | (with_reducible refine Kd.C_drew ?_))); (case side2 => exact (Kd.R_reads' HO249.out).2.1); rintro e w81 ⟨v254, rfl, ho0, hb⟩; refine ⟨_, rfl, ?_⟩; have n0_ := Aside0.mk (Kd.R_below (by (with_reducible repeat (first | apply Kd.R_alloc | apply Kd.R_drewN | apply Kd.R_drew)); exact HO249.out) hb); have n1_ := Aside0.mk (Kd.S_elder' (by (with_reducible repeat (first | apply Kd.S_alloc | apply Kd.S_drewN | apply Kd.S_drew)); exact HO252.out) (Kd.S_base ho0) hb); have n2_ := Aside0.mk (Kd.S_lower (Kd.S_new' ho0 (Kd.S_lt (by (with_reducible repeat (first | apply Kd.S_alloc | apply Kd.S_drewN | apply Kd.S_drew)); exact HO252.out))) (below_size (by repeat (first | (with_reducible first | exact HB.out | apply below_alloc | apply pw_below_drewN | apply below_drew1) | exact HB.out)))); have n3_ := Aside0.mk (below_step (by repeat (first | (with_reducible first | exact HB.out | apply below_alloc | apply pw_below_drewN | apply below_drew1) | exact HB.out)) hb); clear HO249; clear HO252; clear HB; have HO249 := n0_; have HO252 := n1_; have HO255 := n2_; have HB := n3_; clear n0_ n1_ n2_ n3_; (try clear hb); (try clear hb2); (try clear hk); (try clear hi); (try clear ho0); obtain ⟨Ao82, co82, eo82⟩ := Kd.S_slice HO252.out; subst eo82; obtain ⟨Ao83, co83, eo83⟩ := Kd.S_slice HO255.out; subst eo83))
      go_ret
      exact ⟨by first | rfl | (simp [errW_none, errW_some] <;> rfl) | (simp [*, errW_none, errW_some] <;> rfl), by repeat (first | (with_reducible first | exact HB.out | apply below_alloc | apply pw_below_drewN | apply below_drew1) | exact HB.out)⟩

/-- THE ONE PURE STATEMENT of laws_FnBusyOf: yours. -/
def laws_FnBusyOf.Pure : Prop := ∀ (l0 : List Int), l0.length ≤ maxLen → l0.length * 1 ≤ 140737488351232 → (∀ x ∈ l0, (Lit.int .u8 x).wf = true) → ∃ k, laws_FnBusyOf.f k l0 = some true
theorem laws_FnBusyOf.walk (P : laws_FnBusyOf.Pure) (a0 : Option Addr) (len0 cap0 : Nat) (z0 : List Int) (w : World) (w0 : (a0 = none ∧ len0 = 0 ∧ cap0 = 0 ∧ z0 = []) ∨ ∃ x, a0 = some x ∧ len0 ≤ cap0 ∧ cap0 ≤ maxLen ∧ z0.length = cap0 ∧ (∀ i, i < z0.length → w.cell? (x.add i) = some (.int .u8 (z0.getD i 0))) ∧ ∀ n ∈ z0, (Lit.int .u8 n).wf = true) (y0 : len0 * 1 ≤ 140737488351232) :
    Calls Try.prog 8 #[.slice a0 len0 cap0] w fun e w' => e = .returned (.bool true) ∧ Below w.heap.size w w' := by
  obtain ⟨l0, rfl, hr0, hm0, hw0, hc0⟩ := ReadsInt.ofRowC w0
  obtain ⟨k, h⟩ := P l0 hm0 y0 hw0
  refine (laws_FnBusyOf.calls k _ _ l0 true w (Kd.C_of_reads (d := (0 : Int)) (h1 := fun _ => rfl) hr0) hc0 h).mono ?_
  rintro e w' ⟨rfl, hd⟩
  exact ⟨rfl, hd⟩

end Go.Proofs.Ytillelkfmebfiaa.QFnBusyOf
