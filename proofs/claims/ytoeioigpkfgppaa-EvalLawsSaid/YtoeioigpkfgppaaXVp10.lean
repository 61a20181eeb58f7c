-- written by wip/xprint.py out of the translation
import Derived.Test.YtoeioigpkfgppaaXVp0
import Derived.Test.YtoeioigpkfgppaaXVp2
import Derived.Test.YtoeioigpkfgppaaXVp6
import Derived.Test.YtoeioigpkfgppaaXVp7
import Derived.Test.YtoeioigpkfgppaaXVp9
namespace Go.Proofs.Ytoeioigpkfgppaa.XV
open Go.Proofs.Ytoeioigpkfgppaa.XGrow Go.RowKit Go.Proofs.YtoeioigpkfgppaaW.PrintWords Go.Proofs.YtoeioigpkfgppaaW.PrintLast Go.Proofs.YtoeioigpkfgppaaW.PrintMore
attribute [local go_sem] max2_int min2_int max_two min_two max_three min_three max_four min_four   -- for this text's walks alone
set_option linter.unusedVariables false
set_option linter.unusedSimpArgs false

/-! ### semblancelaw07_EvalLaws: function 6 -/
def semblancelaw07_EvalLaws.j0 : Nat → List (S47) → List (S47) → Bool → List (S51) → Int → Int → Int → Int → List ByteArray → Option (Bool)
  | 0, _, _, _, _, _, _, _, _, _ => none
  | k + 1, x0, x1, x50, x289000, x289001, x289002, x289003, x289004, x289005 => if x50 = true then ((semblancelaw07_awake.f k).bind fun t295 => (some t295)) else ((semblanceref05_Type.f k x0 0).bind fun t296 => ((semblanceref05_Type.f k x1 0).bind fun t297 => (if t296 = t297 then (if t296 = 1 then ((semblancelaw07_holds.f k x289000 x289001 x289002 x289003 x289004 x289005 (([15] : List Int)) x0 x1).bind fun t302 => ((semblancelaw07_holds.f k x289000 x289001 x289002 x289003 x289004 x289005 (([18] : List Int)) x0 x1).bind fun t306 => (if (t302 != t306) = true then ((semblancelaw07_awake.f k).bind fun t307 => (some t307)) else (some false)))) else ((some (([(⟨12, 0, (⟨#[]⟩ : ByteArray)⟩ : S47)] : List (S47)) : List (S47))).bind fun y308 => ((some (([] : List (S47)) : List (S47))).bind fun y311 => (if y311.length + y308.length < 4398046511104 then ((some (y311 ++ y308 : List (S47))).bind fun y314 => (if y314.length + x0.length < 4398046511104 then ((some (([] : List (S47)) : List (S47))).bind fun y320 => (if y320.length + y308.length < 4398046511104 then ((some (y320 ++ y308 : List (S47))).bind fun y323 => (if y323.length + x1.length < 4398046511104 then ((semblancelaw07_holds.f k x289000 x289001 x289002 x289003 x289004 x289005 (([12, 19] : List Int)) x0 x1).bind fun t332 => ((semblancelaw07_holds.f k x289000 x289001 x289002 x289003 x289004 x289005 (([20] : List Int)) (y314 ++ x0) (y323 ++ x1)).bind fun t336 => (if (t332 == t336) = true then ((semblancelaw07_holds.f k x289000 x289001 x289002 x289003 x289004 x289005 (([12, 12] : List Int)) x0 ([] : List (S47))).bind fun t340 => ((eval_Holds.f k x0 x289000 x289001 x289002 x289003 x289004 x289005).bind fun t341 => (if (t340 == t341) = true then ((semblancelaw07_awake.f k).bind fun t342 => (some t342)) else (some false)))) else (some false)))) else (none))) else (none))) else (none))) else (none))))) else ((semblancelaw07_awake.f k).bind fun t298 => (some t298)))))
def semblancelaw07_EvalLaws.f (k : Nat) (l0 : List (S47)) (l1 : List (S47)) (l2_0 : List (S51)) (a2_1 : Int) (a2_2 : Int) (a2_3 : Int) (a2_4 : Int) (l2_5 : List ByteArray) : Option (Bool) := (semblancelaw07_Light.f k l0 l2_0 a2_1 a2_2 a2_3 a2_4 l2_5).bind fun t289 => (if t289 = true then ((semblancelaw07_Light.f k l1 l2_0 a2_1 a2_2 a2_3 a2_4 l2_5).bind fun t290 => (if t290 = true then ((semblanceref07_Check.f k l0 l2_0 a2_1 a2_2 a2_3 a2_4 l2_5).bind fun t291 => (if t291 = 0 then ((semblanceref07_Check.f k l1 l2_0 a2_1 a2_2 a2_3 a2_4 l2_5).bind fun t292 => (if t292 = 0 then (if (wrap64 ((l0.length : Int) + (l1.length : Int))) > 36 then (semblancelaw07_EvalLaws.j0 k l0 l1 true l2_0 a2_1 a2_2 a2_3 a2_4 l2_5) else ((semblanceref05_Depth.f k l0 0).bind fun t293 => (if t293 > 9 then (semblancelaw07_EvalLaws.j0 k l0 l1 true l2_0 a2_1 a2_2 a2_3 a2_4 l2_5) else ((semblanceref05_Depth.f k l1 0).bind fun t294 => (semblancelaw07_EvalLaws.j0 k l0 l1 (decide (t294 > 9)) l2_0 a2_1 a2_2 a2_3 a2_4 l2_5))))) else (semblancelaw07_EvalLaws.j0 k l0 l1 true l2_0 a2_1 a2_2 a2_3 a2_4 l2_5))) else (semblancelaw07_EvalLaws.j0 k l0 l1 true l2_0 a2_1 a2_2 a2_3 a2_4 l2_5))) else (semblancelaw07_EvalLaws.j0 k l0 l1 true l2_0 a2_1 a2_2 a2_3 a2_4 l2_5))) else (semblancelaw07_EvalLaws.j0 k l0 l1 true l2_0 a2_1 a2_2 a2_3 a2_4 l2_5))
theorem semblancelaw07_EvalLaws.mono_l : ∀ k, (∀ y0 y1 y2 y3 y4 y5 y6 y7 y8, LeO (semblancelaw07_EvalLaws.j0 k y0 y1 y2 y3 y4 y5 y6 y7 y8) (semblancelaw07_EvalLaws.j0 (k + 1) y0 y1 y2 y3 y4 y5 y6 y7 y8))
  | 0 => fun _ _ _ _ _ _ _ _ _ r h => by simp [semblancelaw07_EvalLaws.j0] at h
  | k + 1 => by
    have ih0 := semblancelaw07_EvalLaws.mono_l k
    · intro y0 y1 y2 y3 y4 y5 y6 y7 y8
      unfold semblancelaw07_EvalLaws.j0
      repeat' first
      | (with_reducible exact ih0 _ _ _ _ _ _ _ _ _)
      | (with_reducible exact eval_Holds.mono _ _ _ _ _ _ _ _)
      | (with_reducible exact semblancelaw07_Light.mono _ _ _ _ _ _ _ _)
      | (with_reducible exact semblancelaw07_awake.mono _)
      | (with_reducible exact semblancelaw07_holds.mono _ _ _ _ _ _ _ _ _ _)
      | (with_reducible exact semblanceref05_Depth.mono _ _ _)
      | (with_reducible exact semblanceref05_Type.mono _ _ _)
      | (with_reducible exact semblanceref07_Check.mono _ _ _ _ _ _ _ _)
      | (with_reducible exact LeO.refl _)
      | (with_reducible exact LeO.none _)
      | (with_reducible refine LeO.ite ?_ ?_)
      | (with_reducible refine LeO.bind ?_ (fun _ => ?_))
      | exact ih0 _ _ _ _ _ _ _ _ _
      | exact eval_Holds.mono _ _ _ _ _ _ _ _
      | exact semblancelaw07_Light.mono _ _ _ _ _ _ _ _
      | exact semblancelaw07_awake.mono _
      | exact semblancelaw07_holds.mono _ _ _ _ _ _ _ _ _ _
      | exact semblanceref05_Depth.mono _ _ _
      | exact semblanceref05_Type.mono _ _ _
      | exact semblanceref07_Check.mono _ _ _ _ _ _ _ _
      | exact LeO.none _
      | refine LeO.ite ?_ ?_
      | refine LeO.bind ?_ (fun _ => ?_)
theorem semblancelaw07_EvalLaws.mono : ∀ a0 a1 a2 a3 a4 a5 a6 a7 k, LeO (semblancelaw07_EvalLaws.f k a0 a1 a2 a3 a4 a5 a6 a7) (semblancelaw07_EvalLaws.f (k + 1) a0 a1 a2 a3 a4 a5 a6 a7) := by
  intro a0 a1 a2 a3 a4 a5 a6 a7 k
  have ih0 := semblancelaw07_EvalLaws.mono_l k
  unfold semblancelaw07_EvalLaws.f
  repeat' first
      | (with_reducible exact ih0 _ _ _ _ _ _ _ _ _)
      | (with_reducible exact eval_Holds.mono _ _ _ _ _ _ _ _)
      | (with_reducible exact semblancelaw07_Light.mono _ _ _ _ _ _ _ _)
      | (with_reducible exact semblancelaw07_awake.mono _)
      | (with_reducible exact semblancelaw07_holds.mono _ _ _ _ _ _ _ _ _ _)
      | (with_reducible exact semblanceref05_Depth.mono _ _ _)
      | (with_reducible exact semblanceref05_Type.mono _ _ _)
      | (with_reducible exact semblanceref07_Check.mono _ _ _ _ _ _ _ _)
      | (with_reducible exact LeO.refl _)
      | (with_reducible exact LeO.none _)
      | (with_reducible refine LeO.ite ?_ ?_)
      | (with_reducible refine LeO.bind ?_ (fun _ => ?_))
      | exact ih0 _ _ _ _ _ _ _ _ _
      | exact eval_Holds.mono _ _ _ _ _ _ _ _
      | exact semblancelaw07_Light.mono _ _ _ _ _ _ _ _
      | exact semblancelaw07_awake.mono _
      | exact semblancelaw07_holds.mono _ _ _ _ _ _ _ _ _ _
      | exact semblanceref05_Depth.mono _ _ _
      | exact semblanceref05_Type.mono _ _ _
      | exact semblanceref07_Check.mono _ _ _ _ _ _ _ _
      | exact LeO.none _
      | refine LeO.ite ?_ ?_
      | refine LeO.bind ?_ (fun _ => ?_)
def semblancelaw07_EvalLaws.T7 : Bool × List (List Nat × List Nat) := (true, [([], []), ([], []), ([], []), ([], []), ([0, 1, 2, 3], [0, 1, 2, 3]), ([], []), ([], []), ([], []), ([], []), ([5, 6, 7, 8, 4], [5, 6, 7, 8]), ([4, 9], [4, 9]), ([10, 9], [10]), ([11, 11], [11]), ([11, 12], [11, 12]), ([13, 12, 0, 1, 2, 3, 4, 5, 6, 7, 8, 9, 10, 11, 12, 13], [13])])
def semblancelaw07_EvalLaws.B7 : List Nat := [0, 0, 0, 0, 15, 0, 0, 0, 0, 511, 1023, 2047, 4095, 8191, 16383]
theorem semblancelaw07_EvalLaws.tab7 : rtab .any (opsOf Try.f6 7) = semblancelaw07_EvalLaws.T7 := by kernel_rfl
theorem semblancelaw07_EvalLaws.bits7 : waitsOk semblancelaw07_EvalLaws.T7.2 semblancelaw07_EvalLaws.B7 = true := by kernel_rfl
def semblancelaw07_EvalLaws.T10 : Bool × List (List Nat × List Nat) := (true, [([], []), ([], []), ([], []), ([], []), ([0, 1, 2, 3], [0, 1, 2, 3]), ([], []), ([], []), ([], []), ([], []), ([5, 6, 7, 8, 4], [5, 6, 7, 8]), ([4, 9], [4, 9]), ([10, 9], [10]), ([11], [11]), ([11], [11]), ([11], [11]), ([12, 13, 14, 11, 11], [11, 12, 13, 14]), ([11], [11]), ([11], [11]), ([16, 17, 15, 11], [11, 16, 17]), ([15, 18, 11], [11, 15, 18]), ([11, 19], [11, 19]), ([20, 18], [20]), ([21, 21], [21]), ([21, 22], [21, 22]), ([23, 22, 0, 1, 2, 3, 4, 5, 6, 7, 8, 9, 10, 11, 12, 13, 14, 15, 16, 17, 18, 19, 20, 21, 22, 23], [23])])
def semblancelaw07_EvalLaws.B10 : List Nat := [0, 0, 0, 0, 15, 0, 0, 0, 0, 511, 1023, 2047, 4095, 4095, 4095, 32767, 4095, 4095, 262143, 524287, 1048575, 2097151, 4194303, 8388607, 16777215]
theorem semblancelaw07_EvalLaws.tab10 : rtab .any (opsOf Try.f6 10) = semblancelaw07_EvalLaws.T10 := by kernel_rfl
theorem semblancelaw07_EvalLaws.bits10 : waitsOk semblancelaw07_EvalLaws.T10.2 semblancelaw07_EvalLaws.B10 = true := by kernel_rfl
abbrev bw27_0 : Array Bool := #[false, false, false, false, false, false, false, false, false, false, false, false, false, false, false]
abbrev bw27_1 : Array Bool := #[false, false, true, false, false, false, false, false, false, false, false, false, false, false, false]
abbrev bw27_2 : Array Bool := #[false, false, true, true, false, false, false, false, false, false, false, false, false, false, false]
abbrev bw27_3 : Array Bool := #[false, false, true, true, false, false, false, true, false, false, false, false, false, false, false]
abbrev bw27_4 : Array Bool := #[false, false, true, true, false, false, false, true, true, false, false, false, false, false, false]
abbrev bw27_5 : Array Bool := #[false, false, false, false, false, false, false, false, false, false, false, false, false, false, false, false, false, false, false, false, false, false, false, false, false]
abbrev bw27_6 : Array Bool := #[false, false, true, false, false, false, false, false, false, false, false, false, false, false, false, false, false, false, false, false, false, false, false, false, false]
abbrev bw27_7 : Array Bool := #[false, false, true, true, false, false, false, false, false, false, false, false, false, false, false, false, false, false, false, false, false, false, false, false, false]
abbrev bw27_8 : Array Bool := #[false, false, true, true, false, false, false, true, false, false, false, false, false, false, false, false, false, false, false, false, false, false, false, false, false]
abbrev bw27_9 : Array Bool := #[false, false, true, true, false, false, false, true, true, false, false, false, false, false, false, false, false, false, false, false, false, false, false, false, false]
abbrev bw27_10 : Array Bool := #[true, false, true, true, false, false, false, true, true, false, false, false, false, false, false, false, false, false, false, false, false, false, false, false, false]
abbrev bw27_11 : Array Bool := #[true, false, true, true, false, true, false, true, true, false, false, false, false, false, false, false, false, false, false, false, false, false, false, false, false]
abbrev bw27_12 : Array Bool := #[true, true, true, true, true, true, true, true, true, false, false, false, false, false, false, false, false, false, false, false, false, false, false, false, false]
abbrev bw27_13 : Array Bool := #[true, true, true, true, false, true, false, true, true, false, false, false, false, false, false, false, false, false, false, false, false, false, false, false, false]
abbrev bw27_14 : Array Bool := #[true, false, true, true, false, true, true, true, true, false, false, false, false, false, false, false, false, false, false, false, false, false, false, false, false]
abbrev bw27_15 : Array Bool := #[true, true, true, true, true, true, false, true, true, false, false, false, false, false, false, false, false, false, false, false, false, false, false, false, false]
abbrev bw27_16 : Array Bool := #[true, true, true, true, false, true, true, true, true, false, false, false, false, false, false, false, false, false, false, false, false, false, false, false, false]
abbrev bw27_17 : Array Bool := #[true, true, true, true, true, true, true, true, true, true, false, false, false, false, false, false, false, false, false, false, false, false, false, false, false]
abbrev bw27_18 : Array Bool := #[true, true, true, true, true, true, true, true, true, true, true, false, false, false, false, false, false, false, false, false, false, false, false, false, false]
abbrev bw27_19 : Array Bool := #[true, true, true, true, true, true, true, true, true, true, true, true, false, false, false, false, false, false, false, false, false, false, false, false, false]
abbrev bw27_20 : Array Bool := #[true, true, true, true, true, true, true, true, true, true, true, true, true, false, false, false, false, false, false, false, false, false, false, false, false]
abbrev bw27_21 : Array Bool := #[true, true, true, true, true, true, true, true, true, true, true, true, true, true, false, false, false, false, false, false, false, false, false, false, false]
abbrev bw27_22 : Array Bool := #[true, true, true, true, true, true, true, true, true, true, true, true, true, true, true, false, false, false, false, false, false, false, false, false, false]
abbrev bw27_23 : Array Bool := #[true, true, true, true, true, true, true, true, true, true, true, true, true, true, true, true, false, false, false, false, false, false, false, false, false]
abbrev bw27_24 : Array Bool := #[true, true, true, true, true, true, true, true, true, true, true, true, true, true, true, true, true, false, false, false, false, false, false, false, false]
abbrev bw27_25 : Array Bool := #[true, true, true, true, true, true, true, true, true, true, true, true, true, true, true, true, true, true, false, false, false, false, false, false, false]
abbrev bw27_26 : Array Bool := #[true, true, true, true, true, true, true, true, true, true, true, true, true, true, true, true, true, true, true, false, false, false, false, false, false]
abbrev bw27_27 : Array Bool := #[true, true, true, true, true, true, true, true, true, true, true, true, true, true, true, true, true, true, true, true, false, false, false, false, false]
abbrev bw27_28 : Array Bool := #[true, true, true, true, true, true, true, true, true, true, true, true, true, true, true, true, true, true, true, true, true, false, false, false, false]
abbrev bw27_29 : Array Bool := #[true, true, true, true, true, true, true, true, true, true, true, true, true, true, true, true, true, true, true, true, true, true, false, false, false]
abbrev bw27_30 : Array Bool := #[true, true, true, true, true, true, true, true, true, true, true, true, true, true, true, true, true, true, true, true, true, true, true, false, false]
abbrev bw27_31 : Array Bool := #[true, true, true, true, true, true, true, true, true, true, true, true, true, true, true, true, true, true, true, true, true, true, true, true, false]
abbrev bw27_32 : Array Bool := #[true, true, true, true, true, true, true, true, true, true, true, true, true, true, true, true, true, true, true, true, true, true, true, true, true]
abbrev bw27_33 : Array Bool := #[true, true, true, true, true, true, true, true, true, true, true, true, false, false, true, false, false, false, false, false, false, false, false, false, false]
abbrev bw27_34 : Array Bool := #[true, true, true, true, true, true, true, true, true, true, true, true, false, false, true, false, true, false, false, false, false, false, false, false, false]
abbrev bw27_35 : Array Bool := #[true, true, true, true, true, true, true, true, true, true, true, true, true, false, true, false, true, false, false, false, false, false, false, false, false]
abbrev bw27_36 : Array Bool := #[true, true, true, true, true, true, true, true, true, true, true, true, true, false, true, false, true, true, false, false, false, false, false, false, false]
abbrev bw27_37 : Array Bool := #[true, true, true, true, true, true, true, true, true, true, true, true, true, true, true, false, true, true, false, false, false, false, false, false, false]
theorem bz27_ {W W2 w : World} (_ : Below W.heap.size W W2) (h : Below w.heap.size w W) : Below w.heap.size w W := h
set_option maxHeartbeats 8000000 in
set_option maxRecDepth 100000 in
theorem semblancelaw07_EvalLaws.calls (k : Nat) (A0 : Option Addr) (c0 : Nat) (l0 : List (S47)) (A1 : Option Addr) (c1 : Nat) (l1 : List (S47)) (A2_0 : Option Addr) (c2_0 : Nat) (l2_0 : List (S51)) (a2_1 : Int) (a2_2 : Int) (a2_3 : Int) (a2_4 : Int) (A2_5 : Option Addr) (c2_5 : Nat) (l2_5 : List ByteArray) (r : Bool) (w : World) (hr0 : Kd.C k47 w A0 l0.length l0) (hc0 : l0.length ≤ c0) (hr1 : Kd.C k47 w A1 l1.length l1) (hc1 : l1.length ≤ c1) (hr2_0 : Kd.C k51 w A2_0 l2_0.length l2_0) (hc2_0 : l2_0.length ≤ c2_0) (hr2_5 : Kd.C Kd.string w A2_5 l2_5.length l2_5) (hc2_5 : l2_5.length ≤ c2_5) (h : semblancelaw07_EvalLaws.f k l0 l1 l2_0 a2_1 a2_2 a2_3 a2_4 l2_5 = some r) :
  Calls Try.prog 6 #[.slice A0 l0.length c0, .slice A1 l1.length c1, .agg #[.slice A2_0 l2_0.length c2_0, .int .i64 a2_1, .int .i64 a2_2, .int .i64 a2_3, .int .i64 a2_4, .slice A2_5 l2_5.length c2_5]] w fun e w' => e = .returned (.bool r) ∧ Below w.heap.size w w' := by
 have hu36 := Try.underlying36
 have hu47 := Try.underlying47
 have HR0 := Aside0.mk hr0
 have HC0 := Aside0.mk hc0
 clear hr0 hc0
 have HR1 := Aside0.mk hr1
 have HC1 := Aside0.mk hc1
 clear hr1 hc1
 have HR2_0 := Aside0.mk hr2_0
 have HC2_0 := Aside0.mk hc2_0
 clear hr2_0 hc2_0
 have HR2_5 := Aside0.mk hr2_5
 have HC2_5 := Aside0.mk hc2_5
 clear hr2_5 hc2_5
 have HB := Aside0.mk (Below.refl w.heap.size w)
 have H : ((semblancelaw07_Light.f k l0 l2_0 a2_1 a2_2 a2_3 a2_4 l2_5).bind fun t289 => (if t289 = true then ((semblancelaw07_Light.f k l1 l2_0 a2_1 a2_2 a2_3 a2_4 l2_5).bind fun t290 => (if t290 = true then ((semblanceref07_Check.f k l0 l2_0 a2_1 a2_2 a2_3 a2_4 l2_5).bind fun t291 => (if t291 = 0 then ((semblanceref07_Check.f k l1 l2_0 a2_1 a2_2 a2_3 a2_4 l2_5).bind fun t292 => (if t292 = 0 then (if (wrap64 ((l0.length : Int) + (l1.length : Int))) > 36 then (semblancelaw07_EvalLaws.j0 k l0 l1 true l2_0 a2_1 a2_2 a2_3 a2_4 l2_5) else ((semblanceref05_Depth.f k l0 0).bind fun t293 => (if t293 > 9 then (semblancelaw07_EvalLaws.j0 k l0 l1 true l2_0 a2_1 a2_2 a2_3 a2_4 l2_5) else ((semblanceref05_Depth.f k l1 0).bind fun t294 => (semblancelaw07_EvalLaws.j0 k l0 l1 (decide (t294 > 9)) l2_0 a2_1 a2_2 a2_3 a2_4 l2_5))))) else (semblancelaw07_EvalLaws.j0 k l0 l1 true l2_0 a2_1 a2_2 a2_3 a2_4 l2_5))) else (semblancelaw07_EvalLaws.j0 k l0 l1 true l2_0 a2_1 a2_2 a2_3 a2_4 l2_5))) else (semblancelaw07_EvalLaws.j0 k l0 l1 true l2_0 a2_1 a2_2 a2_3 a2_4 l2_5))) else (semblancelaw07_EvalLaws.j0 k l0 l1 true l2_0 a2_1 a2_2 a2_3 a2_4 l2_5))) = some r := h
 clear h
 have HC4 := Aside0.mk H
 clear H
 go_enter Try.func6, Try.ntmps6
 go_upto_region 1 with (first | ((with_reducible refine gate_dst (N := 5) rfl ?_); (try (refine gate_guard (by rfl) ?_; dsimp only)); refine box_event ?hg (N := 5) ?hd (cs := #[.slice A2_0 l2_0.length c2_0, .int .i64 a2_1, .int .i64 a2_2, .int .i64 a2_3, .int .i64 a2_4, .slice A2_5 l2_5.length c2_5]) (t := 36) ?hr ?_; (case hd => rfl); (case hg => rfl); (case hr => first | (go_simp; done) | (go_simp; rfl)); intro gb288 hg w5 hbox hb; have hB_ := bz27_ hb (brw HB.out); have n0_ := Aside0.mk (below_step hB_ hb); have n1_ := Aside0.mk (hbox); have n2_ := Aside0.mk ((by rw [hg]; exact (below_size hB_) : w.heap.size ≤ gb288)); have n3_ := Aside0.mk ((by rw [hg]; exact (below_size hB_) : w.heap.size ≤ gb288)); clear HB; have HB := n0_; have BK288 := n1_; have GW288 := n2_; have GE288 := n3_; clear n0_ n1_ n2_ n3_; clear hb hbox hg))
 (try simp only [Act.put, sb_, s0_, s1_])
 go_cut [50] (fun v50 wc => ∃ (kq : Nat) (x50_3 : Bool), v50 = .bool x50_3 ∧ Aside0 (semblancelaw07_EvalLaws.j0 kq l0 l1 x50_3 l2_0 a2_1 a2_2 a2_3 a2_4 l2_5 = some r) ∧ Aside0 (kq ≤ k) ∧ Aside0 (wc.heap[gb288]? = some (.cells #[(.slice A2_0 l2_0.length c2_0), .int .i64 a2_1, .int .i64 a2_2, .int .i64 a2_3, .int .i64 a2_4, (.slice A2_5 l2_5.length c2_5)] 36 (0, 0))) ∧ Aside0 (Below w.heap.size w wc))
 case first =>
  have H := HC4.out
  clear HC4
  replace H := Option.bind_eq_some_iff.mp H
  obtain ⟨t289, A60, H⟩ := H
  replace H : (if t289 = true then ((semblancelaw07_Light.f k l1 l2_0 a2_1 a2_2 a2_3 a2_4 l2_5).bind fun t290 => (if t290 = true then ((semblanceref07_Check.f k l0 l2_0 a2_1 a2_2 a2_3 a2_4 l2_5).bind fun t291 => (if t291 = 0 then ((semblanceref07_Check.f k l1 l2_0 a2_1 a2_2 a2_3 a2_4 l2_5).bind fun t292 => (if t292 = 0 then (if (wrap64 ((l0.length : Int) + (l1.length : Int))) > 36 then (semblancelaw07_EvalLaws.j0 k l0 l1 true l2_0 a2_1 a2_2 a2_3 a2_4 l2_5) else ((semblanceref05_Depth.f k l0 0).bind fun t293 => (if t293 > 9 then (semblancelaw07_EvalLaws.j0 k l0 l1 true l2_0 a2_1 a2_2 a2_3 a2_4 l2_5) else ((semblanceref05_Depth.f k l1 0).bind fun t294 => (semblancelaw07_EvalLaws.j0 k l0 l1 (decide (t294 > 9)) l2_0 a2_1 a2_2 a2_3 a2_4 l2_5))))) else (semblancelaw07_EvalLaws.j0 k l0 l1 true l2_0 a2_1 a2_2 a2_3 a2_4 l2_5))) else (semblancelaw07_EvalLaws.j0 k l0 l1 true l2_0 a2_1 a2_2 a2_3 a2_4 l2_5))) else (semblancelaw07_EvalLaws.j0 k l0 l1 true l2_0 a2_1 a2_2 a2_3 a2_4 l2_5))) else (semblancelaw07_EvalLaws.j0 k l0 l1 true l2_0 a2_1 a2_2 a2_3 a2_4 l2_5)) = some r := H
  have A6 := Aside0.mk A60
  clear A60
  have HZ_ := Aside0.mk H
  clear H
  obtain ⟨hcz15_0, hcz15_1, hcz15_2, hcz15_3, hcz15_4, hcz15_5⟩ := cz6_ BK288.out
  obtain ⟨hfz15_0, hfz15_1, hfz15_2, hfz15_3, hfz15_4, hfz15_5⟩ := cf6_ BK288.out
  have H := HZ_.out
  clear HZ_
  by_cases c7 : t289 = true
  rotate_left
  ·replace c7 := Bool.eq_false_iff.mpr c7
   subst c7
   have H1 : (semblancelaw07_EvalLaws.j0 k l0 l1 true l2_0 a2_1 a2_2 a2_3 a2_4 l2_5) = some r := by rw [if_neg (show ¬ (false = true) by decide)] at H; exact H
   clear H
   have H := H1
   clear H1
   have H' := Aside0.mk H
   clear H
   go_wp2_with (first | ((with_reducible refine gate_callee (f := 14) rfl ?_); refine goesL_ (some 13) rfl rfl Try.func14 (by kernel_rfl) rfl #[.slice A0 l0.length c0, .agg #[.slice A2_0 l2_0.length c2_0, .int .i64 a2_1, .int .i64 a2_2, .int .i64 a2_3, .int .i64 a2_4, .slice A2_5 l2_5.length c2_5]] rfl (by (try simp only [List.map_toArray, List.map_cons, List.map_nil]); first | done | rfl | (simp only [List.length_drop, List.length_take]; rfl)) ?_; (with_reducible refine (semblancelaw07_Light.calls k _ _ l0 _ _ l2_0 a2_1 a2_2 a2_3 a2_4 _ _ l2_5 false _ ?side1 ?side2 ?side3 ?side4 ?side5 ?side6 A6.out).mono ?_); (case side1 => repeat (first | exact (Kd.C_below HR0.out HB.out) | (with_reducible refine Kd.C_alloc ?_ _) | (with_reducible refine Kd.C_drewN ?_ _) | (with_reducible refine Kd.C_drew ?_))); (case side2 => exact HC0.out); (case side3 => repeat (first | exact (Kd.C_below HR2_0.out HB.out) | (with_reducible refine Kd.C_alloc ?_ _) | (with_reducible refine Kd.C_drewN ?_ _) | (with_reducible refine Kd.C_drew ?_))); (case side4 => exact HC2_0.out); (case side5 => repeat (first | exact (Kd.C_below HR2_5.out HB.out) | (with_reducible refine Kd.C_alloc ?_ _) | (with_reducible refine Kd.C_drewN ?_ _) | (with_reducible refine Kd.C_drew ?_))); (case side6 => exact HC2_5.out); rintro e w64 ⟨rfl, hb⟩; refine ⟨_, rfl, ?_⟩; have n0_ := Aside0.mk (blk_below (grw BK288.out) hb); have n1_ := Aside0.mk (below_step (by repeat (first | (with_reducible first | exact HB.out | apply below_alloc | apply pw_below_drewN | apply below_drew1 | refine below_set ?_ GE288.out) | exact HB.out)) hb); clear BK288; clear HB; have BK288 := n0_; have HB := n1_; clear n0_ n1_; (try clear hb); (try clear hb2); (try clear hk); (try clear hi)))
   go_meet
   case rel => exact ⟨_, (true), (by first | rfl | (simp; done) | (simp [*]; done)), H', ⟨by first | omega | exact Nat.le_refl _⟩, ⟨grw BK288.out⟩, ⟨by repeat (first | (with_reducible first | exact HB.out | apply below_alloc | apply pw_below_drewN | apply below_drew1 | refine below_set ?_ GE288.out) | exact HB.out)⟩⟩
  subst c7
  have H1 : ((semblancelaw07_Light.f k l1 l2_0 a2_1 a2_2 a2_3 a2_4 l2_5).bind fun t290 => (if t290 = true then ((semblanceref07_Check.f k l0 l2_0 a2_1 a2_2 a2_3 a2_4 l2_5).bind fun t291 => (if t291 = 0 then ((semblanceref07_Check.f k l1 l2_0 a2_1 a2_2 a2_3 a2_4 l2_5).bind fun t292 => (if t292 = 0 then (if (wrap64 ((l0.length : Int) + (l1.length : Int))) > 36 then (semblancelaw07_EvalLaws.j0 k l0 l1 true l2_0 a2_1 a2_2 a2_3 a2_4 l2_5) else ((semblanceref05_Depth.f k l0 0).bind fun t293 => (if t293 > 9 then (semblancelaw07_EvalLaws.j0 k l0 l1 true l2_0 a2_1 a2_2 a2_3 a2_4 l2_5) else ((semblanceref05_Depth.f k l1 0).bind fun t294 => (semblancelaw07_EvalLaws.j0 k l0 l1 (decide (t294 > 9)) l2_0 a2_1 a2_2 a2_3 a2_4 l2_5))))) else (semblancelaw07_EvalLaws.j0 k l0 l1 true l2_0 a2_1 a2_2 a2_3 a2_4 l2_5))) else (semblancelaw07_EvalLaws.j0 k l0 l1 true l2_0 a2_1 a2_2 a2_3 a2_4 l2_5))) else (semblancelaw07_EvalLaws.j0 k l0 l1 true l2_0 a2_1 a2_2 a2_3 a2_4 l2_5))) = some r := by rw [if_pos rfl] at H; exact H
  clear H
  have H := H1
  clear H1
  replace H := Option.bind_eq_some_iff.mp H
  obtain ⟨t290, A80, H⟩ := H
  replace H : (if t290 = true then ((semblanceref07_Check.f k l0 l2_0 a2_1 a2_2 a2_3 a2_4 l2_5).bind fun t291 => (if t291 = 0 then ((semblanceref07_Check.f k l1 l2_0 a2_1 a2_2 a2_3 a2_4 l2_5).bind fun t292 => (if t292 = 0 then (if (wrap64 ((l0.length : Int) + (l1.length : Int))) > 36 then (semblancelaw07_EvalLaws.j0 k l0 l1 true l2_0 a2_1 a2_2 a2_3 a2_4 l2_5) else ((semblanceref05_Depth.f k l0 0).bind fun t293 => (if t293 > 9 then (semblancelaw07_EvalLaws.j0 k l0 l1 true l2_0 a2_1 a2_2 a2_3 a2_4 l2_5) else ((semblanceref05_Depth.f k l1 0).bind fun t294 => (semblancelaw07_EvalLaws.j0 k l0 l1 (decide (t294 > 9)) l2_0 a2_1 a2_2 a2_3 a2_4 l2_5))))) else (semblancelaw07_EvalLaws.j0 k l0 l1 true l2_0 a2_1 a2_2 a2_3 a2_4 l2_5))) else (semblancelaw07_EvalLaws.j0 k l0 l1 true l2_0 a2_1 a2_2 a2_3 a2_4 l2_5))) else (semblancelaw07_EvalLaws.j0 k l0 l1 true l2_0 a2_1 a2_2 a2_3 a2_4 l2_5)) = some r := H
  have A8 := Aside0.mk A80
  clear A80
  by_cases c9 : t290 = true
  rotate_left
  ·replace c9 := Bool.eq_false_iff.mpr c9
   subst c9
   have H1 : (semblancelaw07_EvalLaws.j0 k l0 l1 true l2_0 a2_1 a2_2 a2_3 a2_4 l2_5) = some r := by rw [if_neg (show ¬ (false = true) by decide)] at H; exact H
   clear H
   have H := H1
   clear H1
   have H' := Aside0.mk H
   clear H
   go_wp2_with (first | ((with_reducible refine gate_callee (f := 14) rfl ?_); refine goesL_ (some 13) rfl rfl Try.func14 (by kernel_rfl) rfl #[.slice A0 l0.length c0, .agg #[.slice A2_0 l2_0.length c2_0, .int .i64 a2_1, .int .i64 a2_2, .int .i64 a2_3, .int .i64 a2_4, .slice A2_5 l2_5.length c2_5]] rfl (by (try simp only [List.map_toArray, List.map_cons, List.map_nil]); first | done | rfl | (simp only [List.length_drop, List.length_take]; rfl)) ?_; (with_reducible refine (semblancelaw07_Light.calls k _ _ l0 _ _ l2_0 a2_1 a2_2 a2_3 a2_4 _ _ l2_5 true _ ?side1 ?side2 ?side3 ?side4 ?side5 ?side6 A6.out).mono ?_); (case side1 => repeat (first | exact (Kd.C_below HR0.out HB.out) | (with_reducible refine Kd.C_alloc ?_ _) | (with_reducible refine Kd.C_drewN ?_ _) | (with_reducible refine Kd.C_drew ?_))); (case side2 => exact HC0.out); (case side3 => repeat (first | exact (Kd.C_below HR2_0.out HB.out) | (with_reducible refine Kd.C_alloc ?_ _) | (with_reducible refine Kd.C_drewN ?_ _) | (with_reducible refine Kd.C_drew ?_))); (case side4 => exact HC2_0.out); (case side5 => repeat (first | exact (Kd.C_below HR2_5.out HB.out) | (with_reducible refine Kd.C_alloc ?_ _) | (with_reducible refine Kd.C_drewN ?_ _) | (with_reducible refine Kd.C_drew ?_))); (case side6 => exact HC2_5.out); rintro e w60 ⟨rfl, hb⟩; refine ⟨_, rfl, ?_⟩; have n0_ := Aside0.mk (blk_below (grw BK288.out) hb); have n1_ := Aside0.mk (below_step (by repeat (first | (with_reducible first | exact HB.out | apply below_alloc | apply pw_below_drewN | apply below_drew1 | refine below_set ?_ GE288.out) | exact HB.out)) hb); clear BK288; clear HB; have BK288 := n0_; have HB := n1_; clear n0_ n1_; (try clear hb); (try clear hb2); (try clear hk); (try clear hi); obtain ⟨hcz61_0, hcz61_1, hcz61_2, hcz61_3, hcz61_4, hcz61_5⟩ := cz6_ BK288.out; obtain ⟨hfz61_0, hfz61_1, hfz61_2, hfz61_3, hfz61_4, hfz61_5⟩ := cf6_ BK288.out) | (go_at_call 14; (with_reducible refine (semblancelaw07_Light.calls k _ _ l1 _ _ l2_0 a2_1 a2_2 a2_3 a2_4 _ _ l2_5 false _ ?side1 ?side2 ?side3 ?side4 ?side5 ?side6 A8.out).mono ?_); (case side1 => repeat (first | exact (Kd.C_below HR1.out HB.out) | (with_reducible refine Kd.C_alloc ?_ _) | (with_reducible refine Kd.C_drewN ?_ _) | (with_reducible refine Kd.C_drew ?_))); (case side2 => exact HC1.out); (case side3 => repeat (first | exact (Kd.C_below HR2_0.out HB.out) | (with_reducible refine Kd.C_alloc ?_ _) | (with_reducible refine Kd.C_drewN ?_ _) | (with_reducible refine Kd.C_drew ?_))); (case side4 => exact HC2_0.out); (case side5 => repeat (first | exact (Kd.C_below HR2_5.out HB.out) | (with_reducible refine Kd.C_alloc ?_ _) | (with_reducible refine Kd.C_drewN ?_ _) | (with_reducible refine Kd.C_drew ?_))); (case side6 => exact HC2_5.out); rintro e w62 ⟨rfl, hb⟩; have n0_ := Aside0.mk (blk_below (grw BK288.out) hb); have n1_ := Aside0.mk (below_step (by repeat (first | (with_reducible first | exact HB.out | apply below_alloc | apply pw_below_drewN | apply below_drew1 | refine below_set ?_ GE288.out) | exact HB.out)) hb); clear BK288; clear HB; have BK288 := n0_; have HB := n1_; clear n0_ n1_; (try clear hb); (try clear hb2); (try clear hk); (try clear hi)))
   go_meet
   case rel => exact ⟨_, (true), (by first | rfl | (simp; done) | (simp [*]; done)), H', ⟨by first | omega | exact Nat.le_refl _⟩, ⟨grw BK288.out⟩, ⟨by repeat (first | (with_reducible first | exact HB.out | apply below_alloc | apply pw_below_drewN | apply below_drew1 | refine below_set ?_ GE288.out) | exact HB.out)⟩⟩
  subst c9
  have H1 : ((semblanceref07_Check.f k l0 l2_0 a2_1 a2_2 a2_3 a2_4 l2_5).bind fun t291 => (if t291 = 0 then ((semblanceref07_Check.f k l1 l2_0 a2_1 a2_2 a2_3 a2_4 l2_5).bind fun t292 => (if t292 = 0 then (if (wrap64 ((l0.length : Int) + (l1.length : Int))) > 36 then (semblancelaw07_EvalLaws.j0 k l0 l1 true l2_0 a2_1 a2_2 a2_3 a2_4 l2_5) else ((semblanceref05_Depth.f k l0 0).bind fun t293 => (if t293 > 9 then (semblancelaw07_EvalLaws.j0 k l0 l1 true l2_0 a2_1 a2_2 a2_3 a2_4 l2_5) else ((semblanceref05_Depth.f k l1 0).bind fun t294 => (semblancelaw07_EvalLaws.j0 k l0 l1 (decide (t294 > 9)) l2_0 a2_1 a2_2 a2_3 a2_4 l2_5))))) else (semblancelaw07_EvalLaws.j0 k l0 l1 true l2_0 a2_1 a2_2 a2_3 a2_4 l2_5))) else (semblancelaw07_EvalLaws.j0 k l0 l1 true l2_0 a2_1 a2_2 a2_3 a2_4 l2_5))) = some r := by rw [if_pos rfl] at H; exact H
  clear H
  have H := H1
  clear H1
  replace H := Option.bind_eq_some_iff.mp H
  obtain ⟨t291, A100, H⟩ := H
  replace H : (if t291 = 0 then ((semblanceref07_Check.f k l1 l2_0 a2_1 a2_2 a2_3 a2_4 l2_5).bind fun t292 => (if t292 = 0 then (if (wrap64 ((l0.length : Int) + (l1.length : Int))) > 36 then (semblancelaw07_EvalLaws.j0 k l0 l1 true l2_0 a2_1 a2_2 a2_3 a2_4 l2_5) else ((semblanceref05_Depth.f k l0 0).bind fun t293 => (if t293 > 9 then (semblancelaw07_EvalLaws.j0 k l0 l1 true l2_0 a2_1 a2_2 a2_3 a2_4 l2_5) else ((semblanceref05_Depth.f k l1 0).bind fun t294 => (semblancelaw07_EvalLaws.j0 k l0 l1 (decide (t294 > 9)) l2_0 a2_1 a2_2 a2_3 a2_4 l2_5))))) else (semblancelaw07_EvalLaws.j0 k l0 l1 true l2_0 a2_1 a2_2 a2_3 a2_4 l2_5))) else (semblancelaw07_EvalLaws.j0 k l0 l1 true l2_0 a2_1 a2_2 a2_3 a2_4 l2_5)) = some r := H
  have A10 := Aside0.mk A100
  clear A100
  by_cases c11 : t291 = 0
  rotate_left
  ·rw [if_neg c11] at H
   have c11b0 : (t291 == 0) = false := beq_eq_false_iff_ne.mpr c11
   have c11b1 : (t291 != 0) = true := bne_iff_ne.mpr c11
   (first | rw [c11b0] | (simp only [i64_w, i32_w]; rw [c11b0]) | skip)
   have H' := Aside0.mk H
   clear H
   go_wp2_with (first | ((with_reducible refine gate_callee (f := 14) rfl ?_); refine goesL_ (some 13) rfl rfl Try.func14 (by kernel_rfl) rfl #[.slice A0 l0.length c0, .agg #[.slice A2_0 l2_0.length c2_0, .int .i64 a2_1, .int .i64 a2_2, .int .i64 a2_3, .int .i64 a2_4, .slice A2_5 l2_5.length c2_5]] rfl (by (try simp only [List.map_toArray, List.map_cons, List.map_nil]); first | done | rfl | (simp only [List.length_drop, List.length_take]; rfl)) ?_; (with_reducible refine (semblancelaw07_Light.calls k _ _ l0 _ _ l2_0 a2_1 a2_2 a2_3 a2_4 _ _ l2_5 true _ ?side1 ?side2 ?side3 ?side4 ?side5 ?side6 A6.out).mono ?_); (case side1 => repeat (first | exact (Kd.C_below HR0.out HB.out) | (with_reducible refine Kd.C_alloc ?_ _) | (with_reducible refine Kd.C_drewN ?_ _) | (with_reducible refine Kd.C_drew ?_))); (case side2 => exact HC0.out); (case side3 => repeat (first | exact (Kd.C_below HR2_0.out HB.out) | (with_reducible refine Kd.C_alloc ?_ _) | (with_reducible refine Kd.C_drewN ?_ _) | (with_reducible refine Kd.C_drew ?_))); (case side4 => exact HC2_0.out); (case side5 => repeat (first | exact (Kd.C_below HR2_5.out HB.out) | (with_reducible refine Kd.C_alloc ?_ _) | (with_reducible refine Kd.C_drewN ?_ _) | (with_reducible refine Kd.C_drew ?_))); (case side6 => exact HC2_5.out); rintro e w54 ⟨rfl, hb⟩; refine ⟨_, rfl, ?_⟩; have n0_ := Aside0.mk (blk_below (grw BK288.out) hb); have n1_ := Aside0.mk (below_step (by repeat (first | (with_reducible first | exact HB.out | apply below_alloc | apply pw_below_drewN | apply below_drew1 | refine below_set ?_ GE288.out) | exact HB.out)) hb); clear BK288; clear HB; have BK288 := n0_; have HB := n1_; clear n0_ n1_; (try clear hb); (try clear hb2); (try clear hk); (try clear hi); obtain ⟨hcz55_0, hcz55_1, hcz55_2, hcz55_3, hcz55_4, hcz55_5⟩ := cz6_ BK288.out; obtain ⟨hfz55_0, hfz55_1, hfz55_2, hfz55_3, hfz55_4, hfz55_5⟩ := cf6_ BK288.out) | (go_at_call 14; (with_reducible refine (semblancelaw07_Light.calls k _ _ l1 _ _ l2_0 a2_1 a2_2 a2_3 a2_4 _ _ l2_5 true _ ?side1 ?side2 ?side3 ?side4 ?side5 ?side6 A8.out).mono ?_); (case side1 => repeat (first | exact (Kd.C_below HR1.out HB.out) | (with_reducible refine Kd.C_alloc ?_ _) | (with_reducible refine Kd.C_drewN ?_ _) | (with_reducible refine Kd.C_drew ?_))); (case side2 => exact HC1.out); (case side3 => repeat (first | exact (Kd.C_below HR2_0.out HB.out) | (with_reducible refine Kd.C_alloc ?_ _) | (with_reducible refine Kd.C_drewN ?_ _) | (with_reducible refine Kd.C_drew ?_))); (case side4 => exact HC2_0.out); (case side5 => repeat (first | exact (Kd.C_below HR2_5.out HB.out) | (with_reducible refine Kd.C_alloc ?_ _) | (with_reducible refine Kd.C_drewN ?_ _) | (with_reducible refine Kd.C_drew ?_))); (case side6 => exact HC2_5.out); rintro e w56 ⟨rfl, hb⟩; have n0_ := Aside0.mk (blk_below (grw BK288.out) hb); have n1_ := Aside0.mk (below_step (by repeat (first | (with_reducible first | exact HB.out | apply below_alloc | apply pw_below_drewN | apply below_drew1 | refine below_set ?_ GE288.out) | exact HB.out)) hb); clear BK288; clear HB; have BK288 := n0_; have HB := n1_; clear n0_ n1_; (try clear hb); (try clear hb2); (try clear hk); (try clear hi); obtain ⟨hcz57_0, hcz57_1, hcz57_2, hcz57_3, hcz57_4, hcz57_5⟩ := cz6_ BK288.out; obtain ⟨hfz57_0, hfz57_1, hfz57_2, hfz57_3, hfz57_4, hfz57_5⟩ := cf6_ BK288.out) | (go_at_call 17; (with_reducible refine (semblanceref07_Check.calls k _ _ l0 _ _ l2_0 a2_1 a2_2 a2_3 a2_4 _ _ l2_5 t291 _ ?side1 ?side2 ?side3 ?side4 ?side5 ?side6 A10.out).mono ?_); (case side1 => repeat (first | exact (Kd.C_below HR0.out HB.out) | (with_reducible refine Kd.C_alloc ?_ _) | (with_reducible refine Kd.C_drewN ?_ _) | (with_reducible refine Kd.C_drew ?_))); (case side2 => exact HC0.out); (case side3 => repeat (first | exact (Kd.C_below HR2_0.out HB.out) | (with_reducible refine Kd.C_alloc ?_ _) | (with_reducible refine Kd.C_drewN ?_ _) | (with_reducible refine Kd.C_drew ?_))); (case side4 => exact HC2_0.out); (case side5 => repeat (first | exact (Kd.C_below HR2_5.out HB.out) | (with_reducible refine Kd.C_alloc ?_ _) | (with_reducible refine Kd.C_drewN ?_ _) | (with_reducible refine Kd.C_drew ?_))); (case side6 => exact HC2_5.out); rintro e w58 ⟨rfl, hb⟩; have n0_ := Aside0.mk (blk_below (grw BK288.out) hb); have n1_ := Aside0.mk (below_step (by repeat (first | (with_reducible first | exact HB.out | apply below_alloc | apply pw_below_drewN | apply below_drew1 | refine below_set ?_ GE288.out) | exact HB.out)) hb); clear BK288; clear HB; have BK288 := n0_; have HB := n1_; clear n0_ n1_; (try clear hb); (try clear hb2); (try clear hk); (try clear hi)))
   go_meet
   case rel => exact ⟨_, (true), (by first | rfl | (simp; done) | (simp [*]; done)), H', ⟨by first | omega | exact Nat.le_refl _⟩, ⟨grw BK288.out⟩, ⟨by repeat (first | (with_reducible first | exact HB.out | apply below_alloc | apply pw_below_drewN | apply below_drew1 | refine below_set ?_ GE288.out) | exact HB.out)⟩⟩
  rw [if_pos c11] at H
  have c11b0 : (t291 == 0) = true := beq_iff_eq.mpr c11
  have c11b1 : (t291 != 0) = false := bne_eq_false_iff_eq.mpr c11
  clear c11
  (first | rw [c11b0] | (simp only [i64_w, i32_w]; rw [c11b0]) | skip)
  replace H := Option.bind_eq_some_iff.mp H
  obtain ⟨t292, A120, H⟩ := H
  replace H : (if t292 = 0 then (if (wrap64 ((l0.length : Int) + (l1.length : Int))) > 36 then (semblancelaw07_EvalLaws.j0 k l0 l1 true l2_0 a2_1 a2_2 a2_3 a2_4 l2_5) else ((semblanceref05_Depth.f k l0 0).bind fun t293 => (if t293 > 9 then (semblancelaw07_EvalLaws.j0 k l0 l1 true l2_0 a2_1 a2_2 a2_3 a2_4 l2_5) else ((semblanceref05_Depth.f k l1 0).bind fun t294 => (semblancelaw07_EvalLaws.j0 k l0 l1 (decide (t294 > 9)) l2_0 a2_1 a2_2 a2_3 a2_4 l2_5))))) else (semblancelaw07_EvalLaws.j0 k l0 l1 true l2_0 a2_1 a2_2 a2_3 a2_4 l2_5)) = some r := H
  have A12 := Aside0.mk A120
  clear A120
  by_cases c13 : t292 = 0
  rotate_left
  ·rw [if_neg c13] at H
   have c13b0 : (t292 == 0) = false := beq_eq_false_iff_ne.mpr c13
   have c13b1 : (t292 != 0) = true := bne_iff_ne.mpr c13
   have H' := Aside0.mk H
   clear H
   go_wp2_with (first | ((with_reducible refine gate_callee (f := 14) rfl ?_); refine goesL_ (some 13) rfl rfl Try.func14 (by kernel_rfl) rfl #[.slice A0 l0.length c0, .agg #[.slice A2_0 l2_0.length c2_0, .int .i64 a2_1, .int .i64 a2_2, .int .i64 a2_3, .int .i64 a2_4, .slice A2_5 l2_5.length c2_5]] rfl (by (try simp only [List.map_toArray, List.map_cons, List.map_nil]); first | done | rfl | (simp only [List.length_drop, List.length_take]; rfl)) ?_; (with_reducible refine (semblancelaw07_Light.calls k _ _ l0 _ _ l2_0 a2_1 a2_2 a2_3 a2_4 _ _ l2_5 true _ ?side1 ?side2 ?side3 ?side4 ?side5 ?side6 A6.out).mono ?_); (case side1 => repeat (first | exact (Kd.C_below HR0.out HB.out) | (with_reducible refine Kd.C_alloc ?_ _) | (with_reducible refine Kd.C_drewN ?_ _) | (with_reducible refine Kd.C_drew ?_))); (case side2 => exact HC0.out); (case side3 => repeat (first | exact (Kd.C_below HR2_0.out HB.out) | (with_reducible refine Kd.C_alloc ?_ _) | (with_reducible refine Kd.C_drewN ?_ _) | (with_reducible refine Kd.C_drew ?_))); (case side4 => exact HC2_0.out); (case side5 => repeat (first | exact (Kd.C_below HR2_5.out HB.out) | (with_reducible refine Kd.C_alloc ?_ _) | (with_reducible refine Kd.C_drewN ?_ _) | (with_reducible refine Kd.C_drew ?_))); (case side6 => exact HC2_5.out); rintro e w46 ⟨rfl, hb⟩; refine ⟨_, rfl, ?_⟩; have n0_ := Aside0.mk (blk_below (grw BK288.out) hb); have n1_ := Aside0.mk (below_step (by repeat (first | (with_reducible first | exact HB.out | apply below_alloc | apply pw_below_drewN | apply below_drew1 | refine below_set ?_ GE288.out) | exact HB.out)) hb); clear BK288; clear HB; have BK288 := n0_; have HB := n1_; clear n0_ n1_; (try clear hb); (try clear hb2); (try clear hk); (try clear hi); obtain ⟨hcz47_0, hcz47_1, hcz47_2, hcz47_3, hcz47_4, hcz47_5⟩ := cz6_ BK288.out; obtain ⟨hfz47_0, hfz47_1, hfz47_2, hfz47_3, hfz47_4, hfz47_5⟩ := cf6_ BK288.out) | (go_at_call 14; (with_reducible refine (semblancelaw07_Light.calls k _ _ l1 _ _ l2_0 a2_1 a2_2 a2_3 a2_4 _ _ l2_5 true _ ?side1 ?side2 ?side3 ?side4 ?side5 ?side6 A8.out).mono ?_); (case side1 => repeat (first | exact (Kd.C_below HR1.out HB.out) | (with_reducible refine Kd.C_alloc ?_ _) | (with_reducible refine Kd.C_drewN ?_ _) | (with_reducible refine Kd.C_drew ?_))); (case side2 => exact HC1.out); (case side3 => repeat (first | exact (Kd.C_below HR2_0.out HB.out) | (with_reducible refine Kd.C_alloc ?_ _) | (with_reducible refine Kd.C_drewN ?_ _) | (with_reducible refine Kd.C_drew ?_))); (case side4 => exact HC2_0.out); (case side5 => repeat (first | exact (Kd.C_below HR2_5.out HB.out) | (with_reducible refine Kd.C_alloc ?_ _) | (with_reducible refine Kd.C_drewN ?_ _) | (with_reducible refine Kd.C_drew ?_))); (case side6 => exact HC2_5.out); rintro e w48 ⟨rfl, hb⟩; have n0_ := Aside0.mk (blk_below (grw BK288.out) hb); have n1_ := Aside0.mk (below_step (by repeat (first | (with_reducible first | exact HB.out | apply below_alloc | apply pw_below_drewN | apply below_drew1 | refine below_set ?_ GE288.out) | exact HB.out)) hb); clear BK288; clear HB; have BK288 := n0_; have HB := n1_; clear n0_ n1_; (try clear hb); (try clear hb2); (try clear hk); (try clear hi); obtain ⟨hcz49_0, hcz49_1, hcz49_2, hcz49_3, hcz49_4, hcz49_5⟩ := cz6_ BK288.out; obtain ⟨hfz49_0, hfz49_1, hfz49_2, hfz49_3, hfz49_4, hfz49_5⟩ := cf6_ BK288.out) | (go_at_call 17; (with_reducible refine (semblanceref07_Check.calls k _ _ l0 _ _ l2_0 a2_1 a2_2 a2_3 a2_4 _ _ l2_5 t291 _ ?side1 ?side2 ?side3 ?side4 ?side5 ?side6 A10.out).mono ?_); (case side1 => repeat (first | exact (Kd.C_below HR0.out HB.out) | (with_reducible refine Kd.C_alloc ?_ _) | (with_reducible refine Kd.C_drewN ?_ _) | (with_reducible refine Kd.C_drew ?_))); (case side2 => exact HC0.out); (case side3 => repeat (first | exact (Kd.C_below HR2_0.out HB.out) | (with_reducible refine Kd.C_alloc ?_ _) | (with_reducible refine Kd.C_drewN ?_ _) | (with_reducible refine Kd.C_drew ?_))); (case side4 => exact HC2_0.out); (case side5 => repeat (first | exact (Kd.C_below HR2_5.out HB.out) | (with_reducible refine Kd.C_alloc ?_ _) | (with_reducible refine Kd.C_drewN ?_ _) | (with_reducible refine Kd.C_drew ?_))); (case side6 => exact HC2_5.out); rintro e w50 ⟨rfl, hb⟩; have n0_ := Aside0.mk (blk_below (grw BK288.out) hb); have n1_ := Aside0.mk (below_step (by repeat (first | (with_reducible first | exact HB.out | apply below_alloc | apply pw_below_drewN | apply below_drew1 | refine below_set ?_ GE288.out) | exact HB.out)) hb); clear BK288; clear HB; have BK288 := n0_; have HB := n1_; clear n0_ n1_; (try clear hb); (try clear hb2); (try clear hk); (try clear hi); obtain ⟨hcz51_0, hcz51_1, hcz51_2, hcz51_3, hcz51_4, hcz51_5⟩ := cz6_ BK288.out; obtain ⟨hfz51_0, hfz51_1, hfz51_2, hfz51_3, hfz51_4, hfz51_5⟩ := cf6_ BK288.out) | (go_at_call 17; (with_reducible refine (semblanceref07_Check.calls k _ _ l1 _ _ l2_0 a2_1 a2_2 a2_3 a2_4 _ _ l2_5 t292 _ ?side1 ?side2 ?side3 ?side4 ?side5 ?side6 A12.out).mono ?_); (case side1 => repeat (first | exact (Kd.C_below HR1.out HB.out) | (with_reducible refine Kd.C_alloc ?_ _) | (with_reducible refine Kd.C_drewN ?_ _) | (with_reducible refine Kd.C_drew ?_))); (case side2 => exact HC1.out); (case side3 => repeat (first | exact (Kd.C_below HR2_0.out HB.out) | (with_reducible refine Kd.C_alloc ?_ _) | (with_reducible refine Kd.C_drewN ?_ _) | (with_reducible refine Kd.C_drew ?_))); (case side4 => exact HC2_0.out); (case side5 => repeat (first | exact (Kd.C_below HR2_5.out HB.out) | (with_reducible refine Kd.C_alloc ?_ _) | (with_reducible refine Kd.C_drewN ?_ _) | (with_reducible refine Kd.C_drew ?_))); (case side6 => exact HC2_5.out); rintro e w52 ⟨rfl, hb⟩; have n0_ := Aside0.mk (blk_below (grw BK288.out) hb); have n1_ := Aside0.mk (below_step (by repeat (first | (with_reducible first | exact HB.out | apply below_alloc | apply pw_below_drewN | apply below_drew1 | refine below_set ?_ GE288.out) | exact HB.out)) hb); clear BK288; clear HB; have BK288 := n0_; have HB := n1_; clear n0_ n1_; (try clear hb); (try clear hb2); (try clear hk); (try clear hi)))
   go_meet
   case rel => exact ⟨_, (true), (by first | rfl | (simp; done) | (simp [*]; done)), H', ⟨by first | omega | exact Nat.le_refl _⟩, ⟨grw BK288.out⟩, ⟨by repeat (first | (with_reducible first | exact HB.out | apply below_alloc | apply pw_below_drewN | apply below_drew1 | refine below_set ?_ GE288.out) | exact HB.out)⟩⟩
  rw [if_pos c13] at H
  have c13b0 : (t292 == 0) = true := beq_iff_eq.mpr c13
  have c13b1 : (t292 != 0) = false := bne_eq_false_iff_eq.mpr c13
  clear c13
  by_cases c14 : (wrap64 ((l0.length : Int) + (l1.length : Int))) > 36
  ·rw [if_pos c14] at H
   have c14b0 : decide (36 < (wrap64 ((l0.length : Int) + (l1.length : Int)))) = true := decide_eq_true c14
   clear c14
   have H' := Aside0.mk H
   clear H
   go_wp2_with (first | ((with_reducible refine gate_callee (f := 14) rfl ?_); refine goesL_ (some 13) rfl rfl Try.func14 (by kernel_rfl) rfl #[.slice A0 l0.length c0, .agg #[.slice A2_0 l2_0.length c2_0, .int .i64 a2_1, .int .i64 a2_2, .int .i64 a2_3, .int .i64 a2_4, .slice A2_5 l2_5.length c2_5]] rfl (by (try simp only [List.map_toArray, List.map_cons, List.map_nil]); first | done | rfl | (simp only [List.length_drop, List.length_take]; rfl)) ?_; (with_reducible refine (semblancelaw07_Light.calls k _ _ l0 _ _ l2_0 a2_1 a2_2 a2_3 a2_4 _ _ l2_5 true _ ?side1 ?side2 ?side3 ?side4 ?side5 ?side6 A6.out).mono ?_); (case side1 => repeat (first | exact (Kd.C_below HR0.out HB.out) | (with_reducible refine Kd.C_alloc ?_ _) | (with_reducible refine Kd.C_drewN ?_ _) | (with_reducible refine Kd.C_drew ?_))); (case side2 => exact HC0.out); (case side3 => repeat (first | exact (Kd.C_below HR2_0.out HB.out) | (with_reducible refine Kd.C_alloc ?_ _) | (with_reducible refine Kd.C_drewN ?_ _) | (with_reducible refine Kd.C_drew ?_))); (case side4 => exact HC2_0.out); (case side5 => repeat (first | exact (Kd.C_below HR2_5.out HB.out) | (with_reducible refine Kd.C_alloc ?_ _) | (with_reducible refine Kd.C_drewN ?_ _) | (with_reducible refine Kd.C_drew ?_))); (case side6 => exact HC2_5.out); rintro e w16 ⟨rfl, hb⟩; refine ⟨_, rfl, ?_⟩; have n0_ := Aside0.mk (blk_below (grw BK288.out) hb); have n1_ := Aside0.mk (below_step (by repeat (first | (with_reducible first | exact HB.out | apply below_alloc | apply pw_below_drewN | apply below_drew1 | refine below_set ?_ GE288.out) | exact HB.out)) hb); clear BK288; clear HB; have BK288 := n0_; have HB := n1_; clear n0_ n1_; (try clear hb); (try clear hb2); (try clear hk); (try clear hi); obtain ⟨hcz17_0, hcz17_1, hcz17_2, hcz17_3, hcz17_4, hcz17_5⟩ := cz6_ BK288.out; obtain ⟨hfz17_0, hfz17_1, hfz17_2, hfz17_3, hfz17_4, hfz17_5⟩ := cf6_ BK288.out) | (go_at_call 14; (with_reducible refine (semblancelaw07_Light.calls k _ _ l1 _ _ l2_0 a2_1 a2_2 a2_3 a2_4 _ _ l2_5 true _ ?side1 ?side2 ?side3 ?side4 ?side5 ?side6 A8.out).mono ?_); (case side1 => repeat (first | exact (Kd.C_below HR1.out HB.out) | (with_reducible refine Kd.C_alloc ?_ _) | (with_reducible refine Kd.C_drewN ?_ _) | (with_reducible refine Kd.C_drew ?_))); (case side2 => exact HC1.out); (case side3 => repeat (first | exact (Kd.C_below HR2_0.out HB.out) | (with_reducible refine Kd.C_alloc ?_ _) | (with_reducible refine Kd.C_drewN ?_ _) | (with_reducible refine Kd.C_drew ?_))); (case side4 => exact HC2_0.out); (case side5 => repeat (first | exact (Kd.C_below HR2_5.out HB.out) | (with_reducible refine Kd.C_alloc ?_ _) | (with_reducible refine Kd.C_drewN ?_ _) | (with_reducible refine Kd.C_drew ?_))); (case side6 => exact HC2_5.out); rintro e w18 ⟨rfl, hb⟩; have n0_ := Aside0.mk (blk_below (grw BK288.out) hb); have n1_ := Aside0.mk (below_step (by repeat (first | (with_reducible first | exact HB.out | apply below_alloc | apply pw_below_drewN | apply below_drew1 | refine below_set ?_ GE288.out) | exact HB.out)) hb); clear BK288; clear HB; have BK288 := n0_; have HB := n1_; clear n0_ n1_; (try clear hb); (try clear hb2); (try clear hk); (try clear hi); obtain ⟨hcz19_0, hcz19_1, hcz19_2, hcz19_3, hcz19_4, hcz19_5⟩ := cz6_ BK288.out; obtain ⟨hfz19_0, hfz19_1, hfz19_2, hfz19_3, hfz19_4, hfz19_5⟩ := cf6_ BK288.out) | (go_at_call 17; (with_reducible refine (semblanceref07_Check.calls k _ _ l0 _ _ l2_0 a2_1 a2_2 a2_3 a2_4 _ _ l2_5 t291 _ ?side1 ?side2 ?side3 ?side4 ?side5 ?side6 A10.out).mono ?_); (case side1 => repeat (first | exact (Kd.C_below HR0.out HB.out) | (with_reducible refine Kd.C_alloc ?_ _) | (with_reducible refine Kd.C_drewN ?_ _) | (with_reducible refine Kd.C_drew ?_))); (case side2 => exact HC0.out); (case side3 => repeat (first | exact (Kd.C_below HR2_0.out HB.out) | (with_reducible refine Kd.C_alloc ?_ _) | (with_reducible refine Kd.C_drewN ?_ _) | (with_reducible refine Kd.C_drew ?_))); (case side4 => exact HC2_0.out); (case side5 => repeat (first | exact (Kd.C_below HR2_5.out HB.out) | (with_reducible refine Kd.C_alloc ?_ _) | (with_reducible refine Kd.C_drewN ?_ _) | (with_reducible refine Kd.C_drew ?_))); (case side6 => exact HC2_5.out); rintro e w20 ⟨rfl, hb⟩; have n0_ := Aside0.mk (blk_below (grw BK288.out) hb); have n1_ := Aside0.mk (below_step (by repeat (first | (with_reducible first | exact HB.out | apply below_alloc | apply pw_below_drewN | apply below_drew1 | refine below_set ?_ GE288.out) | exact HB.out)) hb); clear BK288; clear HB; have BK288 := n0_; have HB := n1_; clear n0_ n1_; (try clear hb); (try clear hb2); (try clear hk); (try clear hi); obtain ⟨hcz21_0, hcz21_1, hcz21_2, hcz21_3, hcz21_4, hcz21_5⟩ := cz6_ BK288.out; obtain ⟨hfz21_0, hfz21_1, hfz21_2, hfz21_3, hfz21_4, hfz21_5⟩ := cf6_ BK288.out) | (go_at_call 17; (with_reducible refine (semblanceref07_Check.calls k _ _ l1 _ _ l2_0 a2_1 a2_2 a2_3 a2_4 _ _ l2_5 t292 _ ?side1 ?side2 ?side3 ?side4 ?side5 ?side6 A12.out).mono ?_); (case side1 => repeat (first | exact (Kd.C_below HR1.out HB.out) | (with_reducible refine Kd.C_alloc ?_ _) | (with_reducible refine Kd.C_drewN ?_ _) | (with_reducible refine Kd.C_drew ?_))); (case side2 => exact HC1.out); (case side3 => repeat (first | exact (Kd.C_below HR2_0.out HB.out) | (with_reducible refine Kd.C_alloc ?_ _) | (with_reducible refine Kd.C_drewN ?_ _) | (with_reducible refine Kd.C_drew ?_))); (case side4 => exact HC2_0.out); (case side5 => repeat (first | exact (Kd.C_below HR2_5.out HB.out) | (with_reducible refine Kd.C_alloc ?_ _) | (with_reducible refine Kd.C_drewN ?_ _) | (with_reducible refine Kd.C_drew ?_))); (case side6 => exact HC2_5.out); rintro e w22 ⟨rfl, hb⟩; have n0_ := Aside0.mk (blk_below (grw BK288.out) hb); have n1_ := Aside0.mk (below_step (by repeat (first | (with_reducible first | exact HB.out | apply below_alloc | apply pw_below_drewN | apply below_drew1 | refine below_set ?_ GE288.out) | exact HB.out)) hb); clear BK288; clear HB; have BK288 := n0_; have HB := n1_; clear n0_ n1_; (try clear hb); (try clear hb2); (try clear hk); (try clear hi)))
   go_meet
   case rel => exact ⟨_, (true), (by first | rfl | (simp; done) | (simp [*]; done)), H', ⟨by first | omega | exact Nat.le_refl _⟩, ⟨grw BK288.out⟩, ⟨by repeat (first | (with_reducible first | exact HB.out | apply below_alloc | apply pw_below_drewN | apply below_drew1 | refine below_set ?_ GE288.out) | exact HB.out)⟩⟩
  rw [if_neg c14] at H
  have c14b0 : decide (36 < (wrap64 ((l0.length : Int) + (l1.length : Int)))) = false := decide_eq_false c14
  clear c14
  replace H := Option.bind_eq_some_iff.mp H
  obtain ⟨t293, A230, H⟩ := H
  replace H : (if t293 > 9 then (semblancelaw07_EvalLaws.j0 k l0 l1 true l2_0 a2_1 a2_2 a2_3 a2_4 l2_5) else ((semblanceref05_Depth.f k l1 0).bind fun t294 => (semblancelaw07_EvalLaws.j0 k l0 l1 (decide (t294 > 9)) l2_0 a2_1 a2_2 a2_3 a2_4 l2_5))) = some r := H
  have A23 := Aside0.mk A230
  clear A230
  by_cases c24 : t293 > 9
  ·rw [if_pos c24] at H
   have c24b0 : decide (9 < t293) = true := decide_eq_true c24
   clear c24
   have H' := Aside0.mk H
   clear H
   go_wp2_with (first | ((with_reducible refine gate_callee (f := 14) rfl ?_); refine goesL_ (some 13) rfl rfl Try.func14 (by kernel_rfl) rfl #[.slice A0 l0.length c0, .agg #[.slice A2_0 l2_0.length c2_0, .int .i64 a2_1, .int .i64 a2_2, .int .i64 a2_3, .int .i64 a2_4, .slice A2_5 l2_5.length c2_5]] rfl (by (try simp only [List.map_toArray, List.map_cons, List.map_nil]); first | done | rfl | (simp only [List.length_drop, List.length_take]; rfl)) ?_; (with_reducible refine (semblancelaw07_Light.calls k _ _ l0 _ _ l2_0 a2_1 a2_2 a2_3 a2_4 _ _ l2_5 true _ ?side1 ?side2 ?side3 ?side4 ?side5 ?side6 A6.out).mono ?_); (case side1 => repeat (first | exact (Kd.C_below HR0.out HB.out) | (with_reducible refine Kd.C_alloc ?_ _) | (with_reducible refine Kd.C_drewN ?_ _) | (with_reducible refine Kd.C_drew ?_))); (case side2 => exact HC0.out); (case side3 => repeat (first | exact (Kd.C_below HR2_0.out HB.out) | (with_reducible refine Kd.C_alloc ?_ _) | (with_reducible refine Kd.C_drewN ?_ _) | (with_reducible refine Kd.C_drew ?_))); (case side4 => exact HC2_0.out); (case side5 => repeat (first | exact (Kd.C_below HR2_5.out HB.out) | (with_reducible refine Kd.C_alloc ?_ _) | (with_reducible refine Kd.C_drewN ?_ _) | (with_reducible refine Kd.C_drew ?_))); (case side6 => exact HC2_5.out); rintro e w26 ⟨rfl, hb⟩; refine ⟨_, rfl, ?_⟩; have n0_ := Aside0.mk (blk_below (grw BK288.out) hb); have n1_ := Aside0.mk (below_step (by repeat (first | (with_reducible first | exact HB.out | apply below_alloc | apply pw_below_drewN | apply below_drew1 | refine below_set ?_ GE288.out) | exact HB.out)) hb); clear BK288; clear HB; have BK288 := n0_; have HB := n1_; clear n0_ n1_; (try clear hb); (try clear hb2); (try clear hk); (try clear hi); obtain ⟨hcz27_0, hcz27_1, hcz27_2, hcz27_3, hcz27_4, hcz27_5⟩ := cz6_ BK288.out; obtain ⟨hfz27_0, hfz27_1, hfz27_2, hfz27_3, hfz27_4, hfz27_5⟩ := cf6_ BK288.out) | (go_at_call 14; (with_reducible refine (semblancelaw07_Light.calls k _ _ l1 _ _ l2_0 a2_1 a2_2 a2_3 a2_4 _ _ l2_5 true _ ?side1 ?side2 ?side3 ?side4 ?side5 ?side6 A8.out).mono ?_); (case side1 => repeat (first | exact (Kd.C_below HR1.out HB.out) | (with_reducible refine Kd.C_alloc ?_ _) | (with_reducible refine Kd.C_drewN ?_ _) | (with_reducible refine Kd.C_drew ?_))); (case side2 => exact HC1.out); (case side3 => repeat (first | exact (Kd.C_below HR2_0.out HB.out) | (with_reducible refine Kd.C_alloc ?_ _) | (with_reducible refine Kd.C_drewN ?_ _) | (with_reducible refine Kd.C_drew ?_))); (case side4 => exact HC2_0.out); (case side5 => repeat (first | exact (Kd.C_below HR2_5.out HB.out) | (with_reducible refine Kd.C_alloc ?_ _) | (with_reducible refine Kd.C_drewN ?_ _) | (with_reducible refine Kd.C_drew ?_))); (case side6 => exact HC2_5.out); rintro e w28 ⟨rfl, hb⟩; have n0_ := Aside0.mk (blk_below (grw BK288.out) hb); have n1_ := Aside0.mk (below_step (by repeat (first | (with_reducible first | exact HB.out | apply below_alloc | apply pw_below_drewN | apply below_drew1 | refine below_set ?_ GE288.out) | exact HB.out)) hb); clear BK288; clear HB; have BK288 := n0_; have HB := n1_; clear n0_ n1_; (try clear hb); (try clear hb2); (try clear hk); (try clear hi); obtain ⟨hcz29_0, hcz29_1, hcz29_2, hcz29_3, hcz29_4, hcz29_5⟩ := cz6_ BK288.out; obtain ⟨hfz29_0, hfz29_1, hfz29_2, hfz29_3, hfz29_4, hfz29_5⟩ := cf6_ BK288.out) | (go_at_call 17; (with_reducible refine (semblanceref07_Check.calls k _ _ l0 _ _ l2_0 a2_1 a2_2 a2_3 a2_4 _ _ l2_5 t291 _ ?side1 ?side2 ?side3 ?side4 ?side5 ?side6 A10.out).mono ?_); (case side1 => repeat (first | exact (Kd.C_below HR0.out HB.out) | (with_reducible refine Kd.C_alloc ?_ _) | (with_reducible refine Kd.C_drewN ?_ _) | (with_reducible refine Kd.C_drew ?_))); (case side2 => exact HC0.out); (case side3 => repeat (first | exact (Kd.C_below HR2_0.out HB.out) | (with_reducible refine Kd.C_alloc ?_ _) | (with_reducible refine Kd.C_drewN ?_ _) | (with_reducible refine Kd.C_drew ?_))); (case side4 => exact HC2_0.out); (case side5 => repeat (first | exact (Kd.C_below HR2_5.out HB.out) | (with_reducible refine Kd.C_alloc ?_ _) | (with_reducible refine Kd.C_drewN ?_ _) | (with_reducible refine Kd.C_drew ?_))); (case side6 => exact HC2_5.out); rintro e w30 ⟨rfl, hb⟩; have n0_ := Aside0.mk (blk_below (grw BK288.out) hb); have n1_ := Aside0.mk (below_step (by repeat (first | (with_reducible first | exact HB.out | apply below_alloc | apply pw_below_drewN | apply below_drew1 | refine below_set ?_ GE288.out) | exact HB.out)) hb); clear BK288; clear HB; have BK288 := n0_; have HB := n1_; clear n0_ n1_; (try clear hb); (try clear hb2); (try clear hk); (try clear hi); obtain ⟨hcz31_0, hcz31_1, hcz31_2, hcz31_3, hcz31_4, hcz31_5⟩ := cz6_ BK288.out; obtain ⟨hfz31_0, hfz31_1, hfz31_2, hfz31_3, hfz31_4, hfz31_5⟩ := cf6_ BK288.out) | (go_at_call 17; (with_reducible refine (semblanceref07_Check.calls k _ _ l1 _ _ l2_0 a2_1 a2_2 a2_3 a2_4 _ _ l2_5 t292 _ ?side1 ?side2 ?side3 ?side4 ?side5 ?side6 A12.out).mono ?_); (case side1 => repeat (first | exact (Kd.C_below HR1.out HB.out) | (with_reducible refine Kd.C_alloc ?_ _) | (with_reducible refine Kd.C_drewN ?_ _) | (with_reducible refine Kd.C_drew ?_))); (case side2 => exact HC1.out); (case side3 => repeat (first | exact (Kd.C_below HR2_0.out HB.out) | (with_reducible refine Kd.C_alloc ?_ _) | (with_reducible refine Kd.C_drewN ?_ _) | (with_reducible refine Kd.C_drew ?_))); (case side4 => exact HC2_0.out); (case side5 => repeat (first | exact (Kd.C_below HR2_5.out HB.out) | (with_reducible refine Kd.C_alloc ?_ _) | (with_reducible refine Kd.C_drewN ?_ _) | (with_reducible refine Kd.C_drew ?_))); (case side6 => exact HC2_5.out); rintro e w32 ⟨rfl, hb⟩; have n0_ := Aside0.mk (blk_below (grw BK288.out) hb); have n1_ := Aside0.mk (below_step (by repeat (first | (with_reducible first | exact HB.out | apply below_alloc | apply pw_below_drewN | apply below_drew1 | refine below_set ?_ GE288.out) | exact HB.out)) hb); clear BK288; clear HB; have BK288 := n0_; have HB := n1_; clear n0_ n1_; (try clear hb); (try clear hb2); (try clear hk); (try clear hi)) | (go_at_call 23; (with_reducible refine (semblanceref05_Depth.calls k _ _ l0 0 t293 _ ?side1 ?side2 A23.out).mono ?_); (case side1 => repeat (first | exact (Kd.C_below HR0.out HB.out) | (with_reducible refine Kd.C_alloc ?_ _) | (with_reducible refine Kd.C_drewN ?_ _) | (with_reducible refine Kd.C_drew ?_))); (case side2 => exact HC0.out); rintro e w33 ⟨rfl, hb⟩; have n0_ := Aside0.mk (blk_below (grw BK288.out) hb); have n1_ := Aside0.mk (below_step (by repeat (first | (with_reducible first | exact HB.out | apply below_alloc | apply pw_below_drewN | apply below_drew1 | refine below_set ?_ GE288.out) | exact HB.out)) hb); clear BK288; clear HB; have BK288 := n0_; have HB := n1_; clear n0_ n1_; (try clear hb); (try clear hb2); (try clear hk); (try clear hi)))
   go_meet
   case rel => exact ⟨_, (true), (by first | rfl | (simp; done) | (simp [*]; done)), H', ⟨by first | omega | exact Nat.le_refl _⟩, ⟨grw BK288.out⟩, ⟨by repeat (first | (with_reducible first | exact HB.out | apply below_alloc | apply pw_below_drewN | apply below_drew1 | refine below_set ?_ GE288.out) | exact HB.out)⟩⟩
  rw [if_neg c24] at H
  have c24b0 : decide (9 < t293) = false := decide_eq_false c24
  clear c24
  replace H := Option.bind_eq_some_iff.mp H
  obtain ⟨t294, A340, H⟩ := H
  replace H : (semblancelaw07_EvalLaws.j0 k l0 l1 (decide (t294 > 9)) l2_0 a2_1 a2_2 a2_3 a2_4 l2_5) = some r := H
  have A34 := Aside0.mk A340
  clear A340
  have H' := Aside0.mk H
  clear H
  go_wp2_with (first | ((with_reducible refine gate_callee (f := 14) rfl ?_); refine goesL_ (some 13) rfl rfl Try.func14 (by kernel_rfl) rfl #[.slice A0 l0.length c0, .agg #[.slice A2_0 l2_0.length c2_0, .int .i64 a2_1, .int .i64 a2_2, .int .i64 a2_3, .int .i64 a2_4, .slice A2_5 l2_5.length c2_5]] rfl (by (try simp only [List.map_toArray, List.map_cons, List.map_nil]); first | done | rfl | (simp only [List.length_drop, List.length_take]; rfl)) ?_; (with_reducible refine (semblancelaw07_Light.calls k _ _ l0 _ _ l2_0 a2_1 a2_2 a2_3 a2_4 _ _ l2_5 true _ ?side1 ?side2 ?side3 ?side4 ?side5 ?side6 A6.out).mono ?_); (case side1 => repeat (first | exact (Kd.C_below HR0.out HB.out) | (with_reducible refine Kd.C_alloc ?_ _) | (with_reducible refine Kd.C_drewN ?_ _) | (with_reducible refine Kd.C_drew ?_))); (case side2 => exact HC0.out); (case side3 => repeat (first | exact (Kd.C_below HR2_0.out HB.out) | (with_reducible refine Kd.C_alloc ?_ _) | (with_reducible refine Kd.C_drewN ?_ _) | (with_reducible refine Kd.C_drew ?_))); (case side4 => exact HC2_0.out); (case side5 => repeat (first | exact (Kd.C_below HR2_5.out HB.out) | (with_reducible refine Kd.C_alloc ?_ _) | (with_reducible refine Kd.C_drewN ?_ _) | (with_reducible refine Kd.C_drew ?_))); (case side6 => exact HC2_5.out); rintro e w36 ⟨rfl, hb⟩; refine ⟨_, rfl, ?_⟩; have n0_ := Aside0.mk (blk_below (grw BK288.out) hb); have n1_ := Aside0.mk (below_step (by repeat (first | (with_reducible first | exact HB.out | apply below_alloc | apply pw_below_drewN | apply below_drew1 | refine below_set ?_ GE288.out) | exact HB.out)) hb); clear BK288; clear HB; have BK288 := n0_; have HB := n1_; clear n0_ n1_; (try clear hb); (try clear hb2); (try clear hk); (try clear hi); obtain ⟨hcz37_0, hcz37_1, hcz37_2, hcz37_3, hcz37_4, hcz37_5⟩ := cz6_ BK288.out; obtain ⟨hfz37_0, hfz37_1, hfz37_2, hfz37_3, hfz37_4, hfz37_5⟩ := cf6_ BK288.out) | (go_at_call 14; (with_reducible refine (semblancelaw07_Light.calls k _ _ l1 _ _ l2_0 a2_1 a2_2 a2_3 a2_4 _ _ l2_5 true _ ?side1 ?side2 ?side3 ?side4 ?side5 ?side6 A8.out).mono ?_); (case side1 => repeat (first | exact (Kd.C_below HR1.out HB.out) | (with_reducible refine Kd.C_alloc ?_ _) | (with_reducible refine Kd.C_drewN ?_ _) | (with_reducible refine Kd.C_drew ?_))); (case side2 => exact HC1.out); (case side3 => repeat (first | exact (Kd.C_below HR2_0.out HB.out) | (with_reducible refine Kd.C_alloc ?_ _) | (with_reducible refine Kd.C_drewN ?_ _) | (with_reducible refine Kd.C_drew ?_))); (case side4 => exact HC2_0.out); (case side5 => repeat (first | exact (Kd.C_below HR2_5.out HB.out) | (with_reducible refine Kd.C_alloc ?_ _) | (with_reducible refine Kd.C_drewN ?_ _) | (with_reducible refine Kd.C_drew ?_))); (case side6 => exact HC2_5.out); rintro e w38 ⟨rfl, hb⟩; have n0_ := Aside0.mk (blk_below (grw BK288.out) hb); have n1_ := Aside0.mk (below_step (by repeat (first | (with_reducible first | exact HB.out | apply below_alloc | apply pw_below_drewN | apply below_drew1 | refine below_set ?_ GE288.out) | exact HB.out)) hb); clear BK288; clear HB; have BK288 := n0_; have HB := n1_; clear n0_ n1_; (try clear hb); (try clear hb2); (try clear hk); (try clear hi); obtain ⟨hcz39_0, hcz39_1, hcz39_2, hcz39_3, hcz39_4, hcz39_5⟩ := cz6_ BK288.out; obtain ⟨hfz39_0, hfz39_1, hfz39_2, hfz39_3, hfz39_4, hfz39_5⟩ := cf6_ BK288.out) | (go_at_call 17; (with_reducible refine (semblanceref07_Check.calls k _ _ l0 _ _ l2_0 a2_1 a2_2 a2_3 a2_4 _ _ l2_5 t291 _ ?side1 ?side2 ?side3 ?side4 ?side5 ?side6 A10.out).mono ?_); (case side1 => repeat (first | exact (Kd.C_below HR0.out HB.out) | (with_reducible refine Kd.C_alloc ?_ _) | (with_reducible refine Kd.C_drewN ?_ _) | (with_reducible refine Kd.C_drew ?_))); (case side2 => exact HC0.out); (case side3 => repeat (first | exact (Kd.C_below HR2_0.out HB.out) | (with_reducible refine Kd.C_alloc ?_ _) | (with_reducible refine Kd.C_drewN ?_ _) | (with_reducible refine Kd.C_drew ?_))); (case side4 => exact HC2_0.out); (case side5 => repeat (first | exact (Kd.C_below HR2_5.out HB.out) | (with_reducible refine Kd.C_alloc ?_ _) | (with_reducible refine Kd.C_drewN ?_ _) | (with_reducible refine Kd.C_drew ?_))); (case side6 => exact HC2_5.out); rintro e w40 ⟨rfl, hb⟩; have n0_ := Aside0.mk (blk_below (grw BK288.out) hb); have n1_ := Aside0.mk (below_step (by repeat (first | (with_reducible first | exact HB.out | apply below_alloc | apply pw_below_drewN | apply below_drew1 | refine below_set ?_ GE288.out) | exact HB.out)) hb); clear BK288; clear HB; have BK288 := n0_; have HB := n1_; clear n0_ n1_; (try clear hb); (try clear hb2); (try clear hk); (try clear hi); obtain ⟨hcz41_0, hcz41_1, hcz41_2, hcz41_3, hcz41_4, hcz41_5⟩ := cz6_ BK288.out; obtain ⟨hfz41_0, hfz41_1, hfz41_2, hfz41_3, hfz41_4, hfz41_5⟩ := cf6_ BK288.out) | (go_at_call 17; (with_reducible refine (semblanceref07_Check.calls k _ _ l1 _ _ l2_0 a2_1 a2_2 a2_3 a2_4 _ _ l2_5 t292 _ ?side1 ?side2 ?side3 ?side4 ?side5 ?side6 A12.out).mono ?_); (case side1 => repeat (first | exact (Kd.C_below HR1.out HB.out) | (with_reducible refine Kd.C_alloc ?_ _) | (with_reducible refine Kd.C_drewN ?_ _) | (with_reducible refine Kd.C_drew ?_))); (case side2 => exact HC1.out); (case side3 => repeat (first | exact (Kd.C_below HR2_0.out HB.out) | (with_reducible refine Kd.C_alloc ?_ _) | (with_reducible refine Kd.C_drewN ?_ _) | (with_reducible refine Kd.C_drew ?_))); (case side4 => exact HC2_0.out); (case side5 => repeat (first | exact (Kd.C_below HR2_5.out HB.out) | (with_reducible refine Kd.C_alloc ?_ _) | (with_reducible refine Kd.C_drewN ?_ _) | (with_reducible refine Kd.C_drew ?_))); (case side6 => exact HC2_5.out); rintro e w42 ⟨rfl, hb⟩; have n0_ := Aside0.mk (blk_below (grw BK288.out) hb); have n1_ := Aside0.mk (below_step (by repeat (first | (with_reducible first | exact HB.out | apply below_alloc | apply pw_below_drewN | apply below_drew1 | refine below_set ?_ GE288.out) | exact HB.out)) hb); clear BK288; clear HB; have BK288 := n0_; have HB := n1_; clear n0_ n1_; (try clear hb); (try clear hb2); (try clear hk); (try clear hi)) | (go_at_call 23; (with_reducible refine (semblanceref05_Depth.calls k _ _ l0 0 t293 _ ?side1 ?side2 A23.out).mono ?_); (case side1 => repeat (first | exact (Kd.C_below HR0.out HB.out) | (with_reducible refine Kd.C_alloc ?_ _) | (with_reducible refine Kd.C_drewN ?_ _) | (with_reducible refine Kd.C_drew ?_))); (case side2 => exact HC0.out); rintro e w43 ⟨rfl, hb⟩; have n0_ := Aside0.mk (blk_below (grw BK288.out) hb); have n1_ := Aside0.mk (below_step (by repeat (first | (with_reducible first | exact HB.out | apply below_alloc | apply pw_below_drewN | apply below_drew1 | refine below_set ?_ GE288.out) | exact HB.out)) hb); clear BK288; clear HB; have BK288 := n0_; have HB := n1_; clear n0_ n1_; (try clear hb); (try clear hb2); (try clear hk); (try clear hi)) | (go_at_call 23; (with_reducible refine (semblanceref05_Depth.calls k _ _ l1 0 t294 _ ?side1 ?side2 A34.out).mono ?_); (case side1 => repeat (first | exact (Kd.C_below HR1.out HB.out) | (with_reducible refine Kd.C_alloc ?_ _) | (with_reducible refine Kd.C_drewN ?_ _) | (with_reducible refine Kd.C_drew ?_))); (case side2 => exact HC1.out); rintro e w44 ⟨rfl, hb⟩; have n0_ := Aside0.mk (blk_below (grw BK288.out) hb); have n1_ := Aside0.mk (below_step (by repeat (first | (with_reducible first | exact HB.out | apply below_alloc | apply pw_below_drewN | apply below_drew1 | refine below_set ?_ GE288.out) | exact HB.out)) hb); clear BK288; clear HB; have BK288 := n0_; have HB := n1_; clear n0_ n1_; (try clear hb); (try clear hb2); (try clear hk); (try clear hi)))
  go_meet
  case rel => exact ⟨_, (decide (t294 > 9)), (by first | rfl | (simp; done) | (simp [*]; done)), H', ⟨by first | omega | exact Nat.le_refl _⟩, ⟨grw BK288.out⟩, ⟨by repeat (first | (with_reducible first | exact HB.out | apply below_alloc | apply pw_below_drewN | apply below_drew1 | refine below_set ?_ GE288.out) | exact HB.out)⟩⟩
 case rest =>
  clear HC4
  try clear c1
  try clear c2
  try clear p2
  try clear c6
  try clear p6
  try clear c7
  try clear c9
  try clear c11
  try clear c11b0
  try clear c11b1
  try clear c13
  try clear c13b0
  try clear c13b1
  try clear c14
  try clear c14b0
  try clear c24
  try clear c24b0
  try clear p64
  try clear hcz15_0 hcz15_1 hcz15_2 hcz15_3 hcz15_4 hcz15_5
  try clear hcz17_0 hcz17_1 hcz17_2 hcz17_3 hcz17_4 hcz17_5
  try clear hcz19_0 hcz19_1 hcz19_2 hcz19_3 hcz19_4 hcz19_5
  try clear hcz21_0 hcz21_1 hcz21_2 hcz21_3 hcz21_4 hcz21_5
  try clear hcz25_0 hcz25_1 hcz25_2 hcz25_3 hcz25_4 hcz25_5
  try clear hcz27_0 hcz27_1 hcz27_2 hcz27_3 hcz27_4 hcz27_5
  try clear hcz29_0 hcz29_1 hcz29_2 hcz29_3 hcz29_4 hcz29_5
  try clear hcz31_0 hcz31_1 hcz31_2 hcz31_3 hcz31_4 hcz31_5
  try clear hcz35_0 hcz35_1 hcz35_2 hcz35_3 hcz35_4 hcz35_5
  try clear hcz37_0 hcz37_1 hcz37_2 hcz37_3 hcz37_4 hcz37_5
  try clear hcz39_0 hcz39_1 hcz39_2 hcz39_3 hcz39_4 hcz39_5
  try clear hcz41_0 hcz41_1 hcz41_2 hcz41_3 hcz41_4 hcz41_5
  try clear hcz45_0 hcz45_1 hcz45_2 hcz45_3 hcz45_4 hcz45_5
  try clear hcz47_0 hcz47_1 hcz47_2 hcz47_3 hcz47_4 hcz47_5
  try clear hcz49_0 hcz49_1 hcz49_2 hcz49_3 hcz49_4 hcz49_5
  try clear hcz51_0 hcz51_1 hcz51_2 hcz51_3 hcz51_4 hcz51_5
  try clear hcz53_0 hcz53_1 hcz53_2 hcz53_3 hcz53_4 hcz53_5
  try clear hcz55_0 hcz55_1 hcz55_2 hcz55_3 hcz55_4 hcz55_5
  try clear hcz57_0 hcz57_1 hcz57_2 hcz57_3 hcz57_4 hcz57_5
  try clear hcz59_0 hcz59_1 hcz59_2 hcz59_3 hcz59_4 hcz59_5
  try clear hcz61_0 hcz61_1 hcz61_2 hcz61_3 hcz61_4 hcz61_5
  try clear hcz63_0 hcz63_1 hcz63_2 hcz63_3 hcz63_4 hcz63_5
  try clear hfz15_0 hfz15_1 hfz15_2 hfz15_3 hfz15_4 hfz15_5
  try clear hfz17_0 hfz17_1 hfz17_2 hfz17_3 hfz17_4 hfz17_5
  try clear hfz19_0 hfz19_1 hfz19_2 hfz19_3 hfz19_4 hfz19_5
  try clear hfz21_0 hfz21_1 hfz21_2 hfz21_3 hfz21_4 hfz21_5
  try clear hfz25_0 hfz25_1 hfz25_2 hfz25_3 hfz25_4 hfz25_5
  try clear hfz27_0 hfz27_1 hfz27_2 hfz27_3 hfz27_4 hfz27_5
  try clear hfz29_0 hfz29_1 hfz29_2 hfz29_3 hfz29_4 hfz29_5
  try clear hfz31_0 hfz31_1 hfz31_2 hfz31_3 hfz31_4 hfz31_5
  try clear hfz35_0 hfz35_1 hfz35_2 hfz35_3 hfz35_4 hfz35_5
  try clear hfz37_0 hfz37_1 hfz37_2 hfz37_3 hfz37_4 hfz37_5
  try clear hfz39_0 hfz39_1 hfz39_2 hfz39_3 hfz39_4 hfz39_5
  try clear hfz41_0 hfz41_1 hfz41_2 hfz41_3 hfz41_4 hfz41_5
  try clear hfz45_0 hfz45_1 hfz45_2 hfz45_3 hfz45_4 hfz45_5
  try clear hfz47_0 hfz47_1 hfz47_2 hfz47_3 hfz47_4 hfz47_5
  try clear hfz49_0 hfz49_1 hfz49_2 hfz49_3 hfz49_4 hfz49_5
  try clear hfz51_0 hfz51_1 hfz51_2 hfz51_3 hfz51_4 hfz51_5
  try clear hfz53_0 hfz53_1 hfz53_2 hfz53_3 hfz53_4 hfz53_5
  try clear hfz55_0 hfz55_1 hfz55_2 hfz55_3 hfz55_4 hfz55_5
  try clear hfz57_0 hfz57_1 hfz57_2 hfz57_3 hfz57_4 hfz57_5
  try clear hfz59_0 hfz59_1 hfz59_2 hfz59_3 hfz59_4 hfz59_5
  try clear hfz61_0 hfz61_1 hfz61_2 hfz61_3 hfz61_4 hfz61_5
  try clear hfz63_0 hfz63_1 hfz63_2 hfz63_3 hfz63_4 hfz63_5
  obtain ⟨kq, x50_3, rfl, HA, HJ3, BK288, HB⟩ := hcut
  cases kq with
  | zero => exact absurd HA.out (by simp [semblancelaw07_EvalLaws.j0])
  | succ kj3 =>
   have H := HA.out
   clear HA
   simp only [semblancelaw07_EvalLaws.j0] at H
   by_cases c65 : x50_3 = true
   ·subst c65
    have H1 : ((semblancelaw07_awake.f kj3).bind fun t295 => (some t295)) = some r := by rw [if_pos rfl] at H; exact H
    clear H
    have H := H1
    clear H1
    replace H := Option.bind_eq_some_iff.mp H
    obtain ⟨t295, A660, H⟩ := H
    replace H : (some t295) = some r := H
    have A66 := Aside0.mk A660
    clear A660
    obtain rfl := Option.some.inj H
    go_wp2_with (first | ((with_reducible refine gate_callee (f := 15) rfl ?_); refine goesL_ (some 51) rfl rfl Try.func15 (by kernel_rfl) rfl #[] rfl (by (try simp only [List.map_toArray, List.map_cons, List.map_nil]); first | done | rfl | (simp only [List.length_drop, List.length_take]; rfl)) ?_; (with_reducible refine (semblancelaw07_awake.calls kj3  t295 _ A66.out).mono ?_); rintro e w67 ⟨rfl, hb⟩; refine ⟨_, rfl, ?_⟩; have n0_ := Aside0.mk (blk_below (grw BK288.out) hb); have n1_ := Aside0.mk (below_step (by repeat (first | (with_reducible first | exact HB.out | apply below_alloc | apply pw_below_drewN | apply below_drew1 | refine below_set ?_ GE288.out) | exact HB.out)) hb); clear BK288; clear HB; have BK288 := n0_; have HB := n1_; clear n0_ n1_; (try clear hb); (try clear hb2); (try clear hk); (try clear hi)))
    go_ret
    exact ⟨by first | rfl | (simp [errW_none, errW_some] <;> rfl) | (simp [*, errW_none, errW_some] <;> rfl), by repeat (first | (with_reducible first | exact HB.out | apply below_alloc | apply pw_below_drewN | apply below_drew1 | refine below_set ?_ GE288.out) | exact HB.out)⟩
   replace c65 := Bool.eq_false_iff.mpr c65
   subst c65
   have H1 : ((semblanceref05_Type.f kj3 l0 0).bind fun t296 => ((semblanceref05_Type.f kj3 l1 0).bind fun t297 => (if t296 = t297 then (if t296 = 1 then ((semblancelaw07_holds.f kj3 l2_0 a2_1 a2_2 a2_3 a2_4 l2_5 (([15] : List Int)) l0 l1).bind fun t302 => ((semblancelaw07_holds.f kj3 l2_0 a2_1 a2_2 a2_3 a2_4 l2_5 (([18] : List Int)) l0 l1).bind fun t306 => (if (t302 != t306) = true then ((semblancelaw07_awake.f kj3).bind fun t307 => (some t307)) else (some false)))) else ((some (([(⟨12, 0, (⟨#[]⟩ : ByteArray)⟩ : S47)] : List (S47)) : List (S47))).bind fun y308 => ((some (([] : List (S47)) : List (S47))).bind fun y311 => (if y311.length + y308.length < 4398046511104 then ((some (y311 ++ y308 : List (S47))).bind fun y314 => (if y314.length + l0.length < 4398046511104 then ((some (([] : List (S47)) : List (S47))).bind fun y320 => (if y320.length + y308.length < 4398046511104 then ((some (y320 ++ y308 : List (S47))).bind fun y323 => (if y323.length + l1.length < 4398046511104 then ((semblancelaw07_holds.f kj3 l2_0 a2_1 a2_2 a2_3 a2_4 l2_5 (([12, 19] : List Int)) l0 l1).bind fun t332 => ((semblancelaw07_holds.f kj3 l2_0 a2_1 a2_2 a2_3 a2_4 l2_5 (([20] : List Int)) (y314 ++ l0) (y323 ++ l1)).bind fun t336 => (if (t332 == t336) = true then ((semblancelaw07_holds.f kj3 l2_0 a2_1 a2_2 a2_3 a2_4 l2_5 (([12, 12] : List Int)) l0 ([] : List (S47))).bind fun t340 => ((eval_Holds.f kj3 l0 l2_0 a2_1 a2_2 a2_3 a2_4 l2_5).bind fun t341 => (if (t340 == t341) = true then ((semblancelaw07_awake.f kj3).bind fun t342 => (some t342)) else (some false)))) else (some false)))) else (none))) else (none))) else (none))) else (none))))) else ((semblancelaw07_awake.f kj3).bind fun t298 => (some t298))))) = some r := by rw [if_neg (show ¬ (false = true) by decide)] at H; exact H
   clear H
   have H := H1
   clear H1
   replace H := Option.bind_eq_some_iff.mp H
   obtain ⟨t296, A680, H⟩ := H
   replace H : ((semblanceref05_Type.f kj3 l1 0).bind fun t297 => (if t296 = t297 then (if t296 = 1 then ((semblancelaw07_holds.f kj3 l2_0 a2_1 a2_2 a2_3 a2_4 l2_5 (([15] : List Int)) l0 l1).bind fun t302 => ((semblancelaw07_holds.f kj3 l2_0 a2_1 a2_2 a2_3 a2_4 l2_5 (([18] : List Int)) l0 l1).bind fun t306 => (if (t302 != t306) = true then ((semblancelaw07_awake.f kj3).bind fun t307 => (some t307)) else (some false)))) else ((some (([(⟨12, 0, (⟨#[]⟩ : ByteArray)⟩ : S47)] : List (S47)) : List (S47))).bind fun y308 => ((some (([] : List (S47)) : List (S47))).bind fun y311 => (if y311.length + y308.length < 4398046511104 then ((some (y311 ++ y308 : List (S47))).bind fun y314 => (if y314.length + l0.length < 4398046511104 then ((some (([] : List (S47)) : List (S47))).bind fun y320 => (if y320.length + y308.length < 4398046511104 then ((some (y320 ++ y308 : List (S47))).bind fun y323 => (if y323.length + l1.length < 4398046511104 then ((semblancelaw07_holds.f kj3 l2_0 a2_1 a2_2 a2_3 a2_4 l2_5 (([12, 19] : List Int)) l0 l1).bind fun t332 => ((semblancelaw07_holds.f kj3 l2_0 a2_1 a2_2 a2_3 a2_4 l2_5 (([20] : List Int)) (y314 ++ l0) (y323 ++ l1)).bind fun t336 => (if (t332 == t336) = true then ((semblancelaw07_holds.f kj3 l2_0 a2_1 a2_2 a2_3 a2_4 l2_5 (([12, 12] : List Int)) l0 ([] : List (S47))).bind fun t340 => ((eval_Holds.f kj3 l0 l2_0 a2_1 a2_2 a2_3 a2_4 l2_5).bind fun t341 => (if (t340 == t341) = true then ((semblancelaw07_awake.f kj3).bind fun t342 => (some t342)) else (some false)))) else (some false)))) else (none))) else (none))) else (none))) else (none))))) else ((semblancelaw07_awake.f kj3).bind fun t298 => (some t298)))) = some r := H
   have A68 := Aside0.mk A680
   clear A680
   replace H := Option.bind_eq_some_iff.mp H
   obtain ⟨t297, A690, H⟩ := H
   replace H : (if t296 = t297 then (if t296 = 1 then ((semblancelaw07_holds.f kj3 l2_0 a2_1 a2_2 a2_3 a2_4 l2_5 (([15] : List Int)) l0 l1).bind fun t302 => ((semblancelaw07_holds.f kj3 l2_0 a2_1 a2_2 a2_3 a2_4 l2_5 (([18] : List Int)) l0 l1).bind fun t306 => (if (t302 != t306) = true then ((semblancelaw07_awake.f kj3).bind fun t307 => (some t307)) else (some false)))) else ((some (([(⟨12, 0, (⟨#[]⟩ : ByteArray)⟩ : S47)] : List (S47)) : List (S47))).bind fun y308 => ((some (([] : List (S47)) : List (S47))).bind fun y311 => (if y311.length + y308.length < 4398046511104 then ((some (y311 ++ y308 : List (S47))).bind fun y314 => (if y314.length + l0.length < 4398046511104 then ((some (([] : List (S47)) : List (S47))).bind fun y320 => (if y320.length + y308.length < 4398046511104 then ((some (y320 ++ y308 : List (S47))).bind fun y323 => (if y323.length + l1.length < 4398046511104 then ((semblancelaw07_holds.f kj3 l2_0 a2_1 a2_2 a2_3 a2_4 l2_5 (([12, 19] : List Int)) l0 l1).bind fun t332 => ((semblancelaw07_holds.f kj3 l2_0 a2_1 a2_2 a2_3 a2_4 l2_5 (([20] : List Int)) (y314 ++ l0) (y323 ++ l1)).bind fun t336 => (if (t332 == t336) = true then ((semblancelaw07_holds.f kj3 l2_0 a2_1 a2_2 a2_3 a2_4 l2_5 (([12, 12] : List Int)) l0 ([] : List (S47))).bind fun t340 => ((eval_Holds.f kj3 l0 l2_0 a2_1 a2_2 a2_3 a2_4 l2_5).bind fun t341 => (if (t340 == t341) = true then ((semblancelaw07_awake.f kj3).bind fun t342 => (some t342)) else (some false)))) else (some false)))) else (none))) else (none))) else (none))) else (none))))) else ((semblancelaw07_awake.f kj3).bind fun t298 => (some t298))) = some r := H
   have A69 := Aside0.mk A690
   clear A690
   by_cases c70 : t296 = t297
   rotate_left
   ·rw [if_neg c70] at H
    have c70b0 : (t296 == t297) = false := beq_eq_false_iff_ne.mpr c70
    have c70b1 : (t296 != t297) = true := bne_iff_ne.mpr c70
    replace H := Option.bind_eq_some_iff.mp H
    obtain ⟨t298, A1980, H⟩ := H
    replace H : (some t298) = some r := H
    have A198 := Aside0.mk A1980
    clear A1980
    obtain rfl := Option.some.inj H
    go_wp2_with (first | ((with_reducible refine gate_callee (f := 22) rfl ?_); refine goesL_ (some 53) rfl rfl Try.func22 (by kernel_rfl) rfl #[.slice A0 l0.length c0, .int .i64 0] rfl (by (try simp only [List.map_toArray, List.map_cons, List.map_nil]); first | done | rfl | (simp only [List.length_drop, List.length_take]; rfl)) ?_; (with_reducible refine (semblanceref05_Type.calls kj3 _ _ l0 0 t296 _ ?side1 ?side2 A68.out).mono ?_); (case side1 => repeat (first | exact (Kd.C_below HR0.out HB.out) | (with_reducible refine Kd.C_alloc ?_ _) | (with_reducible refine Kd.C_drewN ?_ _) | (with_reducible refine Kd.C_drew ?_))); (case side2 => exact HC0.out); rintro e w199 ⟨rfl, hb⟩; refine ⟨_, rfl, ?_⟩; have n0_ := Aside0.mk (blk_below (grw BK288.out) hb); have n1_ := Aside0.mk (below_step (by repeat (first | (with_reducible first | exact HB.out | apply below_alloc | apply pw_below_drewN | apply below_drew1 | refine below_set ?_ GE288.out) | exact HB.out)) hb); clear BK288; clear HB; have BK288 := n0_; have HB := n1_; clear n0_ n1_; (try clear hb); (try clear hb2); (try clear hk); (try clear hi)) | ((with_reducible refine gate_callee (f := 22) rfl ?_); refine goesL_ (some 56) rfl rfl Try.func22 (by kernel_rfl) rfl #[.slice A1 l1.length c1, .int .i64 0] rfl (by (try simp only [List.map_toArray, List.map_cons, List.map_nil]); first | done | rfl | (simp only [List.length_drop, List.length_take]; rfl)) ?_; (with_reducible refine (semblanceref05_Type.calls kj3 _ _ l1 0 t297 _ ?side1 ?side2 A69.out).mono ?_); (case side1 => repeat (first | exact (Kd.C_below HR1.out HB.out) | (with_reducible refine Kd.C_alloc ?_ _) | (with_reducible refine Kd.C_drewN ?_ _) | (with_reducible refine Kd.C_drew ?_))); (case side2 => exact HC1.out); rintro e w200 ⟨rfl, hb⟩; refine ⟨_, rfl, ?_⟩; have n0_ := Aside0.mk (blk_below (grw BK288.out) hb); have n1_ := Aside0.mk (below_step (by repeat (first | (with_reducible first | exact HB.out | apply below_alloc | apply pw_below_drewN | apply below_drew1 | refine below_set ?_ GE288.out) | exact HB.out)) hb); clear BK288; clear HB; have BK288 := n0_; have HB := n1_; clear n0_ n1_; (try clear hb); (try clear hb2); (try clear hk); (try clear hi)) | ((with_reducible refine gate_callee (f := 15) rfl ?_); refine goesL_ (some 58) rfl rfl Try.func15 (by kernel_rfl) rfl #[] rfl (by (try simp only [List.map_toArray, List.map_cons, List.map_nil]); first | done | rfl | (simp only [List.length_drop, List.length_take]; rfl)) ?_; (with_reducible refine (semblancelaw07_awake.calls kj3  t298 _ A198.out).mono ?_); rintro e w201 ⟨rfl, hb⟩; refine ⟨_, rfl, ?_⟩; have n0_ := Aside0.mk (blk_below (grw BK288.out) hb); have n1_ := Aside0.mk (below_step (by repeat (first | (with_reducible first | exact HB.out | apply below_alloc | apply pw_below_drewN | apply below_drew1 | refine below_set ?_ GE288.out) | exact HB.out)) hb); clear BK288; clear HB; have BK288 := n0_; have HB := n1_; clear n0_ n1_; (try clear hb); (try clear hb2); (try clear hk); (try clear hi)))
    go_ret
    exact ⟨by first | rfl | (simp [errW_none, errW_some] <;> rfl) | (simp [*, errW_none, errW_some] <;> rfl), by repeat (first | (with_reducible first | exact HB.out | apply below_alloc | apply pw_below_drewN | apply below_drew1 | refine below_set ?_ GE288.out) | exact HB.out)⟩

   rw [if_pos c70] at H
   have c70b0 : (t296 == t297) = true := beq_iff_eq.mpr c70
   have c70b1 : (t296 != t297) = false := bne_eq_false_iff_eq.mpr c70
   clear c70
   by_cases c71 : t296 = 1
   ·rw [if_pos c71] at H
    have c71b0 : (t296 == 1) = true := beq_iff_eq.mpr c71
    have c71b1 : (t296 != 1) = false := bne_eq_false_iff_eq.mpr c71
    clear c71
    obtain ⟨y299, hy299⟩ : ∃ y_ : List Int, y_ = (([15] : List Int)) := ⟨_, rfl⟩
    replace H : ((semblancelaw07_holds.f kj3 l2_0 a2_1 a2_2 a2_3 a2_4 l2_5 y299 l0 l1).bind fun t302 => ((semblancelaw07_holds.f kj3 l2_0 a2_1 a2_2 a2_3 a2_4 l2_5 (([18] : List Int)) l0 l1).bind fun t306 => (if (t302 != t306) = true then ((semblancelaw07_awake.f kj3).bind fun t307 => (some t307)) else (some false)))) = some r := by first | (rw [hy299]; with_reducible exact H) | (have H2_ := (Option.bind_some _ _).symm.trans H; rw [hy299]; with_reducible exact H2_) | (have H2_ := (Option.bind_some _ _).symm.trans H; with_reducible exact H2_) | with_reducible exact H | (rw [hy299]; exact H) | exact H
    have Ny299 := Aside0.mk hy299
    clear hy299
    replace H := Option.bind_eq_some_iff.mp H
    obtain ⟨t302, A720, H⟩ := H
    replace H : ((semblancelaw07_holds.f kj3 l2_0 a2_1 a2_2 a2_3 a2_4 l2_5 (([18] : List Int)) l0 l1).bind fun t306 => (if (t302 != t306) = true then ((semblancelaw07_awake.f kj3).bind fun t307 => (some t307)) else (some false))) = some r := H
    have A72 := Aside0.mk A720
    clear A720
    obtain ⟨y303, hy303⟩ : ∃ y_ : List Int, y_ = (([18] : List Int)) := ⟨_, rfl⟩
    replace H : ((semblancelaw07_holds.f kj3 l2_0 a2_1 a2_2 a2_3 a2_4 l2_5 y303 l0 l1).bind fun t306 => (if (t302 != t306) = true then ((semblancelaw07_awake.f kj3).bind fun t307 => (some t307)) else (some false))) = some r := by first | (rw [hy303]; with_reducible exact H) | (have H2_ := (Option.bind_some _ _).symm.trans H; rw [hy303]; with_reducible exact H2_) | (have H2_ := (Option.bind_some _ _).symm.trans H; with_reducible exact H2_) | with_reducible exact H | (rw [hy303]; exact H) | exact H
    have Ny303 := Aside0.mk hy303
    clear hy303
    replace H := Option.bind_eq_some_iff.mp H
    obtain ⟨t306, A730, H⟩ := H
    replace H : (if (t302 != t306) = true then ((semblancelaw07_awake.f kj3).bind fun t307 => (some t307)) else (some false)) = some r := H
    have A73 := Aside0.mk A730
    clear A730
    have HZ_ := Aside0.mk H
    clear H
    try go_wp2_with (first | ((with_reducible refine gate_callee (f := 22) rfl ?_); refine goesL_ (some 53) rfl rfl Try.func22 (by kernel_rfl) rfl #[.slice A0 l0.length c0, .int .i64 0] rfl (by (try simp only [List.map_toArray, List.map_cons, List.map_nil]); first | done | rfl | (simp only [List.length_drop, List.length_take]; rfl)) ?_; (with_reducible refine (semblanceref05_Type.calls kj3 _ _ l0 0 t296 _ ?side1 ?side2 A68.out).mono ?_); (case side1 => repeat (first | exact (Kd.C_below HR0.out HB.out) | (with_reducible refine Kd.C_alloc ?_ _) | (with_reducible refine Kd.C_drewN ?_ _) | (with_reducible refine Kd.C_drew ?_))); (case side2 => exact HC0.out); rintro e w76 ⟨rfl, hb⟩; refine ⟨_, rfl, ?_⟩; have n0_ := Aside0.mk (blk_below (grw BK288.out) hb); have n1_ := Aside0.mk (below_step (by repeat (first | (with_reducible first | exact HB.out | apply below_alloc | apply pw_below_drewN | apply below_drew1 | refine below_set ?_ GE288.out) | exact HB.out)) hb); clear BK288; clear HB; have BK288 := n0_; have HB := n1_; clear n0_ n1_; (try clear hb); (try clear hb2); (try clear hk); (try clear hi)) | ((with_reducible refine gate_callee (f := 22) rfl ?_); refine goesL_ (some 56) rfl rfl Try.func22 (by kernel_rfl) rfl #[.slice A1 l1.length c1, .int .i64 0] rfl (by (try simp only [List.map_toArray, List.map_cons, List.map_nil]); first | done | rfl | (simp only [List.length_drop, List.length_take]; rfl)) ?_; (with_reducible refine (semblanceref05_Type.calls kj3 _ _ l1 0 t297 _ ?side1 ?side2 A69.out).mono ?_); (case side1 => repeat (first | exact (Kd.C_below HR1.out HB.out) | (with_reducible refine Kd.C_alloc ?_ _) | (with_reducible refine Kd.C_drewN ?_ _) | (with_reducible refine Kd.C_drew ?_))); (case side2 => exact HC1.out); rintro e w77 ⟨rfl, hb⟩; refine ⟨_, rfl, ?_⟩; have n0_ := Aside0.mk (blk_below (grw BK288.out) hb); have n1_ := Aside0.mk (below_step (by repeat (first | (with_reducible first | exact HB.out | apply below_alloc | apply pw_below_drewN | apply below_drew1 | refine below_set ?_ GE288.out) | exact HB.out)) hb); clear BK288; clear HB; have BK288 := n0_; have HB := n1_; clear n0_ n1_; (try clear hb); (try clear hb2); (try clear hk); (try clear hi)))
    have n0_ := Aside0.mk (blk_drew BK288.out)
    have n1_ := Aside0.mk (below_drew1 HB.out)
    clear BK288
    clear HB
    have BK288 := n0_
    have HB := n1_
    clear n0_ n1_
    refine start_ (n := 15) (S := fun w' => True) (ds := []) bw27_0 (by kernel_rfl) rfl rfl trivial (fun hHeld => ?_); refine with_tabW semblancelaw07_EvalLaws.tab7 semblancelaw07_EvalLaws.bits7 (fun HT_ HW_ => ?_)
    generalize w77.drew = w78 at BK288 HB hHeld ⊢
    refine pure_ (i := 2) (N := some 63) (v := ?_) (a' := ?_) bw27_1 rfl rfl (any_of HT_.out (by kernel_rfl)) (fun _ _ _ h => h) (Or.inl ⟨by rfl, ?_⟩) ?_ ?_
    rotate_left
    ·intro w'
     go_simp
     with_reducible rfl
    rotate_left
    ·simp only [Act.put, sb_, s0_, s1_, i64_w, i32_w]
     rfl
    refine pure_ (i := 3) (N := some 64) (v := ?_) (a' := ?_) bw27_2 rfl rfl (any_of HT_.out (by kernel_rfl)) (fun _ _ _ h => h) (Or.inl ⟨by rfl, ?_⟩) ?_ ?_
    rotate_left
    ·intro w'
     go_simp
     with_reducible rfl
    rotate_left
    ·simp only [Act.put, sb_, s0_, s1_, i64_w, i32_w]
     rfl
    refine pure_ (i := 7) (N := some 68) (v := ?_) (a' := ?_) bw27_3 rfl rfl (any_of HT_.out (by kernel_rfl)) (fun _ _ _ h => h) (Or.inl ⟨by rfl, ?_⟩) ?_ ?_
    rotate_left
    ·intro w'
     go_simp
     with_reducible rfl
    rotate_left
    ·simp only [Act.put, sb_, s0_, s1_, i64_w, i32_w]
     rfl
    refine pure_ (i := 8) (N := some 69) (v := ?_) (a' := ?_) bw27_4 rfl rfl (any_of HT_.out (by kernel_rfl)) (fun _ _ _ h => h) (Or.inl ⟨by rfl, ?_⟩) ?_ ?_
    rotate_left
    ·intro w'
     go_simp
     with_reducible rfl
    rotate_left
    ·simp only [Act.put, sb_, s0_, s1_, i64_w, i32_w]
     rfl
    have H := HZ_.out
    clear HZ_
    by_cases c74 : (t302 != t306) = true
    rotate_left
    ·rw [if_neg c74] at H
     have c74b0 : (t302 != t306) = false := by simpa using c74
     (try (have c74b1 : decide (t302 = t306) = true := by simpa using c74))
     (try (have c74b2 : (t302 == t306) = true := by simpa using c74))
     clear c74
     obtain rfl := Option.some.inj H
     refine inv_at [0, 1, 4, 5, 6, 9, 10, 11, 12, 13, 14] (fun a0_ b a w' => ∃ (v300 : Value) (v304 : Value), a = putSel a0_ b [(0, 61, .agg #[.slice A2_0 l2_0.length c2_0, .int .i64 a2_1, .int .i64 a2_2, .int .i64 a2_3, .int .i64 a2_4, .slice A2_5 l2_5.length c2_5]), (1, 62, v300), (4, 65, .bool t302), (5, 66, .agg #[.slice A2_0 l2_0.length c2_0, .int .i64 a2_1, .int .i64 a2_2, .int .i64 a2_3, .int .i64 a2_4, .slice A2_5 l2_5.length c2_5]), (6, 67, v304), (9, 70, .bool t306), (10, 71, .bool (t302 != t306)), (11, 72, .bool (t302 != t306)), (12, 73, undef), (13, 74, .bool false), (14, 6, .bool false)] ∧ (w'.heap[gb288]? = some (.cells #[.slice A2_0 l2_0.length c2_0, .int .i64 a2_1, .int .i64 a2_2, .int .i64 a2_3, .int .i64 a2_4, .slice A2_5 l2_5.length c2_5] 36 (0, 0))) ∧ (Below w.heap.size w w') ∧ (b 1 = true → Kd.R (Kd.int .i64) 3 w' w.heap.size (fun _ => True) v300 y299) ∧ (b 6 = true → Kd.R (Kd.int .i64) 3 w' w.heap.size (fun _ => True) v304 y303)) HT_.out HW_.out (by kernel_rfl) (by kernel_rfl) ?_ ?_ ?_
     ·exact ⟨.bool false, .bool false, by simp only [putSel, Bool.false_eq_true, if_false], BK288.out, HB.out, fun h_ => absurd h_ (by decide), fun h_ => absurd h_ (by decide)⟩
     ·skip
      clear BK288 HB
      refine steps_cons ?_ ?_
      ·rintro b a w' ⟨v300, v304, ha, Q_BK288, Q_HB, Q_HO301, Q_HO305⟩ hb_ hon hoff
       refine ⟨_, rfl, fun K hK => ?_⟩
       have e5 : a.tmps[5]? = some (.pointer (some ⟨gb288, 0, none⟩)) := by rw [ha]; exact (putSel_off rfl).trans rfl
       replace ha := Aside0.mk ha
       have BK288 := Aside0.mk Q_BK288
       have HB := Aside0.mk Q_HB
       have hc0_ : w'.cell? ⟨gb288, 0, none⟩ = some (.slice A2_0 l2_0.length c2_0) := (blk_cell BK288.out 0).trans rfl
       have hc1_ : w'.cell? ⟨gb288, 1, none⟩ = some (.int .i64 a2_1) := (blk_cell BK288.out 1).trans rfl
       have hc2_ : w'.cell? ⟨gb288, 2, none⟩ = some (.int .i64 a2_2) := (blk_cell BK288.out 2).trans rfl
       have hc3_ : w'.cell? ⟨gb288, 3, none⟩ = some (.int .i64 a2_3) := (blk_cell BK288.out 3).trans rfl
       have hc4_ : w'.cell? ⟨gb288, 4, none⟩ = some (.int .i64 a2_4) := (blk_cell BK288.out 4).trans rfl
       have hc5_ : w'.cell? ⟨gb288, 5, none⟩ = some (.slice A2_5 l2_5.length c2_5) := (blk_cell BK288.out 5).trans rfl
       refine value_ (w1 := w') (v := .agg #[.slice A2_0 l2_0.length c2_0, .int .i64 a2_1, .int .i64 a2_2, .int .i64 a2_3, .int .i64 a2_4, .slice A2_5 l2_5.length c2_5]) (by rfl) rfl ?_ ?_
       ·go_simp
        (try simp only [i64_w])
        try rfl
       refine hK.out _ _ ⟨v300, v304, (by rw [ha.out]; exact putSel_upk 0 hb_ rfl rfl rfl), Q_BK288, Q_HB, Q_HO301, Q_HO305⟩
      refine steps_cons ?_ ?_
      ·rintro b a w' ⟨v300, v304, ha, Q_BK288, Q_HB, Q_HO301, Q_HO305⟩ hb_ hon hoff
       refine ⟨_, rfl, fun K hK => ?_⟩
       replace ha := Aside0.mk ha
       have BK288 := Aside0.mk Q_BK288
       have HB := Aside0.mk Q_HB
       refine Kd.R_lit_step (Kd.int .i64) _ 3 ?hg (N := 62) ?hd (xs := ([15] : List Int)) (inner := [.int .i64 15]) (ok := fun _ => True) (okp := fun _ => True) ?hr ?hp (fun _ hk => hk) trivial (Below.refl _ _) (Nat.le_refl _) (by simp) ?_; (case hd => rfl); (case hg => rfl); (case hr => first | (go_simp; done) | (go_simp; rfl)); (case hp => exact (Reps.one (show Kd.M (Kd.int .i64) _ _ _ 15 [.int .i64 15] from rfl) (Reps.none _ _)))
       intro v300 w92 ho93 hb hg_ hnew_
       clear hg_ hnew_
       (first | rw [← Ny299.out] at ho93 | (simp only [Int.reduceToNat] at ho93; rw [← Ny299.out] at ho93))
       have n0_ := Aside0.mk (Kd.R_lower ho93 (below_size (by repeat (first | (with_reducible first | exact HB.out | apply below_alloc | apply pw_below_drewN | apply below_drew1 | refine below_set ?_ GE288.out) | exact HB.out))))
       have n1_ := Aside0.mk (blk_below (grw BK288.out) hb)
       have n2_ := Aside0.mk (below_step (by repeat (first | (with_reducible first | exact HB.out | apply below_alloc | apply pw_below_drewN | apply below_drew1 | refine below_set ?_ GE288.out) | exact HB.out)) hb)
       have z_HO305 := fun (h0_ : b 6 = true) => (show Kd.R (Kd.int .i64) 3 w92 w.heap.size (fun _ => True) v304 y303 from by first | exact (Kd.R_elder' (by (with_reducible repeat (first | apply Kd.R_alloc | apply Kd.R_drewN | apply Kd.R_drew)); exact (Q_HO305 h0_)) (Kd.R_base ho93) hb) | exact Kd.R_mono (Kd.R_elder' (by (with_reducible repeat (first | apply Kd.R_alloc | apply Kd.R_drewN | apply Kd.R_drew)); exact (Q_HO305 h0_)) (Kd.R_base ho93) hb) (fun _ h_ => by first | trivial | exact h_ | exact h_.1))
       clear BK288
       clear HB
       have HO301 := n0_
       have BK288 := n1_
       have HB := n2_
       clear n0_ n1_ n2_
       clear hb ho93
       refine hK.out _ _ ⟨v300, v304, (by rw [ha.out]; exact putSel_upk 1 hb_ rfl rfl rfl), (grw BK288.out), (by repeat (first | (with_reducible first | exact HB.out | apply below_alloc | apply pw_below_drewN | apply below_drew1 | refine below_set ?_ GE288.out) | exact HB.out)), fun _ => (by (with_reducible repeat (first | apply Kd.R_alloc | apply Kd.R_drewN | apply Kd.R_drew)); exact HO301.out), z_HO305⟩
      refine steps_cons ?_ ?_
      ·rintro b a w' ⟨v300, v304, ha, Q_BK288, Q_HB, Q_HO301, Q_HO305⟩ hb_ hon hoff
       refine ⟨_, rfl, fun K hK => ?_⟩
       have e61 : a.tmps[61]? = some (.agg #[.slice A2_0 l2_0.length c2_0, .int .i64 a2_1, .int .i64 a2_2, .int .i64 a2_3, .int .i64 a2_4, .slice A2_5 l2_5.length c2_5]) := by rw [ha]; exact putSel_on (e := (0, 61, .agg #[.slice A2_0 l2_0.length c2_0, .int .i64 a2_1, .int .i64 a2_2, .int .i64 a2_3, .int .i64 a2_4, .slice A2_5 l2_5.length c2_5])) 0 rfl rfl (hon 0 (by kernel_rfl)) rfl
       have e62 : a.tmps[62]? = some (v300) := by rw [ha]; exact putSel_on (e := (1, 62, v300)) 1 rfl rfl (hon 1 (by kernel_rfl)) rfl
       have e63 : a.tmps[63]? = some (.slice A0 l0.length c0) := by rw [ha]; exact (putSel_off rfl).trans rfl
       have e64 : a.tmps[64]? = some (.slice A1 l1.length c1) := by rw [ha]; exact (putSel_off rfl).trans rfl
       replace ha := Aside0.mk ha
       have BK288 := Aside0.mk Q_BK288
       have HB := Aside0.mk Q_HB
       have HO301 := Aside0.mk (Q_HO301 (hon 1 (by kernel_rfl)))
       obtain ⟨Ao95, co95, eo95⟩ := Kd.R_slice HO301.out
       (first | subst eo95 | (injection eo95 with f1_ f2_ f3_; have f4_ := f1_.symm; have f5_ := f3_.symm; clear f1_ f2_ f3_; subst f4_; subst f5_))
       refine goes_ Try.func24 (by kernel_rfl) rfl #[.agg #[.slice A2_0 l2_0.length c2_0, .int .i64 a2_1, .int .i64 a2_2, .int .i64 a2_3, .int .i64 a2_4, .slice A2_5 l2_5.length c2_5], .slice Ao95 y299.length co95, .slice A0 l0.length c0, .slice A1 l1.length c1] (by rfl) rfl rfl (by first | (simp only [List.map_toArray, List.map_cons, List.map_nil, Act.eval, Array.getD_eq_getD_getElem?, Option.getD_some, e61, e62, e63, e64]; done) | (simp only [List.map_toArray, List.map_cons, List.map_nil, Act.eval, Array.getD_eq_getD_getElem?, Option.getD_some, e61, e62, e63, e64]; rfl)) ?_
       with_reducible refine (semblancelaw07_holds.calls kj3 _ _ l2_0 a2_1 a2_2 a2_3 a2_4 _ _ l2_5 _ _ y299 _ _ l0 _ _ l1 t302 _ ?side1 ?side2 ?side3 ?side4 ?side5 ?side6 ?side7 ?side8 ?side9 ?side10 A72.out).mono ?_
       (case side1 => repeat (first | exact (Kd.C_below HR2_0.out HB.out) | (with_reducible refine Kd.C_alloc ?_ _) | (with_reducible refine Kd.C_drewN ?_ _) | (with_reducible refine Kd.C_drew ?_)))
       (case side2 => exact HC2_0.out)
       (case side3 => repeat (first | exact (Kd.C_below HR2_5.out HB.out) | (with_reducible refine Kd.C_alloc ?_ _) | (with_reducible refine Kd.C_drewN ?_ _) | (with_reducible refine Kd.C_drew ?_)))
       (case side4 => exact HC2_5.out)
       (case side5 => repeat (first | exact (Kd.R_reads' HO301.out).2.2 | (with_reducible refine Kd.C_alloc ?_ _) | (with_reducible refine Kd.C_drewN ?_ _) | (with_reducible refine Kd.C_drew ?_)))
       (case side6 => exact (Kd.R_reads' HO301.out).2.1)
       (case side7 => repeat (first | exact (Kd.C_below HR0.out HB.out) | (with_reducible refine Kd.C_alloc ?_ _) | (with_reducible refine Kd.C_drewN ?_ _) | (with_reducible refine Kd.C_drew ?_)))
       (case side8 => exact HC0.out)
       (case side9 => repeat (first | exact (Kd.C_below HR1.out HB.out) | (with_reducible refine Kd.C_alloc ?_ _) | (with_reducible refine Kd.C_drewN ?_ _) | (with_reducible refine Kd.C_drew ?_)))
       (case side10 => exact HC1.out)
       rintro e w96 ⟨rfl, hb⟩
       refine ⟨_, rfl, ?_⟩
       have n0_ := Aside0.mk (Kd.R_below (by (with_reducible repeat (first | apply Kd.R_alloc | apply Kd.R_drewN | apply Kd.R_drew)); exact HO301.out) hb)
       have n1_ := Aside0.mk (blk_below (grw BK288.out) hb)
       have n2_ := Aside0.mk (below_step (by repeat (first | (with_reducible first | exact HB.out | apply below_alloc | apply pw_below_drewN | apply below_drew1 | refine below_set ?_ GE288.out) | exact HB.out)) hb)
       have z_HO305 := fun (h0_ : b 6 = true) => (show Kd.R (Kd.int .i64) 3 w96 w.heap.size (fun _ => True) v304 y303 from by first | exact (Kd.R_below (by (with_reducible repeat (first | apply Kd.R_alloc | apply Kd.R_drewN | apply Kd.R_drew)); exact (Q_HO305 h0_)) hb) | exact Kd.R_mono (Kd.R_below (by (with_reducible repeat (first | apply Kd.R_alloc | apply Kd.R_drewN | apply Kd.R_drew)); exact (Q_HO305 h0_)) hb) (fun _ h_ => by first | trivial | exact h_ | exact h_.1))
       clear HO301
       clear BK288
       clear HB
       have HO301 := n0_
       have BK288 := n1_
       have HB := n2_
       clear n0_ n1_ n2_
       (try clear hb)
       (try clear hb2)
       (try clear hk)
       (try clear hi)
       refine hK.out _ _ ⟨.slice Ao95 y299.length co95, v304, (by rw [ha.out]; exact putSel_upk 2 hb_ rfl rfl rfl), (grw BK288.out), (by repeat (first | (with_reducible first | exact HB.out | apply below_alloc | apply pw_below_drewN | apply below_drew1 | refine below_set ?_ GE288.out) | exact HB.out)), fun _ => (by (with_reducible repeat (first | apply Kd.R_alloc | apply Kd.R_drewN | apply Kd.R_drew)); exact HO301.out), z_HO305⟩
      refine steps_cons ?_ ?_
      ·rintro b a w' ⟨v300, v304, ha, Q_BK288, Q_HB, Q_HO301, Q_HO305⟩ hb_ hon hoff
       refine ⟨_, rfl, fun K hK => ?_⟩
       have e5 : a.tmps[5]? = some (.pointer (some ⟨gb288, 0, none⟩)) := by rw [ha]; exact (putSel_off rfl).trans rfl
       replace ha := Aside0.mk ha
       have BK288 := Aside0.mk Q_BK288
       have HB := Aside0.mk Q_HB
       have hc0_ : w'.cell? ⟨gb288, 0, none⟩ = some (.slice A2_0 l2_0.length c2_0) := (blk_cell BK288.out 0).trans rfl
       have hc1_ : w'.cell? ⟨gb288, 1, none⟩ = some (.int .i64 a2_1) := (blk_cell BK288.out 1).trans rfl
       have hc2_ : w'.cell? ⟨gb288, 2, none⟩ = some (.int .i64 a2_2) := (blk_cell BK288.out 2).trans rfl
       have hc3_ : w'.cell? ⟨gb288, 3, none⟩ = some (.int .i64 a2_3) := (blk_cell BK288.out 3).trans rfl
       have hc4_ : w'.cell? ⟨gb288, 4, none⟩ = some (.int .i64 a2_4) := (blk_cell BK288.out 4).trans rfl
       have hc5_ : w'.cell? ⟨gb288, 5, none⟩ = some (.slice A2_5 l2_5.length c2_5) := (blk_cell BK288.out 5).trans rfl
       refine value_ (w1 := w') (v := .agg #[.slice A2_0 l2_0.length c2_0, .int .i64 a2_1, .int .i64 a2_2, .int .i64 a2_3, .int .i64 a2_4, .slice A2_5 l2_5.length c2_5]) (by rfl) rfl ?_ ?_
       ·go_simp
        (try simp only [i64_w])
        try rfl
       refine hK.out _ _ ⟨v300, v304, (by rw [ha.out]; exact putSel_upk 3 hb_ rfl rfl rfl), Q_BK288, Q_HB, Q_HO301, Q_HO305⟩
      refine steps_cons ?_ ?_
      ·rintro b a w' ⟨v300, v304, ha, Q_BK288, Q_HB, Q_HO301, Q_HO305⟩ hb_ hon hoff
       refine ⟨_, rfl, fun K hK => ?_⟩
       replace ha := Aside0.mk ha
       have BK288 := Aside0.mk Q_BK288
       have HB := Aside0.mk Q_HB
       refine Kd.R_lit_step (Kd.int .i64) _ 3 ?hg (N := 67) ?hd (xs := ([18] : List Int)) (inner := [.int .i64 18]) (ok := fun _ => True) (okp := fun _ => True) ?hr ?hp (fun _ hk => hk) trivial (Below.refl _ _) (Nat.le_refl _) (by simp) ?_; (case hd => rfl); (case hg => rfl); (case hr => first | (go_simp; done) | (go_simp; rfl)); (case hp => exact (Reps.one (show Kd.M (Kd.int .i64) _ _ _ 18 [.int .i64 18] from rfl) (Reps.none _ _)))
       intro v304 w92 ho93 hb hg_ hnew_
       clear hg_ hnew_
       (first | rw [← Ny303.out] at ho93 | (simp only [Int.reduceToNat] at ho93; rw [← Ny303.out] at ho93))
       have n0_ := Aside0.mk (Kd.R_lower ho93 (below_size (by repeat (first | (with_reducible first | exact HB.out | apply below_alloc | apply pw_below_drewN | apply below_drew1 | refine below_set ?_ GE288.out) | exact HB.out))))
       have n1_ := Aside0.mk (blk_below (grw BK288.out) hb)
       have n2_ := Aside0.mk (below_step (by repeat (first | (with_reducible first | exact HB.out | apply below_alloc | apply pw_below_drewN | apply below_drew1 | refine below_set ?_ GE288.out) | exact HB.out)) hb)
       have z_HO301 := fun (h0_ : b 1 = true) => (show Kd.R (Kd.int .i64) 3 w92 w.heap.size (fun _ => True) v300 y299 from by first | exact (Kd.R_elder' (by (with_reducible repeat (first | apply Kd.R_alloc | apply Kd.R_drewN | apply Kd.R_drew)); exact (Q_HO301 h0_)) (Kd.R_base ho93) hb) | exact Kd.R_mono (Kd.R_elder' (by (with_reducible repeat (first | apply Kd.R_alloc | apply Kd.R_drewN | apply Kd.R_drew)); exact (Q_HO301 h0_)) (Kd.R_base ho93) hb) (fun _ h_ => by first | trivial | exact h_ | exact h_.1))
       clear BK288
       clear HB
       have HO305 := n0_
       have BK288 := n1_
       have HB := n2_
       clear n0_ n1_ n2_
       clear hb ho93
       refine hK.out _ _ ⟨v300, v304, (by rw [ha.out]; exact putSel_upk 4 hb_ rfl rfl rfl), (grw BK288.out), (by repeat (first | (with_reducible first | exact HB.out | apply below_alloc | apply pw_below_drewN | apply below_drew1 | refine below_set ?_ GE288.out) | exact HB.out)), z_HO301, fun _ => (by (with_reducible repeat (first | apply Kd.R_alloc | apply Kd.R_drewN | apply Kd.R_drew)); exact HO305.out)⟩
      refine steps_cons ?_ ?_
      ·rintro b a w' ⟨v300, v304, ha, Q_BK288, Q_HB, Q_HO301, Q_HO305⟩ hb_ hon hoff
       refine ⟨_, rfl, fun K hK => ?_⟩
       have e66 : a.tmps[66]? = some (.agg #[.slice A2_0 l2_0.length c2_0, .int .i64 a2_1, .int .i64 a2_2, .int .i64 a2_3, .int .i64 a2_4, .slice A2_5 l2_5.length c2_5]) := by rw [ha]; exact putSel_on (e := (5, 66, .agg #[.slice A2_0 l2_0.length c2_0, .int .i64 a2_1, .int .i64 a2_2, .int .i64 a2_3, .int .i64 a2_4, .slice A2_5 l2_5.length c2_5])) 3 rfl rfl (hon 5 (by kernel_rfl)) rfl
       have e67 : a.tmps[67]? = some (v304) := by rw [ha]; exact putSel_on (e := (6, 67, v304)) 4 rfl rfl (hon 6 (by kernel_rfl)) rfl
       have e68 : a.tmps[68]? = some (.slice A0 l0.length c0) := by rw [ha]; exact (putSel_off rfl).trans rfl
       have e69 : a.tmps[69]? = some (.slice A1 l1.length c1) := by rw [ha]; exact (putSel_off rfl).trans rfl
       replace ha := Aside0.mk ha
       have BK288 := Aside0.mk Q_BK288
       have HB := Aside0.mk Q_HB
       have HO301 := Aside0.mk (Q_HO301 (hon 1 (by kernel_rfl)))
       have HO305 := Aside0.mk (Q_HO305 (hon 6 (by kernel_rfl)))
       obtain ⟨Ao99, co99, eo99⟩ := Kd.R_slice HO305.out
       (first | subst eo99 | (injection eo99 with f1_ f2_ f3_; have f4_ := f1_.symm; have f5_ := f3_.symm; clear f1_ f2_ f3_; subst f4_; subst f5_))
       refine goes_ Try.func24 (by kernel_rfl) rfl #[.agg #[.slice A2_0 l2_0.length c2_0, .int .i64 a2_1, .int .i64 a2_2, .int .i64 a2_3, .int .i64 a2_4, .slice A2_5 l2_5.length c2_5], .slice Ao99 y303.length co99, .slice A0 l0.length c0, .slice A1 l1.length c1] (by rfl) rfl rfl (by first | (simp only [List.map_toArray, List.map_cons, List.map_nil, Act.eval, Array.getD_eq_getD_getElem?, Option.getD_some, e66, e67, e68, e69]; done) | (simp only [List.map_toArray, List.map_cons, List.map_nil, Act.eval, Array.getD_eq_getD_getElem?, Option.getD_some, e66, e67, e68, e69]; rfl)) ?_
       with_reducible refine (semblancelaw07_holds.calls kj3 _ _ l2_0 a2_1 a2_2 a2_3 a2_4 _ _ l2_5 _ _ y303 _ _ l0 _ _ l1 t306 _ ?side1 ?side2 ?side3 ?side4 ?side5 ?side6 ?side7 ?side8 ?side9 ?side10 A73.out).mono ?_
       (case side1 => repeat (first | exact (Kd.C_below HR2_0.out HB.out) | (with_reducible refine Kd.C_alloc ?_ _) | (with_reducible refine Kd.C_drewN ?_ _) | (with_reducible refine Kd.C_drew ?_)))
       (case side2 => exact HC2_0.out)
       (case side3 => repeat (first | exact (Kd.C_below HR2_5.out HB.out) | (with_reducible refine Kd.C_alloc ?_ _) | (with_reducible refine Kd.C_drewN ?_ _) | (with_reducible refine Kd.C_drew ?_)))
       (case side4 => exact HC2_5.out)
       (case side5 => repeat (first | exact (Kd.R_reads' HO305.out).2.2 | (with_reducible refine Kd.C_alloc ?_ _) | (with_reducible refine Kd.C_drewN ?_ _) | (with_reducible refine Kd.C_drew ?_)))
       (case side6 => exact (Kd.R_reads' HO305.out).2.1)
       (case side7 => repeat (first | exact (Kd.C_below HR0.out HB.out) | (with_reducible refine Kd.C_alloc ?_ _) | (with_reducible refine Kd.C_drewN ?_ _) | (with_reducible refine Kd.C_drew ?_)))
       (case side8 => exact HC0.out)
       (case side9 => repeat (first | exact (Kd.C_below HR1.out HB.out) | (with_reducible refine Kd.C_alloc ?_ _) | (with_reducible refine Kd.C_drewN ?_ _) | (with_reducible refine Kd.C_drew ?_)))
       (case side10 => exact HC1.out)
       rintro e w100 ⟨rfl, hb⟩
       refine ⟨_, rfl, ?_⟩
       have n0_ := Aside0.mk (Kd.R_below (by (with_reducible repeat (first | apply Kd.R_alloc | apply Kd.R_drewN | apply Kd.R_drew)); exact HO301.out) hb)
       have n1_ := Aside0.mk (Kd.R_below (by (with_reducible repeat (first | apply Kd.R_alloc | apply Kd.R_drewN | apply Kd.R_drew)); exact HO305.out) hb)
       have n2_ := Aside0.mk (blk_below (grw BK288.out) hb)
       have n3_ := Aside0.mk (below_step (by repeat (first | (with_reducible first | exact HB.out | apply below_alloc | apply pw_below_drewN | apply below_drew1 | refine below_set ?_ GE288.out) | exact HB.out)) hb)
       clear HO301
       clear HO305
       clear BK288
       clear HB
       have HO301 := n0_
       have HO305 := n1_
       have BK288 := n2_
       have HB := n3_
       clear n0_ n1_ n2_ n3_
       (try clear hb)
       (try clear hb2)
       (try clear hk)
       (try clear hi)
       refine hK.out _ _ ⟨v300, .slice Ao99 y303.length co99, (by rw [ha.out]; exact putSel_upk 5 hb_ rfl rfl rfl), (grw BK288.out), (by repeat (first | (with_reducible first | exact HB.out | apply below_alloc | apply pw_below_drewN | apply below_drew1 | refine below_set ?_ GE288.out) | exact HB.out)), fun _ => (by (with_reducible repeat (first | apply Kd.R_alloc | apply Kd.R_drewN | apply Kd.R_drew)); exact HO301.out), fun _ => (by (with_reducible repeat (first | apply Kd.R_alloc | apply Kd.R_drewN | apply Kd.R_drew)); exact HO305.out)⟩
      refine steps_cons ?_ ?_
      ·rintro b a w' ⟨v300, v304, ha, Q_BK288, Q_HB, Q_HO301, Q_HO305⟩ hb_ hon hoff
       refine ⟨_, rfl, fun K hK => ?_⟩
       have e65 : a.tmps[65]? = some (.bool t302) := by rw [ha]; exact putSel_on (e := (4, 65, .bool t302)) 2 rfl rfl (hon 4 (by kernel_rfl)) rfl
       have e70 : a.tmps[70]? = some (.bool t306) := by rw [ha]; exact putSel_on (e := (9, 70, .bool t306)) 5 rfl rfl (hon 9 (by kernel_rfl)) rfl
       replace ha := Aside0.mk ha
       have BK288 := Aside0.mk Q_BK288
       have HB := Aside0.mk Q_HB
       have HO301 := Aside0.mk (Q_HO301 (hon 1 (by kernel_rfl)))
       have HO305 := Aside0.mk (Q_HO305 (hon 6 (by kernel_rfl)))
       refine value_ (w1 := w') (v := .bool (t302 != t306)) (by rfl) rfl ?_ ?_
       ·go_simp
        (try simp only [i64_w])
        try rfl
       refine hK.out _ _ ⟨v300, v304, (by rw [ha.out]; exact putSel_upk 6 hb_ rfl rfl rfl), Q_BK288, Q_HB, Q_HO301, Q_HO305⟩
      refine steps_cons ?_ ?_
      ·rintro b a w' ⟨v300, v304, ha, Q_BK288, Q_HB, Q_HO301, Q_HO305⟩ hb_ hon hoff
       refine ⟨_, rfl, fun K hK => ?_⟩
       have e71 : a.tmps[71]? = some (.bool (t302 != t306)) := by rw [ha]; exact putSel_on (e := (10, 71, .bool (t302 != t306))) 6 rfl rfl (hon 10 (by kernel_rfl)) rfl
       replace ha := Aside0.mk ha
       have BK288 := Aside0.mk Q_BK288
       have HB := Aside0.mk Q_HB
       have HO301 := Aside0.mk (Q_HO301 (hon 1 (by kernel_rfl)))
       have HO305 := Aside0.mk (Q_HO305 (hon 6 (by kernel_rfl)))
       refine value_ (w1 := w') (v := .bool (t302 != t306)) (by rfl) rfl ?_ ?_
       ·go_simp
        (try simp only [i64_w])
        try rfl
       refine hK.out _ _ ⟨v300, v304, (by rw [ha.out]; exact putSel_upk 7 hb_ rfl rfl rfl), Q_BK288, Q_HB, Q_HO301, Q_HO305⟩
      refine steps_cons ?_ ?_
      ·rintro b a w' ⟨v300, v304, ha, Q_BK288, Q_HB, Q_HO301, Q_HO305⟩ hb_ hon hoff
       refine ⟨_, rfl, fun K hK => ?_⟩
       have e72 : a.tmps[72]? = some (.bool (t302 != t306)) := by rw [ha]; exact putSel_on (e := (11, 72, .bool (t302 != t306))) 7 rfl rfl (hon 11 (by kernel_rfl)) rfl
       replace ha := Aside0.mk ha
       have BK288 := Aside0.mk Q_BK288
       have HB := Aside0.mk Q_HB
       have HO301 := Aside0.mk (Q_HO301 (hon 1 (by kernel_rfl)))
       have HO305 := Aside0.mk (Q_HO305 (hon 6 (by kernel_rfl)))
       refine off_ (wanted_off rfl rfl rfl (e72.trans (by first | rfl | (simp [*]; done)))) ?_
       refine hK.out _ _ ⟨v300, v304, (by rw [ha.out]; exact putSel_upk 8 hb_ rfl rfl rfl), Q_BK288, Q_HB, Q_HO301, Q_HO305⟩
      refine steps_cons ?_ ?_
      ·rintro b a w' ⟨v300, v304, ha, Q_BK288, Q_HB, Q_HO301, Q_HO305⟩ hb_ hon hoff
       refine ⟨_, rfl, fun K hK => ?_⟩
       have e72 : a.tmps[72]? = some (.bool (t302 != t306)) := by rw [ha]; exact putSel_on (e := (11, 72, .bool (t302 != t306))) 7 rfl rfl (hon 11 (by kernel_rfl)) rfl
       have e73 : a.tmps[73]? = some (undef) := by rw [ha]; exact putSel_on (e := (12, 73, undef)) 8 rfl rfl (hon 12 (by kernel_rfl)) rfl
       replace ha := Aside0.mk ha
       have BK288 := Aside0.mk Q_BK288
       have HB := Aside0.mk Q_HB
       have HO301 := Aside0.mk (Q_HO301 (hon 1 (by kernel_rfl)))
       have HO305 := Aside0.mk (Q_HO305 (hon 6 (by kernel_rfl)))
       refine value_ (w1 := w') (v := .bool false) (by rfl) rfl ?_ ?_
       ·go_simp
        (try simp only [i64_w])
        try rfl
       refine hK.out _ _ ⟨v300, v304, (by rw [ha.out]; exact putSel_upk 9 hb_ rfl rfl rfl), Q_BK288, Q_HB, Q_HO301, Q_HO305⟩
      refine steps_cons ?_ ?_
      ·rintro b a w' ⟨v300, v304, ha, Q_BK288, Q_HB, Q_HO301, Q_HO305⟩ hb_ hon hoff
       refine ⟨_, rfl, fun K hK => ?_⟩
       have e74 : a.tmps[74]? = some (.bool false) := by rw [ha]; exact putSel_on (e := (13, 74, .bool false)) 9 rfl rfl (hon 13 (by kernel_rfl)) rfl
       replace ha := Aside0.mk ha
       have BK288 := Aside0.mk Q_BK288
       have HB := Aside0.mk Q_HB
       have HO301 := Aside0.mk (Q_HO301 (hon 1 (by kernel_rfl)))
       have HO305 := Aside0.mk (Q_HO305 (hon 6 (by kernel_rfl)))
       refine value_ (w1 := w') (v := .bool false) (by rfl) rfl ?_ ?_
       ·go_simp
        (try simp only [i64_w])
        try rfl
       refine hK.out _ _ ⟨v300, v304, (by rw [ha.out]; exact putSel_upk 10 hb_ rfl rfl rfl), Q_BK288, Q_HB, Q_HO301, Q_HO305⟩
      exact steps_nil
     rintro b a w100 hall ⟨v300, v304, ha, Q_BK288, Q_HB, Q_HO301, Q_HO305⟩
     clear BK288 HB
     have hb0_ := hall 0 (by kernel_rfl)
     have hb1_ := hall 1 (by kernel_rfl)
     have hb4_ := hall 4 (by kernel_rfl)
     have hb5_ := hall 5 (by kernel_rfl)
     have hb6_ := hall 6 (by kernel_rfl)
     have hb9_ := hall 9 (by kernel_rfl)
     have hb10_ := hall 10 (by kernel_rfl)
     have hb11_ := hall 11 (by kernel_rfl)
     have hb12_ := hall 12 (by kernel_rfl)
     have hb13_ := hall 13 (by kernel_rfl)
     have hb14_ := hall 14 (by kernel_rfl)
     subst ha
     simp only [putSel, hb0_, hb1_, hb4_, hb5_, hb6_, hb9_, hb10_, hb11_, hb12_, hb13_, hb14_, if_true, Act.put, sb_, s0_, s1_]
     have BK288 := Aside0.mk Q_BK288
     clear Q_BK288
     have HB := Aside0.mk Q_HB
     clear Q_HB
     have HO301 := Aside0.mk (Q_HO301 hb1_)
     clear Q_HO301
     have HO305 := Aside0.mk (Q_HO305 hb6_)
     clear Q_HO305
     clear hall hb0_ hb1_ hb4_ hb5_ hb6_ hb9_ hb10_ hb11_ hb12_ hb13_ hb14_
     try go_wp2
     go_ret
     exact ⟨by first | rfl | (simp [errW_none, errW_some] <;> rfl) | (simp [*, errW_none, errW_some] <;> rfl), by repeat (first | (with_reducible first | exact HB.out | apply below_alloc | apply pw_below_drewN | apply below_drew1 | refine below_set ?_ GE288.out) | exact HB.out)⟩
    rw [if_pos c74] at H
    have c74b0 : (t302 != t306) = true := c74
    (try (have c74b1 : decide (t302 = t306) = false := by simpa using c74))
    (try (have c74b2 : (t302 == t306) = false := by simpa using c74))
    (try (have c74b3 : ¬ (t302 = t306) := by simpa using c74))
    clear c74
    replace H := Option.bind_eq_some_iff.mp H
    obtain ⟨t307, A750, H⟩ := H
    replace H : (some t307) = some r := H
    have A75 := Aside0.mk A750
    clear A750
    obtain rfl := Option.some.inj H
    refine inv_at [0, 1, 4, 5, 6, 9, 10, 11, 12, 13, 14] (fun a0_ b a w' => ∃ (v300 : Value) (v304 : Value), a = putSel a0_ b [(0, 61, .agg #[.slice A2_0 l2_0.length c2_0, .int .i64 a2_1, .int .i64 a2_2, .int .i64 a2_3, .int .i64 a2_4, .slice A2_5 l2_5.length c2_5]), (1, 62, v300), (4, 65, .bool t302), (5, 66, .agg #[.slice A2_0 l2_0.length c2_0, .int .i64 a2_1, .int .i64 a2_2, .int .i64 a2_3, .int .i64 a2_4, .slice A2_5 l2_5.length c2_5]), (6, 67, v304), (9, 70, .bool t306), (10, 71, .bool true), (11, 72, .bool true), (12, 73, .bool t307), (13, 74, .bool t307), (14, 6, .bool t307)] ∧ (w'.heap[gb288]? = some (.cells #[.slice A2_0 l2_0.length c2_0, .int .i64 a2_1, .int .i64 a2_2, .int .i64 a2_3, .int .i64 a2_4, .slice A2_5 l2_5.length c2_5] 36 (0, 0))) ∧ (Below w.heap.size w w') ∧ (b 1 = true → Kd.R (Kd.int .i64) 3 w' w.heap.size (fun _ => True) v300 y299) ∧ (b 6 = true → Kd.R (Kd.int .i64) 3 w' w.heap.size (fun _ => True) v304 y303)) HT_.out HW_.out (by kernel_rfl) (by kernel_rfl) ?_ ?_ ?_
    ·exact ⟨.bool false, .bool false, by simp only [putSel, Bool.false_eq_true, if_false], BK288.out, HB.out, fun h_ => absurd h_ (by decide), fun h_ => absurd h_ (by decide)⟩
    ·skip
     clear BK288 HB
     refine steps_cons ?_ ?_
     ·rintro b a w' ⟨v300, v304, ha, Q_BK288, Q_HB, Q_HO301, Q_HO305⟩ hb_ hon hoff
      refine ⟨_, rfl, fun K hK => ?_⟩
      have e5 : a.tmps[5]? = some (.pointer (some ⟨gb288, 0, none⟩)) := by rw [ha]; exact (putSel_off rfl).trans rfl
      replace ha := Aside0.mk ha
      have BK288 := Aside0.mk Q_BK288
      have HB := Aside0.mk Q_HB
      have hc0_ : w'.cell? ⟨gb288, 0, none⟩ = some (.slice A2_0 l2_0.length c2_0) := (blk_cell BK288.out 0).trans rfl
      have hc1_ : w'.cell? ⟨gb288, 1, none⟩ = some (.int .i64 a2_1) := (blk_cell BK288.out 1).trans rfl
      have hc2_ : w'.cell? ⟨gb288, 2, none⟩ = some (.int .i64 a2_2) := (blk_cell BK288.out 2).trans rfl
      have hc3_ : w'.cell? ⟨gb288, 3, none⟩ = some (.int .i64 a2_3) := (blk_cell BK288.out 3).trans rfl
      have hc4_ : w'.cell? ⟨gb288, 4, none⟩ = some (.int .i64 a2_4) := (blk_cell BK288.out 4).trans rfl
      have hc5_ : w'.cell? ⟨gb288, 5, none⟩ = some (.slice A2_5 l2_5.length c2_5) := (blk_cell BK288.out 5).trans rfl
      refine value_ (w1 := w') (v := .agg #[.slice A2_0 l2_0.length c2_0, .int .i64 a2_1, .int .i64 a2_2, .int .i64 a2_3, .int .i64 a2_4, .slice A2_5 l2_5.length c2_5]) (by rfl) rfl ?_ ?_
      ·go_simp
       (try simp only [i64_w])
       try rfl
      refine hK.out _ _ ⟨v300, v304, (by rw [ha.out]; exact putSel_upk 0 hb_ rfl rfl rfl), Q_BK288, Q_HB, Q_HO301, Q_HO305⟩
     refine steps_cons ?_ ?_
     ·rintro b a w' ⟨v300, v304, ha, Q_BK288, Q_HB, Q_HO301, Q_HO305⟩ hb_ hon hoff
      refine ⟨_, rfl, fun K hK => ?_⟩
      replace ha := Aside0.mk ha
      have BK288 := Aside0.mk Q_BK288
      have HB := Aside0.mk Q_HB
      refine Kd.R_lit_step (Kd.int .i64) _ 3 ?hg (N := 62) ?hd (xs := ([15] : List Int)) (inner := [.int .i64 15]) (ok := fun _ => True) (okp := fun _ => True) ?hr ?hp (fun _ hk => hk) trivial (Below.refl _ _) (Nat.le_refl _) (by simp) ?_; (case hd => rfl); (case hg => rfl); (case hr => first | (go_simp; done) | (go_simp; rfl)); (case hp => exact (Reps.one (show Kd.M (Kd.int .i64) _ _ _ 15 [.int .i64 15] from rfl) (Reps.none _ _)))
      intro v300 w79 ho80 hb hg_ hnew_
      clear hg_ hnew_
      (first | rw [← Ny299.out] at ho80 | (simp only [Int.reduceToNat] at ho80; rw [← Ny299.out] at ho80))
      have n0_ := Aside0.mk (Kd.R_lower ho80 (below_size (by repeat (first | (with_reducible first | exact HB.out | apply below_alloc | apply pw_below_drewN | apply below_drew1 | refine below_set ?_ GE288.out) | exact HB.out))))
      have n1_ := Aside0.mk (blk_below (grw BK288.out) hb)
      have n2_ := Aside0.mk (below_step (by repeat (first | (with_reducible first | exact HB.out | apply below_alloc | apply pw_below_drewN | apply below_drew1 | refine below_set ?_ GE288.out) | exact HB.out)) hb)
      have z_HO305 := fun (h0_ : b 6 = true) => (show Kd.R (Kd.int .i64) 3 w79 w.heap.size (fun _ => True) v304 y303 from by first | exact (Kd.R_elder' (by (with_reducible repeat (first | apply Kd.R_alloc | apply Kd.R_drewN | apply Kd.R_drew)); exact (Q_HO305 h0_)) (Kd.R_base ho80) hb) | exact Kd.R_mono (Kd.R_elder' (by (with_reducible repeat (first | apply Kd.R_alloc | apply Kd.R_drewN | apply Kd.R_drew)); exact (Q_HO305 h0_)) (Kd.R_base ho80) hb) (fun _ h_ => by first | trivial | exact h_ | exact h_.1))
      clear BK288
      clear HB
      have HO301 := n0_
      have BK288 := n1_
      have HB := n2_
      clear n0_ n1_ n2_
      clear hb ho80
      refine hK.out _ _ ⟨v300, v304, (by rw [ha.out]; exact putSel_upk 1 hb_ rfl rfl rfl), (grw BK288.out), (by repeat (first | (with_reducible first | exact HB.out | apply below_alloc | apply pw_below_drewN | apply below_drew1 | refine below_set ?_ GE288.out) | exact HB.out)), fun _ => (by (with_reducible repeat (first | apply Kd.R_alloc | apply Kd.R_drewN | apply Kd.R_drew)); exact HO301.out), z_HO305⟩
     refine steps_cons ?_ ?_
     ·rintro b a w' ⟨v300, v304, ha, Q_BK288, Q_HB, Q_HO301, Q_HO305⟩ hb_ hon hoff
      refine ⟨_, rfl, fun K hK => ?_⟩
      have e61 : a.tmps[61]? = some (.agg #[.slice A2_0 l2_0.length c2_0, .int .i64 a2_1, .int .i64 a2_2, .int .i64 a2_3, .int .i64 a2_4, .slice A2_5 l2_5.length c2_5]) := by rw [ha]; exact putSel_on (e := (0, 61, .agg #[.slice A2_0 l2_0.length c2_0, .int .i64 a2_1, .int .i64 a2_2, .int .i64 a2_3, .int .i64 a2_4, .slice A2_5 l2_5.length c2_5])) 0 rfl rfl (hon 0 (by kernel_rfl)) rfl
      have e62 : a.tmps[62]? = some (v300) := by rw [ha]; exact putSel_on (e := (1, 62, v300)) 1 rfl rfl (hon 1 (by kernel_rfl)) rfl
      have e63 : a.tmps[63]? = some (.slice A0 l0.length c0) := by rw [ha]; exact (putSel_off rfl).trans rfl
      have e64 : a.tmps[64]? = some (.slice A1 l1.length c1) := by rw [ha]; exact (putSel_off rfl).trans rfl
      replace ha := Aside0.mk ha
      have BK288 := Aside0.mk Q_BK288
      have HB := Aside0.mk Q_HB
      have HO301 := Aside0.mk (Q_HO301 (hon 1 (by kernel_rfl)))
      obtain ⟨Ao82, co82, eo82⟩ := Kd.R_slice HO301.out
      (first | subst eo82 | (injection eo82 with f1_ f2_ f3_; have f4_ := f1_.symm; have f5_ := f3_.symm; clear f1_ f2_ f3_; subst f4_; subst f5_))
      refine goes_ Try.func24 (by kernel_rfl) rfl #[.agg #[.slice A2_0 l2_0.length c2_0, .int .i64 a2_1, .int .i64 a2_2, .int .i64 a2_3, .int .i64 a2_4, .slice A2_5 l2_5.length c2_5], .slice Ao82 y299.length co82, .slice A0 l0.length c0, .slice A1 l1.length c1] (by rfl) rfl rfl (by first | (simp only [List.map_toArray, List.map_cons, List.map_nil, Act.eval, Array.getD_eq_getD_getElem?, Option.getD_some, e61, e62, e63, e64]; done) | (simp only [List.map_toArray, List.map_cons, List.map_nil, Act.eval, Array.getD_eq_getD_getElem?, Option.getD_some, e61, e62, e63, e64]; rfl)) ?_
      with_reducible refine (semblancelaw07_holds.calls kj3 _ _ l2_0 a2_1 a2_2 a2_3 a2_4 _ _ l2_5 _ _ y299 _ _ l0 _ _ l1 t302 _ ?side1 ?side2 ?side3 ?side4 ?side5 ?side6 ?side7 ?side8 ?side9 ?side10 A72.out).mono ?_
      (case side1 => repeat (first | exact (Kd.C_below HR2_0.out HB.out) | (with_reducible refine Kd.C_alloc ?_ _) | (with_reducible refine Kd.C_drewN ?_ _) | (with_reducible refine Kd.C_drew ?_)))
      (case side2 => exact HC2_0.out)
      (case side3 => repeat (first | exact (Kd.C_below HR2_5.out HB.out) | (with_reducible refine Kd.C_alloc ?_ _) | (with_reducible refine Kd.C_drewN ?_ _) | (with_reducible refine Kd.C_drew ?_)))
      (case side4 => exact HC2_5.out)
      (case side5 => repeat (first | exact (Kd.R_reads' HO301.out).2.2 | (with_reducible refine Kd.C_alloc ?_ _) | (with_reducible refine Kd.C_drewN ?_ _) | (with_reducible refine Kd.C_drew ?_)))
      (case side6 => exact (Kd.R_reads' HO301.out).2.1)
      (case side7 => repeat (first | exact (Kd.C_below HR0.out HB.out) | (with_reducible refine Kd.C_alloc ?_ _) | (with_reducible refine Kd.C_drewN ?_ _) | (with_reducible refine Kd.C_drew ?_)))
      (case side8 => exact HC0.out)
      (case side9 => repeat (first | exact (Kd.C_below HR1.out HB.out) | (with_reducible refine Kd.C_alloc ?_ _) | (with_reducible refine Kd.C_drewN ?_ _) | (with_reducible refine Kd.C_drew ?_)))
      (case side10 => exact HC1.out)
      rintro e w83 ⟨rfl, hb⟩
      refine ⟨_, rfl, ?_⟩
      have n0_ := Aside0.mk (Kd.R_below (by (with_reducible repeat (first | apply Kd.R_alloc | apply Kd.R_drewN | apply Kd.R_drew)); exact HO301.out) hb)
      have n1_ := Aside0.mk (blk_below (grw BK288.out) hb)
      have n2_ := Aside0.mk (below_step (by repeat (first | (with_reducible first | exact HB.out | apply below_alloc | apply pw_below_drewN | apply below_drew1 | refine below_set ?_ GE288.out) | exact HB.out)) hb)
      have z_HO305 := fun (h0_ : b 6 = true) => (show Kd.R (Kd.int .i64) 3 w83 w.heap.size (fun _ => True) v304 y303 from by first | exact (Kd.R_below (by (with_reducible repeat (first | apply Kd.R_alloc | apply Kd.R_drewN | apply Kd.R_drew)); exact (Q_HO305 h0_)) hb) | exact Kd.R_mono (Kd.R_below (by (with_reducible repeat (first | apply Kd.R_alloc | apply Kd.R_drewN | apply Kd.R_drew)); exact (Q_HO305 h0_)) hb) (fun _ h_ => by first | trivial | exact h_ | exact h_.1))
      clear HO301
      clear BK288
      clear HB
      have HO301 := n0_
      have BK288 := n1_
      have HB := n2_
      clear n0_ n1_ n2_
      (try clear hb)
      (try clear hb2)
      (try clear hk)
      (try clear hi)
      refine hK.out _ _ ⟨.slice Ao82 y299.length co82, v304, (by rw [ha.out]; exact putSel_upk 2 hb_ rfl rfl rfl), (grw BK288.out), (by repeat (first | (with_reducible first | exact HB.out | apply below_alloc | apply pw_below_drewN | apply below_drew1 | refine below_set ?_ GE288.out) | exact HB.out)), fun _ => (by (with_reducible repeat (first | apply Kd.R_alloc | apply Kd.R_drewN | apply Kd.R_drew)); exact HO301.out), z_HO305⟩
     refine steps_cons ?_ ?_
     ·rintro b a w' ⟨v300, v304, ha, Q_BK288, Q_HB, Q_HO301, Q_HO305⟩ hb_ hon hoff
      refine ⟨_, rfl, fun K hK => ?_⟩
      have e5 : a.tmps[5]? = some (.pointer (some ⟨gb288, 0, none⟩)) := by rw [ha]; exact (putSel_off rfl).trans rfl
      replace ha := Aside0.mk ha
      have BK288 := Aside0.mk Q_BK288
      have HB := Aside0.mk Q_HB
      have hc0_ : w'.cell? ⟨gb288, 0, none⟩ = some (.slice A2_0 l2_0.length c2_0) := (blk_cell BK288.out 0).trans rfl
      have hc1_ : w'.cell? ⟨gb288, 1, none⟩ = some (.int .i64 a2_1) := (blk_cell BK288.out 1).trans rfl
      have hc2_ : w'.cell? ⟨gb288, 2, none⟩ = some (.int .i64 a2_2) := (blk_cell BK288.out 2).trans rfl
      have hc3_ : w'.cell? ⟨gb288, 3, none⟩ = some (.int .i64 a2_3) := (blk_cell BK288.out 3).trans rfl
      have hc4_ : w'.cell? ⟨gb288, 4, none⟩ = some (.int .i64 a2_4) := (blk_cell BK288.out 4).trans rfl
      have hc5_ : w'.cell? ⟨gb288, 5, none⟩ = some (.slice A2_5 l2_5.length c2_5) := (blk_cell BK288.out 5).trans rfl
      refine value_ (w1 := w') (v := .agg #[.slice A2_0 l2_0.length c2_0, .int .i64 a2_1, .int .i64 a2_2, .int .i64 a2_3, .int .i64 a2_4, .slice A2_5 l2_5.length c2_5]) (by rfl) rfl ?_ ?_
      ·go_simp
       (try simp only [i64_w])
       try rfl
      refine hK.out _ _ ⟨v300, v304, (by rw [ha.out]; exact putSel_upk 3 hb_ rfl rfl rfl), Q_BK288, Q_HB, Q_HO301, Q_HO305⟩
     refine steps_cons ?_ ?_
     ·rintro b a w' ⟨v300, v304, ha, Q_BK288, Q_HB, Q_HO301, Q_HO305⟩ hb_ hon hoff
      refine ⟨_, rfl, fun K hK => ?_⟩
      replace ha := Aside0.mk ha
      have BK288 := Aside0.mk Q_BK288
      have HB := Aside0.mk Q_HB
      refine Kd.R_lit_step (Kd.int .i64) _ 3 ?hg (N := 67) ?hd (xs := ([18] : List Int)) (inner := [.int .i64 18]) (ok := fun _ => True) (okp := fun _ => True) ?hr ?hp (fun _ hk => hk) trivial (Below.refl _ _) (Nat.le_refl _) (by simp) ?_; (case hd => rfl); (case hg => rfl); (case hr => first | (go_simp; done) | (go_simp; rfl)); (case hp => exact (Reps.one (show Kd.M (Kd.int .i64) _ _ _ 18 [.int .i64 18] from rfl) (Reps.none _ _)))
      intro v304 w79 ho80 hb hg_ hnew_
      clear hg_ hnew_
      (first | rw [← Ny303.out] at ho80 | (simp only [Int.reduceToNat] at ho80; rw [← Ny303.out] at ho80))
      have n0_ := Aside0.mk (Kd.R_lower ho80 (below_size (by repeat (first | (with_reducible first | exact HB.out | apply below_alloc | apply pw_below_drewN | apply below_drew1 | refine below_set ?_ GE288.out) | exact HB.out))))
      have n1_ := Aside0.mk (blk_below (grw BK288.out) hb)
      have n2_ := Aside0.mk (below_step (by repeat (first | (with_reducible first | exact HB.out | apply below_alloc | apply pw_below_drewN | apply below_drew1 | refine below_set ?_ GE288.out) | exact HB.out)) hb)
      have z_HO301 := fun (h0_ : b 1 = true) => (show Kd.R (Kd.int .i64) 3 w79 w.heap.size (fun _ => True) v300 y299 from by first | exact (Kd.R_elder' (by (with_reducible repeat (first | apply Kd.R_alloc | apply Kd.R_drewN | apply Kd.R_drew)); exact (Q_HO301 h0_)) (Kd.R_base ho80) hb) | exact Kd.R_mono (Kd.R_elder' (by (with_reducible repeat (first | apply Kd.R_alloc | apply Kd.R_drewN | apply Kd.R_drew)); exact (Q_HO301 h0_)) (Kd.R_base ho80) hb) (fun _ h_ => by first | trivial | exact h_ | exact h_.1))
      clear BK288
      clear HB
      have HO305 := n0_
      have BK288 := n1_
      have HB := n2_
      clear n0_ n1_ n2_
      clear hb ho80
      refine hK.out _ _ ⟨v300, v304, (by rw [ha.out]; exact putSel_upk 4 hb_ rfl rfl rfl), (grw BK288.out), (by repeat (first | (with_reducible first | exact HB.out | apply below_alloc | apply pw_below_drewN | apply below_drew1 | refine below_set ?_ GE288.out) | exact HB.out)), z_HO301, fun _ => (by (with_reducible repeat (first | apply Kd.R_alloc | apply Kd.R_drewN | apply Kd.R_drew)); exact HO305.out)⟩
     refine steps_cons ?_ ?_
     ·rintro b a w' ⟨v300, v304, ha, Q_BK288, Q_HB, Q_HO301, Q_HO305⟩ hb_ hon hoff
      refine ⟨_, rfl, fun K hK => ?_⟩
      have e66 : a.tmps[66]? = some (.agg #[.slice A2_0 l2_0.length c2_0, .int .i64 a2_1, .int .i64 a2_2, .int .i64 a2_3, .int .i64 a2_4, .slice A2_5 l2_5.length c2_5]) := by rw [ha]; exact putSel_on (e := (5, 66, .agg #[.slice A2_0 l2_0.length c2_0, .int .i64 a2_1, .int .i64 a2_2, .int .i64 a2_3, .int .i64 a2_4, .slice A2_5 l2_5.length c2_5])) 3 rfl rfl (hon 5 (by kernel_rfl)) rfl
      have e67 : a.tmps[67]? = some (v304) := by rw [ha]; exact putSel_on (e := (6, 67, v304)) 4 rfl rfl (hon 6 (by kernel_rfl)) rfl
      have e68 : a.tmps[68]? = some (.slice A0 l0.length c0) := by rw [ha]; exact (putSel_off rfl).trans rfl
      have e69 : a.tmps[69]? = some (.slice A1 l1.length c1) := by rw [ha]; exact (putSel_off rfl).trans rfl
      replace ha := Aside0.mk ha
      have BK288 := Aside0.mk Q_BK288
      have HB := Aside0.mk Q_HB
      have HO301 := Aside0.mk (Q_HO301 (hon 1 (by kernel_rfl)))
      have HO305 := Aside0.mk (Q_HO305 (hon 6 (by kernel_rfl)))
      obtain ⟨Ao86, co86, eo86⟩ := Kd.R_slice HO305.out
      (first | subst eo86 | (injection eo86 with f1_ f2_ f3_; have f4_ := f1_.symm; have f5_ := f3_.symm; clear f1_ f2_ f3_; subst f4_; subst f5_))
      refine goes_ Try.func24 (by kernel_rfl) rfl #[.agg #[.slice A2_0 l2_0.length c2_0, .int .i64 a2_1, .int .i64 a2_2, .int .i64 a2_3, .int .i64 a2_4, .slice A2_5 l2_5.length c2_5], .slice Ao86 y303.length co86, .slice A0 l0.length c0, .slice A1 l1.length c1] (by rfl) rfl rfl (by first | (simp only [List.map_toArray, List.map_cons, List.map_nil, Act.eval, Array.getD_eq_getD_getElem?, Option.getD_some, e66, e67, e68, e69]; done) | (simp only [List.map_toArray, List.map_cons, List.map_nil, Act.eval, Array.getD_eq_getD_getElem?, Option.getD_some, e66, e67, e68, e69]; rfl)) ?_
      with_reducible refine (semblancelaw07_holds.calls kj3 _ _ l2_0 a2_1 a2_2 a2_3 a2_4 _ _ l2_5 _ _ y303 _ _ l0 _ _ l1 t306 _ ?side1 ?side2 ?side3 ?side4 ?side5 ?side6 ?side7 ?side8 ?side9 ?side10 A73.out).mono ?_
      (case side1 => repeat (first | exact (Kd.C_below HR2_0.out HB.out) | (with_reducible refine Kd.C_alloc ?_ _) | (with_reducible refine Kd.C_drewN ?_ _) | (with_reducible refine Kd.C_drew ?_)))
      (case side2 => exact HC2_0.out)
      (case side3 => repeat (first | exact (Kd.C_below HR2_5.out HB.out) | (with_reducible refine Kd.C_alloc ?_ _) | (with_reducible refine Kd.C_drewN ?_ _) | (with_reducible refine Kd.C_drew ?_)))
      (case side4 => exact HC2_5.out)
      (case side5 => repeat (first | exact (Kd.R_reads' HO305.out).2.2 | (with_reducible refine Kd.C_alloc ?_ _) | (with_reducible refine Kd.C_drewN ?_ _) | (with_reducible refine Kd.C_drew ?_)))
      (case side6 => exact (Kd.R_reads' HO305.out).2.1)
      (case side7 => repeat (first | exact (Kd.C_below HR0.out HB.out) | (with_reducible refine Kd.C_alloc ?_ _) | (with_reducible refine Kd.C_drewN ?_ _) | (with_reducible refine Kd.C_drew ?_)))
      (case side8 => exact HC0.out)
      (case side9 => repeat (first | exact (Kd.C_below HR1.out HB.out) | (with_reducible refine Kd.C_alloc ?_ _) | (with_reducible refine Kd.C_drewN ?_ _) | (with_reducible refine Kd.C_drew ?_)))
      (case side10 => exact HC1.out)
      rintro e w87 ⟨rfl, hb⟩
      refine ⟨_, rfl, ?_⟩
      have n0_ := Aside0.mk (Kd.R_below (by (with_reducible repeat (first | apply Kd.R_alloc | apply Kd.R_drewN | apply Kd.R_drew)); exact HO301.out) hb)
      have n1_ := Aside0.mk (Kd.R_below (by (with_reducible repeat (first | apply Kd.R_alloc | apply Kd.R_drewN | apply Kd.R_drew)); exact HO305.out) hb)
      have n2_ := Aside0.mk (blk_below (grw BK288.out) hb)
      have n3_ := Aside0.mk (below_step (by repeat (first | (with_reducible first | exact HB.out | apply below_alloc | apply pw_below_drewN | apply below_drew1 | refine below_set ?_ GE288.out) | exact HB.out)) hb)
      clear HO301
      clear HO305
      clear BK288
      clear HB
      have HO301 := n0_
      have HO305 := n1_
      have BK288 := n2_
      have HB := n3_
      clear n0_ n1_ n2_ n3_
      (try clear hb)
      (try clear hb2)
      (try clear hk)
      (try clear hi)
      refine hK.out _ _ ⟨v300, .slice Ao86 y303.length co86, (by rw [ha.out]; exact putSel_upk 5 hb_ rfl rfl rfl), (grw BK288.out), (by repeat (first | (with_reducible first | exact HB.out | apply below_alloc | apply pw_below_drewN | apply below_drew1 | refine below_set ?_ GE288.out) | exact HB.out)), fun _ => (by (with_reducible repeat (first | apply Kd.R_alloc | apply Kd.R_drewN | apply Kd.R_drew)); exact HO301.out), fun _ => (by (with_reducible repeat (first | apply Kd.R_alloc | apply Kd.R_drewN | apply Kd.R_drew)); exact HO305.out)⟩
     refine steps_cons ?_ ?_
     ·rintro b a w' ⟨v300, v304, ha, Q_BK288, Q_HB, Q_HO301, Q_HO305⟩ hb_ hon hoff
      refine ⟨_, rfl, fun K hK => ?_⟩
      have e65 : a.tmps[65]? = some (.bool t302) := by rw [ha]; exact putSel_on (e := (4, 65, .bool t302)) 2 rfl rfl (hon 4 (by kernel_rfl)) rfl
      have e70 : a.tmps[70]? = some (.bool t306) := by rw [ha]; exact putSel_on (e := (9, 70, .bool t306)) 5 rfl rfl (hon 9 (by kernel_rfl)) rfl
      replace ha := Aside0.mk ha
      have BK288 := Aside0.mk Q_BK288
      have HB := Aside0.mk Q_HB
      have HO301 := Aside0.mk (Q_HO301 (hon 1 (by kernel_rfl)))
      have HO305 := Aside0.mk (Q_HO305 (hon 6 (by kernel_rfl)))
      refine value_ (w1 := w') (v := .bool true) (by rfl) rfl ?_ ?_
      ·go_simp
       (try simp only [i64_w])
       try rfl
      refine hK.out _ _ ⟨v300, v304, (by rw [ha.out]; exact putSel_upk 6 hb_ rfl rfl rfl), Q_BK288, Q_HB, Q_HO301, Q_HO305⟩
     refine steps_cons ?_ ?_
     ·rintro b a w' ⟨v300, v304, ha, Q_BK288, Q_HB, Q_HO301, Q_HO305⟩ hb_ hon hoff
      refine ⟨_, rfl, fun K hK => ?_⟩
      have e71 : a.tmps[71]? = some (.bool true) := by rw [ha]; exact putSel_on (e := (10, 71, .bool true)) 6 rfl rfl (hon 10 (by kernel_rfl)) rfl
      replace ha := Aside0.mk ha
      have BK288 := Aside0.mk Q_BK288
      have HB := Aside0.mk Q_HB
      have HO301 := Aside0.mk (Q_HO301 (hon 1 (by kernel_rfl)))
      have HO305 := Aside0.mk (Q_HO305 (hon 6 (by kernel_rfl)))
      refine value_ (w1 := w') (v := .bool true) (by rfl) rfl ?_ ?_
      ·go_simp
       (try simp only [i64_w])
       try rfl
      refine hK.out _ _ ⟨v300, v304, (by rw [ha.out]; exact putSel_upk 7 hb_ rfl rfl rfl), Q_BK288, Q_HB, Q_HO301, Q_HO305⟩
     refine steps_cons ?_ ?_
     ·rintro b a w' ⟨v300, v304, ha, Q_BK288, Q_HB, Q_HO301, Q_HO305⟩ hb_ hon hoff
      refine ⟨_, rfl, fun K hK => ?_⟩
      have e72 : a.tmps[72]? = some (.bool true) := by rw [ha]; exact putSel_on (e := (11, 72, .bool true)) 7 rfl rfl (hon 11 (by kernel_rfl)) rfl
      replace ha := Aside0.mk ha
      have BK288 := Aside0.mk Q_BK288
      have HB := Aside0.mk Q_HB
      have HO301 := Aside0.mk (Q_HO301 (hon 1 (by kernel_rfl)))
      have HO305 := Aside0.mk (Q_HO305 (hon 6 (by kernel_rfl)))
      refine goes_ Try.func15 (by kernel_rfl) rfl #[] (wanted_on rfl rfl rfl e72) rfl rfl (by first | (simp only [List.map_toArray, List.map_cons, List.map_nil, Act.eval, Array.getD_eq_getD_getElem?, Option.getD_some, e72]; done) | (simp only [List.map_toArray, List.map_cons, List.map_nil, Act.eval, Array.getD_eq_getD_getElem?, Option.getD_some, e72]; rfl)) ?_
      with_reducible refine (semblancelaw07_awake.calls kj3  t307 _ A75.out).mono ?_
      rintro e w88 ⟨rfl, hb⟩
      refine ⟨_, rfl, ?_⟩
      have n0_ := Aside0.mk (Kd.R_below (by (with_reducible repeat (first | apply Kd.R_alloc | apply Kd.R_drewN | apply Kd.R_drew)); exact HO301.out) hb)
      have n1_ := Aside0.mk (Kd.R_below (by (with_reducible repeat (first | apply Kd.R_alloc | apply Kd.R_drewN | apply Kd.R_drew)); exact HO305.out) hb)
      have n2_ := Aside0.mk (blk_below (grw BK288.out) hb)
      have n3_ := Aside0.mk (below_step (by repeat (first | (with_reducible first | exact HB.out | apply below_alloc | apply pw_below_drewN | apply below_drew1 | refine below_set ?_ GE288.out) | exact HB.out)) hb)
      clear HO301
      clear HO305
      clear BK288
      clear HB
      have HO301 := n0_
      have HO305 := n1_
      have BK288 := n2_
      have HB := n3_
      clear n0_ n1_ n2_ n3_
      (try clear hb)
      (try clear hb2)
      (try clear hk)
      (try clear hi)
      refine hK.out _ _ ⟨v300, v304, (by rw [ha.out]; exact putSel_upk 8 hb_ rfl rfl rfl), (grw BK288.out), (by repeat (first | (with_reducible first | exact HB.out | apply below_alloc | apply pw_below_drewN | apply below_drew1 | refine below_set ?_ GE288.out) | exact HB.out)), fun _ => (by (with_reducible repeat (first | apply Kd.R_alloc | apply Kd.R_drewN | apply Kd.R_drew)); exact HO301.out), fun _ => (by (with_reducible repeat (first | apply Kd.R_alloc | apply Kd.R_drewN | apply Kd.R_drew)); exact HO305.out)⟩
     refine steps_cons ?_ ?_
     ·rintro b a w' ⟨v300, v304, ha, Q_BK288, Q_HB, Q_HO301, Q_HO305⟩ hb_ hon hoff
      refine ⟨_, rfl, fun K hK => ?_⟩
      have e72 : a.tmps[72]? = some (.bool true) := by rw [ha]; exact putSel_on (e := (11, 72, .bool true)) 7 rfl rfl (hon 11 (by kernel_rfl)) rfl
      have e73 : a.tmps[73]? = some (.bool t307) := by rw [ha]; exact putSel_on (e := (12, 73, .bool t307)) 8 rfl rfl (hon 12 (by kernel_rfl)) rfl
      replace ha := Aside0.mk ha
      have BK288 := Aside0.mk Q_BK288
      have HB := Aside0.mk Q_HB
      have HO301 := Aside0.mk (Q_HO301 (hon 1 (by kernel_rfl)))
      have HO305 := Aside0.mk (Q_HO305 (hon 6 (by kernel_rfl)))
      refine value_ (w1 := w') (v := .bool t307) (by rfl) rfl ?_ ?_
      ·go_simp
       (try simp only [i64_w])
       try rfl
      refine hK.out _ _ ⟨v300, v304, (by rw [ha.out]; exact putSel_upk 9 hb_ rfl rfl rfl), Q_BK288, Q_HB, Q_HO301, Q_HO305⟩
     refine steps_cons ?_ ?_
     ·rintro b a w' ⟨v300, v304, ha, Q_BK288, Q_HB, Q_HO301, Q_HO305⟩ hb_ hon hoff
      refine ⟨_, rfl, fun K hK => ?_⟩
      have e74 : a.tmps[74]? = some (.bool t307) := by rw [ha]; exact putSel_on (e := (13, 74, .bool t307)) 9 rfl rfl (hon 13 (by kernel_rfl)) rfl
      replace ha := Aside0.mk ha
      have BK288 := Aside0.mk Q_BK288
      have HB := Aside0.mk Q_HB
      have HO301 := Aside0.mk (Q_HO301 (hon 1 (by kernel_rfl)))
      have HO305 := Aside0.mk (Q_HO305 (hon 6 (by kernel_rfl)))
      refine value_ (w1 := w') (v := .bool t307) (by rfl) rfl ?_ ?_
      ·go_simp
       (try simp only [i64_w])
       try rfl
      refine hK.out _ _ ⟨v300, v304, (by rw [ha.out]; exact putSel_upk 10 hb_ rfl rfl rfl), Q_BK288, Q_HB, Q_HO301, Q_HO305⟩
     exact steps_nil
    rintro b a w88 hall ⟨v300, v304, ha, Q_BK288, Q_HB, Q_HO301, Q_HO305⟩
    clear BK288 HB
    have hb0_ := hall 0 (by kernel_rfl)
    have hb1_ := hall 1 (by kernel_rfl)
    have hb4_ := hall 4 (by kernel_rfl)
    have hb5_ := hall 5 (by kernel_rfl)
    have hb6_ := hall 6 (by kernel_rfl)
    have hb9_ := hall 9 (by kernel_rfl)
    have hb10_ := hall 10 (by kernel_rfl)
    have hb11_ := hall 11 (by kernel_rfl)
    have hb12_ := hall 12 (by kernel_rfl)
    have hb13_ := hall 13 (by kernel_rfl)
    have hb14_ := hall 14 (by kernel_rfl)
    subst ha
    simp only [putSel, hb0_, hb1_, hb4_, hb5_, hb6_, hb9_, hb10_, hb11_, hb12_, hb13_, hb14_, if_true, Act.put, sb_, s0_, s1_]
    have BK288 := Aside0.mk Q_BK288
    clear Q_BK288
    have HB := Aside0.mk Q_HB
    clear Q_HB
    have HO301 := Aside0.mk (Q_HO301 hb1_)
    clear Q_HO301
    have HO305 := Aside0.mk (Q_HO305 hb6_)
    clear Q_HO305
    clear hall hb0_ hb1_ hb4_ hb5_ hb6_ hb9_ hb10_ hb11_ hb12_ hb13_ hb14_
    try go_wp2
    go_ret
    exact ⟨by first | rfl | (simp [errW_none, errW_some] <;> rfl) | (simp [*, errW_none, errW_some] <;> rfl), by repeat (first | (with_reducible first | exact HB.out | apply below_alloc | apply pw_below_drewN | apply below_drew1 | refine below_set ?_ GE288.out) | exact HB.out)⟩
   rw [if_neg c71] at H
   have c71b0 : (t296 == 1) = false := beq_eq_false_iff_ne.mpr c71
   have c71b1 : (t296 != 1) = true := bne_iff_ne.mpr c71
   obtain ⟨y308, hy308⟩ : ∃ y_ : List (S47), y_ = (([(⟨12, 0, (⟨#[]⟩ : ByteArray)⟩ : S47)] : List (S47))) := ⟨_, rfl⟩
   replace H : ((some (([] : List (S47)) : List (S47))).bind fun y311 => (if y311.length + y308.length < 4398046511104 then ((some (y311 ++ y308 : List (S47))).bind fun y314 => (if y314.length + l0.length < 4398046511104 then ((some (([] : List (S47)) : List (S47))).bind fun y320 => (if y320.length + y308.length < 4398046511104 then ((some (y320 ++ y308 : List (S47))).bind fun y323 => (if y323.length + l1.length < 4398046511104 then ((semblancelaw07_holds.f kj3 l2_0 a2_1 a2_2 a2_3 a2_4 l2_5 (([12, 19] : List Int)) l0 l1).bind fun t332 => ((semblancelaw07_holds.f kj3 l2_0 a2_1 a2_2 a2_3 a2_4 l2_5 (([20] : List Int)) (y314 ++ l0) (y323 ++ l1)).bind fun t336 => (if (t332 == t336) = true then ((semblancelaw07_holds.f kj3 l2_0 a2_1 a2_2 a2_3 a2_4 l2_5 (([12, 12] : List Int)) l0 ([] : List (S47))).bind fun t340 => ((eval_Holds.f kj3 l0 l2_0 a2_1 a2_2 a2_3 a2_4 l2_5).bind fun t341 => (if (t340 == t341) = true then ((semblancelaw07_awake.f kj3).bind fun t342 => (some t342)) else (some false)))) else (some false)))) else (none))) else (none))) else (none))) else (none))) = some r := by first | (rw [hy308]; with_reducible exact H) | (have H2_ := (Option.bind_some _ _).symm.trans H; rw [hy308]; with_reducible exact H2_) | (have H2_ := (Option.bind_some _ _).symm.trans H; with_reducible exact H2_) | with_reducible exact H | (rw [hy308]; exact H) | exact H
   have Ny308 := Aside0.mk hy308
   clear hy308
   obtain ⟨y311, hy311⟩ : ∃ y_ : List (S47), y_ = (([] : List (S47))) := ⟨_, rfl⟩
   replace H : (if y311.length + y308.length < 4398046511104 then ((some (y311 ++ y308 : List (S47))).bind fun y314 => (if y314.length + l0.length < 4398046511104 then ((some (([] : List (S47)) : List (S47))).bind fun y320 => (if y320.length + y308.length < 4398046511104 then ((some (y320 ++ y308 : List (S47))).bind fun y323 => (if y323.length + l1.length < 4398046511104 then ((semblancelaw07_holds.f kj3 l2_0 a2_1 a2_2 a2_3 a2_4 l2_5 (([12, 19] : List Int)) l0 l1).bind fun t332 => ((semblancelaw07_holds.f kj3 l2_0 a2_1 a2_2 a2_3 a2_4 l2_5 (([20] : List Int)) (y314 ++ l0) (y323 ++ l1)).bind fun t336 => (if (t332 == t336) = true then ((semblancelaw07_holds.f kj3 l2_0 a2_1 a2_2 a2_3 a2_4 l2_5 (([12, 12] : List Int)) l0 ([] : List (S47))).bind fun t340 => ((eval_Holds.f kj3 l0 l2_0 a2_1 a2_2 a2_3 a2_4 l2_5).bind fun t341 => (if (t340 == t341) = true then ((semblancelaw07_awake.f kj3).bind fun t342 => (some t342)) else (some false)))) else (some false)))) else (none))) else (none))) else (none))) else (none)) = some r := by first | (rw [hy311]; with_reducible exact H) | (have H2_ := (Option.bind_some _ _).symm.trans H; rw [hy311]; with_reducible exact H2_) | (have H2_ := (Option.bind_some _ _).symm.trans H; with_reducible exact H2_) | with_reducible exact H | (rw [hy311]; exact H) | exact H
   have Ny311 := Aside0.mk hy311
   clear hy311
   by_cases c101 : y311.length + y308.length < 4398046511104
   rotate_left
   ·rw [if_neg c101] at H
    exact absurd H (by simp)
   rw [if_pos c101] at H
   have LMc101 := Aside0.mk c101
   clear c101
   obtain ⟨y314, hy314⟩ : ∃ y_ : List (S47), y_ = (y311 ++ y308) := ⟨_, rfl⟩
   replace H : (if y314.length + l0.length < 4398046511104 then ((some (([] : List (S47)) : List (S47))).bind fun y320 => (if y320.length + y308.length < 4398046511104 then ((some (y320 ++ y308 : List (S47))).bind fun y323 => (if y323.length + l1.length < 4398046511104 then ((semblancelaw07_holds.f kj3 l2_0 a2_1 a2_2 a2_3 a2_4 l2_5 (([12, 19] : List Int)) l0 l1).bind fun t332 => ((semblancelaw07_holds.f kj3 l2_0 a2_1 a2_2 a2_3 a2_4 l2_5 (([20] : List Int)) (y314 ++ l0) (y323 ++ l1)).bind fun t336 => (if (t332 == t336) = true then ((semblancelaw07_holds.f kj3 l2_0 a2_1 a2_2 a2_3 a2_4 l2_5 (([12, 12] : List Int)) l0 ([] : List (S47))).bind fun t340 => ((eval_Holds.f kj3 l0 l2_0 a2_1 a2_2 a2_3 a2_4 l2_5).bind fun t341 => (if (t340 == t341) = true then ((semblancelaw07_awake.f kj3).bind fun t342 => (some t342)) else (some false)))) else (some false)))) else (none))) else (none))) else (none)) = some r := by first | (rw [hy314]; with_reducible exact H) | (have H2_ := (Option.bind_some _ _).symm.trans H; rw [hy314]; with_reducible exact H2_) | (have H2_ := (Option.bind_some _ _).symm.trans H; with_reducible exact H2_) | with_reducible exact H | (rw [hy314]; exact H) | exact H
   have Ny314 := Aside0.mk hy314
   clear hy314
   by_cases c102 : y314.length + l0.length < 4398046511104
   rotate_left
   ·rw [if_neg c102] at H
    exact absurd H (by simp)
   rw [if_pos c102] at H
   have LMc102 := Aside0.mk c102
   clear c102
   obtain ⟨y317, hy317⟩ : ∃ y_ : List (S47), y_ = (y314 ++ l0) := ⟨_, rfl⟩
   replace H : ((some (([] : List (S47)) : List (S47))).bind fun y320 => (if y320.length + y308.length < 4398046511104 then ((some (y320 ++ y308 : List (S47))).bind fun y323 => (if y323.length + l1.length < 4398046511104 then ((semblancelaw07_holds.f kj3 l2_0 a2_1 a2_2 a2_3 a2_4 l2_5 (([12, 19] : List Int)) l0 l1).bind fun t332 => ((semblancelaw07_holds.f kj3 l2_0 a2_1 a2_2 a2_3 a2_4 l2_5 (([20] : List Int)) y317 (y323 ++ l1)).bind fun t336 => (if (t332 == t336) = true then ((semblancelaw07_holds.f kj3 l2_0 a2_1 a2_2 a2_3 a2_4 l2_5 (([12, 12] : List Int)) l0 ([] : List (S47))).bind fun t340 => ((eval_Holds.f kj3 l0 l2_0 a2_1 a2_2 a2_3 a2_4 l2_5).bind fun t341 => (if (t340 == t341) = true then ((semblancelaw07_awake.f kj3).bind fun t342 => (some t342)) else (some false)))) else (some false)))) else (none))) else (none))) = some r := by first | (rw [hy317]; with_reducible exact H) | (have H2_ := (Option.bind_some _ _).symm.trans H; rw [hy317]; with_reducible exact H2_) | (have H2_ := (Option.bind_some _ _).symm.trans H; with_reducible exact H2_) | with_reducible exact H | (rw [hy317]; exact H) | exact H
   have Ny317 := Aside0.mk hy317
   clear hy317
   obtain ⟨y320, hy320⟩ : ∃ y_ : List (S47), y_ = (([] : List (S47))) := ⟨_, rfl⟩
   replace H : (if y320.length + y308.length < 4398046511104 then ((some (y320 ++ y308 : List (S47))).bind fun y323 => (if y323.length + l1.length < 4398046511104 then ((semblancelaw07_holds.f kj3 l2_0 a2_1 a2_2 a2_3 a2_4 l2_5 (([12, 19] : List Int)) l0 l1).bind fun t332 => ((semblancelaw07_holds.f kj3 l2_0 a2_1 a2_2 a2_3 a2_4 l2_5 (([20] : List Int)) y317 (y323 ++ l1)).bind fun t336 => (if (t332 == t336) = true then ((semblancelaw07_holds.f kj3 l2_0 a2_1 a2_2 a2_3 a2_4 l2_5 (([12, 12] : List Int)) l0 ([] : List (S47))).bind fun t340 => ((eval_Holds.f kj3 l0 l2_0 a2_1 a2_2 a2_3 a2_4 l2_5).bind fun t341 => (if (t340 == t341) = true then ((semblancelaw07_awake.f kj3).bind fun t342 => (some t342)) else (some false)))) else (some false)))) else (none))) else (none)) = some r := by first | (rw [hy320]; with_reducible exact H) | (have H2_ := (Option.bind_some _ _).symm.trans H; rw [hy320]; with_reducible exact H2_) | (have H2_ := (Option.bind_some _ _).symm.trans H; with_reducible exact H2_) | with_reducible exact H | (rw [hy320]; exact H) | exact H
   have Ny320 := Aside0.mk hy320
   clear hy320
   by_cases c103 : y320.length + y308.length < 4398046511104
   rotate_left
   ·rw [if_neg c103] at H
    exact absurd H (by simp)
   rw [if_pos c103] at H
   have LMc103 := Aside0.mk c103
   clear c103
   obtain ⟨y323, hy323⟩ : ∃ y_ : List (S47), y_ = (y320 ++ y308) := ⟨_, rfl⟩
   replace H : (if y323.length + l1.length < 4398046511104 then ((semblancelaw07_holds.f kj3 l2_0 a2_1 a2_2 a2_3 a2_4 l2_5 (([12, 19] : List Int)) l0 l1).bind fun t332 => ((semblancelaw07_holds.f kj3 l2_0 a2_1 a2_2 a2_3 a2_4 l2_5 (([20] : List Int)) y317 (y323 ++ l1)).bind fun t336 => (if (t332 == t336) = true then ((semblancelaw07_holds.f kj3 l2_0 a2_1 a2_2 a2_3 a2_4 l2_5 (([12, 12] : List Int)) l0 ([] : List (S47))).bind fun t340 => ((eval_Holds.f kj3 l0 l2_0 a2_1 a2_2 a2_3 a2_4 l2_5).bind fun t341 => (if (t340 == t341) = true then ((semblancelaw07_awake.f kj3).bind fun t342 => (some t342)) else (some false)))) else (some false)))) else (none)) = some r := by first | (rw [hy323]; with_reducible exact H) | (have H2_ := (Option.bind_some _ _).symm.trans H; rw [hy323]; with_reducible exact H2_) | (have H2_ := (Option.bind_some _ _).symm.trans H; with_reducible exact H2_) | with_reducible exact H | (rw [hy323]; exact H) | exact H
   have Ny323 := Aside0.mk hy323
   clear hy323
   by_cases c104 : y323.length + l1.length < 4398046511104
   rotate_left
   ·rw [if_neg c104] at H
    exact absurd H (by simp)
   rw [if_pos c104] at H
   have LMc104 := Aside0.mk c104
   clear c104
   obtain ⟨y326, hy326⟩ : ∃ y_ : List (S47), y_ = (y323 ++ l1) := ⟨_, rfl⟩
   replace H : ((semblancelaw07_holds.f kj3 l2_0 a2_1 a2_2 a2_3 a2_4 l2_5 (([12, 19] : List Int)) l0 l1).bind fun t332 => ((semblancelaw07_holds.f kj3 l2_0 a2_1 a2_2 a2_3 a2_4 l2_5 (([20] : List Int)) y317 y326).bind fun t336 => (if (t332 == t336) = true then ((semblancelaw07_holds.f kj3 l2_0 a2_1 a2_2 a2_3 a2_4 l2_5 (([12, 12] : List Int)) l0 ([] : List (S47))).bind fun t340 => ((eval_Holds.f kj3 l0 l2_0 a2_1 a2_2 a2_3 a2_4 l2_5).bind fun t341 => (if (t340 == t341) = true then ((semblancelaw07_awake.f kj3).bind fun t342 => (some t342)) else (some false)))) else (some false)))) = some r := by first | (rw [hy326]; with_reducible exact H) | (have H2_ := (Option.bind_some _ _).symm.trans H; rw [hy326]; with_reducible exact H2_) | (have H2_ := (Option.bind_some _ _).symm.trans H; with_reducible exact H2_) | with_reducible exact H | (rw [hy326]; exact H) | exact H
   have Ny326 := Aside0.mk hy326
   clear hy326
   obtain ⟨y329, hy329⟩ : ∃ y_ : List Int, y_ = (([12, 19] : List Int)) := ⟨_, rfl⟩
   replace H : ((semblancelaw07_holds.f kj3 l2_0 a2_1 a2_2 a2_3 a2_4 l2_5 y329 l0 l1).bind fun t332 => ((semblancelaw07_holds.f kj3 l2_0 a2_1 a2_2 a2_3 a2_4 l2_5 (([20] : List Int)) y317 y326).bind fun t336 => (if (t332 == t336) = true then ((semblancelaw07_holds.f kj3 l2_0 a2_1 a2_2 a2_3 a2_4 l2_5 (([12, 12] : List Int)) l0 ([] : List (S47))).bind fun t340 => ((eval_Holds.f kj3 l0 l2_0 a2_1 a2_2 a2_3 a2_4 l2_5).bind fun t341 => (if (t340 == t341) = true then ((semblancelaw07_awake.f kj3).bind fun t342 => (some t342)) else (some false)))) else (some false)))) = some r := by first | (rw [hy329]; with_reducible exact H) | (have H2_ := (Option.bind_some _ _).symm.trans H; rw [hy329]; with_reducible exact H2_) | (have H2_ := (Option.bind_some _ _).symm.trans H; with_reducible exact H2_) | with_reducible exact H | (rw [hy329]; exact H) | exact H
   have Ny329 := Aside0.mk hy329
   clear hy329
   replace H := Option.bind_eq_some_iff.mp H
   obtain ⟨t332, A1050, H⟩ := H
   replace H : ((semblancelaw07_holds.f kj3 l2_0 a2_1 a2_2 a2_3 a2_4 l2_5 (([20] : List Int)) y317 y326).bind fun t336 => (if (t332 == t336) = true then ((semblancelaw07_holds.f kj3 l2_0 a2_1 a2_2 a2_3 a2_4 l2_5 (([12, 12] : List Int)) l0 ([] : List (S47))).bind fun t340 => ((eval_Holds.f kj3 l0 l2_0 a2_1 a2_2 a2_3 a2_4 l2_5).bind fun t341 => (if (t340 == t341) = true then ((semblancelaw07_awake.f kj3).bind fun t342 => (some t342)) else (some false)))) else (some false))) = some r := H
   have A105 := Aside0.mk A1050
   clear A1050
   obtain ⟨y333, hy333⟩ : ∃ y_ : List Int, y_ = (([20] : List Int)) := ⟨_, rfl⟩
   replace H : ((semblancelaw07_holds.f kj3 l2_0 a2_1 a2_2 a2_3 a2_4 l2_5 y333 y317 y326).bind fun t336 => (if (t332 == t336) = true then ((semblancelaw07_holds.f kj3 l2_0 a2_1 a2_2 a2_3 a2_4 l2_5 (([12, 12] : List Int)) l0 ([] : List (S47))).bind fun t340 => ((eval_Holds.f kj3 l0 l2_0 a2_1 a2_2 a2_3 a2_4 l2_5).bind fun t341 => (if (t340 == t341) = true then ((semblancelaw07_awake.f kj3).bind fun t342 => (some t342)) else (some false)))) else (some false))) = some r := by first | (rw [hy333]; with_reducible exact H) | (have H2_ := (Option.bind_some _ _).symm.trans H; rw [hy333]; with_reducible exact H2_) | (have H2_ := (Option.bind_some _ _).symm.trans H; with_reducible exact H2_) | with_reducible exact H | (rw [hy333]; exact H) | exact H
   have Ny333 := Aside0.mk hy333
   clear hy333
   replace H := Option.bind_eq_some_iff.mp H
   obtain ⟨t336, A1060, H⟩ := H
   replace H : (if (t332 == t336) = true then ((semblancelaw07_holds.f kj3 l2_0 a2_1 a2_2 a2_3 a2_4 l2_5 (([12, 12] : List Int)) l0 ([] : List (S47))).bind fun t340 => ((eval_Holds.f kj3 l0 l2_0 a2_1 a2_2 a2_3 a2_4 l2_5).bind fun t341 => (if (t340 == t341) = true then ((semblancelaw07_awake.f kj3).bind fun t342 => (some t342)) else (some false)))) else (some false)) = some r := H
   have A106 := Aside0.mk A1060
   clear A1060
   have HZ_ := Aside0.mk H
   clear H
   try go_wp2_with (first | ((with_reducible refine gate_callee (f := 22) rfl ?_); refine goesL_ (some 53) rfl rfl Try.func22 (by kernel_rfl) rfl #[.slice A0 l0.length c0, .int .i64 0] rfl (by (try simp only [List.map_toArray, List.map_cons, List.map_nil]); first | done | rfl | (simp only [List.length_drop, List.length_take]; rfl)) ?_; (with_reducible refine (semblanceref05_Type.calls kj3 _ _ l0 0 t296 _ ?side1 ?side2 A68.out).mono ?_); (case side1 => repeat (first | exact (Kd.C_below HR0.out HB.out) | (with_reducible refine Kd.C_alloc ?_ _) | (with_reducible refine Kd.C_drewN ?_ _) | (with_reducible refine Kd.C_drew ?_))); (case side2 => exact HC0.out); rintro e w112 ⟨rfl, hb⟩; refine ⟨_, rfl, ?_⟩; have n0_ := Aside0.mk (blk_below (grw BK288.out) hb); have n1_ := Aside0.mk (below_step (by repeat (first | (with_reducible first | exact HB.out | apply below_alloc | apply pw_below_drewN | apply below_drew1 | refine below_set ?_ GE288.out) | exact HB.out)) hb); clear BK288; clear HB; have BK288 := n0_; have HB := n1_; clear n0_ n1_; (try clear hb); (try clear hb2); (try clear hk); (try clear hi)) | ((with_reducible refine gate_callee (f := 22) rfl ?_); refine goesL_ (some 56) rfl rfl Try.func22 (by kernel_rfl) rfl #[.slice A1 l1.length c1, .int .i64 0] rfl (by (try simp only [List.map_toArray, List.map_cons, List.map_nil]); first | done | rfl | (simp only [List.length_drop, List.length_take]; rfl)) ?_; (with_reducible refine (semblanceref05_Type.calls kj3 _ _ l1 0 t297 _ ?side1 ?side2 A69.out).mono ?_); (case side1 => repeat (first | exact (Kd.C_below HR1.out HB.out) | (with_reducible refine Kd.C_alloc ?_ _) | (with_reducible refine Kd.C_drewN ?_ _) | (with_reducible refine Kd.C_drew ?_))); (case side2 => exact HC1.out); rintro e w113 ⟨rfl, hb⟩; refine ⟨_, rfl, ?_⟩; have n0_ := Aside0.mk (blk_below (grw BK288.out) hb); have n1_ := Aside0.mk (below_step (by repeat (first | (with_reducible first | exact HB.out | apply below_alloc | apply pw_below_drewN | apply below_drew1 | refine below_set ?_ GE288.out) | exact HB.out)) hb); clear BK288; clear HB; have BK288 := n0_; have HB := n1_; clear n0_ n1_; (try clear hb); (try clear hb2); (try clear hk); (try clear hi)) | ((with_reducible refine gate_dst (N := 76) rfl ?_); (try (refine gate_guard (by rfl) ?_; dsimp only)); refine Kd.R_lit k47 _ 47 ?hg (N := 76) ?hd (xs := ([(⟨12, 0, (⟨#[]⟩ : ByteArray)⟩ : S47)] : List (S47))) (inner := [.int .i64 12, .int .i64 0, .string (⟨#[]⟩ : ByteArray)]) (ok := fun _ => True) (okp := fun _ => True) ?hr ?hp (fun _ hk => hk) trivial (Below.refl _ _) (Nat.le_refl _) (by simp) ?_; (case hd => rfl); (case hg => rfl); (case hr => first | (go_simp; done) | (go_simp; rfl)); (case hp => exact (Reps.c3 (show Kd.M k47 _ _ _ (⟨12, 0, (⟨#[]⟩ : ByteArray)⟩ : S47) [.int .i64 12, .int .i64 0, .string (⟨#[]⟩ : ByteArray)] from (k47_mkM _ _ _ (⟨12, 0, (⟨#[]⟩ : ByteArray)⟩ : S47) )) (Reps.none _ _))); intro v309 w114 ho115 hb hg_ hnew_; clear hg_ hnew_; (first | rw [← Ny308.out] at ho115 | (simp only [Int.reduceToNat] at ho115; rw [← Ny308.out] at ho115)); have n0_ := Aside0.mk (Kd.R_lower ho115 (below_size (by repeat (first | (with_reducible first | exact HB.out | apply below_alloc | apply pw_below_drewN | apply below_drew1 | refine below_set ?_ GE288.out) | exact HB.out)))); have n1_ := Aside0.mk (blk_below (grw BK288.out) hb); have n2_ := Aside0.mk (below_step (by repeat (first | (with_reducible first | exact HB.out | apply below_alloc | apply pw_below_drewN | apply below_drew1 | refine below_set ?_ GE288.out) | exact HB.out)) hb); clear BK288; clear HB; have HO310 := n0_; have BK288 := n1_; have HB := n2_; clear n0_ n1_ n2_; clear hb ho115) | ((with_reducible refine gate_dst (N := 77) rfl ?_); (try (refine gate_guard (by rfl) ?_; dsimp only)); refine Kd.R_lit k47 _ 47 ?hg (N := 77) ?hd (xs := ([] : List (S47))) (inner := []) (ok := fun _ => True) (okp := fun _ => True) ?hr ?hp (fun _ hk => hk) trivial (Below.refl _ _) (Nat.le_refl _) (by simp) ?_; (case hd => rfl); (case hg => rfl); (case hr => first | (go_simp; done) | (go_simp; rfl)); (case hp => exact (Reps.none _ _)); intro v312 w116 ho117 hb hg_ hnew_; clear hg_ hnew_; (first | rw [← Ny311.out] at ho117 | (simp only [Int.reduceToNat] at ho117; rw [← Ny311.out] at ho117)); have n0_ := Aside0.mk (Kd.R_elder' (by (with_reducible repeat (first | apply Kd.R_alloc | apply Kd.R_drewN | apply Kd.R_drew)); exact HO310.out) (Kd.R_base ho117) hb); have n1_ := Aside0.mk (Kd.R_lower (Kd.R_new' ho117 (Kd.R_lt (by (with_reducible repeat (first | apply Kd.R_alloc | apply Kd.R_drewN | apply Kd.R_drew)); exact HO310.out))) (below_size (by repeat (first | (with_reducible first | exact HB.out | apply below_alloc | apply pw_below_drewN | apply below_drew1 | refine below_set ?_ GE288.out) | exact HB.out)))); have n2_ := Aside0.mk (blk_below (grw BK288.out) hb); have n3_ := Aside0.mk (below_step (by repeat (first | (with_reducible first | exact HB.out | apply below_alloc | apply pw_below_drewN | apply below_drew1 | refine below_set ?_ GE288.out) | exact HB.out)) hb); clear HO310; clear BK288; clear HB; have HO310 := n0_; have HO313 := n1_; have BK288 := n2_; have HB := n3_; clear n0_ n1_ n2_ n3_; clear hb ho117; obtain ⟨Ao119, co119, eo119⟩ := Kd.R_slice HO310.out; subst eo119) | ((with_reducible refine gate_builtin (b := .append) (xs := #[.tmp 77, .tmp 78]) rfl ?_); (try (refine gate_guard (by rfl) ?_; dsimp only)); at_builtin; refine Kd.R_append_rows k47 (w0 := w) w.heap.size rfl (.tmp 77) (.tmp 78) 33 47 (.agg #[(.int .i64 0), (.int .i64 0), (.string ⟨#[]⟩)]) 32 rfl Try.underlying33 info47 rfl (by decide) (by omega) v312 y311 y308 _ _ _ (fun k_ => some k_ ≠ (.slice Ao119 y308.length co119 : Value).ownBlock) (fun _ => False) rfl rfl ?aO ?aR (fun _ _ h => h) (fun _ h => h.elim) ?aF ?aB ?aS ?aL ?_; (case aR => repeat (first | exact (Kd.R_reads' HO310.out).2.2 | (with_reducible refine Kd.C_alloc ?_ _) | (with_reducible refine Kd.C_drewN ?_ _) | (with_reducible refine Kd.C_drew ?_))); (case aB => exact (by repeat (first | (with_reducible first | exact HB.out | apply below_alloc | apply pw_below_drewN | apply below_drew1 | refine below_set ?_ GE288.out) | exact HB.out))); (case aF => exact (fun k_ hk => Kd.fresh' (Kd.R_lt (by (with_reducible repeat (first | apply Kd.R_alloc | apply Kd.R_drewN | apply Kd.R_drew)); exact HO310.out)) k_ hk)); (case aO => exact (by (with_reducible repeat (first | apply Kd.R_alloc | apply Kd.R_drewN | apply Kd.R_drew)); exact Kd.R_mono HO313.out (fun _ hk => hk.2))); (case aS => exact (below_size (by repeat (first | (with_reducible first | exact HB.out | apply below_alloc | apply pw_below_drewN | apply below_drew1 | refine below_set ?_ GE288.out) | exact HB.out)))); (case aL => have := LMc101.out; omega); intro v315 w118 ho hb hg hat; rw [← Ny314.out] at ho; have n0_ := Aside0.mk (blk_grown (grw BK288.out) hg (Kd.R_ne HO313.out BK288.out (by decide))); have n1_ := Aside0.mk (Kd.R_after (ok := (fun _ => True)) (by (with_reducible repeat (first | apply Kd.R_alloc | apply Kd.R_drewN | apply Kd.R_drew)); exact HO310.out) hg hat); have n2_ := Aside0.mk (hb); have n3_ := Aside0.mk (ho); clear BK288; clear HO310; clear HB; clear HO313; have BK288 := n0_; have HO310 := n1_; have HB := n2_; have HO316 := n3_; clear n0_ n1_ n2_ n3_; clear ho hb hg hat) | ((with_reducible refine gate_builtin (b := .append) (xs := #[.tmp 79, .tmp 80]) rfl ?_); (try (refine gate_guard (by rfl) ?_; dsimp only)); at_builtin; refine Kd.R_append_rows k47 (w0 := w) w.heap.size rfl (.tmp 79) (.tmp 80) 33 47 (.agg #[(.int .i64 0), (.int .i64 0), (.string ⟨#[]⟩)]) 32 rfl Try.underlying33 info47 rfl (by decide) (by omega) v315 y314 l0 _ _ _ (fun k_ => some k_ ≠ (.slice Ao119 y308.length co119 : Value).ownBlock) (fun _ => False) rfl rfl ?aO ?aR (fun _ _ h => h) (fun _ h => h.elim) ?aF ?aB ?aS ?aL ?_; (case aR => repeat (first | exact (Kd.C_below HR0.out HB.out) | (with_reducible refine Kd.C_alloc ?_ _) | (with_reducible refine Kd.C_drewN ?_ _) | (with_reducible refine Kd.C_drew ?_))); (case aB => exact (by repeat (first | (with_reducible first | exact HB.out | apply below_alloc | apply pw_below_drewN | apply below_drew1 | refine below_set ?_ GE288.out) | exact HB.out))); (case aF => exact (fun k_ hk => Kd.fresh' (Kd.R_lt (by (with_reducible repeat (first | apply Kd.R_alloc | apply Kd.R_drewN | apply Kd.R_drew)); exact HO310.out)) k_ hk)); (case aO => exact (by (with_reducible repeat (first | apply Kd.R_alloc | apply Kd.R_drewN | apply Kd.R_drew)); exact HO316.out)); (case aS => exact (below_size (by repeat (first | (with_reducible first | exact HB.out | apply below_alloc | apply pw_below_drewN | apply below_drew1 | refine below_set ?_ GE288.out) | exact HB.out)))); (case aL => have := LMc102.out; omega); intro v318 w120 ho hb hg hat; rw [← Ny317.out] at ho; have n0_ := Aside0.mk (blk_grown (grw BK288.out) hg (Kd.R_ne HO316.out BK288.out (by decide))); have n1_ := Aside0.mk (Kd.R_after (ok := (fun _ => True)) (by (with_reducible repeat (first | apply Kd.R_alloc | apply Kd.R_drewN | apply Kd.R_drew)); exact HO310.out) hg hat); have n2_ := Aside0.mk (hb); have n3_ := Aside0.mk (ho); clear BK288; clear HO310; clear HB; clear HO316; have BK288 := n0_; have HO310 := n1_; have HB := n2_; have HO319 := n3_; clear n0_ n1_ n2_ n3_; clear ho hb hg hat) | ((with_reducible refine gate_dst (N := 82) rfl ?_); (try (refine gate_guard (by rfl) ?_; dsimp only)); refine Kd.R_lit k47 _ 47 ?hg (N := 82) ?hd (xs := ([] : List (S47))) (inner := []) (ok := fun _ => True) (okp := fun _ => True) ?hr ?hp (fun _ hk => hk) trivial (Below.refl _ _) (Nat.le_refl _) (by simp) ?_; (case hd => rfl); (case hg => rfl); (case hr => first | (go_simp; done) | (go_simp; rfl)); (case hp => exact (Reps.none _ _)); intro v321 w121 ho122 hb hg_ hnew_; clear hg_ hnew_; (first | rw [← Ny320.out] at ho122 | (simp only [Int.reduceToNat] at ho122; rw [← Ny320.out] at ho122)); have n0_ := Aside0.mk (Kd.R_elder' (by (with_reducible repeat (first | apply Kd.R_alloc | apply Kd.R_drewN | apply Kd.R_drew)); exact HO310.out) (Kd.R_base ho122) hb); have n1_ := Aside0.mk (Kd.R_elder' (by (with_reducible repeat (first | apply Kd.R_alloc | apply Kd.R_drewN | apply Kd.R_drew)); exact HO319.out) (Kd.R_base ho122) hb); have n2_ := Aside0.mk (Kd.R_lower (Kd.R_new' (Kd.R_new' ho122 (Kd.R_lt (by (with_reducible repeat (first | apply Kd.R_alloc | apply Kd.R_drewN | apply Kd.R_drew)); exact HO310.out))) (Kd.R_lt (by (with_reducible repeat (first | apply Kd.R_alloc | apply Kd.R_drewN | apply Kd.R_drew)); exact HO319.out))) (below_size (by repeat (first | (with_reducible first | exact HB.out | apply below_alloc | apply pw_below_drewN | apply below_drew1 | refine below_set ?_ GE288.out) | exact HB.out)))); have n3_ := Aside0.mk (blk_below (grw BK288.out) hb); have n4_ := Aside0.mk (below_step (by repeat (first | (with_reducible first | exact HB.out | apply below_alloc | apply pw_below_drewN | apply below_drew1 | refine below_set ?_ GE288.out) | exact HB.out)) hb); clear HO310; clear HO319; clear BK288; clear HB; have HO310 := n0_; have HO319 := n1_; have HO322 := n2_; have BK288 := n3_; have HB := n4_; clear n0_ n1_ n2_ n3_ n4_; clear hb ho122) | ((with_reducible refine gate_builtin (b := .append) (xs := #[.tmp 82, .tmp 83]) rfl ?_); (try (refine gate_guard (by rfl) ?_; dsimp only)); at_builtin; refine Kd.R_append_rows k47 (w0 := w) w.heap.size rfl (.tmp 82) (.tmp 83) 33 47 (.agg #[(.int .i64 0), (.int .i64 0), (.string ⟨#[]⟩)]) 32 rfl Try.underlying33 info47 rfl (by decide) (by omega) v321 y320 y308 _ _ _ (fun k_ => some k_ ≠ (.slice Ao119 y308.length co119 : Value).ownBlock ∧ some k_ ≠ (v318 : Value).ownBlock) (fun _ => False) rfl rfl ?aO ?aR (fun _ _ h => h) (fun _ h => h.elim) ?aF ?aB ?aS ?aL ?_; (case aR => repeat (first | exact (Kd.R_reads' HO310.out).2.2 | (with_reducible refine Kd.C_alloc ?_ _) | (with_reducible refine Kd.C_drewN ?_ _) | (with_reducible refine Kd.C_drew ?_))); (case aB => exact (by repeat (first | (with_reducible first | exact HB.out | apply below_alloc | apply pw_below_drewN | apply below_drew1 | refine below_set ?_ GE288.out) | exact HB.out))); (case aF => exact (fun k_ hk => ⟨Kd.fresh' (Kd.R_lt (by (with_reducible repeat (first | apply Kd.R_alloc | apply Kd.R_drewN | apply Kd.R_drew)); exact HO310.out)) k_ hk, Kd.fresh' (Kd.R_lt (by (with_reducible repeat (first | apply Kd.R_alloc | apply Kd.R_drewN | apply Kd.R_drew)); exact HO319.out)) k_ hk⟩)); (case aO => exact (by (with_reducible repeat (first | apply Kd.R_alloc | apply Kd.R_drewN | apply Kd.R_drew)); exact Kd.R_mono HO322.out (fun _ hk => ⟨hk.1.2, hk.2⟩))); (case aS => exact (below_size (by repeat (first | (with_reducible first | exact HB.out | apply below_alloc | apply pw_below_drewN | apply below_drew1 | refine below_set ?_ GE288.out) | exact HB.out)))); (case aL => have := LMc103.out; omega); intro v324 w123 ho hb hg hat; rw [← Ny323.out] at ho; have n0_ := Aside0.mk (blk_grown (grw BK288.out) hg (Kd.R_ne HO322.out BK288.out (by decide))); have n1_ := Aside0.mk (Kd.R_after (ok := (fun k_ => some k_ ≠ (v318 : Value).ownBlock)) (by (with_reducible repeat (first | apply Kd.R_alloc | apply Kd.R_drewN | apply Kd.R_drew)); exact Kd.R_mono HO310.out (fun _ hk => ⟨hk.1.2, hk.2⟩)) hg hat); have n2_ := Aside0.mk (Kd.R_after (ok := (fun k_ => some k_ ≠ (.slice Ao119 y308.length co119 : Value).ownBlock)) (by (with_reducible repeat (first | apply Kd.R_alloc | apply Kd.R_drewN | apply Kd.R_drew)); exact HO319.out) hg hat); have n3_ := Aside0.mk (hb); have n4_ := Aside0.mk (ho); clear BK288; clear HO310; clear HO319; clear HB; clear HO322; have BK288 := n0_; have HO310 := n1_; have HO319 := n2_; have HB := n3_; have HO325 := n4_; clear n0_ n1_ n2_ n3_ n4_; clear ho hb hg hat) | ((with_reducible refine gate_builtin (b := .append) (xs := #[.tmp 84, .tmp 85]) rfl ?_); (try (refine gate_guard (by rfl) ?_; dsimp only)); at_builtin; refine Kd.R_append_rows k47 (w0 := w) w.heap.size rfl (.tmp 84) (.tmp 85) 33 47 (.agg #[(.int .i64 0), (.int .i64 0), (.string ⟨#[]⟩)]) 32 rfl Try.underlying33 info47 rfl (by decide) (by omega) v324 y323 l1 _ _ _ (fun k_ => some k_ ≠ (.slice Ao119 y308.length co119 : Value).ownBlock ∧ some k_ ≠ (v318 : Value).ownBlock) (fun _ => False) rfl rfl ?aO ?aR (fun _ _ h => h) (fun _ h => h.elim) ?aF ?aB ?aS ?aL ?_; (case aR => repeat (first | exact (Kd.C_below HR1.out HB.out) | (with_reducible refine Kd.C_alloc ?_ _) | (with_reducible refine Kd.C_drewN ?_ _) | (with_reducible refine Kd.C_drew ?_))); (case aB => exact (by repeat (first | (with_reducible first | exact HB.out | apply below_alloc | apply pw_below_drewN | apply below_drew1 | refine below_set ?_ GE288.out) | exact HB.out))); (case aF => exact (fun k_ hk => ⟨Kd.fresh' (Kd.R_lt (by (with_reducible repeat (first | apply Kd.R_alloc | apply Kd.R_drewN | apply Kd.R_drew)); exact HO310.out)) k_ hk, Kd.fresh' (Kd.R_lt (by (with_reducible repeat (first | apply Kd.R_alloc | apply Kd.R_drewN | apply Kd.R_drew)); exact HO319.out)) k_ hk⟩)); (case aO => exact (by (with_reducible repeat (first | apply Kd.R_alloc | apply Kd.R_drewN | apply Kd.R_drew)); exact HO325.out)); (case aS => exact (below_size (by repeat (first | (with_reducible first | exact HB.out | apply below_alloc | apply pw_below_drewN | apply below_drew1 | refine below_set ?_ GE288.out) | exact HB.out)))); (case aL => have := LMc104.out; omega); intro v327 w124 ho hb hg hat; rw [← Ny326.out] at ho; have n0_ := Aside0.mk (blk_grown (grw BK288.out) hg (Kd.R_ne HO325.out BK288.out (by decide))); have n1_ := Aside0.mk (Kd.R_after (ok := (fun k_ => some k_ ≠ (v318 : Value).ownBlock)) (by (with_reducible repeat (first | apply Kd.R_alloc | apply Kd.R_drewN | apply Kd.R_drew)); exact HO310.out) hg hat); have n2_ := Aside0.mk (Kd.R_after (ok := (fun k_ => some k_ ≠ (.slice Ao119 y308.length co119 : Value).ownBlock)) (by (with_reducible repeat (first | apply Kd.R_alloc | apply Kd.R_drewN | apply Kd.R_drew)); exact HO319.out) hg hat); have n3_ := Aside0.mk (hb); have n4_ := Aside0.mk (ho); clear BK288; clear HO310; clear HO319; clear HB; clear HO325; have BK288 := n0_; have HO310 := n1_; have HO319 := n2_; have HB := n3_; have HO328 := n4_; clear n0_ n1_ n2_ n3_ n4_; clear ho hb hg hat; obtain ⟨Ao125, co125, eo125⟩ := Kd.R_slice HO319.out; subst eo125; obtain ⟨Ao126, co126, eo126⟩ := Kd.R_slice HO328.out; subst eo126))
   have n0_ := Aside0.mk (Kd.R_drew HO310.out)
   have n1_ := Aside0.mk (Kd.R_drew HO319.out)
   have n2_ := Aside0.mk (Kd.R_drew HO328.out)
   have n3_ := Aside0.mk (blk_drew BK288.out)
   have n4_ := Aside0.mk (below_drew1 HB.out)
   clear HO310
   clear HO319
   clear HO328
   clear BK288
   clear HB
   have HO310 := n0_
   have HO319 := n1_
   have HO328 := n2_
   have BK288 := n3_
   have HB := n4_
   clear n0_ n1_ n2_ n3_ n4_
   refine start_ (n := 25) (S := fun w' => w'.cell? ⟨gb288, 0, none⟩ = some (.slice A2_0 l2_0.length c2_0) ∧ w'.cell? ⟨gb288, 1, none⟩ = some (.int .i64 a2_1) ∧ w'.cell? ⟨gb288, 2, none⟩ = some (.int .i64 a2_2) ∧ w'.cell? ⟨gb288, 3, none⟩ = some (.int .i64 a2_3) ∧ w'.cell? ⟨gb288, 4, none⟩ = some (.int .i64 a2_4) ∧ w'.cell? ⟨gb288, 5, none⟩ = some (.slice A2_5 l2_5.length c2_5)) (ds := []) bw27_5 (by kernel_rfl) rfl rfl ⟨(blk_cell BK288.out 0).trans rfl, (blk_cell BK288.out 1).trans rfl, (blk_cell BK288.out 2).trans rfl, (blk_cell BK288.out 3).trans rfl, (blk_cell BK288.out 4).trans rfl, (blk_cell BK288.out 5).trans rfl⟩ (fun hHeld => ?_); refine with_tabW semblancelaw07_EvalLaws.tab10 semblancelaw07_EvalLaws.bits10 (fun HT_ HW_ => ?_)
   generalize w124.drew = w127 at HO310 HO319 HO328 BK288 HB hHeld ⊢
   refine pure_ (i := 2) (N := some 89) (v := ?_) (a' := ?_) bw27_6 rfl rfl (any_of HT_.out (by kernel_rfl)) (fun _ _ _ h => h) (Or.inl ⟨by rfl, ?_⟩) ?_ ?_
   rotate_left
   ·intro w'
    go_simp
    with_reducible rfl
   rotate_left
   ·simp only [Act.put, sb_, s0_, s1_, i64_w, i32_w]
    rfl
   refine pure_ (i := 3) (N := some 90) (v := ?_) (a' := ?_) bw27_7 rfl rfl (any_of HT_.out (by kernel_rfl)) (fun _ _ _ h => h) (Or.inl ⟨by rfl, ?_⟩) ?_ ?_
   rotate_left
   ·intro w'
    go_simp
    with_reducible rfl
   rotate_left
   ·simp only [Act.put, sb_, s0_, s1_, i64_w, i32_w]
    rfl
   refine pure_ (i := 7) (N := some 94) (v := ?_) (a' := ?_) bw27_8 rfl rfl (any_of HT_.out (by kernel_rfl)) (fun _ _ _ h => h) (Or.inl ⟨by rfl, ?_⟩) ?_ ?_
   rotate_left
   ·intro w'
    go_simp
    with_reducible rfl
   rotate_left
   ·simp only [Act.put, sb_, s0_, s1_, i64_w, i32_w]
    rfl
   refine pure_ (i := 8) (N := some 95) (v := ?_) (a' := ?_) bw27_9 rfl rfl (any_of HT_.out (by kernel_rfl)) (fun _ _ _ h => h) (Or.inl ⟨by rfl, ?_⟩) ?_ ?_
   rotate_left
   ·intro w'
    go_simp
    with_reducible rfl
   rotate_left
   ·simp only [Act.put, sb_, s0_, s1_, i64_w, i32_w]
    rfl
   refine take_ (i := 0) (N := some 87) (v := ?_) (a' := ?_) bw27_10 rfl rfl (take_ofW HT_.out HW_.out (by kernel_rfl)) (fun _ _ _ h => h) (Or.inl ⟨by rfl, ?_⟩) hHeld ?_ ?_
   rotate_left
   ·rintro w' ⟨s0, s1, s2, s3, s4, s5⟩
    go_simp
    with_reducible rfl
   rotate_left
   ·simp only [Act.put, sb_, s0_, s1_, i64_w, i32_w]
    rfl
   refine take_ (i := 5) (N := some 92) (v := ?_) (a' := ?_) bw27_11 rfl rfl (take_ofW HT_.out HW_.out (by kernel_rfl)) (fun _ _ _ h => h) (Or.inl ⟨by rfl, ?_⟩) hHeld ?_ ?_
   rotate_left
   ·rintro w' ⟨s0, s1, s2, s3, s4, s5⟩
    go_simp
    with_reducible rfl
   rotate_left
   ·simp only [Act.put, sb_, s0_, s1_, i64_w, i32_w]
    rfl
   refine join_ (σ := Value × Value) 16 bw27_12 (fun s_ => [(88, s_.1), (91, .bool t332), (93, s_.2)]) (fun s_ w' => (w'.cell? ⟨gb288, 0, none⟩ = some (.slice A2_0 l2_0.length c2_0) ∧ w'.cell? ⟨gb288, 1, none⟩ = some (.int .i64 a2_1) ∧ w'.cell? ⟨gb288, 2, none⟩ = some (.int .i64 a2_2) ∧ w'.cell? ⟨gb288, 3, none⟩ = some (.int .i64 a2_3) ∧ w'.cell? ⟨gb288, 4, none⟩ = some (.int .i64 a2_4) ∧ w'.cell? ⟨gb288, 5, none⟩ = some (.slice A2_5 l2_5.length c2_5)) ∧ (Kd.R k47 47 w' w.heap.size (fun k_ => some k_ ≠ (.slice Ao125 y317.length co125 : Value).ownBlock ∧ some k_ ≠ (.slice Ao126 y326.length co126 : Value).ownBlock) (.slice Ao119 y308.length co119) y308) ∧ (Kd.R k47 47 w' w.heap.size (fun k_ => some k_ ≠ (.slice Ao119 y308.length co119 : Value).ownBlock ∧ some k_ ≠ (.slice Ao126 y326.length co126 : Value).ownBlock) (.slice Ao125 y317.length co125) y317) ∧ (Kd.R k47 47 w' w.heap.size (fun k_ => some k_ ≠ (.slice Ao119 y308.length co119 : Value).ownBlock ∧ some k_ ≠ (.slice Ao125 y317.length co125 : Value).ownBlock) (.slice Ao126 y326.length co126) y326) ∧ (Kd.R (Kd.int .i64) 3 w' w.heap.size (fun k_ => some k_ ≠ (s_.2 : Value).ownBlock) s_.1 y329) ∧ (Kd.R (Kd.int .i64) 3 w' w.heap.size (fun k_ => some k_ ≠ (s_.1 : Value).ownBlock) s_.2 y333) ∧ (w'.heap[gb288]? = some (.cells #[.slice A2_0 l2_0.length c2_0, .int .i64 a2_1, .int .i64 a2_2, .int .i64 a2_3, .int .i64 a2_4, .slice A2_5 l2_5.length c2_5] 36 (0, 0))) ∧ (Below w.heap.size w w')) ?_ ?_
   rotate_left
   ·intro hCont
    refine two_ (i := 1) (j := 6) (Ni := some 88) (Nj := some 93) bw27_13 bw27_14 rfl rfl rfl rfl (two_of HT_.out (by kernel_rfl)) (by decide) (by decide) (fun K hK => ?_) (fun K hK => ?_)
    ·skip
     refine Kd.R_lit_step (Kd.int .i64) _ 3 ?hg (N := 88) ?hd (xs := ([12, 19] : List Int)) (inner := [.int .i64 12, .int .i64 19]) (ok := fun _ => True) (okp := fun _ => True) ?hr ?hp (fun _ hk => hk) trivial (Below.refl _ _) (Nat.le_refl _) (by simp) ?_; (case hd => rfl); (case hg => rfl); (case hr => first | (go_simp; done) | (go_simp; rfl)); (case hp => exact (Reps.one (show Kd.M (Kd.int .i64) _ _ _ 12 [.int .i64 12] from rfl) (Reps.one (show Kd.M (Kd.int .i64) _ _ _ 19 [.int .i64 19] from rfl) (Reps.none _ _))))
     intro v330 w128 ho129 hb hg_ hnew_
     clear hg_ hnew_
     (first | rw [← Ny329.out] at ho129 | (simp only [Int.reduceToNat] at ho129; rw [← Ny329.out] at ho129))
     have n0_ := Aside0.mk (Kd.R_below (by (with_reducible repeat (first | apply Kd.R_alloc | apply Kd.R_drewN | apply Kd.R_drew)); exact HO310.out) hb)
     have n1_ := Aside0.mk (Kd.R_below (by (with_reducible repeat (first | apply Kd.R_alloc | apply Kd.R_drewN | apply Kd.R_drew)); exact HO319.out) hb)
     have n2_ := Aside0.mk (Kd.R_below (by (with_reducible repeat (first | apply Kd.R_alloc | apply Kd.R_drewN | apply Kd.R_drew)); exact HO328.out) hb)
     have n3_ := Aside0.mk (Kd.R_lower ho129 (below_size (by repeat (first | (with_reducible first | exact HB.out | apply below_alloc | apply pw_below_drewN | apply below_drew1 | refine below_set ?_ GE288.out) | exact HB.out))))
     have n4_ := Aside0.mk (blk_below (grw BK288.out) hb)
     have n5_ := Aside0.mk (below_step (by repeat (first | (with_reducible first | exact HB.out | apply below_alloc | apply pw_below_drewN | apply below_drew1 | refine below_set ?_ GE288.out) | exact HB.out)) hb)
     clear HO310
     clear HO319
     clear HO328
     clear BK288
     clear HB
     have HO310 := n0_
     have HO319 := n1_
     have HO328 := n2_
     have HO331 := n3_
     have BK288 := n4_
     have HB := n5_
     clear n0_ n1_ n2_ n3_ n4_ n5_
     clear hb ho129
     obtain ⟨Ao130, co130, eo130⟩ := Kd.R_slice HO331.out
     (first | subst eo130 | (injection eo130 with f1_ f2_ f3_; have f4_ := f1_.symm; have f5_ := f3_.symm; clear f1_ f2_ f3_; subst f4_; subst f5_))
     refine hK.out _ _ ⟨(blk_cell BK288.out 0).trans rfl, (blk_cell BK288.out 1).trans rfl, (blk_cell BK288.out 2).trans rfl, (blk_cell BK288.out 3).trans rfl, (blk_cell BK288.out 4).trans rfl, (blk_cell BK288.out 5).trans rfl⟩ (fun hHeld => ?_)
     clear hK K
     refine norm_ (a' := ?_) ?_ ?_
     rotate_left
     ·show Act.put _ (some 88) _ = _
      simp only [Act.put, sb_, s0_, s1_, i64_w, i32_w]
      rfl
     refine two_ (i := 4) (j := 6) (Ni := some 91) (Nj := some 93) bw27_15 bw27_16 rfl rfl rfl rfl (two_of HT_.out (by kernel_rfl)) (by decide) (by decide) (fun K hK => ?_) (fun K hK => ?_)
     ·skip
      refine goes_ Try.func24 (by kernel_rfl) rfl #[.agg #[.slice A2_0 l2_0.length c2_0, .int .i64 a2_1, .int .i64 a2_2, .int .i64 a2_3, .int .i64 a2_4, .slice A2_5 l2_5.length c2_5], .slice Ao130 y329.length co130, .slice A0 l0.length c0, .slice A1 l1.length c1] (by rfl) rfl rfl (by (try simp only [List.map_toArray, List.map_cons, List.map_nil]); first | done | rfl | (simp only [List.length_drop, List.length_take]; rfl)) ?_
      with_reducible refine (semblancelaw07_holds.calls kj3 _ _ l2_0 a2_1 a2_2 a2_3 a2_4 _ _ l2_5 _ _ y329 _ _ l0 _ _ l1 t332 _ ?side1 ?side2 ?side3 ?side4 ?side5 ?side6 ?side7 ?side8 ?side9 ?side10 A105.out).mono ?_
      (case side1 => repeat (first | exact (Kd.C_below HR2_0.out HB.out) | (with_reducible refine Kd.C_alloc ?_ _) | (with_reducible refine Kd.C_drewN ?_ _) | (with_reducible refine Kd.C_drew ?_)))
      (case side2 => exact HC2_0.out)
      (case side3 => repeat (first | exact (Kd.C_below HR2_5.out HB.out) | (with_reducible refine Kd.C_alloc ?_ _) | (with_reducible refine Kd.C_drewN ?_ _) | (with_reducible refine Kd.C_drew ?_)))
      (case side4 => exact HC2_5.out)
      (case side5 => repeat (first | exact (Kd.R_reads' HO331.out).2.2 | (with_reducible refine Kd.C_alloc ?_ _) | (with_reducible refine Kd.C_drewN ?_ _) | (with_reducible refine Kd.C_drew ?_)))
      (case side6 => exact (Kd.R_reads' HO331.out).2.1)
      (case side7 => repeat (first | exact (Kd.C_below HR0.out HB.out) | (with_reducible refine Kd.C_alloc ?_ _) | (with_reducible refine Kd.C_drewN ?_ _) | (with_reducible refine Kd.C_drew ?_)))
      (case side8 => exact HC0.out)
      (case side9 => repeat (first | exact (Kd.C_below HR1.out HB.out) | (with_reducible refine Kd.C_alloc ?_ _) | (with_reducible refine Kd.C_drewN ?_ _) | (with_reducible refine Kd.C_drew ?_)))
      (case side10 => exact HC1.out)
      rintro e w131 ⟨rfl, hb⟩
      refine ⟨_, rfl, ?_⟩
      have n0_ := Aside0.mk (Kd.R_below (by (with_reducible repeat (first | apply Kd.R_alloc | apply Kd.R_drewN | apply Kd.R_drew)); exact HO310.out) hb)
      have n1_ := Aside0.mk (Kd.R_below (by (with_reducible repeat (first | apply Kd.R_alloc | apply Kd.R_drewN | apply Kd.R_drew)); exact HO319.out) hb)
      have n2_ := Aside0.mk (Kd.R_below (by (with_reducible repeat (first | apply Kd.R_alloc | apply Kd.R_drewN | apply Kd.R_drew)); exact HO328.out) hb)
      have n3_ := Aside0.mk (Kd.R_below (by (with_reducible repeat (first | apply Kd.R_alloc | apply Kd.R_drewN | apply Kd.R_drew)); exact HO331.out) hb)
      have n4_ := Aside0.mk (blk_below (grw BK288.out) hb)
      have n5_ := Aside0.mk (below_step (by repeat (first | (with_reducible first | exact HB.out | apply below_alloc | apply pw_below_drewN | apply below_drew1 | refine below_set ?_ GE288.out) | exact HB.out)) hb)
      clear HO310
      clear HO319
      clear HO328
      clear HO331
      clear BK288
      clear HB
      have HO310 := n0_
      have HO319 := n1_
      have HO328 := n2_
      have HO331 := n3_
      have BK288 := n4_
      have HB := n5_
      clear n0_ n1_ n2_ n3_ n4_ n5_
      (try clear hb)
      (try clear hb2)
      (try clear hk)
      (try clear hi)
      refine hK.out _ _ ⟨(blk_cell BK288.out 0).trans rfl, (blk_cell BK288.out 1).trans rfl, (blk_cell BK288.out 2).trans rfl, (blk_cell BK288.out 3).trans rfl, (blk_cell BK288.out 4).trans rfl, (blk_cell BK288.out 5).trans rfl⟩ (fun hHeld => ?_)
      clear hK K
      refine norm_ (a' := ?_) ?_ ?_
      rotate_left
      ·show Act.put _ (some 91) _ = _
       simp only [Act.put, sb_, s0_, s1_, i64_w, i32_w]
       rfl
      refine one_ (i := 6) (N := some 93) bw27_12 rfl rfl (one_of HT_.out (by kernel_rfl)) (by decide) (fun K hK => ?_)
      refine Kd.R_lit_step (Kd.int .i64) _ 3 ?hg (N := 93) ?hd (xs := ([20] : List Int)) (inner := [.int .i64 20]) (ok := fun _ => True) (okp := fun _ => True) ?hr ?hp (fun _ hk => hk) trivial (Below.refl _ _) (Nat.le_refl _) (by simp) ?_; (case hd => rfl); (case hg => rfl); (case hr => first | (go_simp; done) | (go_simp; rfl)); (case hp => exact (Reps.one (show Kd.M (Kd.int .i64) _ _ _ 20 [.int .i64 20] from rfl) (Reps.none _ _)))
      intro v334 w132 ho133 hb hg_ hnew_
      clear hg_ hnew_
      (first | rw [← Ny333.out] at ho133 | (simp only [Int.reduceToNat] at ho133; rw [← Ny333.out] at ho133))
      have n0_ := Aside0.mk (Kd.R_below (by (with_reducible repeat (first | apply Kd.R_alloc | apply Kd.R_drewN | apply Kd.R_drew)); exact HO310.out) hb)
      have n1_ := Aside0.mk (Kd.R_below (by (with_reducible repeat (first | apply Kd.R_alloc | apply Kd.R_drewN | apply Kd.R_drew)); exact HO319.out) hb)
      have n2_ := Aside0.mk (Kd.R_below (by (with_reducible repeat (first | apply Kd.R_alloc | apply Kd.R_drewN | apply Kd.R_drew)); exact HO328.out) hb)
      have n3_ := Aside0.mk (Kd.R_elder' (by (with_reducible repeat (first | apply Kd.R_alloc | apply Kd.R_drewN | apply Kd.R_drew)); exact HO331.out) (Kd.R_base ho133) hb)
      have n4_ := Aside0.mk (Kd.R_lower (Kd.R_new' ho133 (Kd.R_lt (by (with_reducible repeat (first | apply Kd.R_alloc | apply Kd.R_drewN | apply Kd.R_drew)); exact HO331.out))) (below_size (by repeat (first | (with_reducible first | exact HB.out | apply below_alloc | apply pw_below_drewN | apply below_drew1 | refine below_set ?_ GE288.out) | exact HB.out))))
      have n5_ := Aside0.mk (blk_below (grw BK288.out) hb)
      have n6_ := Aside0.mk (below_step (by repeat (first | (with_reducible first | exact HB.out | apply below_alloc | apply pw_below_drewN | apply below_drew1 | refine below_set ?_ GE288.out) | exact HB.out)) hb)
      clear HO310
      clear HO319
      clear HO328
      clear HO331
      clear BK288
      clear HB
      have HO310 := n0_
      have HO319 := n1_
      have HO328 := n2_
      have HO331 := n3_
      have HO335 := n4_
      have BK288 := n5_
      have HB := n6_
      clear n0_ n1_ n2_ n3_ n4_ n5_ n6_
      clear hb ho133
      refine hK.out _ _ ⟨(blk_cell BK288.out 0).trans rfl, (blk_cell BK288.out 1).trans rfl, (blk_cell BK288.out 2).trans rfl, (blk_cell BK288.out 3).trans rfl, (blk_cell BK288.out 4).trans rfl, (blk_cell BK288.out 5).trans rfl⟩ (fun hHeld => ?_)
      clear hK K
      refine norm_ (a' := ?_) ?_ ?_
      rotate_left
      ·show Act.put _ (some 93) _ = _
       simp only [Act.put, sb_, s0_, s1_, i64_w, i32_w]
       rfl
      exact norm_ (by simp only [putAll, Act.put, sb_, s0_, s1_]) (hCont (.slice Ao130 y329.length co130, v334) _ ⟨hHeld, (by (with_reducible repeat (first | apply Kd.R_alloc | apply Kd.R_drewN | apply Kd.R_drew)); exact HO310.out), (by (with_reducible repeat (first | apply Kd.R_alloc | apply Kd.R_drewN | apply Kd.R_drew)); exact HO319.out), (by (with_reducible repeat (first | apply Kd.R_alloc | apply Kd.R_drewN | apply Kd.R_drew)); exact HO328.out), (by (with_reducible repeat (first | apply Kd.R_alloc | apply Kd.R_drewN | apply Kd.R_drew)); exact Kd.R_mono HO331.out (fun _ hk => hk.2)), (by (with_reducible repeat (first | apply Kd.R_alloc | apply Kd.R_drewN | apply Kd.R_drew)); exact Kd.R_mono HO335.out (fun _ hk => hk.2)), (grw BK288.out), (by repeat (first | (with_reducible first | exact HB.out | apply below_alloc | apply pw_below_drewN | apply below_drew1 | refine below_set ?_ GE288.out) | exact HB.out))⟩)
     ·skip
      refine Kd.R_lit_step (Kd.int .i64) _ 3 ?hg (N := 93) ?hd (xs := ([20] : List Int)) (inner := [.int .i64 20]) (ok := fun _ => True) (okp := fun _ => True) ?hr ?hp (fun _ hk => hk) trivial (Below.refl _ _) (Nat.le_refl _) (by simp) ?_; (case hd => rfl); (case hg => rfl); (case hr => first | (go_simp; done) | (go_simp; rfl)); (case hp => exact (Reps.one (show Kd.M (Kd.int .i64) _ _ _ 20 [.int .i64 20] from rfl) (Reps.none _ _)))
      intro v334 w130 ho131 hb hg_ hnew_
      clear hg_ hnew_
      (first | rw [← Ny333.out] at ho131 | (simp only [Int.reduceToNat] at ho131; rw [← Ny333.out] at ho131))
      have n0_ := Aside0.mk (Kd.R_below (by (with_reducible repeat (first | apply Kd.R_alloc | apply Kd.R_drewN | apply Kd.R_drew)); exact HO310.out) hb)
      have n1_ := Aside0.mk (Kd.R_below (by (with_reducible repeat (first | apply Kd.R_alloc | apply Kd.R_drewN | apply Kd.R_drew)); exact HO319.out) hb)
      have n2_ := Aside0.mk (Kd.R_below (by (with_reducible repeat (first | apply Kd.R_alloc | apply Kd.R_drewN | apply Kd.R_drew)); exact HO328.out) hb)
      have n3_ := Aside0.mk (Kd.R_elder' (by (with_reducible repeat (first | apply Kd.R_alloc | apply Kd.R_drewN | apply Kd.R_drew)); exact HO331.out) (Kd.R_base ho131) hb)
      have n4_ := Aside0.mk (Kd.R_lower (Kd.R_new' ho131 (Kd.R_lt (by (with_reducible repeat (first | apply Kd.R_alloc | apply Kd.R_drewN | apply Kd.R_drew)); exact HO331.out))) (below_size (by repeat (first | (with_reducible first | exact HB.out | apply below_alloc | apply pw_below_drewN | apply below_drew1 | refine below_set ?_ GE288.out) | exact HB.out))))
      have n5_ := Aside0.mk (blk_below (grw BK288.out) hb)
      have n6_ := Aside0.mk (below_step (by repeat (first | (with_reducible first | exact HB.out | apply below_alloc | apply pw_below_drewN | apply below_drew1 | refine below_set ?_ GE288.out) | exact HB.out)) hb)
      clear HO310
      clear HO319
      clear HO328
      clear HO331
      clear BK288
      clear HB
      have HO310 := n0_
      have HO319 := n1_
      have HO328 := n2_
      have HO331 := n3_
      have HO335 := n4_
      have BK288 := n5_
      have HB := n6_
      clear n0_ n1_ n2_ n3_ n4_ n5_ n6_
      clear hb ho131
      obtain ⟨Ao132, co132, eo132⟩ := Kd.R_slice HO331.out
      (first | subst eo132 | (injection eo132 with f1_ f2_ f3_; have f4_ := f1_.symm; have f5_ := f3_.symm; clear f1_ f2_ f3_; subst f4_; subst f5_))
      refine hK.out _ _ ⟨(blk_cell BK288.out 0).trans rfl, (blk_cell BK288.out 1).trans rfl, (blk_cell BK288.out 2).trans rfl, (blk_cell BK288.out 3).trans rfl, (blk_cell BK288.out 4).trans rfl, (blk_cell BK288.out 5).trans rfl⟩ (fun hHeld => ?_)
      clear hK K
      refine norm_ (a' := ?_) ?_ ?_
      rotate_left
      ·show Act.put _ (some 93) _ = _
       simp only [Act.put, sb_, s0_, s1_, i64_w, i32_w]
       rfl
      refine one_ (i := 4) (N := some 91) bw27_12 rfl rfl (one_of HT_.out (by kernel_rfl)) (by decide) (fun K hK => ?_)
      refine goes_ Try.func24 (by kernel_rfl) rfl #[.agg #[.slice A2_0 l2_0.length c2_0, .int .i64 a2_1, .int .i64 a2_2, .int .i64 a2_3, .int .i64 a2_4, .slice A2_5 l2_5.length c2_5], .slice Ao132 y329.length co132, .slice A0 l0.length c0, .slice A1 l1.length c1] (by rfl) rfl rfl (by (try simp only [List.map_toArray, List.map_cons, List.map_nil]); first | done | rfl | (simp only [List.length_drop, List.length_take]; rfl)) ?_
      with_reducible refine (semblancelaw07_holds.calls kj3 _ _ l2_0 a2_1 a2_2 a2_3 a2_4 _ _ l2_5 _ _ y329 _ _ l0 _ _ l1 t332 _ ?side1 ?side2 ?side3 ?side4 ?side5 ?side6 ?side7 ?side8 ?side9 ?side10 A105.out).mono ?_
      (case side1 => repeat (first | exact (Kd.C_below HR2_0.out HB.out) | (with_reducible refine Kd.C_alloc ?_ _) | (with_reducible refine Kd.C_drewN ?_ _) | (with_reducible refine Kd.C_drew ?_)))
      (case side2 => exact HC2_0.out)
      (case side3 => repeat (first | exact (Kd.C_below HR2_5.out HB.out) | (with_reducible refine Kd.C_alloc ?_ _) | (with_reducible refine Kd.C_drewN ?_ _) | (with_reducible refine Kd.C_drew ?_)))
      (case side4 => exact HC2_5.out)
      (case side5 => repeat (first | exact (Kd.R_reads' HO331.out).2.2 | (with_reducible refine Kd.C_alloc ?_ _) | (with_reducible refine Kd.C_drewN ?_ _) | (with_reducible refine Kd.C_drew ?_)))
      (case side6 => exact (Kd.R_reads' HO331.out).2.1)
      (case side7 => repeat (first | exact (Kd.C_below HR0.out HB.out) | (with_reducible refine Kd.C_alloc ?_ _) | (with_reducible refine Kd.C_drewN ?_ _) | (with_reducible refine Kd.C_drew ?_)))
      (case side8 => exact HC0.out)
      (case side9 => repeat (first | exact (Kd.C_below HR1.out HB.out) | (with_reducible refine Kd.C_alloc ?_ _) | (with_reducible refine Kd.C_drewN ?_ _) | (with_reducible refine Kd.C_drew ?_)))
      (case side10 => exact HC1.out)
      rintro e w133 ⟨rfl, hb⟩
      refine ⟨_, rfl, ?_⟩
      have n0_ := Aside0.mk (Kd.R_below (by (with_reducible repeat (first | apply Kd.R_alloc | apply Kd.R_drewN | apply Kd.R_drew)); exact HO310.out) hb)
      have n1_ := Aside0.mk (Kd.R_below (by (with_reducible repeat (first | apply Kd.R_alloc | apply Kd.R_drewN | apply Kd.R_drew)); exact HO319.out) hb)
      have n2_ := Aside0.mk (Kd.R_below (by (with_reducible repeat (first | apply Kd.R_alloc | apply Kd.R_drewN | apply Kd.R_drew)); exact HO328.out) hb)
      have n3_ := Aside0.mk (Kd.R_below (by (with_reducible repeat (first | apply Kd.R_alloc | apply Kd.R_drewN | apply Kd.R_drew)); exact HO331.out) hb)
      have n4_ := Aside0.mk (Kd.R_below (by (with_reducible repeat (first | apply Kd.R_alloc | apply Kd.R_drewN | apply Kd.R_drew)); exact HO335.out) hb)
      have n5_ := Aside0.mk (blk_below (grw BK288.out) hb)
      have n6_ := Aside0.mk (below_step (by repeat (first | (with_reducible first | exact HB.out | apply below_alloc | apply pw_below_drewN | apply below_drew1 | refine below_set ?_ GE288.out) | exact HB.out)) hb)
      clear HO310
      clear HO319
      clear HO328
      clear HO331
      clear HO335
      clear BK288
      clear HB
      have HO310 := n0_
      have HO319 := n1_
      have HO328 := n2_
      have HO331 := n3_
      have HO335 := n4_
      have BK288 := n5_
      have HB := n6_
      clear n0_ n1_ n2_ n3_ n4_ n5_ n6_
      (try clear hb)
      (try clear hb2)
      (try clear hk)
      (try clear hi)
      refine hK.out _ _ ⟨(blk_cell BK288.out 0).trans rfl, (blk_cell BK288.out 1).trans rfl, (blk_cell BK288.out 2).trans rfl, (blk_cell BK288.out 3).trans rfl, (blk_cell BK288.out 4).trans rfl, (blk_cell BK288.out 5).trans rfl⟩ (fun hHeld => ?_)
      clear hK K
      refine norm_ (a' := ?_) ?_ ?_
      rotate_left
      ·show Act.put _ (some 91) _ = _
       simp only [Act.put, sb_, s0_, s1_, i64_w, i32_w]
       rfl
      exact norm_ (by simp only [putAll, Act.put, sb_, s0_, s1_]) (hCont (.slice Ao132 y329.length co132, v334) _ ⟨hHeld, (by (with_reducible repeat (first | apply Kd.R_alloc | apply Kd.R_drewN | apply Kd.R_drew)); exact HO310.out), (by (with_reducible repeat (first | apply Kd.R_alloc | apply Kd.R_drewN | apply Kd.R_drew)); exact HO319.out), (by (with_reducible repeat (first | apply Kd.R_alloc | apply Kd.R_drewN | apply Kd.R_drew)); exact HO328.out), (by (with_reducible repeat (first | apply Kd.R_alloc | apply Kd.R_drewN | apply Kd.R_drew)); exact Kd.R_mono HO331.out (fun _ hk => hk.2)), (by (with_reducible repeat (first | apply Kd.R_alloc | apply Kd.R_drewN | apply Kd.R_drew)); exact Kd.R_mono HO335.out (fun _ hk => hk.2)), (grw BK288.out), (by repeat (first | (with_reducible first | exact HB.out | apply below_alloc | apply pw_below_drewN | apply below_drew1 | refine below_set ?_ GE288.out) | exact HB.out))⟩)
    ·skip
     refine Kd.R_lit_step (Kd.int .i64) _ 3 ?hg (N := 93) ?hd (xs := ([20] : List Int)) (inner := [.int .i64 20]) (ok := fun _ => True) (okp := fun _ => True) ?hr ?hp (fun _ hk => hk) trivial (Below.refl _ _) (Nat.le_refl _) (by simp) ?_; (case hd => rfl); (case hg => rfl); (case hr => first | (go_simp; done) | (go_simp; rfl)); (case hp => exact (Reps.one (show Kd.M (Kd.int .i64) _ _ _ 20 [.int .i64 20] from rfl) (Reps.none _ _)))
     intro v334 w128 ho129 hb hg_ hnew_
     clear hg_ hnew_
     (first | rw [← Ny333.out] at ho129 | (simp only [Int.reduceToNat] at ho129; rw [← Ny333.out] at ho129))
     have n0_ := Aside0.mk (Kd.R_below (by (with_reducible repeat (first | apply Kd.R_alloc | apply Kd.R_drewN | apply Kd.R_drew)); exact HO310.out) hb)
     have n1_ := Aside0.mk (Kd.R_below (by (with_reducible repeat (first | apply Kd.R_alloc | apply Kd.R_drewN | apply Kd.R_drew)); exact HO319.out) hb)
     have n2_ := Aside0.mk (Kd.R_below (by (with_reducible repeat (first | apply Kd.R_alloc | apply Kd.R_drewN | apply Kd.R_drew)); exact HO328.out) hb)
     have n3_ := Aside0.mk (Kd.R_lower ho129 (below_size (by repeat (first | (with_reducible first | exact HB.out | apply below_alloc | apply pw_below_drewN | apply below_drew1 | refine below_set ?_ GE288.out) | exact HB.out))))
     have n4_ := Aside0.mk (blk_below (grw BK288.out) hb)
     have n5_ := Aside0.mk (below_step (by repeat (first | (with_reducible first | exact HB.out | apply below_alloc | apply pw_below_drewN | apply below_drew1 | refine below_set ?_ GE288.out) | exact HB.out)) hb)
     clear HO310
     clear HO319
     clear HO328
     clear BK288
     clear HB
     have HO310 := n0_
     have HO319 := n1_
     have HO328 := n2_
     have HO335 := n3_
     have BK288 := n4_
     have HB := n5_
     clear n0_ n1_ n2_ n3_ n4_ n5_
     clear hb ho129
     refine hK.out _ _ ⟨(blk_cell BK288.out 0).trans rfl, (blk_cell BK288.out 1).trans rfl, (blk_cell BK288.out 2).trans rfl, (blk_cell BK288.out 3).trans rfl, (blk_cell BK288.out 4).trans rfl, (blk_cell BK288.out 5).trans rfl⟩ (fun hHeld => ?_)
     clear hK K
     refine norm_ (a' := ?_) ?_ ?_
     rotate_left
     ·show Act.put _ (some 93) _ = _
      simp only [Act.put, sb_, s0_, s1_, i64_w, i32_w]
      rfl
     refine one_ (i := 1) (N := some 88) bw27_16 rfl rfl (one_of HT_.out (by kernel_rfl)) (by decide) (fun K hK => ?_)
     refine Kd.R_lit_step (Kd.int .i64) _ 3 ?hg (N := 88) ?hd (xs := ([12, 19] : List Int)) (inner := [.int .i64 12, .int .i64 19]) (ok := fun _ => True) (okp := fun _ => True) ?hr ?hp (fun _ hk => hk) trivial (Below.refl _ _) (Nat.le_refl _) (by simp) ?_; (case hd => rfl); (case hg => rfl); (case hr => first | (go_simp; done) | (go_simp; rfl)); (case hp => exact (Reps.one (show Kd.M (Kd.int .i64) _ _ _ 12 [.int .i64 12] from rfl) (Reps.one (show Kd.M (Kd.int .i64) _ _ _ 19 [.int .i64 19] from rfl) (Reps.none _ _))))
     intro v330 w130 ho131 hb hg_ hnew_
     clear hg_ hnew_
     (first | rw [← Ny329.out] at ho131 | (simp only [Int.reduceToNat] at ho131; rw [← Ny329.out] at ho131))
     have n0_ := Aside0.mk (Kd.R_below (by (with_reducible repeat (first | apply Kd.R_alloc | apply Kd.R_drewN | apply Kd.R_drew)); exact HO310.out) hb)
     have n1_ := Aside0.mk (Kd.R_below (by (with_reducible repeat (first | apply Kd.R_alloc | apply Kd.R_drewN | apply Kd.R_drew)); exact HO319.out) hb)
     have n2_ := Aside0.mk (Kd.R_below (by (with_reducible repeat (first | apply Kd.R_alloc | apply Kd.R_drewN | apply Kd.R_drew)); exact HO328.out) hb)
     have n3_ := Aside0.mk (Kd.R_elder' (by (with_reducible repeat (first | apply Kd.R_alloc | apply Kd.R_drewN | apply Kd.R_drew)); exact HO335.out) (Kd.R_base ho131) hb)
     have n4_ := Aside0.mk (Kd.R_lower (Kd.R_new' ho131 (Kd.R_lt (by (with_reducible repeat (first | apply Kd.R_alloc | apply Kd.R_drewN | apply Kd.R_drew)); exact HO335.out))) (below_size (by repeat (first | (with_reducible first | exact HB.out | apply below_alloc | apply pw_below_drewN | apply below_drew1 | refine below_set ?_ GE288.out) | exact HB.out))))
     have n5_ := Aside0.mk (blk_below (grw BK288.out) hb)
     have n6_ := Aside0.mk (below_step (by repeat (first | (with_reducible first | exact HB.out | apply below_alloc | apply pw_below_drewN | apply below_drew1 | refine below_set ?_ GE288.out) | exact HB.out)) hb)
     clear HO310
     clear HO319
     clear HO328
     clear HO335
     clear BK288
     clear HB
     have HO310 := n0_
     have HO319 := n1_
     have HO328 := n2_
     have HO335 := n3_
     have HO331 := n4_
     have BK288 := n5_
     have HB := n6_
     clear n0_ n1_ n2_ n3_ n4_ n5_ n6_
     clear hb ho131
     obtain ⟨Ao132, co132, eo132⟩ := Kd.R_slice HO331.out
     (first | subst eo132 | (injection eo132 with f1_ f2_ f3_; have f4_ := f1_.symm; have f5_ := f3_.symm; clear f1_ f2_ f3_; subst f4_; subst f5_))
     refine hK.out _ _ ⟨(blk_cell BK288.out 0).trans rfl, (blk_cell BK288.out 1).trans rfl, (blk_cell BK288.out 2).trans rfl, (blk_cell BK288.out 3).trans rfl, (blk_cell BK288.out 4).trans rfl, (blk_cell BK288.out 5).trans rfl⟩ (fun hHeld => ?_)
     clear hK K
     refine norm_ (a' := ?_) ?_ ?_
     rotate_left
     ·show Act.put _ (some 88) _ = _
      simp only [Act.put, sb_, s0_, s1_, i64_w, i32_w]
      rfl
     refine one_ (i := 4) (N := some 91) bw27_12 rfl rfl (one_of HT_.out (by kernel_rfl)) (by decide) (fun K hK => ?_)
     refine goes_ Try.func24 (by kernel_rfl) rfl #[.agg #[.slice A2_0 l2_0.length c2_0, .int .i64 a2_1, .int .i64 a2_2, .int .i64 a2_3, .int .i64 a2_4, .slice A2_5 l2_5.length c2_5], .slice Ao132 y329.length co132, .slice A0 l0.length c0, .slice A1 l1.length c1] (by rfl) rfl rfl (by (try simp only [List.map_toArray, List.map_cons, List.map_nil]); first | done | rfl | (simp only [List.length_drop, List.length_take]; rfl)) ?_
     with_reducible refine (semblancelaw07_holds.calls kj3 _ _ l2_0 a2_1 a2_2 a2_3 a2_4 _ _ l2_5 _ _ y329 _ _ l0 _ _ l1 t332 _ ?side1 ?side2 ?side3 ?side4 ?side5 ?side6 ?side7 ?side8 ?side9 ?side10 A105.out).mono ?_
     (case side1 => repeat (first | exact (Kd.C_below HR2_0.out HB.out) | (with_reducible refine Kd.C_alloc ?_ _) | (with_reducible refine Kd.C_drewN ?_ _) | (with_reducible refine Kd.C_drew ?_)))
     (case side2 => exact HC2_0.out)
     (case side3 => repeat (first | exact (Kd.C_below HR2_5.out HB.out) | (with_reducible refine Kd.C_alloc ?_ _) | (with_reducible refine Kd.C_drewN ?_ _) | (with_reducible refine Kd.C_drew ?_)))
     (case side4 => exact HC2_5.out)
     (case side5 => repeat (first | exact (Kd.R_reads' HO331.out).2.2 | (with_reducible refine Kd.C_alloc ?_ _) | (with_reducible refine Kd.C_drewN ?_ _) | (with_reducible refine Kd.C_drew ?_)))
     (case side6 => exact (Kd.R_reads' HO331.out).2.1)
     (case side7 => repeat (first | exact (Kd.C_below HR0.out HB.out) | (with_reducible refine Kd.C_alloc ?_ _) | (with_reducible refine Kd.C_drewN ?_ _) | (with_reducible refine Kd.C_drew ?_)))
     (case side8 => exact HC0.out)
     (case side9 => repeat (first | exact (Kd.C_below HR1.out HB.out) | (with_reducible refine Kd.C_alloc ?_ _) | (with_reducible refine Kd.C_drewN ?_ _) | (with_reducible refine Kd.C_drew ?_)))
     (case side10 => exact HC1.out)
     rintro e w133 ⟨rfl, hb⟩
     refine ⟨_, rfl, ?_⟩
     have n0_ := Aside0.mk (Kd.R_below (by (with_reducible repeat (first | apply Kd.R_alloc | apply Kd.R_drewN | apply Kd.R_drew)); exact HO310.out) hb)
     have n1_ := Aside0.mk (Kd.R_below (by (with_reducible repeat (first | apply Kd.R_alloc | apply Kd.R_drewN | apply Kd.R_drew)); exact HO319.out) hb)
     have n2_ := Aside0.mk (Kd.R_below (by (with_reducible repeat (first | apply Kd.R_alloc | apply Kd.R_drewN | apply Kd.R_drew)); exact HO328.out) hb)
     have n3_ := Aside0.mk (Kd.R_below (by (with_reducible repeat (first | apply Kd.R_alloc | apply Kd.R_drewN | apply Kd.R_drew)); exact HO335.out) hb)
     have n4_ := Aside0.mk (Kd.R_below (by (with_reducible repeat (first | apply Kd.R_alloc | apply Kd.R_drewN | apply Kd.R_drew)); exact HO331.out) hb)
     have n5_ := Aside0.mk (blk_below (grw BK288.out) hb)
     have n6_ := Aside0.mk (below_step (by repeat (first | (with_reducible first | exact HB.out | apply below_alloc | apply pw_below_drewN | apply below_drew1 | refine below_set ?_ GE288.out) | exact HB.out)) hb)
     clear HO310
     clear HO319
     clear HO328
     clear HO335
     clear HO331
     clear BK288
     clear HB
     have HO310 := n0_
     have HO319 := n1_
     have HO328 := n2_
     have HO335 := n3_
     have HO331 := n4_
     have BK288 := n5_
     have HB := n6_
     clear n0_ n1_ n2_ n3_ n4_ n5_ n6_
     (try clear hb)
     (try clear hb2)
     (try clear hk)
     (try clear hi)
     refine hK.out _ _ ⟨(blk_cell BK288.out 0).trans rfl, (blk_cell BK288.out 1).trans rfl, (blk_cell BK288.out 2).trans rfl, (blk_cell BK288.out 3).trans rfl, (blk_cell BK288.out 4).trans rfl, (blk_cell BK288.out 5).trans rfl⟩ (fun hHeld => ?_)
     clear hK K
     refine norm_ (a' := ?_) ?_ ?_
     rotate_left
     ·show Act.put _ (some 91) _ = _
      simp only [Act.put, sb_, s0_, s1_, i64_w, i32_w]
      rfl
     exact norm_ (by simp only [putAll, Act.put, sb_, s0_, s1_]) (hCont (.slice Ao132 y329.length co132, v334) _ ⟨hHeld, (by (with_reducible repeat (first | apply Kd.R_alloc | apply Kd.R_drewN | apply Kd.R_drew)); exact HO310.out), (by (with_reducible repeat (first | apply Kd.R_alloc | apply Kd.R_drewN | apply Kd.R_drew)); exact HO319.out), (by (with_reducible repeat (first | apply Kd.R_alloc | apply Kd.R_drewN | apply Kd.R_drew)); exact HO328.out), (by (with_reducible repeat (first | apply Kd.R_alloc | apply Kd.R_drewN | apply Kd.R_drew)); exact Kd.R_mono HO331.out (fun _ hk => hk.2)), (by (with_reducible repeat (first | apply Kd.R_alloc | apply Kd.R_drewN | apply Kd.R_drew)); exact Kd.R_mono HO335.out (fun _ hk => hk.2)), (grw BK288.out), (by repeat (first | (with_reducible first | exact HB.out | apply below_alloc | apply pw_below_drewN | apply below_drew1 | refine below_set ?_ GE288.out) | exact HB.out))⟩)
   rintro ⟨v330, v334⟩ w134 ⟨hS_, h0_, h1_, h2_, h3_, h4_, h5_, h6_⟩
   have n0_ : Aside0 (Kd.R k47 47 w134 w.heap.size (fun k_ => some k_ ≠ (.slice Ao125 y317.length co125 : Value).ownBlock ∧ some k_ ≠ (.slice Ao126 y326.length co126 : Value).ownBlock) (.slice Ao119 y308.length co119) y308) := ⟨h0_⟩
   have n1_ : Aside0 (Kd.R k47 47 w134 w.heap.size (fun k_ => some k_ ≠ (.slice Ao119 y308.length co119 : Value).ownBlock ∧ some k_ ≠ (.slice Ao126 y326.length co126 : Value).ownBlock) (.slice Ao125 y317.length co125) y317) := ⟨h1_⟩
   have n2_ : Aside0 (Kd.R k47 47 w134 w.heap.size (fun k_ => some k_ ≠ (.slice Ao119 y308.length co119 : Value).ownBlock ∧ some k_ ≠ (.slice Ao125 y317.length co125 : Value).ownBlock) (.slice Ao126 y326.length co126) y326) := ⟨h2_⟩
   have n3_ : Aside0 (Kd.R (Kd.int .i64) 3 w134 w.heap.size (fun k_ => some k_ ≠ (v334 : Value).ownBlock) v330 y329) := ⟨h3_⟩
   have n4_ : Aside0 (Kd.R (Kd.int .i64) 3 w134 w.heap.size (fun k_ => some k_ ≠ (v330 : Value).ownBlock) v334 y333) := ⟨h4_⟩
   have n5_ : Aside0 (w134.heap[gb288]? = some (.cells #[.slice A2_0 l2_0.length c2_0, .int .i64 a2_1, .int .i64 a2_2, .int .i64 a2_3, .int .i64 a2_4, .slice A2_5 l2_5.length c2_5] 36 (0, 0))) := ⟨h5_⟩
   have n6_ : Aside0 (Below w.heap.size w w134) := ⟨h6_⟩
   clear HO310
   clear HO319
   clear HO328
   clear BK288
   clear HB
   clear h0_ h1_ h2_ h3_ h4_ h5_ h6_
   have HO310 := n0_
   have HO319 := n1_
   have HO328 := n2_
   have HO331 := n3_
   have HO335 := n4_
   have BK288 := n5_
   have HB := n6_
   clear n0_ n1_ n2_ n3_ n4_ n5_ n6_
   have hHeld : w134.cell? ⟨gb288, 0, none⟩ = some (.slice A2_0 l2_0.length c2_0) ∧ w134.cell? ⟨gb288, 1, none⟩ = some (.int .i64 a2_1) ∧ w134.cell? ⟨gb288, 2, none⟩ = some (.int .i64 a2_2) ∧ w134.cell? ⟨gb288, 3, none⟩ = some (.int .i64 a2_3) ∧ w134.cell? ⟨gb288, 4, none⟩ = some (.int .i64 a2_4) ∧ w134.cell? ⟨gb288, 5, none⟩ = some (.slice A2_5 l2_5.length c2_5) := hS_
   obtain ⟨Ao135, co135, eo135⟩ := Kd.R_slice HO335.out
   (first | subst eo135 | (injection eo135 with f1_ f2_ f3_; have f4_ := f1_.symm; have f5_ := f3_.symm; clear f1_ f2_ f3_; subst f4_; subst f5_))
   refine norm_ (a' := ?_) ?_ ?_
   rotate_left
   ·simp only [putAll, Act.put, sb_, s0_, s1_]
    rfl
   refine one_ (i := 9) (N := some 96) bw27_17 rfl rfl (one_of HT_.out (by kernel_rfl)) (by decide) (fun K hK => ?_)
   refine goes_ Try.func24 (by kernel_rfl) rfl #[.agg #[.slice A2_0 l2_0.length c2_0, .int .i64 a2_1, .int .i64 a2_2, .int .i64 a2_3, .int .i64 a2_4, .slice A2_5 l2_5.length c2_5], .slice Ao135 y333.length co135, .slice Ao125 y317.length co125, .slice Ao126 y326.length co126] (by rfl) rfl rfl (by (try simp only [List.map_toArray, List.map_cons, List.map_nil]); first | done | rfl | (simp only [List.length_drop, List.length_take]; rfl)) ?_
   with_reducible refine (semblancelaw07_holds.calls kj3 _ _ l2_0 a2_1 a2_2 a2_3 a2_4 _ _ l2_5 _ _ y333 _ _ y317 _ _ y326 t336 _ ?side1 ?side2 ?side3 ?side4 ?side5 ?side6 ?side7 ?side8 ?side9 ?side10 A106.out).mono ?_
   (case side1 => repeat (first | exact (Kd.C_below HR2_0.out HB.out) | (with_reducible refine Kd.C_alloc ?_ _) | (with_reducible refine Kd.C_drewN ?_ _) | (with_reducible refine Kd.C_drew ?_)))
   (case side2 => exact HC2_0.out)
   (case side3 => repeat (first | exact (Kd.C_below HR2_5.out HB.out) | (with_reducible refine Kd.C_alloc ?_ _) | (with_reducible refine Kd.C_drewN ?_ _) | (with_reducible refine Kd.C_drew ?_)))
   (case side4 => exact HC2_5.out)
   (case side5 => repeat (first | exact (Kd.R_reads' HO335.out).2.2 | (with_reducible refine Kd.C_alloc ?_ _) | (with_reducible refine Kd.C_drewN ?_ _) | (with_reducible refine Kd.C_drew ?_)))
   (case side6 => exact (Kd.R_reads' HO335.out).2.1)
   (case side7 => repeat (first | exact (Kd.R_reads' HO319.out).2.2 | (with_reducible refine Kd.C_alloc ?_ _) | (with_reducible refine Kd.C_drewN ?_ _) | (with_reducible refine Kd.C_drew ?_)))
   (case side8 => exact (Kd.R_reads' HO319.out).2.1)
   (case side9 => repeat (first | exact (Kd.R_reads' HO328.out).2.2 | (with_reducible refine Kd.C_alloc ?_ _) | (with_reducible refine Kd.C_drewN ?_ _) | (with_reducible refine Kd.C_drew ?_)))
   (case side10 => exact (Kd.R_reads' HO328.out).2.1)
   rintro e w136 ⟨rfl, hb⟩
   refine ⟨_, rfl, ?_⟩
   have n0_ := Aside0.mk (Kd.R_below (by (with_reducible repeat (first | apply Kd.R_alloc | apply Kd.R_drewN | apply Kd.R_drew)); exact HO310.out) hb)
   have n1_ := Aside0.mk (Kd.R_below (by (with_reducible repeat (first | apply Kd.R_alloc | apply Kd.R_drewN | apply Kd.R_drew)); exact HO319.out) hb)
   have n2_ := Aside0.mk (Kd.R_below (by (with_reducible repeat (first | apply Kd.R_alloc | apply Kd.R_drewN | apply Kd.R_drew)); exact HO328.out) hb)
   have n3_ := Aside0.mk (Kd.R_below (by (with_reducible repeat (first | apply Kd.R_alloc | apply Kd.R_drewN | apply Kd.R_drew)); exact HO331.out) hb)
   have n4_ := Aside0.mk (Kd.R_below (by (with_reducible repeat (first | apply Kd.R_alloc | apply Kd.R_drewN | apply Kd.R_drew)); exact HO335.out) hb)
   have n5_ := Aside0.mk (blk_below (grw BK288.out) hb)
   have n6_ := Aside0.mk (below_step (by repeat (first | (with_reducible first | exact HB.out | apply below_alloc | apply pw_below_drewN | apply below_drew1 | refine below_set ?_ GE288.out) | exact HB.out)) hb)
   clear HO310
   clear HO319
   clear HO328
   clear HO331
   clear HO335
   clear BK288
   clear HB
   have HO310 := n0_
   have HO319 := n1_
   have HO328 := n2_
   have HO331 := n3_
   have HO335 := n4_
   have BK288 := n5_
   have HB := n6_
   clear n0_ n1_ n2_ n3_ n4_ n5_ n6_
   (try clear hb)
   (try clear hb2)
   (try clear hk)
   (try clear hi)
   refine hK.out _ _ ⟨(blk_cell BK288.out 0).trans rfl, (blk_cell BK288.out 1).trans rfl, (blk_cell BK288.out 2).trans rfl, (blk_cell BK288.out 3).trans rfl, (blk_cell BK288.out 4).trans rfl, (blk_cell BK288.out 5).trans rfl⟩ (fun hHeld => ?_)
   clear hK K
   refine norm_ (a' := ?_) ?_ ?_
   rotate_left
   ·show Act.put _ (some 96) _ = _
    simp only [Act.put, sb_, s0_, s1_, i64_w, i32_w]
    rfl
   have H := HZ_.out
   clear HZ_
   by_cases c107 : (t332 == t336) = true
   rotate_left
   ·rw [if_neg c107] at H
    have c107b0 : (t332 == t336) = false := by simpa using c107
    (try (have c107b1 : decide (t332 = t336) = false := by simpa using c107))
    (try (have c107b2 : (t332 == t336) = false := by simpa using c107))
    (try (have c107b3 : ¬ (t332 = t336) := by simpa using c107))
    clear c107
    obtain rfl := Option.some.inj H
    refine pure_ (i := 10) (N := some 97) (v := ?_) (a' := ?_) bw27_18 rfl rfl (any_of HT_.out (by kernel_rfl)) (fun _ _ _ h => h) (Or.inl ⟨by rfl, ?_⟩) ?_ ?_
    rotate_left
    ·intro w'
     go_simp
     with_reducible rfl
    rotate_left
    ·simp only [Act.put, sb_, s0_, s1_, i64_w, i32_w]
     rfl
    refine pure_ (i := 11) (N := some 98) (v := ?_) (a' := ?_) bw27_19 rfl rfl (any_of HT_.out (by kernel_rfl)) (fun _ _ _ h => h) (Or.inl ⟨by rfl, ?_⟩) ?_ ?_
    rotate_left
    ·intro w'
     go_simp
     with_reducible rfl
    rotate_left
    ·simp only [Act.put, sb_, s0_, s1_, i64_w, i32_w]
     rfl
    refine pure_ (i := 12) (N := some 99) (v := undef) (a' := ?_) bw27_20 rfl rfl (any_of HT_.out (by kernel_rfl)) (fun _ _ _ h => h) (Or.inr ⟨by rfl, rfl⟩) ?_ ?_
    rotate_left
    ·simp only [Act.put, sb_, s0_, s1_, i64_w, i32_w]
     rfl
    refine pure_ (i := 13) (N := some 100) (v := undef) (a' := ?_) bw27_21 rfl rfl (any_of HT_.out (by kernel_rfl)) (fun _ _ _ h => h) (Or.inr ⟨by rfl, rfl⟩) ?_ ?_
    rotate_left
    ·simp only [Act.put, sb_, s0_, s1_, i64_w, i32_w]
     rfl
    refine pure_ (i := 14) (N := some 101) (v := undef) (a' := ?_) bw27_22 rfl rfl (any_of HT_.out (by kernel_rfl)) (fun _ _ _ h => h) (Or.inr ⟨by rfl, rfl⟩) ?_ ?_
    rotate_left
    ·simp only [Act.put, sb_, s0_, s1_, i64_w, i32_w]
     rfl
    refine pure_ (i := 15) (N := some 102) (v := undef) (a' := ?_) bw27_23 rfl rfl (any_of HT_.out (by kernel_rfl)) (fun _ _ _ h => h) (Or.inr ⟨by rfl, rfl⟩) ?_ ?_
    rotate_left
    ·simp only [Act.put, sb_, s0_, s1_, i64_w, i32_w]
     rfl
    refine pure_ (i := 16) (N := some 103) (v := undef) (a' := ?_) bw27_24 rfl rfl (any_of HT_.out (by kernel_rfl)) (fun _ _ _ h => h) (Or.inr ⟨by rfl, rfl⟩) ?_ ?_
    rotate_left
    ·simp only [Act.put, sb_, s0_, s1_, i64_w, i32_w]
     rfl
    refine pure_ (i := 17) (N := some 104) (v := undef) (a' := ?_) bw27_25 rfl rfl (any_of HT_.out (by kernel_rfl)) (fun _ _ _ h => h) (Or.inr ⟨by rfl, rfl⟩) ?_ ?_
    rotate_left
    ·simp only [Act.put, sb_, s0_, s1_, i64_w, i32_w]
     rfl
    refine pure_ (i := 18) (N := some 105) (v := undef) (a' := ?_) bw27_26 rfl rfl (any_of HT_.out (by kernel_rfl)) (fun _ _ _ h => h) (Or.inr ⟨by rfl, rfl⟩) ?_ ?_
    rotate_left
    ·simp only [Act.put, sb_, s0_, s1_, i64_w, i32_w]
     rfl
    refine pure_ (i := 19) (N := some 106) (v := undef) (a' := ?_) bw27_27 rfl rfl (any_of HT_.out (by kernel_rfl)) (fun _ _ _ h => h) (Or.inr ⟨by rfl, rfl⟩) ?_ ?_
    rotate_left
    ·simp only [Act.put, sb_, s0_, s1_, i64_w, i32_w]
     rfl
    refine pure_ (i := 20) (N := some 107) (v := ?_) (a' := ?_) bw27_28 rfl rfl (any_of HT_.out (by kernel_rfl)) (fun _ _ _ h => h) (Or.inl ⟨by rfl, ?_⟩) ?_ ?_
    rotate_left
    ·intro w'
     go_simp
     with_reducible rfl
    rotate_left
    ·simp only [Act.put, sb_, s0_, s1_, i64_w, i32_w]
     rfl
    refine pure_ (i := 21) (N := some 108) (v := ?_) (a' := ?_) bw27_29 rfl rfl (any_of HT_.out (by kernel_rfl)) (fun _ _ _ h => h) (Or.inl ⟨by rfl, ?_⟩) ?_ ?_
    rotate_left
    ·intro w'
     go_simp
     with_reducible rfl
    rotate_left
    ·simp only [Act.put, sb_, s0_, s1_, i64_w, i32_w]
     rfl
    refine pure_ (i := 22) (N := some 109) (v := undef) (a' := ?_) bw27_30 rfl rfl (any_of HT_.out (by kernel_rfl)) (fun _ _ _ h => h) (Or.inr ⟨by rfl, rfl⟩) ?_ ?_
    rotate_left
    ·simp only [Act.put, sb_, s0_, s1_, i64_w, i32_w]
     rfl
    refine pure_ (i := 23) (N := some 110) (v := ?_) (a' := ?_) bw27_31 rfl rfl (any_of HT_.out (by kernel_rfl)) (fun _ _ _ h => h) (Or.inl ⟨by rfl, ?_⟩) ?_ ?_
    rotate_left
    ·intro w'
     go_simp
     with_reducible rfl
    rotate_left
    ·simp only [Act.put, sb_, s0_, s1_, i64_w, i32_w]
     rfl
    refine pure_ (i := 24) (N := some 6) (v := ?_) (a' := ?_) bw27_32 rfl rfl (any_of HT_.out (by kernel_rfl)) (fun _ _ _ h => h) (Or.inl ⟨by rfl, ?_⟩) ?_ ?_
    rotate_left
    ·intro w'
     go_simp
     with_reducible rfl
    rotate_left
    ·simp only [Act.put, sb_, s0_, s1_, i64_w, i32_w]
     rfl
    refine done_ (done_of HT_.out (by kernel_rfl)) ?_
    try go_wp2
    go_ret
    exact ⟨by first | rfl | (simp [errW_none, errW_some] <;> rfl) | (simp [*, errW_none, errW_some] <;> rfl), by repeat (first | (with_reducible first | exact HB.out | apply below_alloc | apply pw_below_drewN | apply below_drew1 | refine below_set ?_ GE288.out) | exact HB.out)⟩
   rw [if_pos c107] at H
   have c107b0 : (t332 == t336) = true := c107
   (try (have c107b1 : decide (t332 = t336) = true := by simpa using c107))
   (try (have c107b2 : (t332 == t336) = true := by simpa using c107))
   clear c107
   obtain ⟨y337, hy337⟩ : ∃ y_ : List Int, y_ = (([12, 12] : List Int)) := ⟨_, rfl⟩
   replace H : ((semblancelaw07_holds.f kj3 l2_0 a2_1 a2_2 a2_3 a2_4 l2_5 y337 l0 ([] : List (S47))).bind fun t340 => ((eval_Holds.f kj3 l0 l2_0 a2_1 a2_2 a2_3 a2_4 l2_5).bind fun t341 => (if (t340 == t341) = true then ((semblancelaw07_awake.f kj3).bind fun t342 => (some t342)) else (some false)))) = some r := by first | (rw [hy337]; with_reducible exact H) | (have H2_ := (Option.bind_some _ _).symm.trans H; rw [hy337]; with_reducible exact H2_) | (have H2_ := (Option.bind_some _ _).symm.trans H; with_reducible exact H2_) | with_reducible exact H | (rw [hy337]; exact H) | exact H
   have Ny337 := Aside0.mk hy337
   clear hy337
   replace H := Option.bind_eq_some_iff.mp H
   obtain ⟨t340, A1080, H⟩ := H
   replace H : ((eval_Holds.f kj3 l0 l2_0 a2_1 a2_2 a2_3 a2_4 l2_5).bind fun t341 => (if (t340 == t341) = true then ((semblancelaw07_awake.f kj3).bind fun t342 => (some t342)) else (some false))) = some r := H
   have A108 := Aside0.mk A1080
   clear A1080
   replace H := Option.bind_eq_some_iff.mp H
   obtain ⟨t341, A1090, H⟩ := H
   replace H : (if (t340 == t341) = true then ((semblancelaw07_awake.f kj3).bind fun t342 => (some t342)) else (some false)) = some r := H
   have A109 := Aside0.mk A1090
   clear A1090
   have HZ_ := Aside0.mk H
   clear H
   refine pure_ (i := 10) (N := some 97) (v := ?_) (a' := ?_) bw27_18 rfl rfl (any_of HT_.out (by kernel_rfl)) (fun _ _ _ h => h) (Or.inl ⟨by rfl, ?_⟩) ?_ ?_
   rotate_left
   ·intro w'
    go_simp
    with_reducible rfl
   rotate_left
   ·simp only [Act.put, sb_, s0_, s1_, i64_w, i32_w]
    rfl
   refine pure_ (i := 11) (N := some 98) (v := ?_) (a' := ?_) bw27_19 rfl rfl (any_of HT_.out (by kernel_rfl)) (fun _ _ _ h => h) (Or.inl ⟨by rfl, ?_⟩) ?_ ?_
   rotate_left
   ·intro w'
    go_simp
    with_reducible rfl
   rotate_left
   ·simp only [Act.put, sb_, s0_, s1_, i64_w, i32_w]
    rfl
   refine pure_ (i := 14) (N := some 101) (v := ?_) (a' := ?_) bw27_33 rfl rfl (any_of HT_.out (by kernel_rfl)) (fun _ _ _ h => h) (Or.inl ⟨by rfl, ?_⟩) ?_ ?_
   rotate_left
   ·intro w'
    go_simp
    with_reducible rfl
   rotate_left
   ·simp only [Act.put, sb_, s0_, s1_, i64_w, i32_w]
    rfl
   refine pure_ (i := 16) (N := some 103) (v := ?_) (a' := ?_) bw27_34 rfl rfl (any_of HT_.out (by kernel_rfl)) (fun _ _ _ h => h) (Or.inl ⟨by rfl, ?_⟩) ?_ ?_
   rotate_left
   ·intro w'
    go_simp
    with_reducible rfl
   rotate_left
   ·simp only [Act.put, sb_, s0_, s1_, i64_w, i32_w]
    rfl
   refine take_ (i := 12) (N := some 99) (v := ?_) (a' := ?_) bw27_35 rfl rfl (take_ofW HT_.out HW_.out (by kernel_rfl)) (fun _ _ _ h => h) (Or.inl ⟨by rfl, ?_⟩) hHeld ?_ ?_
   rotate_left
   ·rintro w' ⟨s0, s1, s2, s3, s4, s5⟩
    go_simp
    with_reducible rfl
   rotate_left
   ·simp only [Act.put, sb_, s0_, s1_, i64_w, i32_w]
    rfl
   refine take_ (i := 17) (N := some 104) (v := ?_) (a' := ?_) bw27_36 rfl rfl (take_ofW HT_.out HW_.out (by kernel_rfl)) (fun _ _ _ h => h) (Or.inl ⟨by rfl, ?_⟩) hHeld ?_ ?_
   rotate_left
   ·rintro w' ⟨s0, s1, s2, s3, s4, s5⟩
    go_simp
    with_reducible rfl
   rotate_left
   ·simp only [Act.put, sb_, s0_, s1_, i64_w, i32_w]
    rfl
   refine one_ (i := 13) (N := some 100) bw27_37 rfl rfl (one_of HT_.out (by kernel_rfl)) (by decide) (fun K hK => ?_)
   refine Kd.R_lit_step (Kd.int .i64) _ 3 ?hg (N := 100) ?hd (xs := ([12, 12] : List Int)) (inner := [.int .i64 12, .int .i64 12]) (ok := fun _ => True) (okp := fun _ => True) ?hr ?hp (fun _ hk => hk) trivial (Below.refl _ _) (Nat.le_refl _) (by simp) ?_; (case hd => rfl); (case hg => rfl); (case hr => first | (go_simp; done) | (go_simp; rfl)); (case hp => exact (Reps.one (show Kd.M (Kd.int .i64) _ _ _ 12 [.int .i64 12] from rfl) (Reps.one (show Kd.M (Kd.int .i64) _ _ _ 12 [.int .i64 12] from rfl) (Reps.none _ _))))
   intro v338 w137 ho138 hb hg_ hnew_
   clear hg_ hnew_
   (first | rw [← Ny337.out] at ho138 | (simp only [Int.reduceToNat] at ho138; rw [← Ny337.out] at ho138))
   have n0_ := Aside0.mk (Kd.R_below (by (with_reducible repeat (first | apply Kd.R_alloc | apply Kd.R_drewN | apply Kd.R_drew)); exact HO310.out) hb)
   have n1_ := Aside0.mk (Kd.R_below (by (with_reducible repeat (first | apply Kd.R_alloc | apply Kd.R_drewN | apply Kd.R_drew)); exact HO319.out) hb)
   have n2_ := Aside0.mk (Kd.R_below (by (with_reducible repeat (first | apply Kd.R_alloc | apply Kd.R_drewN | apply Kd.R_drew)); exact HO328.out) hb)
   have n3_ := Aside0.mk (Kd.R_elder' (by (with_reducible repeat (first | apply Kd.R_alloc | apply Kd.R_drewN | apply Kd.R_drew)); exact HO331.out) (Kd.R_base ho138) hb)
   have n4_ := Aside0.mk (Kd.R_elder' (by (with_reducible repeat (first | apply Kd.R_alloc | apply Kd.R_drewN | apply Kd.R_drew)); exact HO335.out) (Kd.R_base ho138) hb)
   have n5_ := Aside0.mk (Kd.R_lower (Kd.R_new' (Kd.R_new' ho138 (Kd.R_lt (by (with_reducible repeat (first | apply Kd.R_alloc | apply Kd.R_drewN | apply Kd.R_drew)); exact HO331.out))) (Kd.R_lt (by (with_reducible repeat (first | apply Kd.R_alloc | apply Kd.R_drewN | apply Kd.R_drew)); exact HO335.out))) (below_size (by repeat (first | (with_reducible first | exact HB.out | apply below_alloc | apply pw_below_drewN | apply below_drew1 | refine below_set ?_ GE288.out) | exact HB.out))))
   have n6_ := Aside0.mk (blk_below (grw BK288.out) hb)
   have n7_ := Aside0.mk (below_step (by repeat (first | (with_reducible first | exact HB.out | apply below_alloc | apply pw_below_drewN | apply below_drew1 | refine below_set ?_ GE288.out) | exact HB.out)) hb)
   clear HO310
   clear HO319
   clear HO328
   clear HO331
   clear HO335
   clear BK288
   clear HB
   have HO310 := n0_
   have HO319 := n1_
   have HO328 := n2_
   have HO331 := n3_
   have HO335 := n4_
   have HO339 := n5_
   have BK288 := n6_
   have HB := n7_
   clear n0_ n1_ n2_ n3_ n4_ n5_ n6_ n7_
   clear hb ho138
   obtain ⟨Ao139, co139, eo139⟩ := Kd.R_slice HO339.out
   (first | subst eo139 | (injection eo139 with f1_ f2_ f3_; have f4_ := f1_.symm; have f5_ := f3_.symm; clear f1_ f2_ f3_; subst f4_; subst f5_))
   refine hK.out _ _ ⟨(blk_cell BK288.out 0).trans rfl, (blk_cell BK288.out 1).trans rfl, (blk_cell BK288.out 2).trans rfl, (blk_cell BK288.out 3).trans rfl, (blk_cell BK288.out 4).trans rfl, (blk_cell BK288.out 5).trans rfl⟩ (fun hHeld => ?_)
   clear hK K
   refine norm_ (a' := ?_) ?_ ?_
   rotate_left
   ·show Act.put _ (some 100) _ = _
    simp only [Act.put, sb_, s0_, s1_, i64_w, i32_w]
    rfl
   refine one_ (i := 15) (N := some 102) bw27_25 rfl rfl (one_of HT_.out (by kernel_rfl)) (by decide) (fun K hK => ?_)
   refine goes_ Try.func24 (by kernel_rfl) rfl #[.agg #[.slice A2_0 l2_0.length c2_0, .int .i64 a2_1, .int .i64 a2_2, .int .i64 a2_3, .int .i64 a2_4, .slice A2_5 l2_5.length c2_5], .slice Ao139 y337.length co139, .slice A0 l0.length c0, .slice none 0 0] (by rfl) rfl rfl (by (try simp only [List.map_toArray, List.map_cons, List.map_nil]); first | done | rfl | (simp only [List.length_drop, List.length_take]; rfl)) ?_
   refine (semblancelaw07_holds.calls kj3 _ _ l2_0 a2_1 a2_2 a2_3 a2_4 _ _ l2_5 _ _ y337 _ _ l0 _ _ ([] : List (S47)) t340 _ ?side1 ?side2 ?side3 ?side4 ?side5 ?side6 ?side7 ?side8 ?side9 ?side10 A108.out).mono ?_
   (case side1 => repeat (first | exact (Kd.C_below HR2_0.out HB.out) | (with_reducible refine Kd.C_alloc ?_ _) | (with_reducible refine Kd.C_drewN ?_ _) | (with_reducible refine Kd.C_drew ?_)))
   (case side2 => exact HC2_0.out)
   (case side3 => repeat (first | exact (Kd.C_below HR2_5.out HB.out) | (with_reducible refine Kd.C_alloc ?_ _) | (with_reducible refine Kd.C_drewN ?_ _) | (with_reducible refine Kd.C_drew ?_)))
   (case side4 => exact HC2_5.out)
   (case side5 => repeat (first | exact (Kd.R_reads' HO339.out).2.2 | (with_reducible refine Kd.C_alloc ?_ _) | (with_reducible refine Kd.C_drewN ?_ _) | (with_reducible refine Kd.C_drew ?_)))
   (case side6 => exact (Kd.R_reads' HO339.out).2.1)
   (case side7 => repeat (first | exact (Kd.C_below HR0.out HB.out) | (with_reducible refine Kd.C_alloc ?_ _) | (with_reducible refine Kd.C_drewN ?_ _) | (with_reducible refine Kd.C_drew ?_)))
   (case side8 => exact HC0.out)
   (case side9 => exact Kd.C_nil _ _)
   (case side10 => exact Nat.le_refl _)
   rintro e w140 ⟨rfl, hb⟩
   refine ⟨_, rfl, ?_⟩
   have n0_ := Aside0.mk (Kd.R_below (by (with_reducible repeat (first | apply Kd.R_alloc | apply Kd.R_drewN | apply Kd.R_drew)); exact HO310.out) hb)
   have n1_ := Aside0.mk (Kd.R_below (by (with_reducible repeat (first | apply Kd.R_alloc | apply Kd.R_drewN | apply Kd.R_drew)); exact HO319.out) hb)
   have n2_ := Aside0.mk (Kd.R_below (by (with_reducible repeat (first | apply Kd.R_alloc | apply Kd.R_drewN | apply Kd.R_drew)); exact HO328.out) hb)
   have n3_ := Aside0.mk (Kd.R_below (by (with_reducible repeat (first | apply Kd.R_alloc | apply Kd.R_drewN | apply Kd.R_drew)); exact HO331.out) hb)
   have n4_ := Aside0.mk (Kd.R_below (by (with_reducible repeat (first | apply Kd.R_alloc | apply Kd.R_drewN | apply Kd.R_drew)); exact HO335.out) hb)
   have n5_ := Aside0.mk (Kd.R_below (by (with_reducible repeat (first | apply Kd.R_alloc | apply Kd.R_drewN | apply Kd.R_drew)); exact HO339.out) hb)
   have n6_ := Aside0.mk (blk_below (grw BK288.out) hb)
   have n7_ := Aside0.mk (below_step (by repeat (first | (with_reducible first | exact HB.out | apply below_alloc | apply pw_below_drewN | apply below_drew1 | refine below_set ?_ GE288.out) | exact HB.out)) hb)
   clear HO310
   clear HO319
   clear HO328
   clear HO331
   clear HO335
   clear HO339
   clear BK288
   clear HB
   have HO310 := n0_
   have HO319 := n1_
   have HO328 := n2_
   have HO331 := n3_
   have HO335 := n4_
   have HO339 := n5_
   have BK288 := n6_
   have HB := n7_
   clear n0_ n1_ n2_ n3_ n4_ n5_ n6_ n7_
   (try clear hb)
   (try clear hb2)
   (try clear hk)
   (try clear hi)
   refine hK.out _ _ ⟨(blk_cell BK288.out 0).trans rfl, (blk_cell BK288.out 1).trans rfl, (blk_cell BK288.out 2).trans rfl, (blk_cell BK288.out 3).trans rfl, (blk_cell BK288.out 4).trans rfl, (blk_cell BK288.out 5).trans rfl⟩ (fun hHeld => ?_)
   clear hK K
   refine norm_ (a' := ?_) ?_ ?_
   rotate_left
   ·show Act.put _ (some 102) _ = _
    simp only [Act.put, sb_, s0_, s1_, i64_w, i32_w]
    rfl
   refine one_ (i := 18) (N := some 105) bw27_26 rfl rfl (one_of HT_.out (by kernel_rfl)) (by decide) (fun K hK => ?_)
   refine goes_ Try.func19 (by kernel_rfl) rfl #[.slice A0 l0.length c0, .agg #[.slice A2_0 l2_0.length c2_0, .int .i64 a2_1, .int .i64 a2_2, .int .i64 a2_3, .int .i64 a2_4, .slice A2_5 l2_5.length c2_5]] (by rfl) rfl rfl (by (try simp only [List.map_toArray, List.map_cons, List.map_nil]); first | done | rfl | (simp only [List.length_drop, List.length_take]; rfl)) ?_
   with_reducible refine (eval_Holds.calls kj3 _ _ l0 _ _ l2_0 a2_1 a2_2 a2_3 a2_4 _ _ l2_5 t341 _ ?side1 ?side2 ?side3 ?side4 ?side5 ?side6 A109.out).mono ?_
   (case side1 => repeat (first | exact (Kd.C_below HR0.out HB.out) | (with_reducible refine Kd.C_alloc ?_ _) | (with_reducible refine Kd.C_drewN ?_ _) | (with_reducible refine Kd.C_drew ?_)))
   (case side2 => exact HC0.out)
   (case side3 => repeat (first | exact (Kd.C_below HR2_0.out HB.out) | (with_reducible refine Kd.C_alloc ?_ _) | (with_reducible refine Kd.C_drewN ?_ _) | (with_reducible refine Kd.C_drew ?_)))
   (case side4 => exact HC2_0.out)
   (case side5 => repeat (first | exact (Kd.C_below HR2_5.out HB.out) | (with_reducible refine Kd.C_alloc ?_ _) | (with_reducible refine Kd.C_drewN ?_ _) | (with_reducible refine Kd.C_drew ?_)))
   (case side6 => exact HC2_5.out)
   rintro e w141 ⟨rfl, hb⟩
   refine ⟨_, rfl, ?_⟩
   have n0_ := Aside0.mk (Kd.R_below (by (with_reducible repeat (first | apply Kd.R_alloc | apply Kd.R_drewN | apply Kd.R_drew)); exact HO310.out) hb)
   have n1_ := Aside0.mk (Kd.R_below (by (with_reducible repeat (first | apply Kd.R_alloc | apply Kd.R_drewN | apply Kd.R_drew)); exact HO319.out) hb)
   have n2_ := Aside0.mk (Kd.R_below (by (with_reducible repeat (first | apply Kd.R_alloc | apply Kd.R_drewN | apply Kd.R_drew)); exact HO328.out) hb)
   have n3_ := Aside0.mk (Kd.R_below (by (with_reducible repeat (first | apply Kd.R_alloc | apply Kd.R_drewN | apply Kd.R_drew)); exact HO331.out) hb)
   have n4_ := Aside0.mk (Kd.R_below (by (with_reducible repeat (first | apply Kd.R_alloc | apply Kd.R_drewN | apply Kd.R_drew)); exact HO335.out) hb)
   have n5_ := Aside0.mk (Kd.R_below (by (with_reducible repeat (first | apply Kd.R_alloc | apply Kd.R_drewN | apply Kd.R_drew)); exact HO339.out) hb)
   have n6_ := Aside0.mk (blk_below (grw BK288.out) hb)
   have n7_ := Aside0.mk (below_step (by repeat (first | (with_reducible first | exact HB.out | apply below_alloc | apply pw_below_drewN | apply below_drew1 | refine below_set ?_ GE288.out) | exact HB.out)) hb)
   clear HO310
   clear HO319
   clear HO328
   clear HO331
   clear HO335
   clear HO339
   clear BK288
   clear HB
   have HO310 := n0_
   have HO319 := n1_
   have HO328 := n2_
   have HO331 := n3_
   have HO335 := n4_
   have HO339 := n5_
   have BK288 := n6_
   have HB := n7_
   clear n0_ n1_ n2_ n3_ n4_ n5_ n6_ n7_
   (try clear hb)
   (try clear hb2)
   (try clear hk)
   (try clear hi)
   refine hK.out _ _ ⟨(blk_cell BK288.out 0).trans rfl, (blk_cell BK288.out 1).trans rfl, (blk_cell BK288.out 2).trans rfl, (blk_cell BK288.out 3).trans rfl, (blk_cell BK288.out 4).trans rfl, (blk_cell BK288.out 5).trans rfl⟩ (fun hHeld => ?_)
   clear hK K
   refine norm_ (a' := ?_) ?_ ?_
   rotate_left
   ·show Act.put _ (some 105) _ = _
    simp only [Act.put, sb_, s0_, s1_, i64_w, i32_w]
    rfl
   have H := HZ_.out
   clear HZ_
   by_cases c110 : (t340 == t341) = true
   rotate_left
   ·rw [if_neg c110] at H
    have c110b0 : (t340 == t341) = false := by simpa using c110
    (try (have c110b1 : decide (t340 = t341) = false := by simpa using c110))
    (try (have c110b2 : (t340 == t341) = false := by simpa using c110))
    (try (have c110b3 : ¬ (t340 = t341) := by simpa using c110))
    clear c110
    obtain rfl := Option.some.inj H
    refine pure_ (i := 19) (N := some 106) (v := ?_) (a' := ?_) bw27_27 rfl rfl (any_of HT_.out (by kernel_rfl)) (fun _ _ _ h => h) (Or.inl ⟨by rfl, ?_⟩) ?_ ?_
    rotate_left
    ·intro w'
     go_simp
     with_reducible rfl
    rotate_left
    ·simp only [Act.put, sb_, s0_, s1_, i64_w, i32_w]
     rfl
    refine pure_ (i := 20) (N := some 107) (v := ?_) (a' := ?_) bw27_28 rfl rfl (any_of HT_.out (by kernel_rfl)) (fun _ _ _ h => h) (Or.inl ⟨by rfl, ?_⟩) ?_ ?_
    rotate_left
    ·intro w'
     go_simp
     with_reducible rfl
    rotate_left
    ·simp only [Act.put, sb_, s0_, s1_, i64_w, i32_w]
     rfl
    refine pure_ (i := 21) (N := some 108) (v := ?_) (a' := ?_) bw27_29 rfl rfl (any_of HT_.out (by kernel_rfl)) (fun _ _ _ h => h) (Or.inl ⟨by rfl, ?_⟩) ?_ ?_
    rotate_left
    ·intro w'
     go_simp
     with_reducible rfl
    rotate_left
    ·simp only [Act.put, sb_, s0_, s1_, i64_w, i32_w]
     rfl
    refine pure_ (i := 22) (N := some 109) (v := undef) (a' := ?_) bw27_30 rfl rfl (any_of HT_.out (by kernel_rfl)) (fun _ _ _ h => h) (Or.inr ⟨by rfl, rfl⟩) ?_ ?_
    rotate_left
    ·simp only [Act.put, sb_, s0_, s1_, i64_w, i32_w]
     rfl
    refine pure_ (i := 23) (N := some 110) (v := ?_) (a' := ?_) bw27_31 rfl rfl (any_of HT_.out (by kernel_rfl)) (fun _ _ _ h => h) (Or.inl ⟨by rfl, ?_⟩) ?_ ?_
    rotate_left
    ·intro w'
     go_simp
     with_reducible rfl
    rotate_left
    ·simp only [Act.put, sb_, s0_, s1_, i64_w, i32_w]
     rfl
    refine pure_ (i := 24) (N := some 6) (v := ?_) (a' := ?_) bw27_32 rfl rfl (any_of HT_.out (by kernel_rfl)) (fun _ _ _ h => h) (Or.inl ⟨by rfl, ?_⟩) ?_ ?_
    rotate_left
    ·intro w'
     go_simp
     with_reducible rfl
    rotate_left
    ·simp only [Act.put, sb_, s0_, s1_, i64_w, i32_w]
     rfl
    refine done_ (done_of HT_.out (by kernel_rfl)) ?_
    try go_wp2
    go_ret
    exact ⟨by first | rfl | (simp [errW_none, errW_some] <;> rfl) | (simp [*, errW_none, errW_some] <;> rfl), by repeat (first | (with_reducible first | exact HB.out | apply below_alloc | apply pw_below_drewN | apply below_drew1 | refine below_set ?_ GE288.out) | exact HB.out)⟩
   rw [if_pos c110] at H
   have c110b0 : (t340 == t341) = true := c110
   (try (have c110b1 : decide (t340 = t341) = true := by simpa using c110))
   (try (have c110b2 : (t340 == t341) = true := by simpa using c110))
   clear c110
   replace H := Option.bind_eq_some_iff.mp H
   obtain ⟨t342, A1110, H⟩ := H
   replace H : (some t342) = some r := H
   have A111 := Aside0.mk A1110
   clear A1110
   obtain rfl := Option.some.inj H
   refine pure_ (i := 19) (N := some 106) (v := ?_) (a' := ?_) bw27_27 rfl rfl (any_of HT_.out (by kernel_rfl)) (fun _ _ _ h => h) (Or.inl ⟨by rfl, ?_⟩) ?_ ?_
   rotate_left
   ·intro w'
    go_simp
    with_reducible rfl
   rotate_left
   ·simp only [Act.put, sb_, s0_, s1_, i64_w, i32_w]
    rfl
   refine pure_ (i := 20) (N := some 107) (v := ?_) (a' := ?_) bw27_28 rfl rfl (any_of HT_.out (by kernel_rfl)) (fun _ _ _ h => h) (Or.inl ⟨by rfl, ?_⟩) ?_ ?_
   rotate_left
   ·intro w'
    go_simp
    with_reducible rfl
   rotate_left
   ·simp only [Act.put, sb_, s0_, s1_, i64_w, i32_w]
    rfl
   refine pure_ (i := 21) (N := some 108) (v := ?_) (a' := ?_) bw27_29 rfl rfl (any_of HT_.out (by kernel_rfl)) (fun _ _ _ h => h) (Or.inl ⟨by rfl, ?_⟩) ?_ ?_
   rotate_left
   ·intro w'
    go_simp
    with_reducible rfl
   rotate_left
   ·simp only [Act.put, sb_, s0_, s1_, i64_w, i32_w]
    rfl
   refine one_ (i := 22) (N := some 109) bw27_30 rfl rfl (one_of HT_.out (by kernel_rfl)) (by decide) (fun K hK => ?_)
   refine goes_ Try.func15 (by kernel_rfl) rfl #[] (by rfl) rfl rfl (by (try simp only [List.map_toArray, List.map_cons, List.map_nil]); first | done | rfl | (simp only [List.length_drop, List.length_take]; rfl)) ?_
   with_reducible refine (semblancelaw07_awake.calls kj3  t342 _ A111.out).mono ?_
   rintro e w142 ⟨rfl, hb⟩
   refine ⟨_, rfl, ?_⟩
   have n0_ := Aside0.mk (Kd.R_below (by (with_reducible repeat (first | apply Kd.R_alloc | apply Kd.R_drewN | apply Kd.R_drew)); exact HO310.out) hb)
   have n1_ := Aside0.mk (Kd.R_below (by (with_reducible repeat (first | apply Kd.R_alloc | apply Kd.R_drewN | apply Kd.R_drew)); exact HO319.out) hb)
   have n2_ := Aside0.mk (Kd.R_below (by (with_reducible repeat (first | apply Kd.R_alloc | apply Kd.R_drewN | apply Kd.R_drew)); exact HO328.out) hb)
   have n3_ := Aside0.mk (Kd.R_below (by (with_reducible repeat (first | apply Kd.R_alloc | apply Kd.R_drewN | apply Kd.R_drew)); exact HO331.out) hb)
   have n4_ := Aside0.mk (Kd.R_below (by (with_reducible repeat (first | apply Kd.R_alloc | apply Kd.R_drewN | apply Kd.R_drew)); exact HO335.out) hb)
   have n5_ := Aside0.mk (Kd.R_below (by (with_reducible repeat (first | apply Kd.R_alloc | apply Kd.R_drewN | apply Kd.R_drew)); exact HO339.out) hb)
   have n6_ := Aside0.mk (blk_below (grw BK288.out) hb)
   have n7_ := Aside0.mk (below_step (by repeat (first | (with_reducible first | exact HB.out | apply below_alloc | apply pw_below_drewN | apply below_drew1 | refine below_set ?_ GE288.out) | exact HB.out)) hb)
   clear HO310
   clear HO319
   clear HO328
   clear HO331
   clear HO335
   clear HO339
   clear BK288
   clear HB
   have HO310 := n0_
   have HO319 := n1_
   have HO328 := n2_
   have HO331 := n3_
   have HO335 := n4_
   have HO339 := n5_
   have BK288 := n6_
   have HB := n7_
   clear n0_ n1_ n2_ n3_ n4_ n5_ n6_ n7_
   (try clear hb)
   (try clear hb2)
   (try clear hk)
   (try clear hi)
   refine hK.out _ _ ⟨(blk_cell BK288.out 0).trans rfl, (blk_cell BK288.out 1).trans rfl, (blk_cell BK288.out 2).trans rfl, (blk_cell BK288.out 3).trans rfl, (blk_cell BK288.out 4).trans rfl, (blk_cell BK288.out 5).trans rfl⟩ (fun hHeld => ?_)
   clear hK K
   refine norm_ (a' := ?_) ?_ ?_
   rotate_left
   ·show Act.put _ (some 109) _ = _
    simp only [Act.put, sb_, s0_, s1_, i64_w, i32_w]
    rfl
   refine pure_ (i := 23) (N := some 110) (v := ?_) (a' := ?_) bw27_31 rfl rfl (any_of HT_.out (by kernel_rfl)) (fun _ _ _ h => h) (Or.inl ⟨by rfl, ?_⟩) ?_ ?_
   rotate_left
   ·intro w'
    go_simp
    with_reducible rfl
   rotate_left
   ·simp only [Act.put, sb_, s0_, s1_, i64_w, i32_w]
    rfl
   refine pure_ (i := 24) (N := some 6) (v := ?_) (a' := ?_) bw27_32 rfl rfl (any_of HT_.out (by kernel_rfl)) (fun _ _ _ h => h) (Or.inl ⟨by rfl, ?_⟩) ?_ ?_
   rotate_left
   ·intro w'
    go_simp
    with_reducible rfl
   rotate_left
   ·simp only [Act.put, sb_, s0_, s1_, i64_w, i32_w]
    rfl
   refine done_ (done_of HT_.out (by kernel_rfl)) ?_
   try go_wp2
   go_ret
   exact ⟨by first | rfl | (simp [errW_none, errW_some] <;> rfl) | (simp [*, errW_none, errW_some] <;> rfl), by repeat (first | (with_reducible first | exact HB.out | apply below_alloc | apply pw_below_drewN | apply below_drew1 | refine below_set ?_ GE288.out) | exact HB.out)⟩
end Go.Proofs.Ytoeioigpkfgppaa.XV
