-- written by wip/xprint.py out of the translation
import Derived.Test.YtjlegibfeenglaaXEp0
import Derived.Test.YtjlegibfeenglaaXEp10
namespace Go.Proofs.Ytjlegibfeenglaa.XE
open Go.Proofs.Ytjlegibfeenglaa.XGrow Go.RowKit Go.Proofs.YtjlegibfeenglaaW.PrintWords Go.Proofs.YtjlegibfeenglaaW.PrintLast Go.Proofs.YtjlegibfeenglaaW.PrintMore
attribute [local go_sem] max2_int min2_int max_two min_two max_three min_three max_four min_four   -- for this text's walks alone
set_option linter.unusedVariables false
set_option linter.unusedSimpArgs false

/-! ### semblanceref05_Type: function 47 -/
mutual
def semblanceref05_Type.j0 : Nat → List (S117) → Int → List Int → Int → Bool → Option (Int)
  | 0, _, _, _, _, _ => none
  | k + 1, x0, x5, x6, x7, x22 => if x22 = true then (semblanceref05_Type.j1 k x0 x5 x6 2) else (semblanceref05_Type.j1 k x0 x5 x6 x7)
def semblanceref05_Type.j1 : Nat → List (S117) → Int → List Int → Int → Option (Int)
  | 0, _, _, _, _ => none
  | k + 1, x0, x5, x6, x7 => semblanceref05_Type.l0 k x0 x5 x6 x7 0
def semblanceref05_Type.l0 : Nat → List (S117) → Int → List Int → Int → Int → Option (Int)
  | 0, _, _, _, _, _ => none
  | k + 1, x0, x5, x6, x7, x8 => if x8 < (x6.length : Int) then (if 0 ≤ x8 then ((semblanceref05_Type.f k x0 (rd x6 x8)).bind fun t275 => (if t275 = x7 then (semblanceref05_Type.l0 k x0 x5 x6 x7 (wrap64 (x8 + 1))) else (some 0))) else (none)) else (if x5 ≤ 8 then (some 1) else (some 2))
def semblanceref05_Type.f : Nat → List (S117) → Int → Option (Int)
  | 0, _, _ => none
  | k + 1, l0, a1 => if 0 ≤ a1 then (if a1 < (l0.length : Int) then ((semblanceref05_Below.f k l0 a1).bind fun t271 => (if ((rd_T117 l0 a1).f0) = 12 then (semblanceref05_Type.j0 k l0 ((rd_T117 l0 a1).f0) t271 1 true) else (semblanceref05_Type.j0 k l0 ((rd_T117 l0 a1).f0) t271 1 (decide (((rd_T117 l0 a1).f0) ≥ 19))))) else (none)) else (none)
end
theorem semblanceref05_Type.mono_l : ∀ k, (∀ y0 y1, LeO (semblanceref05_Type.f k y0 y1) (semblanceref05_Type.f (k + 1) y0 y1)) ∧ (∀ y0 y1 y2 y3 y4, LeO (semblanceref05_Type.j0 k y0 y1 y2 y3 y4) (semblanceref05_Type.j0 (k + 1) y0 y1 y2 y3 y4)) ∧ (∀ y0 y1 y2 y3, LeO (semblanceref05_Type.j1 k y0 y1 y2 y3) (semblanceref05_Type.j1 (k + 1) y0 y1 y2 y3)) ∧ (∀ y0 y1 y2 y3 y4, LeO (semblanceref05_Type.l0 k y0 y1 y2 y3 y4) (semblanceref05_Type.l0 (k + 1) y0 y1 y2 y3 y4))
  | 0 => ⟨fun _ _ r h => by simp [semblanceref05_Type.f] at h, fun _ _ _ _ _ r h => by simp [semblanceref05_Type.j0] at h, fun _ _ _ _ r h => by simp [semblanceref05_Type.j1] at h, fun _ _ _ _ _ r h => by simp [semblanceref05_Type.l0] at h⟩
  | k + 1 => by
    obtain ⟨ih0, ih1, ih2, ih3⟩ := semblanceref05_Type.mono_l k
    refine ⟨?_, ?_, ?_, ?_⟩
    · intro y0 y1
      unfold semblanceref05_Type.f
      repeat' first
      | (with_reducible exact ih0 _ _)
      | (with_reducible exact ih1 _ _ _ _ _)
      | (with_reducible exact ih2 _ _ _ _)
      | (with_reducible exact ih3 _ _ _ _ _)
      | (with_reducible exact semblanceref05_Below.mono _ _ _)
      | (with_reducible exact LeO.refl _)
      | (with_reducible exact LeO.none _)
      | (with_reducible refine LeO.ite ?_ ?_)
      | (with_reducible refine LeO.bind ?_ (fun _ => ?_))
      | exact ih0 _ _
      | exact ih1 _ _ _ _ _
      | exact ih2 _ _ _ _
      | exact ih3 _ _ _ _ _
      | exact semblanceref05_Below.mono _ _ _
      | exact LeO.none _
      | refine LeO.ite ?_ ?_
      | refine LeO.bind ?_ (fun _ => ?_)
    · intro y0 y1 y2 y3 y4
      unfold semblanceref05_Type.j0
      repeat' first
      | (with_reducible exact ih0 _ _)
      | (with_reducible exact ih1 _ _ _ _ _)
      | (with_reducible exact ih2 _ _ _ _)
      | (with_reducible exact ih3 _ _ _ _ _)
      | (with_reducible exact semblanceref05_Below.mono _ _ _)
      | (with_reducible exact LeO.refl _)
      | (with_reducible exact LeO.none _)
      | (with_reducible refine LeO.ite ?_ ?_)
      | (with_reducible refine LeO.bind ?_ (fun _ => ?_))
      | exact ih0 _ _
      | exact ih1 _ _ _ _ _
      | exact ih2 _ _ _ _
      | exact ih3 _ _ _ _ _
      | exact semblanceref05_Below.mono _ _ _
      | exact LeO.none _
      | refine LeO.ite ?_ ?_
      | refine LeO.bind ?_ (fun _ => ?_)
    · intro y0 y1 y2 y3
      unfold semblanceref05_Type.j1
      repeat' first
      | (with_reducible exact ih0 _ _)
      | (with_reducible exact ih1 _ _ _ _ _)
      | (with_reducible exact ih2 _ _ _ _)
      | (with_reducible exact ih3 _ _ _ _ _)
      | (with_reducible exact semblanceref05_Below.mono _ _ _)
      | (with_reducible exact LeO.refl _)
      | (with_reducible exact LeO.none _)
      | (with_reducible refine LeO.ite ?_ ?_)
      | (with_reducible refine LeO.bind ?_ (fun _ => ?_))
      | exact ih0 _ _
      | exact ih1 _ _ _ _ _
      | exact ih2 _ _ _ _
      | exact ih3 _ _ _ _ _
      | exact semblanceref05_Below.mono _ _ _
      | exact LeO.none _
      | refine LeO.ite ?_ ?_
      | refine LeO.bind ?_ (fun _ => ?_)
    · intro y0 y1 y2 y3 y4
      unfold semblanceref05_Type.l0
      repeat' first
      | (with_reducible exact ih0 _ _)
      | (with_reducible exact ih1 _ _ _ _ _)
      | (with_reducible exact ih2 _ _ _ _)
      | (with_reducible exact ih3 _ _ _ _ _)
      | (with_reducible exact semblanceref05_Below.mono _ _ _)
      | (with_reducible exact LeO.refl _)
      | (with_reducible exact LeO.none _)
      | (with_reducible refine LeO.ite ?_ ?_)
      | (with_reducible refine LeO.bind ?_ (fun _ => ?_))
      | exact ih0 _ _
      | exact ih1 _ _ _ _ _
      | exact ih2 _ _ _ _
      | exact ih3 _ _ _ _ _
      | exact semblanceref05_Below.mono _ _ _
      | exact LeO.none _
      | refine LeO.ite ?_ ?_
      | refine LeO.bind ?_ (fun _ => ?_)
theorem semblanceref05_Type.mono : ∀ a0 a1 k, LeO (semblanceref05_Type.f k a0 a1) (semblanceref05_Type.f (k + 1) a0 a1) := by
  intro a0 a1 k
  obtain ⟨ih0, ih1, ih2, ih3⟩ := semblanceref05_Type.mono_l k
  exact ih0 a0 a1

/-! ### semblanceref14_HasState: function 107 -/
def semblanceref14_HasState.l0 : Nat → ByteArray → Int → ByteArray → List ByteArray → List (S95) → List (S99) → Option (Bool)
  | 0, _, _, _, _, _, _ => none
  | k + 1, x1, x5, x277000, x277001, x277002, x277003 => if x5 < (x277003.length : Int) then (if 0 ≤ x5 then (if ((rd_T99 x277003 x5).f0).toList = x1.toList then (some true) else (semblanceref14_HasState.l0 k x1 (wrap64 (x5 + 1)) x277000 x277001 x277002 x277003)) else (none)) else (some false)
def semblanceref14_HasState.f (k : Nat) (a0_0 : ByteArray) (l0_1 : List ByteArray) (l0_2 : List (S95)) (l0_3 : List (S99)) (a1 : ByteArray) : Option (Bool) := semblanceref14_HasState.l0 k a1 0 a0_0 l0_1 l0_2 l0_3
theorem semblanceref14_HasState.mono_l : ∀ k, (∀ y0 y1 y2 y3 y4 y5, LeO (semblanceref14_HasState.l0 k y0 y1 y2 y3 y4 y5) (semblanceref14_HasState.l0 (k + 1) y0 y1 y2 y3 y4 y5))
  | 0 => fun _ _ _ _ _ _ r h => by simp [semblanceref14_HasState.l0] at h
  | k + 1 => by
    have ih0 := semblanceref14_HasState.mono_l k
    · intro y0 y1 y2 y3 y4 y5
      unfold semblanceref14_HasState.l0
      repeat' first
      | (with_reducible exact ih0 _ _ _ _ _ _)
      | (with_reducible exact LeO.refl _)
      | (with_reducible exact LeO.none _)
      | (with_reducible refine LeO.ite ?_ ?_)
      | (with_reducible refine LeO.bind ?_ (fun _ => ?_))
      | exact ih0 _ _ _ _ _ _
      | exact LeO.none _
      | refine LeO.ite ?_ ?_
      | refine LeO.bind ?_ (fun _ => ?_)
theorem semblanceref14_HasState.mono : ∀ a0 a1 a2 a3 a4 k, LeO (semblanceref14_HasState.f k a0 a1 a2 a3 a4) (semblanceref14_HasState.f (k + 1) a0 a1 a2 a3 a4) := by
  intro a0 a1 a2 a3 a4 k
  have ih0 := semblanceref14_HasState.mono_l k
  unfold semblanceref14_HasState.f
  repeat' first
      | (with_reducible exact ih0 _ _ _ _ _ _)
      | (with_reducible exact LeO.refl _)
      | (with_reducible exact LeO.none _)
      | (with_reducible refine LeO.ite ?_ ?_)
      | (with_reducible refine LeO.bind ?_ (fun _ => ?_))
      | exact ih0 _ _ _ _ _ _
      | exact LeO.none _
      | refine LeO.ite ?_ ?_
      | refine LeO.bind ?_ (fun _ => ?_)

/-! ### semblanceref14_expr: function 105 -/
def semblanceref14_expr.l0 : Nat → List (S117) → Int → Int → ByteArray → List ByteArray → List (S95) → List (S99) → Option (Bool)
  | 0, _, _, _, _, _, _, _ => none
  | k + 1, x1, x2, x7, x279000, x279001, x279002, x279003 => if x7 < (x1.length : Int) then (if 0 ≤ x7 then (if ((rd_T117 x1 x7).f0) = 2 then ((semblanceref14_HasVar.f k x279000 x279001 x279002 x279003 ((rd_T117 x1 x7).f2)).bind fun t282 => (if t282 = true then (if ((rd_T117 x1 x7).f0) = 11 then ((semblanceref14_HasState.f k x279000 x279001 x279002 x279003 ((rd_T117 x1 x7).f2)).bind fun t285 => (if t285 = true then (semblanceref14_expr.l0 k x1 x2 (wrap64 (x7 + 1)) x279000 x279001 x279002 x279003) else (some false))) else (semblanceref14_expr.l0 k x1 x2 (wrap64 (x7 + 1)) x279000 x279001 x279002 x279003)) else (some false))) else (if ((rd_T117 x1 x7).f0) = 11 then ((semblanceref14_HasState.f k x279000 x279001 x279002 x279003 ((rd_T117 x1 x7).f2)).bind fun t288 => (if t288 = true then (semblanceref14_expr.l0 k x1 x2 (wrap64 (x7 + 1)) x279000 x279001 x279002 x279003) else (some false))) else (semblanceref14_expr.l0 k x1 x2 (wrap64 (x7 + 1)) x279000 x279001 x279002 x279003))) else (none)) else ((semblanceref05_Type.f k x1 0).bind fun t279 => (some (t279 == x2)))
def semblanceref14_expr.f (k : Nat) (a0_0 : ByteArray) (l0_1 : List ByteArray) (l0_2 : List (S95)) (l0_3 : List (S99)) (l1 : List (S117)) (a2 : Int) : Option (Bool) := semblanceref14_expr.l0 k l1 a2 0 a0_0 l0_1 l0_2 l0_3
theorem semblanceref14_expr.mono_l : ∀ k, (∀ y0 y1 y2 y3 y4 y5 y6, LeO (semblanceref14_expr.l0 k y0 y1 y2 y3 y4 y5 y6) (semblanceref14_expr.l0 (k + 1) y0 y1 y2 y3 y4 y5 y6))
  | 0 => fun _ _ _ _ _ _ _ r h => by simp [semblanceref14_expr.l0] at h
  | k + 1 => by
    have ih0 := semblanceref14_expr.mono_l k
    · intro y0 y1 y2 y3 y4 y5 y6
      unfold semblanceref14_expr.l0
      repeat' first
      | (with_reducible exact ih0 _ _ _ _ _ _ _)
      | (with_reducible exact semblanceref05_Type.mono _ _ _)
      | (with_reducible exact semblanceref14_HasState.mono _ _ _ _ _ _)
      | (with_reducible exact semblanceref14_HasVar.mono _ _ _ _ _ _)
      | (with_reducible exact LeO.refl _)
      | (with_reducible exact LeO.none _)
      | (with_reducible refine LeO.ite ?_ ?_)
      | (with_reducible refine LeO.bind ?_ (fun _ => ?_))
      | exact ih0 _ _ _ _ _ _ _
      | exact semblanceref05_Type.mono _ _ _
      | exact semblanceref14_HasState.mono _ _ _ _ _ _
      | exact semblanceref14_HasVar.mono _ _ _ _ _ _
      | exact LeO.none _
      | refine LeO.ite ?_ ?_
      | refine LeO.bind ?_ (fun _ => ?_)
theorem semblanceref14_expr.mono : ∀ a0 a1 a2 a3 a4 a5 k, LeO (semblanceref14_expr.f k a0 a1 a2 a3 a4 a5) (semblanceref14_expr.f (k + 1) a0 a1 a2 a3 a4 a5) := by
  intro a0 a1 a2 a3 a4 a5 k
  have ih0 := semblanceref14_expr.mono_l k
  unfold semblanceref14_expr.f
  repeat' first
      | (with_reducible exact ih0 _ _ _ _ _ _ _)
      | (with_reducible exact semblanceref05_Type.mono _ _ _)
      | (with_reducible exact semblanceref14_HasState.mono _ _ _ _ _ _)
      | (with_reducible exact semblanceref14_HasVar.mono _ _ _ _ _ _)
      | (with_reducible exact LeO.refl _)
      | (with_reducible exact LeO.none _)
      | (with_reducible refine LeO.ite ?_ ?_)
      | (with_reducible refine LeO.bind ?_ (fun _ => ?_))
      | exact ih0 _ _ _ _ _ _ _
      | exact semblanceref05_Type.mono _ _ _
      | exact semblanceref14_HasState.mono _ _ _ _ _ _
      | exact semblanceref14_HasVar.mono _ _ _ _ _ _
      | exact LeO.none _
      | refine LeO.ite ?_ ?_
      | refine LeO.bind ?_ (fun _ => ?_)
def semblanceref14_expr.T4 : Bool × List (List Nat × List Nat) := (true, [([], []), ([], []), ([0, 1], [0, 1]), ([2], [2]), ([3], [3]), ([4], [4]), ([5], [5]), ([6], [6]), ([6], [6]), ([6], [6]), ([8, 9, 6], [6, 8, 9]), ([10, 6], [6, 10]), ([11, 6], [6, 11]), ([7, 12, 6, 6], [6, 7, 12]), ([13, 6], [6, 13]), ([6, 14], [6, 14]), ([15, 13], [15]), ([16], [16]), ([16], [16]), ([17, 18, 16], [16, 17, 18]), ([19, 16], [16, 19]), ([20, 16], [16, 20]), ([21, 16], [16, 21]), ([22, 16, 16], [16, 22]), ([23], [23]), ([23], [23]), ([23], [23]), ([25, 26, 23], [23, 25, 26]), ([27, 23], [23, 27]), ([28, 23], [23, 28]), ([24, 29, 23, 23], [23, 24, 29]), ([30, 23], [23, 30]), ([23, 31, 16], [16, 23, 31]), ([16, 32], [16, 32])])
def semblanceref14_expr.B4 : List Nat := [0, 0, 3, 7, 15, 31, 63, 127, 127, 127, 895, 1919, 3967, 8191, 16383, 32767, 65535, 131071, 131071, 524287, 1048575, 2097151, 4194303, 8388607, 16777215, 16777215, 16777215, 117440511, 251658239, 520093695, 1073741823, 2147483647, 4294967295, 8589934591]
theorem semblanceref14_expr.tab4 : rtab .any (opsOf Try.f105 4) = semblanceref14_expr.T4 := by kernel_rfl
theorem semblanceref14_expr.bits4 : waitsOk semblanceref14_expr.T4.2 semblanceref14_expr.B4 = true := by kernel_rfl

/-! ### semblanceref14_acts: function 75 -/
def semblanceref14_acts.l0 : Nat → List (S130) → Bool → Int → ByteArray → List ByteArray → List (S95) → List (S99) → Option (Bool)
  | 0, _, _, _, _, _, _, _ => none
  | k + 1, x1, x2, x7, x290000, x290001, x290002, x290003 => if x7 < (x1.length : Int) then (if 0 ≤ x7 then ((semblanceref14_HasVar.f k x290000 x290001 x290002 x290003 ((rd_T130 x1 x7).f0)).bind fun t291 => (if t291 = true then (if (rd_T130 x1 x7).f1 = true then (if x2 = true then (if ((rd_T130 x1 x7).f1 = true) then (semblanceref14_acts.l0 k x1 x2 (wrap64 (x7 + 1)) x290000 x290001 x290002 x290003) else ((semblanceref14_expr.f k x290000 x290001 x290002 x290003 ((rd_T130 x1 x7).f2) 1).bind fun t295 => (if t295 = true then (semblanceref14_acts.l0 k x1 x2 (wrap64 (x7 + 1)) x290000 x290001 x290002 x290003) else (some false)))) else (some false)) else (if ((rd_T130 x1 x7).f1 = true) then (semblanceref14_acts.l0 k x1 x2 (wrap64 (x7 + 1)) x290000 x290001 x290002 x290003) else ((semblanceref14_expr.f k x290000 x290001 x290002 x290003 ((rd_T130 x1 x7).f2) 1).bind fun t298 => (if t298 = true then (semblanceref14_acts.l0 k x1 x2 (wrap64 (x7 + 1)) x290000 x290001 x290002 x290003) else (some false))))) else (some false))) else (none)) else (some true)
def semblanceref14_acts.f (k : Nat) (a0_0 : ByteArray) (l0_1 : List ByteArray) (l0_2 : List (S95)) (l0_3 : List (S99)) (l1 : List (S130)) (a2 : Bool) : Option (Bool) := semblanceref14_acts.l0 k l1 a2 0 a0_0 l0_1 l0_2 l0_3
theorem semblanceref14_acts.mono_l : ∀ k, (∀ y0 y1 y2 y3 y4 y5 y6, LeO (semblanceref14_acts.l0 k y0 y1 y2 y3 y4 y5 y6) (semblanceref14_acts.l0 (k + 1) y0 y1 y2 y3 y4 y5 y6))
  | 0 => fun _ _ _ _ _ _ _ r h => by simp [semblanceref14_acts.l0] at h
  | k + 1 => by
    have ih0 := semblanceref14_acts.mono_l k
    · intro y0 y1 y2 y3 y4 y5 y6
      unfold semblanceref14_acts.l0
      repeat' first
      | (with_reducible exact ih0 _ _ _ _ _ _ _)
      | (with_reducible exact semblanceref14_HasVar.mono _ _ _ _ _ _)
      | (with_reducible exact semblanceref14_expr.mono _ _ _ _ _ _ _)
      | (with_reducible exact LeO.refl _)
      | (with_reducible exact LeO.none _)
      | (with_reducible refine LeO.ite ?_ ?_)
      | (with_reducible refine LeO.bind ?_ (fun _ => ?_))
      | exact ih0 _ _ _ _ _ _ _
      | exact semblanceref14_HasVar.mono _ _ _ _ _ _
      | exact semblanceref14_expr.mono _ _ _ _ _ _ _
      | exact LeO.none _
      | refine LeO.ite ?_ ?_
      | refine LeO.bind ?_ (fun _ => ?_)
theorem semblanceref14_acts.mono : ∀ a0 a1 a2 a3 a4 a5 k, LeO (semblanceref14_acts.f k a0 a1 a2 a3 a4 a5) (semblanceref14_acts.f (k + 1) a0 a1 a2 a3 a4 a5) := by
  intro a0 a1 a2 a3 a4 a5 k
  have ih0 := semblanceref14_acts.mono_l k
  unfold semblanceref14_acts.f
  repeat' first
      | (with_reducible exact ih0 _ _ _ _ _ _ _)
      | (with_reducible exact semblanceref14_HasVar.mono _ _ _ _ _ _)
      | (with_reducible exact semblanceref14_expr.mono _ _ _ _ _ _ _)
      | (with_reducible exact LeO.refl _)
      | (with_reducible exact LeO.none _)
      | (with_reducible refine LeO.ite ?_ ?_)
      | (with_reducible refine LeO.bind ?_ (fun _ => ?_))
      | exact ih0 _ _ _ _ _ _ _
      | exact semblanceref14_HasVar.mono _ _ _ _ _ _
      | exact semblanceref14_expr.mono _ _ _ _ _ _ _
      | exact LeO.none _
      | refine LeO.ite ?_ ?_
      | refine LeO.bind ?_ (fun _ => ?_)
def semblanceref14_acts.T4 : Bool × List (List Nat × List Nat) := (true, [([], []), ([], []), ([], []), ([1, 2], [1, 2]), ([3], [3]), ([4], [4]), ([0, 5], [0, 5]), ([6], [6]), ([7, 6], [7]), ([8], [8]), ([8], [8]), ([9, 10, 8], [8, 9, 10]), ([11, 8], [8, 11]), ([12, 8], [8, 12]), ([13, 8, 8], [8, 13]), ([14], [14]), ([15, 14], [14, 15]), ([14, 16, 8], [8, 14, 16]), ([8, 17], [8, 17]), ([18, 14], [18]), ([19], [19]), ([19], [19]), ([20, 21, 19], [19, 20, 21]), ([22, 19], [19, 22]), ([23, 19], [19, 23]), ([24, 19], [19, 24]), ([25, 19, 19], [19, 25]), ([26], [26]), ([26], [26]), ([26], [26]), ([28, 29, 26], [26, 28, 29]), ([30, 26], [26, 30]), ([31, 26], [26, 31]), ([27, 32, 26, 26], [26, 27, 32]), ([33, 26], [26, 33]), ([26, 34, 19], [19, 26, 34]), ([19, 35], [19, 35])])
def semblanceref14_acts.B4 : List Nat := [0, 0, 0, 6, 14, 30, 63, 127, 255, 511, 511, 2047, 4095, 8191, 16383, 32767, 65535, 131071, 262143, 524287, 1048575, 1048575, 4194303, 8388607, 16777215, 33554431, 67108863, 134217727, 134217727, 134217727, 939524095, 2013265919, 4160749567, 8589934591, 17179869183, 34359738367, 68719476735]
theorem semblanceref14_acts.tab4 : rtab .any (opsOf Try.f75 4) = semblanceref14_acts.T4 := by kernel_rfl
theorem semblanceref14_acts.bits4 : waitsOk semblanceref14_acts.T4.2 semblanceref14_acts.B4 = true := by kernel_rfl

/-! ### semblanceref14_HasEvent: function 106 -/
def semblanceref14_HasEvent.l0 : Nat → ByteArray → Int → ByteArray → List ByteArray → List (S95) → List (S99) → Option (Bool)
  | 0, _, _, _, _, _, _ => none
  | k + 1, x1, x5, x300000, x300001, x300002, x300003 => if x5 < (x300001.length : Int) then (if 0 ≤ x5 then (if (rdOf ByteArray.empty x300001 x5).toList = x1.toList then (some true) else (semblanceref14_HasEvent.l0 k x1 (wrap64 (x5 + 1)) x300000 x300001 x300002 x300003)) else (none)) else (some false)
def semblanceref14_HasEvent.f (k : Nat) (a0_0 : ByteArray) (l0_1 : List ByteArray) (l0_2 : List (S95)) (l0_3 : List (S99)) (a1 : ByteArray) : Option (Bool) := semblanceref14_HasEvent.l0 k a1 0 a0_0 l0_1 l0_2 l0_3
theorem semblanceref14_HasEvent.mono_l : ∀ k, (∀ y0 y1 y2 y3 y4 y5, LeO (semblanceref14_HasEvent.l0 k y0 y1 y2 y3 y4 y5) (semblanceref14_HasEvent.l0 (k + 1) y0 y1 y2 y3 y4 y5))
  | 0 => fun _ _ _ _ _ _ r h => by simp [semblanceref14_HasEvent.l0] at h
  | k + 1 => by
    have ih0 := semblanceref14_HasEvent.mono_l k
    · intro y0 y1 y2 y3 y4 y5
      unfold semblanceref14_HasEvent.l0
      repeat' first
      | (with_reducible exact ih0 _ _ _ _ _ _)
      | (with_reducible exact LeO.refl _)
      | (with_reducible exact LeO.none _)
      | (with_reducible refine LeO.ite ?_ ?_)
      | (with_reducible refine LeO.bind ?_ (fun _ => ?_))
      | exact ih0 _ _ _ _ _ _
      | exact LeO.none _
      | refine LeO.ite ?_ ?_
      | refine LeO.bind ?_ (fun _ => ?_)
theorem semblanceref14_HasEvent.mono : ∀ a0 a1 a2 a3 a4 k, LeO (semblanceref14_HasEvent.f k a0 a1 a2 a3 a4) (semblanceref14_HasEvent.f (k + 1) a0 a1 a2 a3 a4) := by
  intro a0 a1 a2 a3 a4 k
  have ih0 := semblanceref14_HasEvent.mono_l k
  unfold semblanceref14_HasEvent.f
  repeat' first
      | (with_reducible exact ih0 _ _ _ _ _ _)
      | (with_reducible exact LeO.refl _)
      | (with_reducible exact LeO.none _)
      | (with_reducible refine LeO.ite ?_ ?_)
      | (with_reducible refine LeO.bind ?_ (fun _ => ?_))
      | exact ih0 _ _ _ _ _ _
      | exact LeO.none _
      | refine LeO.ite ?_ ?_
      | refine LeO.bind ?_ (fun _ => ?_)

/-! ### semblanceref14_trans: function 76 -/
def semblanceref14_trans.f (k : Nat) (a0_0 : ByteArray) (l0_1 : List ByteArray) (l0_2 : List (S95)) (l0_3 : List (S99)) (a1 : Int) (a2_0 : ByteArray) (l2_1 : List (S117)) (l2_2 : List (S130)) (a2_3 : ByteArray) : Option (Bool) := if a1 = 6 then (if a2_0.toList = ([] : List UInt8) then (some true) else ((semblanceref14_HasEvent.f k a0_0 l0_1 l0_2 l0_3 a2_0).bind fun t303 => (some t303))) else (if a1 = 7 then (if a2_3.toList = ([] : List UInt8) then (some true) else ((semblanceref14_HasState.f k a0_0 l0_1 l0_2 l0_3 a2_3).bind fun t304 => (some t304))) else (if a1 = 8 then (if (l2_1.length : Int) = 0 then (some true) else ((semblanceref14_expr.f k a0_0 l0_1 l0_2 l0_3 l2_1 2).bind fun t305 => (some t305))) else ((semblanceref14_acts.f k a0_0 l0_1 l0_2 l0_3 l2_2 true).bind fun t306 => (some t306))))
theorem semblanceref14_trans.mono : ∀ a0 a1 a2 a3 a4 a5 a6 a7 a8 k, LeO (semblanceref14_trans.f k a0 a1 a2 a3 a4 a5 a6 a7 a8) (semblanceref14_trans.f (k + 1) a0 a1 a2 a3 a4 a5 a6 a7 a8) := by
  intro a0 a1 a2 a3 a4 a5 a6 a7 a8 k
  unfold semblanceref14_trans.f
  repeat' first
      | (with_reducible exact semblanceref14_HasEvent.mono _ _ _ _ _ _)
      | (with_reducible exact semblanceref14_HasState.mono _ _ _ _ _ _)
      | (with_reducible exact semblanceref14_acts.mono _ _ _ _ _ _ _)
      | (with_reducible exact semblanceref14_expr.mono _ _ _ _ _ _ _)
      | (with_reducible exact LeO.refl _)
      | (with_reducible exact LeO.none _)
      | (with_reducible refine LeO.ite ?_ ?_)
      | (with_reducible refine LeO.bind ?_ (fun _ => ?_))
      | exact semblanceref14_HasEvent.mono _ _ _ _ _ _
      | exact semblanceref14_HasState.mono _ _ _ _ _ _
      | exact semblanceref14_acts.mono _ _ _ _ _ _ _
      | exact semblanceref14_expr.mono _ _ _ _ _ _ _
      | exact LeO.none _
      | refine LeO.ite ?_ ?_
      | refine LeO.bind ?_ (fun _ => ?_)

end Go.Proofs.Ytjlegibfeenglaa.XE
