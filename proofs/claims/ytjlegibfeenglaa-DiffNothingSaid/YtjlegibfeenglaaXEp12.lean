-- written by wip/xprint.py out of the translation
import Derived.Test.YtjlegibfeenglaaXEp0
import Derived.Test.YtjlegibfeenglaaXEp2
import Derived.Test.YtjlegibfeenglaaXEp10
import Derived.Test.YtjlegibfeenglaaXEp11
namespace Go.Proofs.Ytjlegibfeenglaa.XE
open Go.Proofs.Ytjlegibfeenglaa.XGrow Go.RowKit Go.Proofs.YtjlegibfeenglaaW.PrintWords Go.Proofs.YtjlegibfeenglaaW.PrintLast Go.Proofs.YtjlegibfeenglaaW.PrintMore
attribute [local go_sem] max2_int min2_int max_two min_two max_three min_three max_four min_four   -- for this text's walks alone
set_option linter.unusedVariables false
set_option linter.unusedSimpArgs false

attribute [local go_sem high] eqA117
/-! ### semblanceref14_Broken: function 34 -/
mutual
def semblanceref14_Broken.j0 : Nat → Int → List (S112) → Int → ByteArray → List ByteArray → List (S95) → List (S99) → Option ((List (S112)))
  | 0, _, _, _, _, _, _, _ => none
  | k + 1, x1, x5, x6, x308000, x308001, x308002, x308003 => if x1 = 2 then (semblanceref14_Broken.j1 k x1 x5 x6 true x308000 x308001 x308002 x308003) else (semblanceref14_Broken.j1 k x1 x5 x6 (x1 == 3) x308000 x308001 x308002 x308003)
def semblanceref14_Broken.j1 : Nat → Int → List (S112) → Int → Bool → ByteArray → List ByteArray → List (S95) → List (S99) → Option ((List (S112)))
  | 0, _, _, _, _, _, _, _, _ => none
  | k + 1, x1, x5, x6, x24, x308000, x308001, x308002, x308003 => if x24 = true then (semblanceref14_Broken.j2 k x1 x5 (x308002.length : Int) x308000 x308001 x308002 x308003) else (semblanceref14_Broken.j2 k x1 x5 x6 x308000 x308001 x308002 x308003)
def semblanceref14_Broken.j2 : Nat → Int → List (S112) → Int → ByteArray → List ByteArray → List (S95) → List (S99) → Option ((List (S112)))
  | 0, _, _, _, _, _, _, _ => none
  | k + 1, x1, x5, x6, x308000, x308001, x308002, x308003 => semblanceref14_Broken.l0 k x1 x5 x6 0 x308000 x308001 x308002 x308003
def semblanceref14_Broken.l0 : Nat → Int → List (S112) → Int → Int → ByteArray → List ByteArray → List (S95) → List (S99) → Option ((List (S112)))
  | 0, _, _, _, _, _, _, _, _ => none
  | k + 1, x1, x5, x6, x7, x308000, x308001, x308002, x308003 => if x7 < x6 then (if x1 ≤ 5 then ((semblanceref14_item.f k x308000 x308001 x308002 x308003 x1 x7).bind fun t311 => (if t311 = true then (semblanceref14_Broken.l0 k x1 x5 x6 (wrap64 (x7 + 1)) x308000 x308001 x308002 x308003) else (if x5.length < 5864062014805 then (semblanceref14_Broken.l0 k x1 (x5 ++ [(⟨x1, x7, 0⟩ : S112)]) x6 (wrap64 (x7 + 1)) x308000 x308001 x308002 x308003) else (none)))) else (if 0 ≤ x7 then (if x7 < (x308003.length : Int) then (if x1 = 10 then ((semblanceref14_acts.f k x308000 x308001 x308002 x308003 ((rd_T99 x308003 x7).f3) false).bind fun t317 => (if t317 = true then ((semblanceref14_acts.f k x308000 x308001 x308002 x308003 ((rd_T99 x308003 x7).f4) false).bind fun t318 => (if t318 = true then (semblanceref14_Broken.l0 k x1 x5 x6 (wrap64 (x7 + 1)) x308000 x308001 x308002 x308003) else (if x5.length < 5864062014805 then (semblanceref14_Broken.l0 k x1 (x5 ++ [(⟨x1, x7, 1⟩ : S112)]) x6 (wrap64 (x7 + 1)) x308000 x308001 x308002 x308003) else (none)))) else (if x5.length < 5864062014805 then ((some (x5 ++ [(⟨x1, x7, 0⟩ : S112)] : List (S112))).bind fun y322 => ((semblanceref14_acts.f k x308000 x308001 x308002 x308003 ((rd_T99 x308003 x7).f4) false).bind fun t325 => (if t325 = true then (semblanceref14_Broken.l0 k x1 y322 x6 (wrap64 (x7 + 1)) x308000 x308001 x308002 x308003) else (if y322.length < 5864062014805 then (semblanceref14_Broken.l0 k x1 (y322 ++ [(⟨x1, x7, 1⟩ : S112)]) x6 (wrap64 (x7 + 1)) x308000 x308001 x308002 x308003) else (none))))) else (none)))) else (semblanceref14_Broken.l1 k x1 x5 x6 x7 0 x308000 x308001 x308002 x308003 ((rd_T99 x308003 x7).f0) ((rd_T99 x308003 x7).f1) ((rd_T99 x308003 x7).f2) ((rd_T99 x308003 x7).f3) ((rd_T99 x308003 x7).f4) ((rd_T99 x308003 x7).f5))) else (none)) else (none))) else (some x5)
def semblanceref14_Broken.l1 : Nat → Int → List (S112) → Int → Int → Int → ByteArray → List ByteArray → List (S95) → List (S99) → ByteArray → Int → Int → List (S130) → List (S130) → List (S102) → Option ((List (S112)))
  | 0, _, _, _, _, _, _, _, _, _, _, _, _, _, _, _ => none
  | k + 1, x1, x5, x6, x7, x9, x308000, x308001, x308002, x308003, x317000, x317001, x317002, x317003, x317004, x317005 => if x9 < (x317005.length : Int) then (if 0 ≤ x9 then ((semblanceref14_trans.f k x308000 x308001 x308002 x308003 x1 ((rd_T102 x317005 x9).f0) ((rd_T102 x317005 x9).f1) ((rd_T102 x317005 x9).f2) ((rd_T102 x317005 x9).f3)).bind fun t330 => (if t330 = true then (semblanceref14_Broken.l1 k x1 x5 x6 x7 (wrap64 (x9 + 1)) x308000 x308001 x308002 x308003 x317000 x317001 x317002 x317003 x317004 x317005) else (if x5.length < 5864062014805 then (semblanceref14_Broken.l1 k x1 (x5 ++ [(⟨x1, x7, x9⟩ : S112)]) x6 x7 (wrap64 (x9 + 1)) x308000 x308001 x308002 x308003 x317000 x317001 x317002 x317003 x317004 x317005) else (none)))) else (none)) else (semblanceref14_Broken.l0 k x1 x5 x6 (wrap64 (x7 + 1)) x308000 x308001 x308002 x308003)
end
def semblanceref14_Broken.f (k : Nat) (a0_0 : ByteArray) (l0_1 : List ByteArray) (l0_2 : List (S95)) (l0_3 : List (S99)) (a1 : Int) : Option ((List (S112))) := (some (([] : List (S112)) : List (S112))).bind fun y308 => (if a1 = 1 then (semblanceref14_Broken.j0 k a1 y308 (l0_1.length : Int) a0_0 l0_1 l0_2 l0_3) else (semblanceref14_Broken.j0 k a1 y308 (l0_3.length : Int) a0_0 l0_1 l0_2 l0_3))
theorem semblanceref14_Broken.mono_l : ∀ k, (∀ y0 y1 y2 y3 y4 y5 y6, LeO (semblanceref14_Broken.j0 k y0 y1 y2 y3 y4 y5 y6) (semblanceref14_Broken.j0 (k + 1) y0 y1 y2 y3 y4 y5 y6)) ∧ (∀ y0 y1 y2 y3 y4 y5 y6 y7, LeO (semblanceref14_Broken.j1 k y0 y1 y2 y3 y4 y5 y6 y7) (semblanceref14_Broken.j1 (k + 1) y0 y1 y2 y3 y4 y5 y6 y7)) ∧ (∀ y0 y1 y2 y3 y4 y5 y6, LeO (semblanceref14_Broken.j2 k y0 y1 y2 y3 y4 y5 y6) (semblanceref14_Broken.j2 (k + 1) y0 y1 y2 y3 y4 y5 y6)) ∧ (∀ y0 y1 y2 y3 y4 y5 y6 y7, LeO (semblanceref14_Broken.l0 k y0 y1 y2 y3 y4 y5 y6 y7) (semblanceref14_Broken.l0 (k + 1) y0 y1 y2 y3 y4 y5 y6 y7)) ∧ (∀ y0 y1 y2 y3 y4 y5 y6 y7 y8 y9 y10 y11 y12 y13 y14, LeO (semblanceref14_Broken.l1 k y0 y1 y2 y3 y4 y5 y6 y7 y8 y9 y10 y11 y12 y13 y14) (semblanceref14_Broken.l1 (k + 1) y0 y1 y2 y3 y4 y5 y6 y7 y8 y9 y10 y11 y12 y13 y14))
  | 0 => ⟨fun _ _ _ _ _ _ _ r h => by simp [semblanceref14_Broken.j0] at h, fun _ _ _ _ _ _ _ _ r h => by simp [semblanceref14_Broken.j1] at h, fun _ _ _ _ _ _ _ r h => by simp [semblanceref14_Broken.j2] at h, fun _ _ _ _ _ _ _ _ r h => by simp [semblanceref14_Broken.l0] at h, fun _ _ _ _ _ _ _ _ _ _ _ _ _ _ _ r h => by simp [semblanceref14_Broken.l1] at h⟩
  | k + 1 => by
    obtain ⟨ih0, ih1, ih2, ih3, ih4⟩ := semblanceref14_Broken.mono_l k
    refine ⟨?_, ?_, ?_, ?_, ?_⟩
    · intro y0 y1 y2 y3 y4 y5 y6
      unfold semblanceref14_Broken.j0
      repeat' first
      | (with_reducible exact ih0 _ _ _ _ _ _ _)
      | (with_reducible exact ih1 _ _ _ _ _ _ _ _)
      | (with_reducible exact ih2 _ _ _ _ _ _ _)
      | (with_reducible exact ih3 _ _ _ _ _ _ _ _)
      | (with_reducible exact ih4 _ _ _ _ _ _ _ _ _ _ _ _ _ _ _)
      | (with_reducible exact semblanceref14_acts.mono _ _ _ _ _ _ _)
      | (with_reducible exact semblanceref14_item.mono _ _ _ _ _ _ _)
      | (with_reducible exact semblanceref14_trans.mono _ _ _ _ _ _ _ _ _ _)
      | (with_reducible exact LeO.refl _)
      | (with_reducible exact LeO.none _)
      | (with_reducible refine LeO.ite ?_ ?_)
      | (with_reducible refine LeO.bind ?_ (fun _ => ?_))
      | exact ih0 _ _ _ _ _ _ _
      | exact ih1 _ _ _ _ _ _ _ _
      | exact ih2 _ _ _ _ _ _ _
      | exact ih3 _ _ _ _ _ _ _ _
      | exact ih4 _ _ _ _ _ _ _ _ _ _ _ _ _ _ _
      | exact semblanceref14_acts.mono _ _ _ _ _ _ _
      | exact semblanceref14_item.mono _ _ _ _ _ _ _
      | exact semblanceref14_trans.mono _ _ _ _ _ _ _ _ _ _
      | exact LeO.none _
      | refine LeO.ite ?_ ?_
      | refine LeO.bind ?_ (fun _ => ?_)
    · intro y0 y1 y2 y3 y4 y5 y6 y7
      unfold semblanceref14_Broken.j1
      repeat' first
      | (with_reducible exact ih0 _ _ _ _ _ _ _)
      | (with_reducible exact ih1 _ _ _ _ _ _ _ _)
      | (with_reducible exact ih2 _ _ _ _ _ _ _)
      | (with_reducible exact ih3 _ _ _ _ _ _ _ _)
      | (with_reducible exact ih4 _ _ _ _ _ _ _ _ _ _ _ _ _ _ _)
      | (with_reducible exact semblanceref14_acts.mono _ _ _ _ _ _ _)
      | (with_reducible exact semblanceref14_item.mono _ _ _ _ _ _ _)
      | (with_reducible exact semblanceref14_trans.mono _ _ _ _ _ _ _ _ _ _)
      | (with_reducible exact LeO.refl _)
      | (with_reducible exact LeO.none _)
      | (with_reducible refine LeO.ite ?_ ?_)
      | (with_reducible refine LeO.bind ?_ (fun _ => ?_))
      | exact ih0 _ _ _ _ _ _ _
      | exact ih1 _ _ _ _ _ _ _ _
      | exact ih2 _ _ _ _ _ _ _
      | exact ih3 _ _ _ _ _ _ _ _
      | exact ih4 _ _ _ _ _ _ _ _ _ _ _ _ _ _ _
      | exact semblanceref14_acts.mono _ _ _ _ _ _ _
      | exact semblanceref14_item.mono _ _ _ _ _ _ _
      | exact semblanceref14_trans.mono _ _ _ _ _ _ _ _ _ _
      | exact LeO.none _
      | refine LeO.ite ?_ ?_
      | refine LeO.bind ?_ (fun _ => ?_)
    · intro y0 y1 y2 y3 y4 y5 y6
      unfold semblanceref14_Broken.j2
      repeat' first
      | (with_reducible exact ih0 _ _ _ _ _ _ _)
      | (with_reducible exact ih1 _ _ _ _ _ _ _ _)
      | (with_reducible exact ih2 _ _ _ _ _ _ _)
      | (with_reducible exact ih3 _ _ _ _ _ _ _ _)
      | (with_reducible exact ih4 _ _ _ _ _ _ _ _ _ _ _ _ _ _ _)
      | (with_reducible exact semblanceref14_acts.mono _ _ _ _ _ _ _)
      | (with_reducible exact semblanceref14_item.mono _ _ _ _ _ _ _)
      | (with_reducible exact semblanceref14_trans.mono _ _ _ _ _ _ _ _ _ _)
      | (with_reducible exact LeO.refl _)
      | (with_reducible exact LeO.none _)
      | (with_reducible refine LeO.ite ?_ ?_)
      | (with_reducible refine LeO.bind ?_ (fun _ => ?_))
      | exact ih0 _ _ _ _ _ _ _
      | exact ih1 _ _ _ _ _ _ _ _
      | exact ih2 _ _ _ _ _ _ _
      | exact ih3 _ _ _ _ _ _ _ _
      | exact ih4 _ _ _ _ _ _ _ _ _ _ _ _ _ _ _
      | exact semblanceref14_acts.mono _ _ _ _ _ _ _
      | exact semblanceref14_item.mono _ _ _ _ _ _ _
      | exact semblanceref14_trans.mono _ _ _ _ _ _ _ _ _ _
      | exact LeO.none _
      | refine LeO.ite ?_ ?_
      | refine LeO.bind ?_ (fun _ => ?_)
    · intro y0 y1 y2 y3 y4 y5 y6 y7
      unfold semblanceref14_Broken.l0
      repeat' first
      | (with_reducible exact ih0 _ _ _ _ _ _ _)
      | (with_reducible exact ih1 _ _ _ _ _ _ _ _)
      | (with_reducible exact ih2 _ _ _ _ _ _ _)
      | (with_reducible exact ih3 _ _ _ _ _ _ _ _)
      | (with_reducible exact ih4 _ _ _ _ _ _ _ _ _ _ _ _ _ _ _)
      | (with_reducible exact semblanceref14_acts.mono _ _ _ _ _ _ _)
      | (with_reducible exact semblanceref14_item.mono _ _ _ _ _ _ _)
      | (with_reducible exact semblanceref14_trans.mono _ _ _ _ _ _ _ _ _ _)
      | (with_reducible exact LeO.refl _)
      | (with_reducible exact LeO.none _)
      | (with_reducible refine LeO.ite ?_ ?_)
      | (with_reducible refine LeO.bind ?_ (fun _ => ?_))
      | exact ih0 _ _ _ _ _ _ _
      | exact ih1 _ _ _ _ _ _ _ _
      | exact ih2 _ _ _ _ _ _ _
      | exact ih3 _ _ _ _ _ _ _ _
      | exact ih4 _ _ _ _ _ _ _ _ _ _ _ _ _ _ _
      | exact semblanceref14_acts.mono _ _ _ _ _ _ _
      | exact semblanceref14_item.mono _ _ _ _ _ _ _
      | exact semblanceref14_trans.mono _ _ _ _ _ _ _ _ _ _
      | exact LeO.none _
      | refine LeO.ite ?_ ?_
      | refine LeO.bind ?_ (fun _ => ?_)
    · intro y0 y1 y2 y3 y4 y5 y6 y7 y8 y9 y10 y11 y12 y13 y14
      unfold semblanceref14_Broken.l1
      repeat' first
      | (with_reducible exact ih0 _ _ _ _ _ _ _)
      | (with_reducible exact ih1 _ _ _ _ _ _ _ _)
      | (with_reducible exact ih2 _ _ _ _ _ _ _)
      | (with_reducible exact ih3 _ _ _ _ _ _ _ _)
      | (with_reducible exact ih4 _ _ _ _ _ _ _ _ _ _ _ _ _ _ _)
      | (with_reducible exact semblanceref14_acts.mono _ _ _ _ _ _ _)
      | (with_reducible exact semblanceref14_item.mono _ _ _ _ _ _ _)
      | (with_reducible exact semblanceref14_trans.mono _ _ _ _ _ _ _ _ _ _)
      | (with_reducible exact LeO.refl _)
      | (with_reducible exact LeO.none _)
      | (with_reducible refine LeO.ite ?_ ?_)
      | (with_reducible refine LeO.bind ?_ (fun _ => ?_))
      | exact ih0 _ _ _ _ _ _ _
      | exact ih1 _ _ _ _ _ _ _ _
      | exact ih2 _ _ _ _ _ _ _
      | exact ih3 _ _ _ _ _ _ _ _
      | exact ih4 _ _ _ _ _ _ _ _ _ _ _ _ _ _ _
      | exact semblanceref14_acts.mono _ _ _ _ _ _ _
      | exact semblanceref14_item.mono _ _ _ _ _ _ _
      | exact semblanceref14_trans.mono _ _ _ _ _ _ _ _ _ _
      | exact LeO.none _
      | refine LeO.ite ?_ ?_
      | refine LeO.bind ?_ (fun _ => ?_)
theorem semblanceref14_Broken.mono : ∀ a0 a1 a2 a3 a4 k, LeO (semblanceref14_Broken.f k a0 a1 a2 a3 a4) (semblanceref14_Broken.f (k + 1) a0 a1 a2 a3 a4) := by
  intro a0 a1 a2 a3 a4 k
  obtain ⟨ih0, ih1, ih2, ih3, ih4⟩ := semblanceref14_Broken.mono_l k
  unfold semblanceref14_Broken.f
  repeat' first
      | (with_reducible exact ih0 _ _ _ _ _ _ _)
      | (with_reducible exact ih1 _ _ _ _ _ _ _ _)
      | (with_reducible exact ih2 _ _ _ _ _ _ _)
      | (with_reducible exact ih3 _ _ _ _ _ _ _ _)
      | (with_reducible exact ih4 _ _ _ _ _ _ _ _ _ _ _ _ _ _ _)
      | (with_reducible exact semblanceref14_acts.mono _ _ _ _ _ _ _)
      | (with_reducible exact semblanceref14_item.mono _ _ _ _ _ _ _)
      | (with_reducible exact semblanceref14_trans.mono _ _ _ _ _ _ _ _ _ _)
      | (with_reducible exact LeO.refl _)
      | (with_reducible exact LeO.none _)
      | (with_reducible refine LeO.ite ?_ ?_)
      | (with_reducible refine LeO.bind ?_ (fun _ => ?_))
      | exact ih0 _ _ _ _ _ _ _
      | exact ih1 _ _ _ _ _ _ _ _
      | exact ih2 _ _ _ _ _ _ _
      | exact ih3 _ _ _ _ _ _ _ _
      | exact ih4 _ _ _ _ _ _ _ _ _ _ _ _ _ _ _
      | exact semblanceref14_acts.mono _ _ _ _ _ _ _
      | exact semblanceref14_item.mono _ _ _ _ _ _ _
      | exact semblanceref14_trans.mono _ _ _ _ _ _ _ _ _ _
      | exact LeO.none _
      | refine LeO.ite ?_ ?_
      | refine LeO.bind ?_ (fun _ => ?_)
def semblanceref14_Broken.T22 : Bool × List (List Nat × List Nat) := (true, [([], []), ([], []), ([], []), ([2], [2]), ([], []), ([3, 4], [3, 4]), ([5], [5]), ([0, 1, 6], [0, 1, 6]), ([7], [7])])
def semblanceref14_Broken.B22 : List Nat := [0, 0, 0, 4, 0, 28, 60, 127, 255]
theorem semblanceref14_Broken.tab22 : rtab .any (opsOf Try.f34 22) = semblanceref14_Broken.T22 := by kernel_rfl
theorem semblanceref14_Broken.bits22 : waitsOk semblanceref14_Broken.T22.2 semblanceref14_Broken.B22 = true := by kernel_rfl
theorem bz18_ {W W2 w : World} (_ : Below W.heap.size W W2) (h : Below w.heap.size w W) : Below w.heap.size w W := h
set_option maxHeartbeats 8000000 in
set_option maxRecDepth 100000 in
theorem semblanceref14_Broken.calls (k : Nat) (a0_0 : ByteArray) (A0_1 : Option Addr) (c0_1 : Nat) (l0_1 : List ByteArray) (A0_2 : Option Addr) (c0_2 : Nat) (l0_2 : List (S95)) (A0_3 : Option Addr) (c0_3 : Nat) (l0_3 : List (S99)) (_ : Int) (r : List (S112)) (w : World) (hr0_1 : Kd.C Kd.string w A0_1 l0_1.length l0_1) (hc0_1 : l0_1.length ≤ c0_1) (hr0_2 : Kd.C k95 w A0_2 l0_2.length l0_2) (hc0_2 : l0_2.length ≤ c0_2) (hr0_3 : Kd.C k99 w A0_3 l0_3.length l0_3) (hc0_3 : l0_3.length ≤ c0_3) (h : semblanceref14_Broken.f k a0_0 l0_1 l0_2 l0_3 (4 : Int) = some r) :
  Calls Try.prog 34 #[.agg #[.string a0_0, .slice A0_1 l0_1.length c0_1, .slice A0_2 l0_2.length c0_2, .slice A0_3 l0_3.length c0_3], .int .i64 (4 : Int)] w fun e w' => ∃ v0_ : Value, e = .returned (v0_) ∧ Kd.R k112 112 w' w.heap.size (fun _ => True) v0_ r ∧ Below w.heap.size w w' := by
 have hu59 := Try.underlying59
 have hu112 := Try.underlying112
 have hu99 := Try.underlying99
 have hu102 := Try.underlying102
 have HR0_1 := Aside0.mk hr0_1
 have HC0_1 := Aside0.mk hc0_1
 clear hr0_1 hc0_1
 have HR0_2 := Aside0.mk hr0_2
 have HC0_2 := Aside0.mk hc0_2
 clear hr0_2 hc0_2
 have HR0_3 := Aside0.mk hr0_3
 have HC0_3 := Aside0.mk hc0_3
 clear hr0_3 hc0_3
 have HB := Aside0.mk (Below.refl w.heap.size w)
 have H : ((some (([] : List (S112)) : List (S112))).bind fun y308 => (if (4 : Int) = 1 then (semblanceref14_Broken.j0 k (4 : Int) y308 (l0_1.length : Int) a0_0 l0_1 l0_2 l0_3) else (semblanceref14_Broken.j0 k (4 : Int) y308 (l0_3.length : Int) a0_0 l0_1 l0_2 l0_3))) = some r := h
 clear h
 obtain ⟨y308, hy308⟩ : ∃ y_ : List (S112), y_ = (([] : List (S112))) := ⟨_, rfl⟩
 replace H : (if (4 : Int) = 1 then (semblanceref14_Broken.j0 k (4 : Int) y308 (l0_1.length : Int) a0_0 l0_1 l0_2 l0_3) else (semblanceref14_Broken.j0 k (4 : Int) y308 (l0_3.length : Int) a0_0 l0_1 l0_2 l0_3)) = some r := by first | (rw [hy308]; with_reducible exact H) | (have H2_ := (Option.bind_some _ _).symm.trans H; rw [hy308]; with_reducible exact H2_) | (have H2_ := (Option.bind_some _ _).symm.trans H; with_reducible exact H2_) | with_reducible exact H | (rw [hy308]; exact H) | exact H
 have Ny308 := Aside0.mk hy308
 clear hy308
 have HC3 := Aside0.mk H
 clear H
 go_enter Try.func34, Try.ntmps34
 go_upto_if 15 with (first | ((with_reducible refine gate_dst (N := 2) rfl ?_); refine box_event ?hg (N := 2) ?hd (cs := #[.string a0_0, .slice A0_1 l0_1.length c0_1, .slice A0_2 l0_2.length c0_2, .slice A0_3 l0_3.length c0_3]) (t := 59) ?hr ?_; (case hd => rfl); (case hg => rfl); (case hr => first | (go_simp; done) | (go_simp; rfl)); intro gb307 hg w4 hbox hb; have hB_ := bz18_ hb (brw HB.out); have n0_ := Aside0.mk (below_step hB_ hb); have n1_ := Aside0.mk (hbox); have n2_ := Aside0.mk ((by rw [hg]; exact (below_size hB_) : w.heap.size ≤ gb307)); have n3_ := Aside0.mk ((by rw [hg]; exact (below_size hB_) : w.heap.size ≤ gb307)); clear HB; have HB := n0_; have BK307 := n1_; have GW307 := n2_; have GE307 := n3_; clear n0_ n1_ n2_ n3_; clear hb hbox hg) | ((with_reducible refine gate_dst (N := 10) rfl ?_); refine Kd.R_lit k112 _ 112 ?hg (N := 10) ?hd (xs := ([] : List (S112))) (inner := []) (ok := fun _ => True) (okp := fun _ => True) ?hr ?hp (fun _ hk => hk) trivial (Below.refl _ _) (Nat.le_refl _) (by simp) ?_; (case hd => rfl); (case hg => rfl); (case hr => first | (go_simp; done) | (go_simp; rfl)); (case hp => exact (Reps.none _ _)); intro v309 w5 ho6 hb hg_ hnew_; clear hg_ hnew_; (first | rw [← Ny308.out] at ho6 | (simp only [Int.reduceToNat] at ho6; rw [← Ny308.out] at ho6)); have n0_ := Aside0.mk (Kd.R_lower ho6 (below_size (by repeat (first | (with_reducible first | exact HB.out | apply below_alloc | apply pw_below_drewN | apply below_drew1 | refine below_set ?_ GE307.out) | exact HB.out)))); have n1_ := Aside0.mk (blk_below (grw BK307.out) hb); have n2_ := Aside0.mk (below_step (by repeat (first | (with_reducible first | exact HB.out | apply below_alloc | apply pw_below_drewN | apply below_drew1 | refine below_set ?_ GE307.out) | exact HB.out)) hb); clear BK307; clear HB; have HO310 := n0_; have BK307 := n1_; have HB := n2_; clear n0_ n1_ n2_; clear hb ho6; obtain ⟨hcz7_0, hcz7_1, hcz7_2, hcz7_3⟩ := cz4_ BK307.out; obtain ⟨hfz7_0, hfz7_1, hfz7_2, hfz7_3⟩ := cf4_ BK307.out))
 (try simp only [Act.put, sb_, s0_, s1_])
 go_cut [6] (fun v6 wc => ∃ (kq : Nat) (x6_2 : Int), v6 = .int .i64 x6_2 ∧ Aside0 (semblanceref14_Broken.j0 kq (4 : Int) y308 x6_2 a0_0 l0_1 l0_2 l0_3 = some r) ∧ Aside0 (kq ≤ k) ∧ Aside0 (Kd.R k112 112 wc w.heap.size (fun _ => True) v309 y308) ∧ Aside0 (wc.heap[gb307]? = some (.cells #[.string a0_0, (.slice A0_1 l0_1.length c0_1), (.slice A0_2 l0_2.length c0_2), (.slice A0_3 l0_3.length c0_3)] 59 (0, 0))) ∧ Aside0 (Below w.heap.size w wc))
 case first =>
  have H := HC3.out
  clear HC3
  have c8 : ¬ ((4 : Int) = 1) := by decide
  rw [if_neg c8] at H
  have c8b0 : ((4 : Int) == 1) = false := beq_eq_false_iff_ne.mpr c8
  have c8b1 : ((4 : Int) != 1) = true := bne_iff_ne.mpr c8
  (first | rw [c8b0] | (simp only [i64_w, i32_w]; rw [c8b0]) | skip)
  have H' := Aside0.mk H
  clear H
  go_wp2
  go_meet
  case rel => exact ⟨_, ((l0_3.length : Int)), (by first | rfl | (simp; done) | (simp [*]; done)), H', ⟨by first | omega | exact Nat.le_refl _⟩, ⟨by (with_reducible repeat (first | apply Kd.R_alloc | apply Kd.R_drewN | apply Kd.R_drew)); exact HO310.out⟩, ⟨grw BK307.out⟩, ⟨by repeat (first | (with_reducible first | exact HB.out | apply below_alloc | apply pw_below_drewN | apply below_drew1 | refine below_set ?_ GE307.out) | exact HB.out)⟩⟩
 case rest =>
  clear HC3
  try clear p2
  try clear c3
  try clear c8
  try clear c8b0
  try clear c8b1
  try clear hcz7_0 hcz7_1 hcz7_2 hcz7_3
  try clear hcz9_0 hcz9_1 hcz9_2 hcz9_3
  try clear hfz7_0 hfz7_1 hfz7_2 hfz7_3
  try clear hfz9_0 hfz9_1 hfz9_2 hfz9_3
  obtain ⟨kq, x6_2, rfl, HA, HJ2, HO_5, BK307, HB⟩ := hcut
  cases kq with
  | zero => exact absurd HA.out (by simp [semblanceref14_Broken.j0])
  | succ kj2 =>
   have H := HA.out
   clear HA
   simp only [semblanceref14_Broken.j0] at H
   have HC10 := Aside0.mk H
   clear H
   go_upto_region 5 with (fail)
   go_cut [24] (fun v24 wc => ∃ (kq : Nat) (x24_9 : Bool), v24 = .bool x24_9 ∧ Aside0 (semblanceref14_Broken.j1 kq (4 : Int) y308 x6_2 x24_9 a0_0 l0_1 l0_2 l0_3 = some r) ∧ Aside0 (kq ≤ kj2) ∧ Aside0 (Kd.R k112 112 wc w.heap.size (fun _ => True) v309 y308) ∧ Aside0 (wc.heap[gb307]? = some (.cells #[.string a0_0, (.slice A0_1 l0_1.length c0_1), (.slice A0_2 l0_2.length c0_2), (.slice A0_3 l0_3.length c0_3)] 59 (0, 0))) ∧ Aside0 (Below w.heap.size w wc))
   case first =>
    have H := HC10.out
    clear HC10
    have c11 : ¬ ((4 : Int) = 2) := by decide
    rw [if_neg c11] at H
    have c11b0 : ((4 : Int) == 2) = false := beq_eq_false_iff_ne.mpr c11
    have c11b1 : ((4 : Int) != 2) = true := bne_iff_ne.mpr c11
    (first | rw [c11b0] | (simp only [i64_w, i32_w]; rw [c11b0]) | skip)
    have H' := Aside0.mk H
    clear H
    go_wp2
    go_meet
    case rel => exact ⟨_, (((4 : Int) == 3)), (by first | rfl | (simp; done) | (simp [*]; done)), H', ⟨by have := HJ2.out; first | omega | exact Nat.le_refl _⟩, ⟨by (with_reducible repeat (first | apply Kd.R_alloc | apply Kd.R_drewN | apply Kd.R_drew)); exact HO_5.out⟩, ⟨grw BK307.out⟩, ⟨by repeat (first | (with_reducible first | exact HB.out | apply below_alloc | apply pw_below_drewN | apply below_drew1 | refine below_set ?_ GE307.out) | exact HB.out)⟩⟩
   case rest =>
    clear HC10
    try clear c1
    try clear p2
    try clear c3
    try clear c8
    try clear c8b0
    try clear c8b1
    try clear c11
    try clear c11b0
    try clear c11b1
    try clear hcz7_0 hcz7_1 hcz7_2 hcz7_3
    try clear hcz9_0 hcz9_1 hcz9_2 hcz9_3
    try clear hfz7_0 hfz7_1 hfz7_2 hfz7_3
    try clear hfz9_0 hfz9_1 hfz9_2 hfz9_3
    try clear p2
    obtain ⟨kq, x24_9, rfl, HA, HJ9, HO_5, BK307, HB⟩ := hcut
    cases kq with
    | zero => exact absurd HA.out (by simp [semblanceref14_Broken.j1])
    | succ kj9 =>
     have H := HA.out
     clear HA
     simp only [semblanceref14_Broken.j1] at H
     have HC12 := Aside0.mk H
     clear H
     go_upto_if 24 with (fail)
     go_cut [6] (fun v6 wc => ∃ (kq : Nat) (x6_11 : Int), v6 = .int .i64 x6_11 ∧ Aside0 (semblanceref14_Broken.j2 kq (4 : Int) y308 x6_11 a0_0 l0_1 l0_2 l0_3 = some r) ∧ Aside0 (kq ≤ kj9) ∧ Aside0 (Kd.R k112 112 wc w.heap.size (fun _ => True) v309 y308) ∧ Aside0 (wc.heap[gb307]? = some (.cells #[.string a0_0, (.slice A0_1 l0_1.length c0_1), (.slice A0_2 l0_2.length c0_2), (.slice A0_3 l0_3.length c0_3)] 59 (0, 0))) ∧ Aside0 (Below w.heap.size w wc))
     case first =>
      have H := HC12.out
      clear HC12
      by_cases c13 : x24_9 = true
      rotate_left
      ·replace c13 := Bool.eq_false_iff.mpr c13
       subst c13
       have H1 : (semblanceref14_Broken.j2 kj9 (4 : Int) y308 x6_2 a0_0 l0_1 l0_2 l0_3) = some r := by rw [if_neg (show ¬ (false = true) by decide)] at H; exact H
       clear H
       have H := H1
       clear H1
       have H' := Aside0.mk H
       clear H
       go_wp2
       go_meet
       case rel => exact ⟨_, (x6_2), (by first | rfl | (simp; done) | (simp [*]; done)), H', ⟨by have := HJ2.out; have := HJ9.out; first | omega | exact Nat.le_refl _⟩, ⟨by (with_reducible repeat (first | apply Kd.R_alloc | apply Kd.R_drewN | apply Kd.R_drew)); exact HO_5.out⟩, ⟨grw BK307.out⟩, ⟨by repeat (first | (with_reducible first | exact HB.out | apply below_alloc | apply pw_below_drewN | apply below_drew1 | refine below_set ?_ GE307.out) | exact HB.out)⟩⟩
      subst c13
      have H1 : (semblanceref14_Broken.j2 kj9 (4 : Int) y308 (l0_2.length : Int) a0_0 l0_1 l0_2 l0_3) = some r := by rw [if_pos rfl] at H; exact H
      clear H
      have H := H1
      clear H1
      have H' := Aside0.mk H
      clear H
      obtain ⟨hcz14_0, hcz14_1, hcz14_2, hcz14_3⟩ := cz4_ BK307.out
      obtain ⟨hfz14_0, hfz14_1, hfz14_2, hfz14_3⟩ := cf4_ BK307.out
      go_wp2
      go_meet
      case rel => exact ⟨_, ((l0_2.length : Int)), (by first | rfl | (simp; done) | (simp [*]; done)), H', ⟨by have := HJ2.out; have := HJ9.out; first | omega | exact Nat.le_refl _⟩, ⟨by (with_reducible repeat (first | apply Kd.R_alloc | apply Kd.R_drewN | apply Kd.R_drew)); exact HO_5.out⟩, ⟨grw BK307.out⟩, ⟨by repeat (first | (with_reducible first | exact HB.out | apply below_alloc | apply pw_below_drewN | apply below_drew1 | refine below_set ?_ GE307.out) | exact HB.out)⟩⟩
     case rest =>
      clear HC12
      try clear c1
      try clear p2
      try clear c3
      try clear c8
      try clear c8b0
      try clear c8b1
      try clear c11
      try clear c11b0
      try clear c11b1
      try clear c13
      try clear hcz14_0 hcz14_1 hcz14_2 hcz14_3
      try clear hcz7_0 hcz7_1 hcz7_2 hcz7_3
      try clear hcz9_0 hcz9_1 hcz9_2 hcz9_3
      try clear hfz14_0 hfz14_1 hfz14_2 hfz14_3
      try clear hfz7_0 hfz7_1 hfz7_2 hfz7_3
      try clear hfz9_0 hfz9_1 hfz9_2 hfz9_3
      try clear p2
      obtain ⟨kq, x6_11, rfl, HA, HJ11, HO_5, BK307, HB⟩ := hcut
      cases kq with
      | zero => exact absurd HA.out (by simp [semblanceref14_Broken.j2])
      | succ kj11 =>
       have H := HA.out
       clear HA
       simp only [semblanceref14_Broken.j2] at H
       have H' := Aside0.mk H
       clear H
       go_wp2
       go_loopg [5, 7] kj11 (fun kq v5 v7 w' => ∃ (x5_4 : List (S112)) (x7_4 : Int), v7 = .int .i64 x7_4 ∧ Aside0 (semblanceref14_Broken.l0 kq (4 : Int) x5_4 x6_11 x7_4 a0_0 l0_1 l0_2 l0_3 = some r) ∧ Aside0 (kq ≤ kj11) ∧ Aside0 (Kd.R k112 112 w' w.heap.size (fun _ => True) v5 x5_4) ∧ Aside0 (w'.heap[gb307]? = some (.cells #[.string a0_0, (.slice A0_1 l0_1.length c0_1), (.slice A0_2 l0_2.length c0_2), (.slice A0_3 l0_3.length c0_3)] 59 (0, 0))) ∧ Aside0 (Below w.heap.size w w'))
       case atStart => exact ⟨(y308), (0), (by first | rfl | (simp; done) | (simp [*]; done)), H', ⟨Nat.le_refl _⟩, ⟨by (with_reducible repeat (first | apply Kd.R_alloc | apply Kd.R_drewN | apply Kd.R_drew)); exact HO_5.out⟩, ⟨grw BK307.out⟩, ⟨by repeat (first | (with_reducible first | exact HB.out | apply below_alloc | apply pw_below_drewN | apply below_drew1 | refine below_set ?_ GE307.out) | exact HB.out)⟩⟩
       case round =>
        clear H'
        try clear c1
        try clear p2
        try clear c3
        try clear c8
        try clear c8b0
        try clear c8b1
        try clear c11
        try clear c11b0
        try clear c11b1
        try clear c13
        try clear hcz14_0 hcz14_1 hcz14_2 hcz14_3
        try clear hcz7_0 hcz7_1 hcz7_2 hcz7_3
        try clear hcz9_0 hcz9_1 hcz9_2 hcz9_3
        try clear hfz14_0 hfz14_1 hfz14_2 hfz14_3
        try clear hfz7_0 hfz7_1 hfz7_2 hfz7_3
        try clear hfz9_0 hfz9_1 hfz9_2 hfz9_3
        try clear p2
        obtain ⟨x5_4, x7_4, rfl, HA, HK4, HO_5, BK307, HB⟩ := hrel
        cases gk with
        | zero => exact absurd HA.out (by simp [semblanceref14_Broken.l0])
        | succ k4 =>
         have H := HA.out
         clear HA
         simp only [semblanceref14_Broken.l0] at H
         by_cases c15 : x7_4 < x6_11
         rotate_left
         ·rw [if_neg c15] at H
          have c15b0 : decide (x7_4 < x6_11) = false := decide_eq_false c15
          clear c15
          obtain rfl := Option.some.inj H
          go_wp2
          go_ret
          exact ⟨_, by first | rfl | (simp [errW_none, errW_some] <;> rfl) | (simp [*, errW_none, errW_some] <;> rfl), by (with_reducible repeat (first | apply Kd.R_alloc | apply Kd.R_drewN | apply Kd.R_drew)); exact HO_5.out, by repeat (first | (with_reducible first | exact HB.out | apply below_alloc | apply pw_below_drewN | apply below_drew1 | refine below_set ?_ GE307.out) | exact HB.out)⟩

         rw [if_pos c15] at H
         have c15b0 : decide (x7_4 < x6_11) = true := decide_eq_true c15
         clear c15
         have c16 : (4 : Int) ≤ 5 := by decide
         rw [if_pos c16] at H
         have c16b0 : decide ((4 : Int) ≤ 5) = true := decide_eq_true c16
         clear c16
         replace H := Option.bind_eq_some_iff.mp H
         obtain ⟨t311, A170, H⟩ := H
         replace H : (if t311 = true then (semblanceref14_Broken.l0 k4 (4 : Int) x5_4 x6_11 (wrap64 (x7_4 + 1)) a0_0 l0_1 l0_2 l0_3) else (if x5_4.length < 5864062014805 then (semblanceref14_Broken.l0 k4 (4 : Int) (x5_4 ++ [(⟨(4 : Int), x7_4, 0⟩ : S112)]) x6_11 (wrap64 (x7_4 + 1)) a0_0 l0_1 l0_2 l0_3) else (none))) = some r := H
         have A17 := Aside0.mk A170
         clear A170
         by_cases c18 : t311 = true
         ·subst c18
          have H1 : (semblanceref14_Broken.l0 k4 (4 : Int) x5_4 x6_11 (wrap64 (x7_4 + 1)) a0_0 l0_1 l0_2 l0_3) = some r := by rw [if_pos rfl] at H; exact H
          clear H
          have H := H1
          clear H1
          have H' := Aside0.mk H
          clear H
          obtain ⟨hcz19_0, hcz19_1, hcz19_2, hcz19_3⟩ := cz4_ BK307.out
          obtain ⟨hfz19_0, hfz19_1, hfz19_2, hfz19_3⟩ := cf4_ BK307.out
          go_wp2_with (first | ((with_reducible refine gate_callee (f := 74) rfl ?_); refine goesL_ (some 38) rfl rfl Try.func74 (by kernel_rfl) rfl #[.agg #[.string a0_0, .slice A0_1 l0_1.length c0_1, .slice A0_2 l0_2.length c0_2, .slice A0_3 l0_3.length c0_3], .int .i64 (4 : Int), .int .i64 x7_4] rfl (by (try simp only [List.map_toArray, List.map_cons, List.map_nil]); first | done | rfl | (simp only [List.length_drop, List.length_take]; rfl)) ?_; (with_reducible refine (semblanceref14_item.calls k4 a0_0 _ _ l0_1 _ _ l0_2 _ _ l0_3 (4 : Int) x7_4 true _ ?side1 ?side2 ?side3 ?side4 ?side5 ?side6 A17.out).mono ?_); (case side1 => repeat (first | exact (Kd.C_below HR0_1.out HB.out) | (with_reducible refine Kd.C_alloc ?_ _) | (with_reducible refine Kd.C_drewN ?_ _) | (with_reducible refine Kd.C_drew ?_))); (case side2 => exact HC0_1.out); (case side3 => repeat (first | exact (Kd.C_below HR0_2.out HB.out) | (with_reducible refine Kd.C_alloc ?_ _) | (with_reducible refine Kd.C_drewN ?_ _) | (with_reducible refine Kd.C_drew ?_))); (case side4 => exact HC0_2.out); (case side5 => repeat (first | exact (Kd.C_below HR0_3.out HB.out) | (with_reducible refine Kd.C_alloc ?_ _) | (with_reducible refine Kd.C_drewN ?_ _) | (with_reducible refine Kd.C_drew ?_))); (case side6 => exact HC0_3.out); rintro e w20 ⟨rfl, hb⟩; refine ⟨_, rfl, ?_⟩; have n0_ := Aside0.mk (Kd.R_below (by (with_reducible repeat (first | apply Kd.R_alloc | apply Kd.R_drewN | apply Kd.R_drew)); exact HO_5.out) hb); have n1_ := Aside0.mk (blk_below (grw BK307.out) hb); have n2_ := Aside0.mk (below_step (by repeat (first | (with_reducible first | exact HB.out | apply below_alloc | apply pw_below_drewN | apply below_drew1 | refine below_set ?_ GE307.out) | exact HB.out)) hb); clear HO_5; clear BK307; clear HB; have HO_5 := n0_; have BK307 := n1_; have HB := n2_; clear n0_ n1_ n2_; (try clear hb); (try clear hb2); (try clear hk); (try clear hi)))
          go_roundg k4
          case measure => have := HJ2.out; have := HJ9.out; have := HJ11.out; have := HK4.out; omega
          case rel => exact ⟨(x5_4), (wrap64 (x7_4 + 1)), (by first | rfl | (simp; done) | (simp [*]; done)), H', ⟨by have := HJ2.out; have := HJ9.out; have := HJ11.out; have := HK4.out; omega⟩, ⟨by (with_reducible repeat (first | apply Kd.R_alloc | apply Kd.R_drewN | apply Kd.R_drew)); exact HO_5.out⟩, ⟨grw BK307.out⟩, ⟨by repeat (first | (with_reducible first | exact HB.out | apply below_alloc | apply pw_below_drewN | apply below_drew1 | refine below_set ?_ GE307.out) | exact HB.out)⟩⟩
         replace c18 := Bool.eq_false_iff.mpr c18
         subst c18
         have H1 : (if x5_4.length < 5864062014805 then (semblanceref14_Broken.l0 k4 (4 : Int) (x5_4 ++ [(⟨(4 : Int), x7_4, 0⟩ : S112)]) x6_11 (wrap64 (x7_4 + 1)) a0_0 l0_1 l0_2 l0_3) else (none)) = some r := by rw [if_neg (show ¬ (false = true) by decide)] at H; exact H
         clear H
         have H := H1
         clear H1
         by_cases c21 : x5_4.length < 5864062014805
         rotate_left
         ·rw [if_neg c21] at H
          exact absurd H (by simp)
         rw [if_pos c21] at H
         have LMc21 := Aside0.mk c21
         clear c21
         obtain ⟨y312, hy312⟩ : ∃ y_ : List (S112), y_ = (x5_4 ++ [(⟨(4 : Int), x7_4, 0⟩ : S112)]) := ⟨_, rfl⟩
         replace H : (semblanceref14_Broken.l0 k4 (4 : Int) y312 x6_11 (wrap64 (x7_4 + 1)) a0_0 l0_1 l0_2 l0_3) = some r := by first | (rw [hy312]; with_reducible exact H) | (have H2_ := (Option.bind_some _ _).symm.trans H; rw [hy312]; with_reducible exact H2_) | (have H2_ := (Option.bind_some _ _).symm.trans H; with_reducible exact H2_) | with_reducible exact H | (rw [hy312]; exact H) | exact H
         have Ny312 := Aside0.mk hy312
         clear hy312
         have H' := Aside0.mk H
         clear H
         obtain ⟨hcz22_0, hcz22_1, hcz22_2, hcz22_3⟩ := cz4_ BK307.out
         obtain ⟨hfz22_0, hfz22_1, hfz22_2, hfz22_3⟩ := cf4_ BK307.out
         go_wp2_with (first | ((with_reducible refine gate_callee (f := 74) rfl ?_); refine goesL_ (some 38) rfl rfl Try.func74 (by kernel_rfl) rfl #[.agg #[.string a0_0, .slice A0_1 l0_1.length c0_1, .slice A0_2 l0_2.length c0_2, .slice A0_3 l0_3.length c0_3], .int .i64 (4 : Int), .int .i64 x7_4] rfl (by (try simp only [List.map_toArray, List.map_cons, List.map_nil]); first | done | rfl | (simp only [List.length_drop, List.length_take]; rfl)) ?_; (with_reducible refine (semblanceref14_item.calls k4 a0_0 _ _ l0_1 _ _ l0_2 _ _ l0_3 (4 : Int) x7_4 false _ ?side1 ?side2 ?side3 ?side4 ?side5 ?side6 A17.out).mono ?_); (case side1 => repeat (first | exact (Kd.C_below HR0_1.out HB.out) | (with_reducible refine Kd.C_alloc ?_ _) | (with_reducible refine Kd.C_drewN ?_ _) | (with_reducible refine Kd.C_drew ?_))); (case side2 => exact HC0_1.out); (case side3 => repeat (first | exact (Kd.C_below HR0_2.out HB.out) | (with_reducible refine Kd.C_alloc ?_ _) | (with_reducible refine Kd.C_drewN ?_ _) | (with_reducible refine Kd.C_drew ?_))); (case side4 => exact HC0_2.out); (case side5 => repeat (first | exact (Kd.C_below HR0_3.out HB.out) | (with_reducible refine Kd.C_alloc ?_ _) | (with_reducible refine Kd.C_drewN ?_ _) | (with_reducible refine Kd.C_drew ?_))); (case side6 => exact HC0_3.out); rintro e w23 ⟨rfl, hb⟩; refine ⟨_, rfl, ?_⟩; have n0_ := Aside0.mk (Kd.R_below (by (with_reducible repeat (first | apply Kd.R_alloc | apply Kd.R_drewN | apply Kd.R_drew)); exact HO_5.out) hb); have n1_ := Aside0.mk (blk_below (grw BK307.out) hb); have n2_ := Aside0.mk (below_step (by repeat (first | (with_reducible first | exact HB.out | apply below_alloc | apply pw_below_drewN | apply below_drew1 | refine below_set ?_ GE307.out) | exact HB.out)) hb); clear HO_5; clear BK307; clear HB; have HO_5 := n0_; have BK307 := n1_; have HB := n2_; clear n0_ n1_ n2_; (try clear hb); (try clear hb2); (try clear hk); (try clear hi)) | ((with_reducible refine gate_builtin (b := .append) (xs := #[.tmp 40, .tmp 44]) rfl ?_); at_builtin; refine Kd.R_append k112 (w0 := w) w.heap.size rfl (.tmp 40) (.tmp 44) 64 112 (.agg #[(.int .i64 0), (.int .i64 0), (.int .i64 0)]) 24 rfl Try.underlying64 info112 rfl (by decide) (by omega) u5 x5_4 (⟨(4 : Int), x7_4, 0⟩ : S112) [.int .i64 (4 : Int), .int .i64 x7_4, .int .i64 0] (fun _ => True) (fun _ => False) rfl rfl ?aP (fun _ hk => hk.elim) ?aF ?aO ?aB ?aS ?aL ?_; (case aP => exact k112_mkM _ _ _ (⟨(4 : Int), x7_4, 0⟩ : S112)); (case aB => exact (by repeat (first | (with_reducible first | exact HB.out | apply below_alloc | apply pw_below_drewN | apply below_drew1 | refine below_set ?_ GE307.out) | exact HB.out))); (case aF => exact (fun _ _ => trivial)); (case aO => exact (by (with_reducible repeat (first | apply Kd.R_alloc | apply Kd.R_drewN | apply Kd.R_drew)); exact HO_5.out)); (case aS => exact (below_size (by repeat (first | (with_reducible first | exact HB.out | apply below_alloc | apply pw_below_drewN | apply below_drew1 | refine below_set ?_ GE307.out) | exact HB.out)))); (case aL => have := LMc21.out; omega); intro v313 w24 ho hb hg hat; rw [← Ny312.out] at ho; have n0_ := Aside0.mk (blk_grown (grw BK307.out) hg (Kd.R_ne HO_5.out BK307.out (by decide))); have n1_ := Aside0.mk (hb); have n2_ := Aside0.mk (ho); clear BK307; clear HB; clear HO_5; have BK307 := n0_; have HB := n1_; have HO314 := n2_; clear n0_ n1_ n2_; clear ho hb hg hat))
         go_roundg k4
         case measure => have := HJ2.out; have := HJ9.out; have := HJ11.out; have := HK4.out; omega
         case rel => exact ⟨(y312), (wrap64 (x7_4 + 1)), (by first | rfl | (simp; done) | (simp [*]; done)), H', ⟨by have := HJ2.out; have := HJ9.out; have := HJ11.out; have := HK4.out; omega⟩, ⟨by (with_reducible repeat (first | apply Kd.R_alloc | apply Kd.R_drewN | apply Kd.R_drew)); exact HO314.out⟩, ⟨grw BK307.out⟩, ⟨by repeat (first | (with_reducible first | exact HB.out | apply below_alloc | apply pw_below_drewN | apply below_drew1 | refine below_set ?_ GE307.out) | exact HB.out)⟩⟩
/-! ### semblanceref05_Same: function 101 -/
def semblanceref05_Same.l0 : Nat → List (S117) → List (S117) → Int → Option (Bool)
  | 0, _, _, _ => none
  | k + 1, x0, x1, x5 => if x5 < (x0.length : Int) then (if 0 ≤ x5 then (if x5 < (x1.length : Int) then (if (!(((rd_T117 x0 x5).f0) == ((rd_T117 x1 x5).f0)) || (!(((rd_T117 x0 x5).f1) == ((rd_T117 x1 x5).f1)) || (!((((rd_T117 x0 x5).f2).toList) == (((rd_T117 x1 x5).f2).toList))))) = true then (some false) else (semblanceref05_Same.l0 k x0 x1 (wrap64 (x5 + 1)))) else (none)) else (none)) else (some true)
def semblanceref05_Same.f (k : Nat) (l0 : List (S117)) (l1 : List (S117)) : Option (Bool) := if (l0.length : Int) = (l1.length : Int) then (semblanceref05_Same.l0 k l0 l1 0) else (some false)
theorem semblanceref05_Same.mono_l : ∀ k, (∀ y0 y1 y2, LeO (semblanceref05_Same.l0 k y0 y1 y2) (semblanceref05_Same.l0 (k + 1) y0 y1 y2))
  | 0 => fun _ _ _ r h => by simp [semblanceref05_Same.l0] at h
  | k + 1 => by
    have ih0 := semblanceref05_Same.mono_l k
    · intro y0 y1 y2
      unfold semblanceref05_Same.l0
      repeat' first
      | (with_reducible exact ih0 _ _ _)
      | (with_reducible exact LeO.refl _)
      | (with_reducible exact LeO.none _)
      | (with_reducible refine LeO.ite ?_ ?_)
      | (with_reducible refine LeO.bind ?_ (fun _ => ?_))
      | exact ih0 _ _ _
      | exact LeO.none _
      | refine LeO.ite ?_ ?_
      | refine LeO.bind ?_ (fun _ => ?_)
theorem semblanceref05_Same.mono : ∀ a0 a1 k, LeO (semblanceref05_Same.f k a0 a1) (semblanceref05_Same.f (k + 1) a0 a1) := by
  intro a0 a1 k
  have ih0 := semblanceref05_Same.mono_l k
  unfold semblanceref05_Same.f
  repeat' first
      | (with_reducible exact ih0 _ _ _)
      | (with_reducible exact LeO.refl _)
      | (with_reducible exact LeO.none _)
      | (with_reducible refine LeO.ite ?_ ?_)
      | (with_reducible refine LeO.bind ?_ (fun _ => ?_))
      | exact ih0 _ _ _
      | exact LeO.none _
      | refine LeO.ite ?_ ?_
      | refine LeO.bind ?_ (fun _ => ?_)
set_option maxHeartbeats 8000000 in
set_option maxRecDepth 100000 in
theorem semblanceref05_Same.calls (k : Nat) (A0 : Option Addr) (c0 : Nat) (l0 : List (S117)) (A1 : Option Addr) (c1 : Nat) (l1 : List (S117)) (r : Bool) (w : World) (hr0 : Kd.C k117 w A0 l0.length l0) (hc0 : l0.length ≤ c0) (hr1 : Kd.C k117 w A1 l1.length l1) (hc1 : l1.length ≤ c1) (h : semblanceref05_Same.f k l0 l1 = some r) :
  Calls Try.prog 101 #[.slice A0 l0.length c0, .slice A1 l1.length c1] w fun e w' => e = .returned (.bool r) ∧ Drawn0 w w' := by
 have hu117 := Try.underlying117
 have HR0 := Aside0.mk hr0
 have HC0 := Aside0.mk hc0
 clear hr0 hc0
 have HR1 := Aside0.mk hr1
 have HC1 := Aside0.mk hc1
 clear hr1 hc1
 have H : (if (l0.length : Int) = (l1.length : Int) then (semblanceref05_Same.l0 k l0 l1 0) else (some false)) = some r := h
 clear h
 by_cases c3 : (l0.length : Int) = (l1.length : Int)
 rotate_left
 ·rw [if_neg c3] at H
  have c3b0 : ((l0.length : Int) == (l1.length : Int)) = false := beq_eq_false_iff_ne.mpr c3
  have c3b1 : ((l0.length : Int) != (l1.length : Int)) = true := bne_iff_ne.mpr c3
  have c3b2 : (l0.length == l1.length) = false := by first | simpa using c3 | (simp at c3 ⊢; omega)
  obtain rfl := Option.some.inj H
  go_enter Try.func101, Try.ntmps101
  go_wp2
  repeat (go_quiet (fail); try go_wp2)
  go_ret
  exact ⟨by first | rfl | (simp; done) | (simp [*]; done), by repeat (first | exact Drawn0.refl _ | apply Drawn0.step)⟩

 rw [if_pos c3] at H
 have c3b0 : ((l0.length : Int) == (l1.length : Int)) = true := beq_iff_eq.mpr c3
 have c3b1 : ((l0.length : Int) != (l1.length : Int)) = false := bne_eq_false_iff_eq.mpr c3
 have c3b2 : (l0.length == l1.length) = true := by first | simpa using c3 | (simp at c3 ⊢; omega)
 clear c3
 have H' := Aside0.mk H
 clear H
 go_enter Try.func101, Try.ntmps101
 go_wp2
 repeat (go_quiet (fail); try go_wp2)
 go_loopg [5] k (fun kq v5 w' => ∃ (x5_1 : Int), v5 = .int .i64 x5_1 ∧ Aside0 (semblanceref05_Same.l0 kq l0 l1 x5_1 = some r) ∧ Aside0 (kq ≤ k) ∧ Drawn0 w w')
 case atStart => exact ⟨(0), (by first | rfl | (simp; done) | (simp [*]; done)), H', ⟨Nat.le_refl _⟩, by repeat (first | exact Drawn0.refl _ | apply Drawn0.step)⟩
 case round =>
  clear H'
  try clear c1
  try clear p2
  try clear c3
  try clear c3b0
  try clear c3b1
  try clear c3b2
  obtain ⟨x5_1, rfl, HA, HK1, ⟨m1, rfl⟩⟩ := hrel
  cases gk with
  | zero => exact absurd HA.out (by simp [semblanceref05_Same.l0])
  | succ k1 =>
   have H := HA.out
   clear HA
   simp only [semblanceref05_Same.l0] at H
   by_cases c4 : x5_1 < (l0.length : Int)
   rotate_left
   ·rw [if_neg c4] at H
    have c4b0 : decide (x5_1 < (l0.length : Int)) = false := decide_eq_false c4
    clear c4
    obtain rfl := Option.some.inj H
    go_wp2
    repeat (go_quiet (fail); try go_wp2)
    go_ret
    exact ⟨by first | rfl | (simp; done) | (simp [*]; done), by repeat (first | exact Drawn0.refl _ | apply Drawn0.step)⟩
   rw [if_pos c4] at H
   have c4b0 : decide (x5_1 < (l0.length : Int)) = true := decide_eq_true c4
   clear c4
   by_cases c5 : 0 ≤ x5_1
   rotate_left
   ·rw [if_neg c5] at H
    exact absurd H (by simp)
   rw [if_pos c5] at H
   have c5b0 : decide (0 ≤ x5_1) = true := decide_eq_true c5
   clear c5
   by_cases c6 : x5_1 < (l1.length : Int)
   rotate_left
   ·rw [if_neg c6] at H
    exact absurd H (by simp)
   rw [if_pos c6] at H
   have c6b0 : decide (x5_1 < (l1.length : Int)) = true := decide_eq_true c6
   clear c6
   by_cases c7 : (!(((rd_T117 l0 x5_1).f0) == ((rd_T117 l1 x5_1).f0)) || (!(((rd_T117 l0 x5_1).f1) == ((rd_T117 l1 x5_1).f1)) || (!((((rd_T117 l0 x5_1).f2).toList) == (((rd_T117 l1 x5_1).f2).toList))))) = true
   ·rw [if_pos c7] at H
    have c7b0 : (!(((rd_T117 l0 x5_1).f0) == ((rd_T117 l1 x5_1).f0)) || (!(((rd_T117 l0 x5_1).f1) == ((rd_T117 l1 x5_1).f1)) || (!((((rd_T117 l0 x5_1).f2).toList) == (((rd_T117 l1 x5_1).f2).toList))))) = true := c7
    clear c7
    obtain rfl := Option.some.inj H
    have p334 : 0 ≤ (x5_1 : Int) := of_decide_eq_true (by first | (with_reducible assumption) | assumption)
    have q334 : x5_1 < (l0.length : Int) := of_decide_eq_true (by first | (with_reducible assumption) | assumption)
    obtain ⟨ad334, e334, hx334_0, hx334_1, hx334_2⟩ := at_T117 HR0.out x5_1 p334 q334
    cases e334
    replace p334 := eq_true p334
    replace q334 := eq_true q334
    have p335 : 0 ≤ (x5_1 : Int) := of_decide_eq_true (by first | (with_reducible assumption) | assumption)
    have q335 : x5_1 < (l1.length : Int) := of_decide_eq_true (by first | (with_reducible assumption) | assumption)
    obtain ⟨ad335, e335, hx335_0, hx335_1, hx335_2⟩ := at_T117 HR1.out x5_1 p335 q335
    cases e335
    replace p335 := eq_true p335
    replace q335 := eq_true q335
    go_wp2
    repeat (go_quiet (fail); try go_wp2)
    go_ret
    exact ⟨by first | rfl | (simp; done) | (simp [*]; done), by repeat (first | exact Drawn0.refl _ | apply Drawn0.step)⟩
   rw [if_neg c7] at H
   have c7b0 : (!(((rd_T117 l0 x5_1).f0) == ((rd_T117 l1 x5_1).f0)) || (!(((rd_T117 l0 x5_1).f1) == ((rd_T117 l1 x5_1).f1)) || (!((((rd_T117 l0 x5_1).f2).toList) == (((rd_T117 l1 x5_1).f2).toList))))) = false := by simpa using c7
   clear c7
   have H' := Aside0.mk H
   clear H
   have p334 : 0 ≤ (x5_1 : Int) := of_decide_eq_true (by first | (with_reducible assumption) | assumption)
   have q334 : x5_1 < (l0.length : Int) := of_decide_eq_true (by first | (with_reducible assumption) | assumption)
   obtain ⟨ad334, e334, hx334_0, hx334_1, hx334_2⟩ := at_T117 HR0.out x5_1 p334 q334
   cases e334
   replace p334 := eq_true p334
   replace q334 := eq_true q334
   have p335 : 0 ≤ (x5_1 : Int) := of_decide_eq_true (by first | (with_reducible assumption) | assumption)
   have q335 : x5_1 < (l1.length : Int) := of_decide_eq_true (by first | (with_reducible assumption) | assumption)
   obtain ⟨ad335, e335, hx335_0, hx335_1, hx335_2⟩ := at_T117 HR1.out x5_1 p335 q335
   cases e335
   replace p335 := eq_true p335
   replace q335 := eq_true q335
   go_wp2
   repeat (go_quiet (fail); try go_wp2)
   go_roundg k1
   case measure => have := HK1.out; omega
   case rel => exact ⟨(wrap64 (x5_1 + 1)), (by first | rfl | (simp; done) | (simp [*]; done)), H', ⟨by have := HK1.out; omega⟩, by repeat (first | exact Drawn0.refl _ | apply Drawn0.step)⟩
end Go.Proofs.Ytjlegibfeenglaa.XE
