-- written by wip/xprint.py out of the translation
import Derived.Test.YtjlegibfeenglaaXFp0
import Derived.Test.YtjlegibfeenglaaXFp3
namespace Go.Proofs.Ytjlegibfeenglaa.XF
open Go.Proofs.Ytjlegibfeenglaa.XGrow Go.RowKit Go.Proofs.YtjlegibfeenglaaW.PrintWords Go.Proofs.YtjlegibfeenglaaW.PrintLast Go.Proofs.YtjlegibfeenglaaW.PrintMore
attribute [local go_sem] max2_int min2_int max_two min_two max_three min_three max_four min_four   -- for this text's walks alone
set_option linter.unusedVariables false
set_option linter.unusedSimpArgs false

/-! ### semblanceref12_Light: function 28 -/
mutual
def semblanceref12_Light.j0 : Nat → Bool → ByteArray → List ByteArray → List (S95) → List (S99) → Option (Bool)
  | 0, _, _, _, _, _ => none
  | k + 1, x29, x109000, x109001, x109002, x109003 => if x29 = true then (some false) else (semblanceref12_Light.l0 k 0 x109000 x109001 x109002 x109003)
def semblanceref12_Light.l0 : Nat → Int → ByteArray → List ByteArray → List (S95) → List (S99) → Option (Bool)
  | 0, _, _, _, _, _ => none
  | k + 1, x3, x109000, x109001, x109002, x109003 => if x3 < (x109002.length : Int) then (if 0 ≤ x3 then (if (((rd_T95 x109002 x3).f0).size : Int) > 100 then (some false) else (semblanceref12_Light.l0 k (wrap64 (x3 + 1)) x109000 x109001 x109002 x109003)) else (none)) else (semblanceref12_Light.l1 k 0 0 x109000 x109001 x109002 x109003)
def semblanceref12_Light.l1 : Nat → Int → Int → ByteArray → List ByteArray → List (S95) → List (S99) → Option (Bool)
  | 0, _, _, _, _, _, _ => none
  | k + 1, x4, x5, x109000, x109001, x109002, x109003 => if x5 < (x109003.length : Int) then (semblanceref12_Light.j3 k x4 x5 (decide (x4 ≤ 160)) x109000 x109001 x109002 x109003) else (semblanceref12_Light.j3 k x4 x5 false x109000 x109001 x109002 x109003)
def semblanceref12_Light.j3 : Nat → Int → Int → Bool → ByteArray → List ByteArray → List (S95) → List (S99) → Option (Bool)
  | 0, _, _, _, _, _, _, _ => none
  | k + 1, x4, x5, x53, x109000, x109001, x109002, x109003 => if x53 = true then (if 0 ≤ x5 then (if x5 < (x109003.length : Int) then (if (((rd_T99 x109003 x5).f0).size : Int) > 100 then (semblanceref12_Light.j4 k x4 x5 true x109000 x109001 x109002 x109003 ((rd_T99 x109003 x5).f0) ((rd_T99 x109003 x5).f1) ((rd_T99 x109003 x5).f2) ((rd_T99 x109003 x5).f3) ((rd_T99 x109003 x5).f4) ((rd_T99 x109003 x5).f5)) else (if (((rd_T99 x109003 x5).f5).length : Int) > 20 then (semblanceref12_Light.j4 k x4 x5 true x109000 x109001 x109002 x109003 ((rd_T99 x109003 x5).f0) ((rd_T99 x109003 x5).f1) ((rd_T99 x109003 x5).f2) ((rd_T99 x109003 x5).f3) ((rd_T99 x109003 x5).f4) ((rd_T99 x109003 x5).f5)) else (if (((rd_T99 x109003 x5).f3).length : Int) > 10 then (semblanceref12_Light.j4 k x4 x5 true x109000 x109001 x109002 x109003 ((rd_T99 x109003 x5).f0) ((rd_T99 x109003 x5).f1) ((rd_T99 x109003 x5).f2) ((rd_T99 x109003 x5).f3) ((rd_T99 x109003 x5).f4) ((rd_T99 x109003 x5).f5)) else (semblanceref12_Light.j4 k x4 x5 (decide ((((rd_T99 x109003 x5).f4).length : Int) > 10)) x109000 x109001 x109002 x109003 ((rd_T99 x109003 x5).f0) ((rd_T99 x109003 x5).f1) ((rd_T99 x109003 x5).f2) ((rd_T99 x109003 x5).f3) ((rd_T99 x109003 x5).f4) ((rd_T99 x109003 x5).f5))))) else (none)) else (none)) else (some (decide (x4 ≤ 160)))
def semblanceref12_Light.j4 : Nat → Int → Int → Bool → ByteArray → List ByteArray → List (S95) → List (S99) → ByteArray → Int → Int → List (S130) → List (S130) → List (S102) → Option (Bool)
  | 0, _, _, _, _, _, _, _, _, _, _, _, _, _ => none
  | k + 1, x4, x5, x82, x109000, x109001, x109002, x109003, x113000, x113001, x113002, x113003, x113004, x113005 => if x82 = true then (some false) else ((semblanceref12_weigh.f k x113003).bind fun t113 => ((semblanceref12_weigh.f k x113004).bind fun t114 => (semblanceref12_Light.l2 k (wrap64 ((wrap64 (x4 + t113)) + t114)) x5 0 x109000 x109001 x109002 x109003 x113000 x113001 x113002 x113003 x113004 x113005)))
def semblanceref12_Light.l2 : Nat → Int → Int → Int → ByteArray → List ByteArray → List (S95) → List (S99) → ByteArray → Int → Int → List (S130) → List (S130) → List (S102) → Option (Bool)
  | 0, _, _, _, _, _, _, _, _, _, _, _, _, _ => none
  | k + 1, x4, x5, x7, x109000, x109001, x109002, x109003, x113000, x113001, x113002, x113003, x113004, x113005 => if x7 < (x113005.length : Int) then (if 0 ≤ x7 then (if (((rd_T102 x113005 x7).f0).size : Int) > 100 then (semblanceref12_Light.j6 k x4 x5 x7 true x109000 x109001 x109002 x109003 x113000 x113001 x113002 x113003 x113004 x113005 ((rd_T102 x113005 x7).f0) ((rd_T102 x113005 x7).f1) ((rd_T102 x113005 x7).f2) ((rd_T102 x113005 x7).f3)) else (if (((rd_T102 x113005 x7).f3).size : Int) > 100 then (semblanceref12_Light.j6 k x4 x5 x7 true x109000 x109001 x109002 x109003 x113000 x113001 x113002 x113003 x113004 x113005 ((rd_T102 x113005 x7).f0) ((rd_T102 x113005 x7).f1) ((rd_T102 x113005 x7).f2) ((rd_T102 x113005 x7).f3)) else (semblanceref12_Light.j6 k x4 x5 x7 (decide ((((rd_T102 x113005 x7).f2).length : Int) > 10)) x109000 x109001 x109002 x109003 x113000 x113001 x113002 x113003 x113004 x113005 ((rd_T102 x113005 x7).f0) ((rd_T102 x113005 x7).f1) ((rd_T102 x113005 x7).f2) ((rd_T102 x113005 x7).f3)))) else (none)) else (semblanceref12_Light.l1 k x4 (wrap64 (x5 + 1)) x109000 x109001 x109002 x109003)
def semblanceref12_Light.j6 : Nat → Int → Int → Int → Bool → ByteArray → List ByteArray → List (S95) → List (S99) → ByteArray → Int → Int → List (S130) → List (S130) → List (S102) → ByteArray → List (S117) → List (S130) → ByteArray → Option (Bool)
  | 0, _, _, _, _, _, _, _, _, _, _, _, _, _, _, _, _, _, _ => none
  | k + 1, x4, x5, x7, x119, x109000, x109001, x109002, x109003, x113000, x113001, x113002, x113003, x113004, x113005, x117000, x117001, x117002, x117003 => if x119 = true then (some false) else ((semblanceref12_weigh.f k x117002).bind fun t117 => ((semblanceref12_terms.f k x117001).bind fun t118 => (semblanceref12_Light.l2 k (wrap64 ((wrap64 ((wrap64 (x4 + 1)) + t117)) + t118)) x5 (wrap64 (x7 + 1)) x109000 x109001 x109002 x109003 x113000 x113001 x113002 x113003 x113004 x113005)))
end
def semblanceref12_Light.f (k : Nat) (a0_0 : ByteArray) (l0_1 : List ByteArray) (l0_2 : List (S95)) (l0_3 : List (S99)) : Option (Bool) := if (a0_0.size : Int) > 100 then (semblanceref12_Light.j0 k true a0_0 l0_1 l0_2 l0_3) else ((semblanceref11_Long.f k l0_1).bind fun t109 => (if t109 = true then (semblanceref12_Light.j0 k true a0_0 l0_1 l0_2 l0_3) else (if (l0_2.length : Int) > 10 then (semblanceref12_Light.j0 k true a0_0 l0_1 l0_2 l0_3) else (semblanceref12_Light.j0 k (decide ((l0_3.length : Int) > 65)) a0_0 l0_1 l0_2 l0_3))))
theorem semblanceref12_Light.mono_l : ∀ k, (∀ y0 y1 y2 y3 y4, LeO (semblanceref12_Light.j0 k y0 y1 y2 y3 y4) (semblanceref12_Light.j0 (k + 1) y0 y1 y2 y3 y4)) ∧ (∀ y0 y1 y2 y3 y4, LeO (semblanceref12_Light.l0 k y0 y1 y2 y3 y4) (semblanceref12_Light.l0 (k + 1) y0 y1 y2 y3 y4)) ∧ (∀ y0 y1 y2 y3 y4 y5, LeO (semblanceref12_Light.l1 k y0 y1 y2 y3 y4 y5) (semblanceref12_Light.l1 (k + 1) y0 y1 y2 y3 y4 y5)) ∧ (∀ y0 y1 y2 y3 y4 y5 y6, LeO (semblanceref12_Light.j3 k y0 y1 y2 y3 y4 y5 y6) (semblanceref12_Light.j3 (k + 1) y0 y1 y2 y3 y4 y5 y6)) ∧ (∀ y0 y1 y2 y3 y4 y5 y6 y7 y8 y9 y10 y11 y12, LeO (semblanceref12_Light.j4 k y0 y1 y2 y3 y4 y5 y6 y7 y8 y9 y10 y11 y12) (semblanceref12_Light.j4 (k + 1) y0 y1 y2 y3 y4 y5 y6 y7 y8 y9 y10 y11 y12)) ∧ (∀ y0 y1 y2 y3 y4 y5 y6 y7 y8 y9 y10 y11 y12, LeO (semblanceref12_Light.l2 k y0 y1 y2 y3 y4 y5 y6 y7 y8 y9 y10 y11 y12) (semblanceref12_Light.l2 (k + 1) y0 y1 y2 y3 y4 y5 y6 y7 y8 y9 y10 y11 y12)) ∧ (∀ y0 y1 y2 y3 y4 y5 y6 y7 y8 y9 y10 y11 y12 y13 y14 y15 y16 y17, LeO (semblanceref12_Light.j6 k y0 y1 y2 y3 y4 y5 y6 y7 y8 y9 y10 y11 y12 y13 y14 y15 y16 y17) (semblanceref12_Light.j6 (k + 1) y0 y1 y2 y3 y4 y5 y6 y7 y8 y9 y10 y11 y12 y13 y14 y15 y16 y17))
  | 0 => ⟨fun _ _ _ _ _ r h => by simp [semblanceref12_Light.j0] at h, fun _ _ _ _ _ r h => by simp [semblanceref12_Light.l0] at h, fun _ _ _ _ _ _ r h => by simp [semblanceref12_Light.l1] at h, fun _ _ _ _ _ _ _ r h => by simp [semblanceref12_Light.j3] at h, fun _ _ _ _ _ _ _ _ _ _ _ _ _ r h => by simp [semblanceref12_Light.j4] at h, fun _ _ _ _ _ _ _ _ _ _ _ _ _ r h => by simp [semblanceref12_Light.l2] at h, fun _ _ _ _ _ _ _ _ _ _ _ _ _ _ _ _ _ _ r h => by simp [semblanceref12_Light.j6] at h⟩
  | k + 1 => by
    obtain ⟨ih0, ih1, ih2, ih3, ih4, ih5, ih6⟩ := semblanceref12_Light.mono_l k
    refine ⟨?_, ?_, ?_, ?_, ?_, ?_, ?_⟩
    · intro y0 y1 y2 y3 y4
      unfold semblanceref12_Light.j0
      repeat' first
      | (with_reducible exact ih0 _ _ _ _ _)
      | (with_reducible exact ih1 _ _ _ _ _)
      | (with_reducible exact ih2 _ _ _ _ _ _)
      | (with_reducible exact ih3 _ _ _ _ _ _ _)
      | (with_reducible exact ih4 _ _ _ _ _ _ _ _ _ _ _ _ _)
      | (with_reducible exact ih5 _ _ _ _ _ _ _ _ _ _ _ _ _)
      | (with_reducible exact ih6 _ _ _ _ _ _ _ _ _ _ _ _ _ _ _ _ _ _)
      | (with_reducible exact semblanceref11_Long.mono _ _)
      | (with_reducible exact semblanceref12_terms.mono _ _)
      | (with_reducible exact semblanceref12_weigh.mono _ _)
      | (with_reducible exact LeO.refl _)
      | (with_reducible exact LeO.none _)
      | (with_reducible refine LeO.ite ?_ ?_)
      | (with_reducible refine LeO.bind ?_ (fun _ => ?_))
      | exact ih0 _ _ _ _ _
      | exact ih1 _ _ _ _ _
      | exact ih2 _ _ _ _ _ _
      | exact ih3 _ _ _ _ _ _ _
      | exact ih4 _ _ _ _ _ _ _ _ _ _ _ _ _
      | exact ih5 _ _ _ _ _ _ _ _ _ _ _ _ _
      | exact ih6 _ _ _ _ _ _ _ _ _ _ _ _ _ _ _ _ _ _
      | exact semblanceref11_Long.mono _ _
      | exact semblanceref12_terms.mono _ _
      | exact semblanceref12_weigh.mono _ _
      | exact LeO.none _
      | refine LeO.ite ?_ ?_
      | refine LeO.bind ?_ (fun _ => ?_)
    · intro y0 y1 y2 y3 y4
      unfold semblanceref12_Light.l0
      repeat' first
      | (with_reducible exact ih0 _ _ _ _ _)
      | (with_reducible exact ih1 _ _ _ _ _)
      | (with_reducible exact ih2 _ _ _ _ _ _)
      | (with_reducible exact ih3 _ _ _ _ _ _ _)
      | (with_reducible exact ih4 _ _ _ _ _ _ _ _ _ _ _ _ _)
      | (with_reducible exact ih5 _ _ _ _ _ _ _ _ _ _ _ _ _)
      | (with_reducible exact ih6 _ _ _ _ _ _ _ _ _ _ _ _ _ _ _ _ _ _)
      | (with_reducible exact semblanceref11_Long.mono _ _)
      | (with_reducible exact semblanceref12_terms.mono _ _)
      | (with_reducible exact semblanceref12_weigh.mono _ _)
      | (with_reducible exact LeO.refl _)
      | (with_reducible exact LeO.none _)
      | (with_reducible refine LeO.ite ?_ ?_)
      | (with_reducible refine LeO.bind ?_ (fun _ => ?_))
      | exact ih0 _ _ _ _ _
      | exact ih1 _ _ _ _ _
      | exact ih2 _ _ _ _ _ _
      | exact ih3 _ _ _ _ _ _ _
      | exact ih4 _ _ _ _ _ _ _ _ _ _ _ _ _
      | exact ih5 _ _ _ _ _ _ _ _ _ _ _ _ _
      | exact ih6 _ _ _ _ _ _ _ _ _ _ _ _ _ _ _ _ _ _
      | exact semblanceref11_Long.mono _ _
      | exact semblanceref12_terms.mono _ _
      | exact semblanceref12_weigh.mono _ _
      | exact LeO.none _
      | refine LeO.ite ?_ ?_
      | refine LeO.bind ?_ (fun _ => ?_)
    · intro y0 y1 y2 y3 y4 y5
      unfold semblanceref12_Light.l1
      repeat' first
      | (with_reducible exact ih0 _ _ _ _ _)
      | (with_reducible exact ih1 _ _ _ _ _)
      | (with_reducible exact ih2 _ _ _ _ _ _)
      | (with_reducible exact ih3 _ _ _ _ _ _ _)
      | (with_reducible exact ih4 _ _ _ _ _ _ _ _ _ _ _ _ _)
      | (with_reducible exact ih5 _ _ _ _ _ _ _ _ _ _ _ _ _)
      | (with_reducible exact ih6 _ _ _ _ _ _ _ _ _ _ _ _ _ _ _ _ _ _)
      | (with_reducible exact semblanceref11_Long.mono _ _)
      | (with_reducible exact semblanceref12_terms.mono _ _)
      | (with_reducible exact semblanceref12_weigh.mono _ _)
      | (with_reducible exact LeO.refl _)
      | (with_reducible exact LeO.none _)
      | (with_reducible refine LeO.ite ?_ ?_)
      | (with_reducible refine LeO.bind ?_ (fun _ => ?_))
      | exact ih0 _ _ _ _ _
      | exact ih1 _ _ _ _ _
      | exact ih2 _ _ _ _ _ _
      | exact ih3 _ _ _ _ _ _ _
      | exact ih4 _ _ _ _ _ _ _ _ _ _ _ _ _
      | exact ih5 _ _ _ _ _ _ _ _ _ _ _ _ _
      | exact ih6 _ _ _ _ _ _ _ _ _ _ _ _ _ _ _ _ _ _
      | exact semblanceref11_Long.mono _ _
      | exact semblanceref12_terms.mono _ _
      | exact semblanceref12_weigh.mono _ _
      | exact LeO.none _
      | refine LeO.ite ?_ ?_
      | refine LeO.bind ?_ (fun _ => ?_)
    · intro y0 y1 y2 y3 y4 y5 y6
      unfold semblanceref12_Light.j3
      repeat' first
      | (with_reducible exact ih0 _ _ _ _ _)
      | (with_reducible exact ih1 _ _ _ _ _)
      | (with_reducible exact ih2 _ _ _ _ _ _)
      | (with_reducible exact ih3 _ _ _ _ _ _ _)
      | (with_reducible exact ih4 _ _ _ _ _ _ _ _ _ _ _ _ _)
      | (with_reducible exact ih5 _ _ _ _ _ _ _ _ _ _ _ _ _)
      | (with_reducible exact ih6 _ _ _ _ _ _ _ _ _ _ _ _ _ _ _ _ _ _)
      | (with_reducible exact semblanceref11_Long.mono _ _)
      | (with_reducible exact semblanceref12_terms.mono _ _)
      | (with_reducible exact semblanceref12_weigh.mono _ _)
      | (with_reducible exact LeO.refl _)
      | (with_reducible exact LeO.none _)
      | (with_reducible refine LeO.ite ?_ ?_)
      | (with_reducible refine LeO.bind ?_ (fun _ => ?_))
      | exact ih0 _ _ _ _ _
      | exact ih1 _ _ _ _ _
      | exact ih2 _ _ _ _ _ _
      | exact ih3 _ _ _ _ _ _ _
      | exact ih4 _ _ _ _ _ _ _ _ _ _ _ _ _
      | exact ih5 _ _ _ _ _ _ _ _ _ _ _ _ _
      | exact ih6 _ _ _ _ _ _ _ _ _ _ _ _ _ _ _ _ _ _
      | exact semblanceref11_Long.mono _ _
      | exact semblanceref12_terms.mono _ _
      | exact semblanceref12_weigh.mono _ _
      | exact LeO.none _
      | refine LeO.ite ?_ ?_
      | refine LeO.bind ?_ (fun _ => ?_)
    · intro y0 y1 y2 y3 y4 y5 y6 y7 y8 y9 y10 y11 y12
      unfold semblanceref12_Light.j4
      repeat' first
      | (with_reducible exact ih0 _ _ _ _ _)
      | (with_reducible exact ih1 _ _ _ _ _)
      | (with_reducible exact ih2 _ _ _ _ _ _)
      | (with_reducible exact ih3 _ _ _ _ _ _ _)
      | (with_reducible exact ih4 _ _ _ _ _ _ _ _ _ _ _ _ _)
      | (with_reducible exact ih5 _ _ _ _ _ _ _ _ _ _ _ _ _)
      | (with_reducible exact ih6 _ _ _ _ _ _ _ _ _ _ _ _ _ _ _ _ _ _)
      | (with_reducible exact semblanceref11_Long.mono _ _)
      | (with_reducible exact semblanceref12_terms.mono _ _)
      | (with_reducible exact semblanceref12_weigh.mono _ _)
      | (with_reducible exact LeO.refl _)
      | (with_reducible exact LeO.none _)
      | (with_reducible refine LeO.ite ?_ ?_)
      | (with_reducible refine LeO.bind ?_ (fun _ => ?_))
      | exact ih0 _ _ _ _ _
      | exact ih1 _ _ _ _ _
      | exact ih2 _ _ _ _ _ _
      | exact ih3 _ _ _ _ _ _ _
      | exact ih4 _ _ _ _ _ _ _ _ _ _ _ _ _
      | exact ih5 _ _ _ _ _ _ _ _ _ _ _ _ _
      | exact ih6 _ _ _ _ _ _ _ _ _ _ _ _ _ _ _ _ _ _
      | exact semblanceref11_Long.mono _ _
      | exact semblanceref12_terms.mono _ _
      | exact semblanceref12_weigh.mono _ _
      | exact LeO.none _
      | refine LeO.ite ?_ ?_
      | refine LeO.bind ?_ (fun _ => ?_)
    · intro y0 y1 y2 y3 y4 y5 y6 y7 y8 y9 y10 y11 y12
      unfold semblanceref12_Light.l2
      repeat' first
      | (with_reducible exact ih0 _ _ _ _ _)
      | (with_reducible exact ih1 _ _ _ _ _)
      | (with_reducible exact ih2 _ _ _ _ _ _)
      | (with_reducible exact ih3 _ _ _ _ _ _ _)
      | (with_reducible exact ih4 _ _ _ _ _ _ _ _ _ _ _ _ _)
      | (with_reducible exact ih5 _ _ _ _ _ _ _ _ _ _ _ _ _)
      | (with_reducible exact ih6 _ _ _ _ _ _ _ _ _ _ _ _ _ _ _ _ _ _)
      | (with_reducible exact semblanceref11_Long.mono _ _)
      | (with_reducible exact semblanceref12_terms.mono _ _)
      | (with_reducible exact semblanceref12_weigh.mono _ _)
      | (with_reducible exact LeO.refl _)
      | (with_reducible exact LeO.none _)
      | (with_reducible refine LeO.ite ?_ ?_)
      | (with_reducible refine LeO.bind ?_ (fun _ => ?_))
      | exact ih0 _ _ _ _ _
      | exact ih1 _ _ _ _ _
      | exact ih2 _ _ _ _ _ _
      | exact ih3 _ _ _ _ _ _ _
      | exact ih4 _ _ _ _ _ _ _ _ _ _ _ _ _
      | exact ih5 _ _ _ _ _ _ _ _ _ _ _ _ _
      | exact ih6 _ _ _ _ _ _ _ _ _ _ _ _ _ _ _ _ _ _
      | exact semblanceref11_Long.mono _ _
      | exact semblanceref12_terms.mono _ _
      | exact semblanceref12_weigh.mono _ _
      | exact LeO.none _
      | refine LeO.ite ?_ ?_
      | refine LeO.bind ?_ (fun _ => ?_)
    · intro y0 y1 y2 y3 y4 y5 y6 y7 y8 y9 y10 y11 y12 y13 y14 y15 y16 y17
      unfold semblanceref12_Light.j6
      repeat' first
      | (with_reducible exact ih0 _ _ _ _ _)
      | (with_reducible exact ih1 _ _ _ _ _)
      | (with_reducible exact ih2 _ _ _ _ _ _)
      | (with_reducible exact ih3 _ _ _ _ _ _ _)
      | (with_reducible exact ih4 _ _ _ _ _ _ _ _ _ _ _ _ _)
      | (with_reducible exact ih5 _ _ _ _ _ _ _ _ _ _ _ _ _)
      | (with_reducible exact ih6 _ _ _ _ _ _ _ _ _ _ _ _ _ _ _ _ _ _)
      | (with_reducible exact semblanceref11_Long.mono _ _)
      | (with_reducible exact semblanceref12_terms.mono _ _)
      | (with_reducible exact semblanceref12_weigh.mono _ _)
      | (with_reducible exact LeO.refl _)
      | (with_reducible exact LeO.none _)
      | (with_reducible refine LeO.ite ?_ ?_)
      | (with_reducible refine LeO.bind ?_ (fun _ => ?_))
      | exact ih0 _ _ _ _ _
      | exact ih1 _ _ _ _ _
      | exact ih2 _ _ _ _ _ _
      | exact ih3 _ _ _ _ _ _ _
      | exact ih4 _ _ _ _ _ _ _ _ _ _ _ _ _
      | exact ih5 _ _ _ _ _ _ _ _ _ _ _ _ _
      | exact ih6 _ _ _ _ _ _ _ _ _ _ _ _ _ _ _ _ _ _
      | exact semblanceref11_Long.mono _ _
      | exact semblanceref12_terms.mono _ _
      | exact semblanceref12_weigh.mono _ _
      | exact LeO.none _
      | refine LeO.ite ?_ ?_
      | refine LeO.bind ?_ (fun _ => ?_)
theorem semblanceref12_Light.mono : ∀ a0 a1 a2 a3 k, LeO (semblanceref12_Light.f k a0 a1 a2 a3) (semblanceref12_Light.f (k + 1) a0 a1 a2 a3) := by
  intro a0 a1 a2 a3 k
  obtain ⟨ih0, ih1, ih2, ih3, ih4, ih5, ih6⟩ := semblanceref12_Light.mono_l k
  unfold semblanceref12_Light.f
  repeat' first
      | (with_reducible exact ih0 _ _ _ _ _)
      | (with_reducible exact ih1 _ _ _ _ _)
      | (with_reducible exact ih2 _ _ _ _ _ _)
      | (with_reducible exact ih3 _ _ _ _ _ _ _)
      | (with_reducible exact ih4 _ _ _ _ _ _ _ _ _ _ _ _ _)
      | (with_reducible exact ih5 _ _ _ _ _ _ _ _ _ _ _ _ _)
      | (with_reducible exact ih6 _ _ _ _ _ _ _ _ _ _ _ _ _ _ _ _ _ _)
      | (with_reducible exact semblanceref11_Long.mono _ _)
      | (with_reducible exact semblanceref12_terms.mono _ _)
      | (with_reducible exact semblanceref12_weigh.mono _ _)
      | (with_reducible exact LeO.refl _)
      | (with_reducible exact LeO.none _)
      | (with_reducible refine LeO.ite ?_ ?_)
      | (with_reducible refine LeO.bind ?_ (fun _ => ?_))
      | exact ih0 _ _ _ _ _
      | exact ih1 _ _ _ _ _
      | exact ih2 _ _ _ _ _ _
      | exact ih3 _ _ _ _ _ _ _
      | exact ih4 _ _ _ _ _ _ _ _ _ _ _ _ _
      | exact ih5 _ _ _ _ _ _ _ _ _ _ _ _ _
      | exact ih6 _ _ _ _ _ _ _ _ _ _ _ _ _ _ _ _ _ _
      | exact semblanceref11_Long.mono _ _
      | exact semblanceref12_terms.mono _ _
      | exact semblanceref12_weigh.mono _ _
      | exact LeO.none _
      | refine LeO.ite ?_ ?_
      | refine LeO.bind ?_ (fun _ => ?_)
theorem hc4_ {w W : World} {a : Addr} {v : Value} (hb : Below w.heap.size w W) (h : w.cell? a = some v) : W.cell? a = some v := (hb.cell (World.block_lt_of_cell? w _ h)).trans h
theorem bz4_ {W W2 w : World} (_ : Below W.heap.size W W2) (h : Below w.heap.size w W) : Below w.heap.size w W := h
set_option maxHeartbeats 8000000 in
set_option maxRecDepth 100000 in
theorem semblanceref12_Light.calls (k : Nat) (a0_0 : ByteArray) (A0_1 : Option Addr) (c0_1 : Nat) (l0_1 : List ByteArray) (A0_2 : Option Addr) (c0_2 : Nat) (l0_2 : List (S95)) (A0_3 : Option Addr) (c0_3 : Nat) (l0_3 : List (S99)) (r : Bool) (w : World) (hr0_1 : Kd.C Kd.string w A0_1 l0_1.length l0_1) (hc0_1 : l0_1.length ≤ c0_1) (hr0_2 : Kd.C k95 w A0_2 l0_2.length l0_2) (hc0_2 : l0_2.length ≤ c0_2) (hr0_3 : Kd.C k99 w A0_3 l0_3.length l0_3) (hc0_3 : l0_3.length ≤ c0_3) (h : semblanceref12_Light.f k a0_0 l0_1 l0_2 l0_3 = some r) :
  Calls Try.prog 28 #[.agg #[.string a0_0, .slice A0_1 l0_1.length c0_1, .slice A0_2 l0_2.length c0_2, .slice A0_3 l0_3.length c0_3]] w fun e w' => e = .returned (.bool r) ∧ Below w.heap.size w w' := by
 have hu59 := Try.underlying59
 have hu99 := Try.underlying99
 have hu102 := Try.underlying102
 have HR0_1 := Aside0.mk hr0_1
 have HC0_1 := Aside0.mk hc0_1
 clear hr0_1 hc0_1
 have HR0_2 := Aside0.mk hr0_2
 have HC0_2 := Aside0.mk hc0_2
 clear hr0_2 hc0_2
 have HR0_3 := Aside0.mk hr0_3
 have HC0_3 := Aside0.mk hc0_3
 clear hr0_3 hc0_3
 have HB := Aside0.mk (Below.refl w.heap.size w)
 have H : (if (a0_0.size : Int) > 100 then (semblanceref12_Light.j0 k true a0_0 l0_1 l0_2 l0_3) else ((semblanceref11_Long.f k l0_1).bind fun t109 => (if t109 = true then (semblanceref12_Light.j0 k true a0_0 l0_1 l0_2 l0_3) else (if (l0_2.length : Int) > 10 then (semblanceref12_Light.j0 k true a0_0 l0_1 l0_2 l0_3) else (semblanceref12_Light.j0 k (decide ((l0_3.length : Int) > 65)) a0_0 l0_1 l0_2 l0_3))))) = some r := h
 clear h
 have HC2 := Aside0.mk H
 clear H
 go_enter Try.func28, Try.ntmps28
 go_upto_region 1 with (first | ((with_reducible refine gate_dst (N := 1) rfl ?_); (try (refine gate_guard (by rfl) ?_; dsimp only)); refine box_event ?hg (N := 1) ?hd (cs := #[.string a0_0, .slice A0_1 l0_1.length c0_1, .slice A0_2 l0_2.length c0_2, .slice A0_3 l0_3.length c0_3]) (t := 59) ?hr ?_; (case hd => rfl); (case hg => rfl); (case hr => first | (go_simp; done) | (go_simp; rfl)); intro gb108 hg w3 hbox hb; have hB_ := bz4_ hb (brw HB.out); have n0_ := Aside0.mk (below_step hB_ hb); have n1_ := Aside0.mk (hbox); have n2_ := Aside0.mk ((by rw [hg]; exact (below_size hB_) : w.heap.size ≤ gb108)); have n3_ := Aside0.mk ((by rw [hg]; exact (below_size hB_) : w.heap.size ≤ gb108)); clear HB; have HB := n0_; have BK108 := n1_; have GW108 := n2_; have GE108 := n3_; clear n0_ n1_ n2_ n3_; clear hb hbox hg))
 repeat (go_quiet (first | ((with_reducible refine gate_dst (N := 1) rfl ?_); (try (refine gate_guard (by rfl) ?_; dsimp only)); refine box_event ?hg (N := 1) ?hd (cs := #[.string a0_0, .slice A0_1 l0_1.length c0_1, .slice A0_2 l0_2.length c0_2, .slice A0_3 l0_3.length c0_3]) (t := 59) ?hr ?_; (case hd => rfl); (case hg => rfl); (case hr => first | (go_simp; done) | (go_simp; rfl)); intro gb108 hg w3 hbox hb; have hB_ := bz4_ hb (brw HB.out); have n0_ := Aside0.mk (below_step hB_ hb); have n1_ := Aside0.mk (hbox); have n2_ := Aside0.mk ((by rw [hg]; exact (below_size hB_) : w.heap.size ≤ gb108)); have n3_ := Aside0.mk ((by rw [hg]; exact (below_size hB_) : w.heap.size ≤ gb108)); clear HB; have HB := n0_; have BK108 := n1_; have GW108 := n2_; have GE108 := n3_; clear n0_ n1_ n2_ n3_; clear hb hbox hg)); go_upto_region 1 with (first | ((with_reducible refine gate_dst (N := 1) rfl ?_); (try (refine gate_guard (by rfl) ?_; dsimp only)); refine box_event ?hg (N := 1) ?hd (cs := #[.string a0_0, .slice A0_1 l0_1.length c0_1, .slice A0_2 l0_2.length c0_2, .slice A0_3 l0_3.length c0_3]) (t := 59) ?hr ?_; (case hd => rfl); (case hg => rfl); (case hr => first | (go_simp; done) | (go_simp; rfl)); intro gb108 hg w3 hbox hb; have hB_ := bz4_ hb (brw HB.out); have n0_ := Aside0.mk (below_step hB_ hb); have n1_ := Aside0.mk (hbox); have n2_ := Aside0.mk ((by rw [hg]; exact (below_size hB_) : w.heap.size ≤ gb108)); have n3_ := Aside0.mk ((by rw [hg]; exact (below_size hB_) : w.heap.size ≤ gb108)); clear HB; have HB := n0_; have BK108 := n1_; have GW108 := n2_; have GE108 := n3_; clear n0_ n1_ n2_ n3_; clear hb hbox hg)))
 (try simp only [Act.put, sb_, s0_, s1_])
 go_cut [29] (fun v29 wc => ∃ (kq : Nat) (x29_1 : Bool), v29 = .bool x29_1 ∧ Aside0 (semblanceref12_Light.j0 kq x29_1 a0_0 l0_1 l0_2 l0_3 = some r) ∧ Aside0 (kq ≤ k) ∧ Aside0 (wc.heap[gb108]? = some (.cells #[.string a0_0, (.slice A0_1 l0_1.length c0_1), (.slice A0_2 l0_2.length c0_2), (.slice A0_3 l0_3.length c0_3)] 59 (0, 0))) ∧ Aside0 (Below w.heap.size w wc))
 case first =>
  have H := HC2.out
  clear HC2
  by_cases c4 : (a0_0.size : Int) > 100
  ·rw [if_pos c4] at H
   have c4b0 : decide (100 < (a0_0.size : Int)) = true := decide_eq_true c4
   have c4b1 : decide (100 < a0_0.size) = true := decide_eq_true (by omega)
   clear c4
   (first | rw [c4b0] | (simp only [i64_w, i32_w]; rw [c4b0]) | skip)
   have H' := Aside0.mk H
   clear H
   obtain ⟨hcz5_0, hcz5_1, hcz5_2, hcz5_3⟩ := cz4_ BK108.out
   obtain ⟨hfz5_0, hfz5_1, hfz5_2, hfz5_3⟩ := cf4_ BK108.out
   go_wp2
   repeat (go_quiet (fail); try go_wp2)
   go_meet
   case rel => exact ⟨_, (true), (by first | rfl | (simp; done) | (simp [*]; done)), H', ⟨by first | omega | exact Nat.le_refl _⟩, ⟨grw BK108.out⟩, ⟨by repeat (first | (with_reducible first | exact HB.out | apply below_alloc | apply pw_below_drewN | apply below_drew1 | refine below_set ?_ GE108.out) | exact HB.out)⟩⟩
  rw [if_neg c4] at H
  have c4b0 : decide (100 < (a0_0.size : Int)) = false := decide_eq_false c4
  have c4b1 : decide (100 < a0_0.size) = false := decide_eq_false (by omega)
  clear c4
  (first | rw [c4b0] | (simp only [i64_w, i32_w]; rw [c4b0]) | skip)
  replace H := Option.bind_eq_some_iff.mp H
  obtain ⟨t109, A60, H⟩ := H
  replace H : (if t109 = true then (semblanceref12_Light.j0 k true a0_0 l0_1 l0_2 l0_3) else (if (l0_2.length : Int) > 10 then (semblanceref12_Light.j0 k true a0_0 l0_1 l0_2 l0_3) else (semblanceref12_Light.j0 k (decide ((l0_3.length : Int) > 65)) a0_0 l0_1 l0_2 l0_3))) = some r := H
  have A6 := Aside0.mk A60
  clear A60
  by_cases c7 : t109 = true
  ·subst c7
   have H1 : (semblanceref12_Light.j0 k true a0_0 l0_1 l0_2 l0_3) = some r := by rw [if_pos rfl] at H; exact H
   clear H
   have H := H1
   clear H1
   have H' := Aside0.mk H
   clear H
   obtain ⟨hcz8_0, hcz8_1, hcz8_2, hcz8_3⟩ := cz4_ BK108.out
   obtain ⟨hfz8_0, hfz8_1, hfz8_2, hfz8_3⟩ := cf4_ BK108.out
   go_wp2_with (first | (go_at_call 64; (with_reducible refine (semblanceref11_Long.calls k _ _ l0_1 true _ ?side1 ?side2 A6.out).mono ?_); (case side1 => repeat (first | exact (Kd.C_below HR0_1.out HB.out) | (with_reducible refine Kd.C_alloc ?_ _) | (with_reducible refine Kd.C_drewN ?_ _) | (with_reducible refine Kd.C_drew ?_))); (case side2 => exact HC0_1.out); rintro e w' ⟨rfl, ⟨nd, rfl⟩⟩; (try first | exact ⟨rfl, _, World.drewN_drewN _ _ _⟩ | exact ⟨rfl, _, Eq.trans (World.drewN_drewN _ _ _) (congrArg (World.drewN _) (Nat.add_assoc _ _ _))⟩)))
   repeat (go_quiet (first | (go_at_call 64; (with_reducible refine (semblanceref11_Long.calls k _ _ l0_1 true _ ?side1 ?side2 A6.out).mono ?_); (case side1 => repeat (first | exact (Kd.C_below HR0_1.out HB.out) | (with_reducible refine Kd.C_alloc ?_ _) | (with_reducible refine Kd.C_drewN ?_ _) | (with_reducible refine Kd.C_drew ?_))); (case side2 => exact HC0_1.out); rintro e w' ⟨rfl, ⟨nd, rfl⟩⟩; (try first | exact ⟨rfl, _, World.drewN_drewN _ _ _⟩ | exact ⟨rfl, _, Eq.trans (World.drewN_drewN _ _ _) (congrArg (World.drewN _) (Nat.add_assoc _ _ _))⟩))); try go_wp2_with (first | (go_at_call 64; (with_reducible refine (semblanceref11_Long.calls k _ _ l0_1 true _ ?side1 ?side2 A6.out).mono ?_); (case side1 => repeat (first | exact (Kd.C_below HR0_1.out HB.out) | (with_reducible refine Kd.C_alloc ?_ _) | (with_reducible refine Kd.C_drewN ?_ _) | (with_reducible refine Kd.C_drew ?_))); (case side2 => exact HC0_1.out); rintro e w' ⟨rfl, ⟨nd, rfl⟩⟩; (try first | exact ⟨rfl, _, World.drewN_drewN _ _ _⟩ | exact ⟨rfl, _, Eq.trans (World.drewN_drewN _ _ _) (congrArg (World.drewN _) (Nat.add_assoc _ _ _))⟩))))
   go_meet
   case rel => exact ⟨_, (true), (by first | rfl | (simp; done) | (simp [*]; done)), H', ⟨by first | omega | exact Nat.le_refl _⟩, ⟨grw BK108.out⟩, ⟨by repeat (first | (with_reducible first | exact HB.out | apply below_alloc | apply pw_below_drewN | apply below_drew1 | refine below_set ?_ GE108.out) | exact HB.out)⟩⟩
  replace c7 := Bool.eq_false_iff.mpr c7
  subst c7
  have H1 : (if (l0_2.length : Int) > 10 then (semblanceref12_Light.j0 k true a0_0 l0_1 l0_2 l0_3) else (semblanceref12_Light.j0 k (decide ((l0_3.length : Int) > 65)) a0_0 l0_1 l0_2 l0_3)) = some r := by rw [if_neg (show ¬ (false = true) by decide)] at H; exact H
  clear H
  have H := H1
  clear H1
  by_cases c9 : (l0_2.length : Int) > 10
  ·rw [if_pos c9] at H
   have c9b0 : decide (10 < (l0_2.length : Int)) = true := decide_eq_true c9
   have c9b1 : decide (10 < l0_2.length) = true := decide_eq_true (by omega)
   clear c9
   have H' := Aside0.mk H
   clear H
   obtain ⟨hcz10_0, hcz10_1, hcz10_2, hcz10_3⟩ := cz4_ BK108.out
   obtain ⟨hfz10_0, hfz10_1, hfz10_2, hfz10_3⟩ := cf4_ BK108.out
   go_wp2_with (first | (go_at_call 64; (with_reducible refine (semblanceref11_Long.calls k _ _ l0_1 false _ ?side1 ?side2 A6.out).mono ?_); (case side1 => repeat (first | exact (Kd.C_below HR0_1.out HB.out) | (with_reducible refine Kd.C_alloc ?_ _) | (with_reducible refine Kd.C_drewN ?_ _) | (with_reducible refine Kd.C_drew ?_))); (case side2 => exact HC0_1.out); rintro e w' ⟨rfl, ⟨nd, rfl⟩⟩; (try first | exact ⟨rfl, _, World.drewN_drewN _ _ _⟩ | exact ⟨rfl, _, Eq.trans (World.drewN_drewN _ _ _) (congrArg (World.drewN _) (Nat.add_assoc _ _ _))⟩)))
   repeat (go_quiet (first | (go_at_call 64; (with_reducible refine (semblanceref11_Long.calls k _ _ l0_1 false _ ?side1 ?side2 A6.out).mono ?_); (case side1 => repeat (first | exact (Kd.C_below HR0_1.out HB.out) | (with_reducible refine Kd.C_alloc ?_ _) | (with_reducible refine Kd.C_drewN ?_ _) | (with_reducible refine Kd.C_drew ?_))); (case side2 => exact HC0_1.out); rintro e w' ⟨rfl, ⟨nd, rfl⟩⟩; (try first | exact ⟨rfl, _, World.drewN_drewN _ _ _⟩ | exact ⟨rfl, _, Eq.trans (World.drewN_drewN _ _ _) (congrArg (World.drewN _) (Nat.add_assoc _ _ _))⟩))); try go_wp2_with (first | (go_at_call 64; (with_reducible refine (semblanceref11_Long.calls k _ _ l0_1 false _ ?side1 ?side2 A6.out).mono ?_); (case side1 => repeat (first | exact (Kd.C_below HR0_1.out HB.out) | (with_reducible refine Kd.C_alloc ?_ _) | (with_reducible refine Kd.C_drewN ?_ _) | (with_reducible refine Kd.C_drew ?_))); (case side2 => exact HC0_1.out); rintro e w' ⟨rfl, ⟨nd, rfl⟩⟩; (try first | exact ⟨rfl, _, World.drewN_drewN _ _ _⟩ | exact ⟨rfl, _, Eq.trans (World.drewN_drewN _ _ _) (congrArg (World.drewN _) (Nat.add_assoc _ _ _))⟩))))
   go_meet
   case rel => exact ⟨_, (true), (by first | rfl | (simp; done) | (simp [*]; done)), H', ⟨by first | omega | exact Nat.le_refl _⟩, ⟨grw BK108.out⟩, ⟨by repeat (first | (with_reducible first | exact HB.out | apply below_alloc | apply pw_below_drewN | apply below_drew1 | refine below_set ?_ GE108.out) | exact HB.out)⟩⟩
  rw [if_neg c9] at H
  have c9b0 : decide (10 < (l0_2.length : Int)) = false := decide_eq_false c9
  have c9b1 : decide (10 < l0_2.length) = false := decide_eq_false (by omega)
  clear c9
  have H' := Aside0.mk H
  clear H
  obtain ⟨hcz11_0, hcz11_1, hcz11_2, hcz11_3⟩ := cz4_ BK108.out
  obtain ⟨hfz11_0, hfz11_1, hfz11_2, hfz11_3⟩ := cf4_ BK108.out
  go_wp2_with (first | (go_at_call 64; (with_reducible refine (semblanceref11_Long.calls k _ _ l0_1 false _ ?side1 ?side2 A6.out).mono ?_); (case side1 => repeat (first | exact (Kd.C_below HR0_1.out HB.out) | (with_reducible refine Kd.C_alloc ?_ _) | (with_reducible refine Kd.C_drewN ?_ _) | (with_reducible refine Kd.C_drew ?_))); (case side2 => exact HC0_1.out); rintro e w' ⟨rfl, ⟨nd, rfl⟩⟩; (try first | exact ⟨rfl, _, World.drewN_drewN _ _ _⟩ | exact ⟨rfl, _, Eq.trans (World.drewN_drewN _ _ _) (congrArg (World.drewN _) (Nat.add_assoc _ _ _))⟩)))
  repeat (go_quiet (first | (go_at_call 64; (with_reducible refine (semblanceref11_Long.calls k _ _ l0_1 false _ ?side1 ?side2 A6.out).mono ?_); (case side1 => repeat (first | exact (Kd.C_below HR0_1.out HB.out) | (with_reducible refine Kd.C_alloc ?_ _) | (with_reducible refine Kd.C_drewN ?_ _) | (with_reducible refine Kd.C_drew ?_))); (case side2 => exact HC0_1.out); rintro e w' ⟨rfl, ⟨nd, rfl⟩⟩; (try first | exact ⟨rfl, _, World.drewN_drewN _ _ _⟩ | exact ⟨rfl, _, Eq.trans (World.drewN_drewN _ _ _) (congrArg (World.drewN _) (Nat.add_assoc _ _ _))⟩))); try go_wp2_with (first | (go_at_call 64; (with_reducible refine (semblanceref11_Long.calls k _ _ l0_1 false _ ?side1 ?side2 A6.out).mono ?_); (case side1 => repeat (first | exact (Kd.C_below HR0_1.out HB.out) | (with_reducible refine Kd.C_alloc ?_ _) | (with_reducible refine Kd.C_drewN ?_ _) | (with_reducible refine Kd.C_drew ?_))); (case side2 => exact HC0_1.out); rintro e w' ⟨rfl, ⟨nd, rfl⟩⟩; (try first | exact ⟨rfl, _, World.drewN_drewN _ _ _⟩ | exact ⟨rfl, _, Eq.trans (World.drewN_drewN _ _ _) (congrArg (World.drewN _) (Nat.add_assoc _ _ _))⟩))))
  go_meet
  case rel => exact ⟨_, (decide ((l0_3.length : Int) > 65)), (by first | rfl | (simp; done) | (simp [*]; done)), H', ⟨by first | omega | exact Nat.le_refl _⟩, ⟨grw BK108.out⟩, ⟨by repeat (first | (with_reducible first | exact HB.out | apply below_alloc | apply pw_below_drewN | apply below_drew1 | refine below_set ?_ GE108.out) | exact HB.out)⟩⟩
 case rest =>
  clear HC2
  try clear c2
  try clear p2
  try clear c4
  try clear c4b0
  try clear c4b1
  try clear c7
  try clear c9
  try clear c9b0
  try clear c9b1
  try clear hcz10_0 hcz10_1 hcz10_2 hcz10_3
  try clear hcz11_0 hcz11_1 hcz11_2 hcz11_3
  try clear hcz5_0 hcz5_1 hcz5_2 hcz5_3
  try clear hcz8_0 hcz8_1 hcz8_2 hcz8_3
  try clear hfz10_0 hfz10_1 hfz10_2 hfz10_3
  try clear hfz11_0 hfz11_1 hfz11_2 hfz11_3
  try clear hfz5_0 hfz5_1 hfz5_2 hfz5_3
  try clear hfz8_0 hfz8_1 hfz8_2 hfz8_3
  obtain ⟨kq, x29_1, rfl, HA, HJ1, BK108, HB⟩ := hcut
  cases kq with
  | zero => exact absurd HA.out (by simp [semblanceref12_Light.j0])
  | succ kj1 =>
   have H := HA.out
   clear HA
   simp only [semblanceref12_Light.j0] at H
   by_cases c12 : x29_1 = true
   ·subst c12
    have H1 : (some false) = some r := by rw [if_pos rfl] at H; exact H
    clear H
    have H := H1
    clear H1
    obtain rfl := Option.some.inj H
    go_wp2
    repeat (go_quiet (fail); try go_wp2)
    go_ret
    exact ⟨by first | rfl | (simp [errW_none, errW_some] <;> rfl) | (simp [*, errW_none, errW_some] <;> rfl), by repeat (first | (with_reducible first | exact HB.out | apply below_alloc | apply pw_below_drewN | apply below_drew1 | refine below_set ?_ GE108.out) | exact HB.out)⟩
   replace c12 := Bool.eq_false_iff.mpr c12
   subst c12
   have H1 : (semblanceref12_Light.l0 kj1 0 a0_0 l0_1 l0_2 l0_3) = some r := by rw [if_neg (show ¬ (false = true) by decide)] at H; exact H
   clear H
   have H := H1
   clear H1
   have H' := Aside0.mk H
   clear H
   go_wp2
   repeat (go_quiet (fail); try go_wp2)
   go_loopg [3] kj1 (fun kq v3 w' => ∃ (x3_2 : Int), v3 = .int .i64 x3_2 ∧ Aside0 (semblanceref12_Light.l0 kq x3_2 a0_0 l0_1 l0_2 l0_3 = some r) ∧ Aside0 (kq ≤ kj1) ∧ Aside0 (w'.heap[gb108]? = some (.cells #[.string a0_0, (.slice A0_1 l0_1.length c0_1), (.slice A0_2 l0_2.length c0_2), (.slice A0_3 l0_3.length c0_3)] 59 (0, 0))) ∧ Aside0 (Below w.heap.size w w'))
   case atStart => exact ⟨(0), (by first | rfl | (simp; done) | (simp [*]; done)), H', ⟨Nat.le_refl _⟩, ⟨grw BK108.out⟩, ⟨by repeat (first | (with_reducible first | exact HB.out | apply below_alloc | apply pw_below_drewN | apply below_drew1 | refine below_set ?_ GE108.out) | exact HB.out)⟩⟩
   case round =>
    clear H'
    try clear c1
    try clear c2
    try clear p2
    try clear c4
    try clear c4b0
    try clear c4b1
    try clear c7
    try clear c9
    try clear c9b0
    try clear c9b1
    try clear c12
    try clear hcz10_0 hcz10_1 hcz10_2 hcz10_3
    try clear hcz11_0 hcz11_1 hcz11_2 hcz11_3
    try clear hcz5_0 hcz5_1 hcz5_2 hcz5_3
    try clear hcz8_0 hcz8_1 hcz8_2 hcz8_3
    try clear hfz10_0 hfz10_1 hfz10_2 hfz10_3
    try clear hfz11_0 hfz11_1 hfz11_2 hfz11_3
    try clear hfz5_0 hfz5_1 hfz5_2 hfz5_3
    try clear hfz8_0 hfz8_1 hfz8_2 hfz8_3
    try clear p2
    obtain ⟨x3_2, rfl, HA, HK2, BK108, HB⟩ := hrel
    cases gk with
    | zero => exact absurd HA.out (by simp [semblanceref12_Light.l0])
    | succ k2 =>
     have H := HA.out
     clear HA
     simp only [semblanceref12_Light.l0] at H
     by_cases c13 : x3_2 < (l0_2.length : Int)
     ·rw [if_pos c13] at H
      have c13b0 : decide (x3_2 < (l0_2.length : Int)) = true := decide_eq_true c13
      clear c13
      by_cases c14 : 0 ≤ x3_2
      rotate_left
      ·rw [if_neg c14] at H
       exact absurd H (by simp)
      rw [if_pos c14] at H
      have c14b0 : decide (0 ≤ x3_2) = true := decide_eq_true c14
      clear c14
      have HZ_ := Aside0.mk H
      clear H
      obtain ⟨hcz16_0, hcz16_1, hcz16_2, hcz16_3⟩ := cz4_ BK108.out
      obtain ⟨hfz16_0, hfz16_1, hfz16_2, hfz16_3⟩ := cf4_ BK108.out
      have p110 : 0 ≤ (x3_2 : Int) := of_decide_eq_true (by first | (with_reducible assumption) | assumption)
      have q110 : x3_2 < (l0_2.length : Int) := of_decide_eq_true (by first | (with_reducible assumption) | assumption)
      obtain ⟨ad110, e110, hx110_0, hx110_1, hx110_2, hx110_3⟩ := at_T95 HR0_2.out x3_2 p110 q110
      cases e110
      replace hx110_0 := hc4_ HB.out hx110_0
      replace hx110_1 := hc4_ HB.out hx110_1
      replace hx110_2 := hc4_ HB.out hx110_2
      replace hx110_3 := hc4_ HB.out hx110_3
      replace p110 := eq_true p110
      replace q110 := eq_true q110
      have H := HZ_.out
      clear HZ_
      by_cases c15 : (((rd_T95 l0_2 x3_2).f0).size : Int) > 100
      ·rw [if_pos c15] at H
       have c15b0 : decide (100 < (((rd_T95 l0_2 x3_2).f0).size : Int)) = true := decide_eq_true c15
       have c15b1 : decide (100 < ((rd_T95 l0_2 x3_2).f0).size) = true := decide_eq_true (by omega)
       clear c15
       obtain rfl := Option.some.inj H
       go_wp2
       repeat (go_quiet (fail); try go_wp2)
       go_ret
       exact ⟨by first | rfl | (simp [errW_none, errW_some] <;> rfl) | (simp [*, errW_none, errW_some] <;> rfl), by repeat (first | (with_reducible first | exact HB.out | apply below_alloc | apply pw_below_drewN | apply below_drew1 | refine below_set ?_ GE108.out) | exact HB.out)⟩
      rw [if_neg c15] at H
      have c15b0 : decide (100 < (((rd_T95 l0_2 x3_2).f0).size : Int)) = false := decide_eq_false c15
      have c15b1 : decide (100 < ((rd_T95 l0_2 x3_2).f0).size) = false := decide_eq_false (by omega)
      clear c15
      have H' := Aside0.mk H
      clear H
      go_wp2
      repeat (go_quiet (fail); try go_wp2)
      go_roundg k2
      case measure => have := HJ1.out; have := HK2.out; omega
      case rel => exact ⟨(wrap64 (x3_2 + 1)), (by first | rfl | (simp; done) | (simp [*]; done)), H', ⟨by have := HJ1.out; have := HK2.out; omega⟩, ⟨grw BK108.out⟩, ⟨by repeat (first | (with_reducible first | exact HB.out | apply below_alloc | apply pw_below_drewN | apply below_drew1 | refine below_set ?_ GE108.out) | exact HB.out)⟩⟩
     rw [if_neg c13] at H
     have c13b0 : decide (x3_2 < (l0_2.length : Int)) = false := decide_eq_false c13
     clear c13
     have H' := Aside0.mk H
     clear H
     obtain ⟨hcz18_0, hcz18_1, hcz18_2, hcz18_3⟩ := cz4_ BK108.out
     obtain ⟨hfz18_0, hfz18_1, hfz18_2, hfz18_3⟩ := cf4_ BK108.out
     go_wp2
     repeat (go_quiet (fail); try go_wp2)
     go_loopg [4, 5] k2 (fun kq v4 v5 w' => ∃ (x4_3 : Int) (x5_3 : Int), v4 = .int .i64 x4_3 ∧ v5 = .int .i64 x5_3 ∧ Aside0 (semblanceref12_Light.l1 kq x4_3 x5_3 a0_0 l0_1 l0_2 l0_3 = some r) ∧ Aside0 (kq ≤ k2) ∧ Aside0 (w'.heap[gb108]? = some (.cells #[.string a0_0, (.slice A0_1 l0_1.length c0_1), (.slice A0_2 l0_2.length c0_2), (.slice A0_3 l0_3.length c0_3)] 59 (0, 0))) ∧ Aside0 (Below w.heap.size w w'))
     case atStart => exact ⟨(0), (0), (by first | rfl | (simp; done) | (simp [*]; done)), (by first | rfl | (simp; done) | (simp [*]; done)), H', ⟨Nat.le_refl _⟩, ⟨grw BK108.out⟩, ⟨by repeat (first | (with_reducible first | exact HB.out | apply below_alloc | apply pw_below_drewN | apply below_drew1 | refine below_set ?_ GE108.out) | exact HB.out)⟩⟩
     case round =>
      clear H'
      try clear c1
      try clear p1
      try clear q1
      try clear hx1
      try clear c2
      try clear p2
      try clear c4
      try clear c4b0
      try clear c4b1
      try clear p6
      try clear c7
      try clear c9
      try clear c9b0
      try clear c9b1
      try clear p11
      try clear q11
      try clear hx11
      try clear c12
      try clear c13
      try clear c13b0
      try clear c14
      try clear c14b0
      try clear c15
      try clear c15b0
      try clear c15b1
      try clear hcz10_0 hcz10_1 hcz10_2 hcz10_3
      try clear hcz11_0 hcz11_1 hcz11_2 hcz11_3
      try clear hcz16_0 hcz16_1 hcz16_2 hcz16_3
      try clear hcz17_0 hcz17_1 hcz17_2 hcz17_3
      try clear hcz18_0 hcz18_1 hcz18_2 hcz18_3
      try clear hcz5_0 hcz5_1 hcz5_2 hcz5_3
      try clear hcz8_0 hcz8_1 hcz8_2 hcz8_3
      try clear hfz10_0 hfz10_1 hfz10_2 hfz10_3
      try clear hfz11_0 hfz11_1 hfz11_2 hfz11_3
      try clear hfz16_0 hfz16_1 hfz16_2 hfz16_3
      try clear hfz17_0 hfz17_1 hfz17_2 hfz17_3
      try clear hfz18_0 hfz18_1 hfz18_2 hfz18_3
      try clear hfz5_0 hfz5_1 hfz5_2 hfz5_3
      try clear hfz8_0 hfz8_1 hfz8_2 hfz8_3
      try clear hx110_0
      try clear hx110_1
      try clear hx110_2
      try clear hx110_3
      try clear p110
      try clear p2
      try clear q110
      obtain ⟨x4_3, x5_3, rfl, rfl, HA, HK3, BK108, HB⟩ := hrel
      cases gk with
      | zero => exact absurd HA.out (by simp [semblanceref12_Light.l1])
      | succ k3 =>
       have H := HA.out
       clear HA
       simp only [semblanceref12_Light.l1] at H
       have HC19 := Aside0.mk H
       clear H
       go_upto_region 10 with (fail)
       repeat (go_quiet (fail); go_upto_region 10 with (fail))
       go_cut [53] (fun v53 wc => ∃ (kq : Nat) (x53_18 : Bool), v53 = .bool x53_18 ∧ Aside0 (semblanceref12_Light.j3 kq x4_3 x5_3 x53_18 a0_0 l0_1 l0_2 l0_3 = some r) ∧ Aside0 (kq ≤ k3) ∧ Aside0 (wc.heap[gb108]? = some (.cells #[.string a0_0, (.slice A0_1 l0_1.length c0_1), (.slice A0_2 l0_2.length c0_2), (.slice A0_3 l0_3.length c0_3)] 59 (0, 0))) ∧ Aside0 (Below w.heap.size w wc))
       case first =>
        have H := HC19.out
        clear HC19
        by_cases c20 : x5_3 < (l0_3.length : Int)
        ·rw [if_pos c20] at H
         have c20b0 : decide (x5_3 < (l0_3.length : Int)) = true := decide_eq_true c20
         clear c20
         (first | rw [c20b0] | (simp only [i64_w, i32_w]; rw [c20b0]) | skip)
         have H' := Aside0.mk H
         clear H
         obtain ⟨hcz21_0, hcz21_1, hcz21_2, hcz21_3⟩ := cz4_ BK108.out
         obtain ⟨hfz21_0, hfz21_1, hfz21_2, hfz21_3⟩ := cf4_ BK108.out
         go_wp2
         repeat (go_quiet (fail); try go_wp2)
         go_meet
         case rel => exact ⟨_, (decide (x4_3 ≤ 160)), (by first | rfl | (simp; done) | (simp [*]; done)), H', ⟨by have := HJ1.out; have := HK2.out; have := HK3.out; first | omega | exact Nat.le_refl _⟩, ⟨grw BK108.out⟩, ⟨by repeat (first | (with_reducible first | exact HB.out | apply below_alloc | apply pw_below_drewN | apply below_drew1 | refine below_set ?_ GE108.out) | exact HB.out)⟩⟩
        rw [if_neg c20] at H
        have c20b0 : decide (x5_3 < (l0_3.length : Int)) = false := decide_eq_false c20
        clear c20
        (first | rw [c20b0] | (simp only [i64_w, i32_w]; rw [c20b0]) | skip)
        have H' := Aside0.mk H
        clear H
        obtain ⟨hcz22_0, hcz22_1, hcz22_2, hcz22_3⟩ := cz4_ BK108.out
        obtain ⟨hfz22_0, hfz22_1, hfz22_2, hfz22_3⟩ := cf4_ BK108.out
        go_wp2
        repeat (go_quiet (fail); try go_wp2)
        go_meet
        case rel => exact ⟨_, (false), (by first | rfl | (simp; done) | (simp [*]; done)), H', ⟨by have := HJ1.out; have := HK2.out; have := HK3.out; first | omega | exact Nat.le_refl _⟩, ⟨grw BK108.out⟩, ⟨by repeat (first | (with_reducible first | exact HB.out | apply below_alloc | apply pw_below_drewN | apply below_drew1 | refine below_set ?_ GE108.out) | exact HB.out)⟩⟩
       case rest =>
        clear HC19
        try clear c1
        try clear p1
        try clear q1
        try clear hx1
        try clear c2
        try clear p2
        try clear c4
        try clear c4b0
        try clear c4b1
        try clear p6
        try clear c7
        try clear c9
        try clear c9b0
        try clear c9b1
        try clear p11
        try clear q11
        try clear hx11
        try clear c12
        try clear c13
        try clear c13b0
        try clear c14
        try clear c14b0
        try clear c15
        try clear c15b0
        try clear c15b1
        try clear c20
        try clear c20b0
        try clear hcz10_0 hcz10_1 hcz10_2 hcz10_3
        try clear hcz11_0 hcz11_1 hcz11_2 hcz11_3
        try clear hcz16_0 hcz16_1 hcz16_2 hcz16_3
        try clear hcz17_0 hcz17_1 hcz17_2 hcz17_3
        try clear hcz18_0 hcz18_1 hcz18_2 hcz18_3
        try clear hcz21_0 hcz21_1 hcz21_2 hcz21_3
        try clear hcz22_0 hcz22_1 hcz22_2 hcz22_3
        try clear hcz5_0 hcz5_1 hcz5_2 hcz5_3
        try clear hcz8_0 hcz8_1 hcz8_2 hcz8_3
        try clear hfz10_0 hfz10_1 hfz10_2 hfz10_3
        try clear hfz11_0 hfz11_1 hfz11_2 hfz11_3
        try clear hfz16_0 hfz16_1 hfz16_2 hfz16_3
        try clear hfz17_0 hfz17_1 hfz17_2 hfz17_3
        try clear hfz18_0 hfz18_1 hfz18_2 hfz18_3
        try clear hfz21_0 hfz21_1 hfz21_2 hfz21_3
        try clear hfz22_0 hfz22_1 hfz22_2 hfz22_3
        try clear hfz5_0 hfz5_1 hfz5_2 hfz5_3
        try clear hfz8_0 hfz8_1 hfz8_2 hfz8_3
        try clear hx110_0
        try clear hx110_1
        try clear hx110_2
        try clear hx110_3
        try clear p1
        try clear p11
        try clear p110
        try clear p2
        try clear p6
        try clear q1
        try clear q11
        try clear q110
        obtain ⟨kq, x53_18, rfl, HA, HJ18, BK108, HB⟩ := hcut
        cases kq with
        | zero => exact absurd HA.out (by simp [semblanceref12_Light.j3])
        | succ kj18 =>
         have H := HA.out
         clear HA
         simp only [semblanceref12_Light.j3] at H
         by_cases c23 : x53_18 = true
         rotate_left
         ·replace c23 := Bool.eq_false_iff.mpr c23
          subst c23
          have H1 : (some (decide (x4_3 ≤ 160))) = some r := by rw [if_neg (show ¬ (false = true) by decide)] at H; exact H
          clear H
          have H := H1
          clear H1
          obtain rfl := Option.some.inj H
          go_wp2
          repeat (go_quiet (fail); try go_wp2)
          go_ret
          exact ⟨by first | rfl | (simp [errW_none, errW_some] <;> rfl) | (simp [*, errW_none, errW_some] <;> rfl), by repeat (first | (with_reducible first | exact HB.out | apply below_alloc | apply pw_below_drewN | apply below_drew1 | refine below_set ?_ GE108.out) | exact HB.out)⟩

         subst c23
         have H1 : (if 0 ≤ x5_3 then (if x5_3 < (l0_3.length : Int) then (if (((rd_T99 l0_3 x5_3).f0).size : Int) > 100 then (semblanceref12_Light.j4 kj18 x4_3 x5_3 true a0_0 l0_1 l0_2 l0_3 ((rd_T99 l0_3 x5_3).f0) ((rd_T99 l0_3 x5_3).f1) ((rd_T99 l0_3 x5_3).f2) ((rd_T99 l0_3 x5_3).f3) ((rd_T99 l0_3 x5_3).f4) ((rd_T99 l0_3 x5_3).f5)) else (if (((rd_T99 l0_3 x5_3).f5).length : Int) > 20 then (semblanceref12_Light.j4 kj18 x4_3 x5_3 true a0_0 l0_1 l0_2 l0_3 ((rd_T99 l0_3 x5_3).f0) ((rd_T99 l0_3 x5_3).f1) ((rd_T99 l0_3 x5_3).f2) ((rd_T99 l0_3 x5_3).f3) ((rd_T99 l0_3 x5_3).f4) ((rd_T99 l0_3 x5_3).f5)) else (if (((rd_T99 l0_3 x5_3).f3).length : Int) > 10 then (semblanceref12_Light.j4 kj18 x4_3 x5_3 true a0_0 l0_1 l0_2 l0_3 ((rd_T99 l0_3 x5_3).f0) ((rd_T99 l0_3 x5_3).f1) ((rd_T99 l0_3 x5_3).f2) ((rd_T99 l0_3 x5_3).f3) ((rd_T99 l0_3 x5_3).f4) ((rd_T99 l0_3 x5_3).f5)) else (semblanceref12_Light.j4 kj18 x4_3 x5_3 (decide ((((rd_T99 l0_3 x5_3).f4).length : Int) > 10)) a0_0 l0_1 l0_2 l0_3 ((rd_T99 l0_3 x5_3).f0) ((rd_T99 l0_3 x5_3).f1) ((rd_T99 l0_3 x5_3).f2) ((rd_T99 l0_3 x5_3).f3) ((rd_T99 l0_3 x5_3).f4) ((rd_T99 l0_3 x5_3).f5))))) else (none)) else (none)) = some r := by rw [if_pos rfl] at H; exact H
         clear H
         have H := H1
         clear H1
         by_cases c24 : 0 ≤ x5_3
         rotate_left
         ·rw [if_neg c24] at H
          exact absurd H (by simp)
         rw [if_pos c24] at H
         have c24b0 : decide (0 ≤ x5_3) = true := decide_eq_true c24
         clear c24
         by_cases c25 : x5_3 < (l0_3.length : Int)
         rotate_left
         ·rw [if_neg c25] at H
          exact absurd H (by simp)
         rw [if_pos c25] at H
         have c25b0 : decide (x5_3 < (l0_3.length : Int)) = true := decide_eq_true c25
         clear c25
         have HC26 := Aside0.mk H
         clear H
         obtain ⟨hcz27_0, hcz27_1, hcz27_2, hcz27_3⟩ := cz4_ BK108.out
         obtain ⟨hfz27_0, hfz27_1, hfz27_2, hfz27_3⟩ := cf4_ BK108.out
         have p111 : 0 ≤ (x5_3 : Int) := of_decide_eq_true (by first | (with_reducible assumption) | assumption)
         have q111 : x5_3 < (l0_3.length : Int) := of_decide_eq_true (by first | (with_reducible assumption) | assumption)
         obtain ⟨ad111, A111_3, c111_3, A111_4, c111_4, A111_5, c111_5, e111, hx111_0, hx111_1, hx111_2, hx111_3, hx111_4, hx111_5, hl111_3, hi111_3, hl111_4, hi111_4, hl111_5, hi111_5⟩ := at_T99 HR0_3.out x5_3 p111 q111
         cases e111
         replace hx111_0 := hc4_ HB.out hx111_0
         replace hx111_1 := hc4_ HB.out hx111_1
         replace hx111_2 := hc4_ HB.out hx111_2
         replace hx111_3 := hc4_ HB.out hx111_3
         replace hx111_4 := hc4_ HB.out hx111_4
         replace hx111_5 := hc4_ HB.out hx111_5
         have HR111_3 := Aside0.mk hi111_3
         have HC111_3 := Aside0.mk hl111_3
         clear hi111_3 hl111_3
         have HR111_4 := Aside0.mk hi111_4
         have HC111_4 := Aside0.mk hl111_4
         clear hi111_4 hl111_4
         have HR111_5 := Aside0.mk hi111_5
         have HC111_5 := Aside0.mk hl111_5
         clear hi111_5 hl111_5
         replace p111 := eq_true p111
         replace q111 := eq_true q111
         go_upto_region 13 with (first | ((with_reducible refine gate_dst (N := 6) rfl ?_); (try (refine gate_guard (by rfl) ?_; dsimp only)); refine box_event ?hg (N := 6) ?hd (cs := #[.string (⟨#[]⟩ : ByteArray), .int .i64 0, .int .i64 0, .slice none 0 0, .slice none 0 0, .slice none 0 0]) (t := 99) ?hr ?_; (case hd => rfl); (case hg => rfl); (case hr => first | (go_simp; done) | (go_simp; rfl)); intro gb112 hg w28 hbox hb; have hB_ := bz4_ hb (by repeat (first | (with_reducible first | exact HB.out | apply below_alloc | apply pw_below_drewN | apply below_drew1 | refine below_set ?_ GE108.out) | exact HB.out)); have n0_ := Aside0.mk (blk_below (grw BK108.out) hb); have n1_ := Aside0.mk (below_step hB_ hb); have n2_ := Aside0.mk (hbox); have n3_ := Aside0.mk ((by rw [hg]; exact (below_size hB_) : w.heap.size ≤ gb112)); have n4_ := Aside0.mk ((by rw [hg]; exact (below_size hB_) : w.heap.size ≤ gb112)); have n5_ := Aside0.mk ((by rw [hg]; exact Nat.ne_of_lt (blk_lt (grw BK108.out)) : gb108 ≠ gb112)); have n6_ := Aside0.mk ((by rw [hg]; exact Nat.ne_of_gt (blk_lt (grw BK108.out)) : gb112 ≠ gb108)); clear BK108; clear HB; have BK108 := n0_; have HB := n1_; have BK112 := n2_; have GW112 := n3_; have GE112 := n4_; have NB108_112 := n5_; have NB112_108 := n6_; clear n0_ n1_ n2_ n3_ n4_ n5_ n6_; clear hb hbox hg; have hnb29 := NB112_108.out; have hnc29 := NB108_112.out; obtain ⟨hcz30_0, hcz30_1, hcz30_2, hcz30_3, hcz30_4, hcz30_5⟩ := cz6_ BK112.out; obtain ⟨hfz30_0, hfz30_1, hfz30_2, hfz30_3, hfz30_4, hfz30_5⟩ := cf6_ BK112.out))
         repeat (go_quiet (first | ((with_reducible refine gate_dst (N := 6) rfl ?_); (try (refine gate_guard (by rfl) ?_; dsimp only)); refine box_event ?hg (N := 6) ?hd (cs := #[.string (⟨#[]⟩ : ByteArray), .int .i64 0, .int .i64 0, .slice none 0 0, .slice none 0 0, .slice none 0 0]) (t := 99) ?hr ?_; (case hd => rfl); (case hg => rfl); (case hr => first | (go_simp; done) | (go_simp; rfl)); intro gb112 hg w28 hbox hb; have hB_ := bz4_ hb (by repeat (first | (with_reducible first | exact HB.out | apply below_alloc | apply pw_below_drewN | apply below_drew1 | refine below_set ?_ GE108.out) | exact HB.out)); have n0_ := Aside0.mk (blk_below (grw BK108.out) hb); have n1_ := Aside0.mk (below_step hB_ hb); have n2_ := Aside0.mk (hbox); have n3_ := Aside0.mk ((by rw [hg]; exact (below_size hB_) : w.heap.size ≤ gb112)); have n4_ := Aside0.mk ((by rw [hg]; exact (below_size hB_) : w.heap.size ≤ gb112)); have n5_ := Aside0.mk ((by rw [hg]; exact Nat.ne_of_lt (blk_lt (grw BK108.out)) : gb108 ≠ gb112)); have n6_ := Aside0.mk ((by rw [hg]; exact Nat.ne_of_gt (blk_lt (grw BK108.out)) : gb112 ≠ gb108)); clear BK108; clear HB; have BK108 := n0_; have HB := n1_; have BK112 := n2_; have GW112 := n3_; have GE112 := n4_; have NB108_112 := n5_; have NB112_108 := n6_; clear n0_ n1_ n2_ n3_ n4_ n5_ n6_; clear hb hbox hg; have hnb29 := NB112_108.out; have hnc29 := NB108_112.out; obtain ⟨hcz30_0, hcz30_1, hcz30_2, hcz30_3, hcz30_4, hcz30_5⟩ := cz6_ BK112.out; obtain ⟨hfz30_0, hfz30_1, hfz30_2, hfz30_3, hfz30_4, hfz30_5⟩ := cf6_ BK112.out)); go_upto_region 13 with (first | ((with_reducible refine gate_dst (N := 6) rfl ?_); (try (refine gate_guard (by rfl) ?_; dsimp only)); refine box_event ?hg (N := 6) ?hd (cs := #[.string (⟨#[]⟩ : ByteArray), .int .i64 0, .int .i64 0, .slice none 0 0, .slice none 0 0, .slice none 0 0]) (t := 99) ?hr ?_; (case hd => rfl); (case hg => rfl); (case hr => first | (go_simp; done) | (go_simp; rfl)); intro gb112 hg w28 hbox hb; have hB_ := bz4_ hb (by repeat (first | (with_reducible first | exact HB.out | apply below_alloc | apply pw_below_drewN | apply below_drew1 | refine below_set ?_ GE108.out) | exact HB.out)); have n0_ := Aside0.mk (blk_below (grw BK108.out) hb); have n1_ := Aside0.mk (below_step hB_ hb); have n2_ := Aside0.mk (hbox); have n3_ := Aside0.mk ((by rw [hg]; exact (below_size hB_) : w.heap.size ≤ gb112)); have n4_ := Aside0.mk ((by rw [hg]; exact (below_size hB_) : w.heap.size ≤ gb112)); have n5_ := Aside0.mk ((by rw [hg]; exact Nat.ne_of_lt (blk_lt (grw BK108.out)) : gb108 ≠ gb112)); have n6_ := Aside0.mk ((by rw [hg]; exact Nat.ne_of_gt (blk_lt (grw BK108.out)) : gb112 ≠ gb108)); clear BK108; clear HB; have BK108 := n0_; have HB := n1_; have BK112 := n2_; have GW112 := n3_; have GE112 := n4_; have NB108_112 := n5_; have NB112_108 := n6_; clear n0_ n1_ n2_ n3_ n4_ n5_ n6_; clear hb hbox hg; have hnb29 := NB112_108.out; have hnc29 := NB108_112.out; obtain ⟨hcz30_0, hcz30_1, hcz30_2, hcz30_3, hcz30_4, hcz30_5⟩ := cz6_ BK112.out; obtain ⟨hfz30_0, hfz30_1, hfz30_2, hfz30_3, hfz30_4, hfz30_5⟩ := cf6_ BK112.out)))
         (try simp only [Act.put, sb_, s0_, s1_])
         go_cut [82] (fun v82 wc => ∃ (kq : Nat) (x82_25 : Bool), v82 = .bool x82_25 ∧ Aside0 (semblanceref12_Light.j4 kq x4_3 x5_3 x82_25 a0_0 l0_1 l0_2 l0_3 ((rd_T99 l0_3 x5_3).f0) ((rd_T99 l0_3 x5_3).f1) ((rd_T99 l0_3 x5_3).f2) ((rd_T99 l0_3 x5_3).f3) ((rd_T99 l0_3 x5_3).f4) ((rd_T99 l0_3 x5_3).f5) = some r) ∧ Aside0 (kq ≤ kj18) ∧ Aside0 (wc.heap[gb108]? = some (.cells #[.string a0_0, (.slice A0_1 l0_1.length c0_1), (.slice A0_2 l0_2.length c0_2), (.slice (some ad111) l0_3.length c0_3)] 59 (0, 0))) ∧ Aside0 (wc.heap[gb112]? = some (.cells #[.string ((rd_T99 l0_3 x5_3).f0), .int .i64 ((rd_T99 l0_3 x5_3).f1), .int .i64 ((rd_T99 l0_3 x5_3).f2), (.slice A111_3 ((rd_T99 l0_3 x5_3).f3).length c111_3), (.slice A111_4 ((rd_T99 l0_3 x5_3).f4).length c111_4), (.slice A111_5 ((rd_T99 l0_3 x5_3).f5).length c111_5)] 99 (0, 0))) ∧ Aside0 (Below w.heap.size w wc))
         case first =>
          have H := HC26.out
          clear HC26
          have HZ_ := Aside0.mk H
          clear H
          obtain ⟨hcz33_0, hcz33_1, hcz33_2, hcz33_3, hcz33_4, hcz33_5⟩ := cz6_ BK112.out
          obtain ⟨hfz33_0, hfz33_1, hfz33_2, hfz33_3, hfz33_4, hfz33_5⟩ := cf6_ BK112.out
          have H := HZ_.out
          clear HZ_
          by_cases c31 : (((rd_T99 l0_3 x5_3).f0).size : Int) > 100
          ·rw [if_pos c31] at H
           have c31b0 : decide (100 < (((rd_T99 l0_3 x5_3).f0).size : Int)) = true := decide_eq_true c31
           have c31b1 : decide (100 < ((rd_T99 l0_3 x5_3).f0).size) = true := decide_eq_true (by omega)
           clear c31
           (first | rw [c31b0] | (simp only [i64_w, i32_w]; rw [c31b0]) | skip)
           have H' := Aside0.mk H
           clear H
           have hnb32 := NB112_108.out
           have hnc32 := NB108_112.out
           go_wp2
           repeat (go_quiet (fail); try go_wp2)
           go_meet
           case rel => exact ⟨_, (true), (by first | rfl | (simp; done) | (simp [*]; done)), H', ⟨by have := HJ1.out; have := HK2.out; have := HK3.out; have := HJ18.out; first | omega | exact Nat.le_refl _⟩, ⟨by refine grO ?_; refine blk_far ?_ NB108_112.out _; refine grO ?_; refine blk_far ?_ NB108_112.out _; refine grO ?_; refine blk_far ?_ NB108_112.out _; refine grO ?_; refine blk_far ?_ NB108_112.out _; refine grO ?_; refine blk_far ?_ NB108_112.out _; refine grO ?_; refine blk_far ?_ NB108_112.out _; refine grO ?_; exact BK108.out⟩, ⟨by refine grO ?_; refine blk_put (cs := #[.string ((rd_T99 l0_3 x5_3).f0), .int .i64 ((rd_T99 l0_3 x5_3).f1), .int .i64 ((rd_T99 l0_3 x5_3).f2), .slice A111_3 ((rd_T99 l0_3 x5_3).f3).length c111_3, .slice A111_4 ((rd_T99 l0_3 x5_3).f4).length c111_4, .slice none 0 0]) ?_ 5 _ rfl; refine grO ?_; refine blk_put (cs := #[.string ((rd_T99 l0_3 x5_3).f0), .int .i64 ((rd_T99 l0_3 x5_3).f1), .int .i64 ((rd_T99 l0_3 x5_3).f2), .slice A111_3 ((rd_T99 l0_3 x5_3).f3).length c111_3, .slice none 0 0, .slice none 0 0]) ?_ 4 _ rfl; refine grO ?_; refine blk_put (cs := #[.string ((rd_T99 l0_3 x5_3).f0), .int .i64 ((rd_T99 l0_3 x5_3).f1), .int .i64 ((rd_T99 l0_3 x5_3).f2), .slice none 0 0, .slice none 0 0, .slice none 0 0]) ?_ 3 _ rfl; refine grO ?_; refine blk_put (cs := #[.string ((rd_T99 l0_3 x5_3).f0), .int .i64 ((rd_T99 l0_3 x5_3).f1), .int .i64 0, .slice none 0 0, .slice none 0 0, .slice none 0 0]) ?_ 2 _ rfl; refine grO ?_; refine blk_put (cs := #[.string ((rd_T99 l0_3 x5_3).f0), .int .i64 0, .int .i64 0, .slice none 0 0, .slice none 0 0, .slice none 0 0]) ?_ 1 _ rfl; refine grO ?_; refine blk_put (cs := #[.string (⟨#[]⟩ : ByteArray), .int .i64 0, .int .i64 0, .slice none 0 0, .slice none 0 0, .slice none 0 0]) ?_ 0 _ rfl; refine grO ?_; exact BK112.out⟩, ⟨by repeat (first | (with_reducible first | exact HB.out | apply below_alloc | apply pw_below_drewN | apply below_drew1 | refine below_set ?_ GE108.out | refine below_set ?_ GE112.out) | exact HB.out)⟩⟩
          rw [if_neg c31] at H
          have c31b0 : decide (100 < (((rd_T99 l0_3 x5_3).f0).size : Int)) = false := decide_eq_false c31
          have c31b1 : decide (100 < ((rd_T99 l0_3 x5_3).f0).size) = false := decide_eq_false (by omega)
          clear c31
          (first | rw [c31b0] | (simp only [i64_w, i32_w]; rw [c31b0]) | skip)
          by_cases c34 : (((rd_T99 l0_3 x5_3).f5).length : Int) > 20
          ·rw [if_pos c34] at H
           have c34b0 : decide (20 < (((rd_T99 l0_3 x5_3).f5).length : Int)) = true := decide_eq_true c34
           have c34b1 : decide (20 < ((rd_T99 l0_3 x5_3).f5).length) = true := decide_eq_true (by omega)
           clear c34
           have H' := Aside0.mk H
           clear H
           have hnb35 := NB112_108.out
           have hnc35 := NB108_112.out
           go_wp2
           repeat (go_quiet (fail); try go_wp2)
           go_meet
           case rel => exact ⟨_, (true), (by first | rfl | (simp; done) | (simp [*]; done)), H', ⟨by have := HJ1.out; have := HK2.out; have := HK3.out; have := HJ18.out; first | omega | exact Nat.le_refl _⟩, ⟨by refine grO ?_; refine blk_far ?_ NB108_112.out _; refine grO ?_; refine blk_far ?_ NB108_112.out _; refine grO ?_; refine blk_far ?_ NB108_112.out _; refine grO ?_; refine blk_far ?_ NB108_112.out _; refine grO ?_; refine blk_far ?_ NB108_112.out _; refine grO ?_; refine blk_far ?_ NB108_112.out _; refine grO ?_; exact BK108.out⟩, ⟨by refine grO ?_; refine blk_put (cs := #[.string ((rd_T99 l0_3 x5_3).f0), .int .i64 ((rd_T99 l0_3 x5_3).f1), .int .i64 ((rd_T99 l0_3 x5_3).f2), .slice A111_3 ((rd_T99 l0_3 x5_3).f3).length c111_3, .slice A111_4 ((rd_T99 l0_3 x5_3).f4).length c111_4, .slice none 0 0]) ?_ 5 _ rfl; refine grO ?_; refine blk_put (cs := #[.string ((rd_T99 l0_3 x5_3).f0), .int .i64 ((rd_T99 l0_3 x5_3).f1), .int .i64 ((rd_T99 l0_3 x5_3).f2), .slice A111_3 ((rd_T99 l0_3 x5_3).f3).length c111_3, .slice none 0 0, .slice none 0 0]) ?_ 4 _ rfl; refine grO ?_; refine blk_put (cs := #[.string ((rd_T99 l0_3 x5_3).f0), .int .i64 ((rd_T99 l0_3 x5_3).f1), .int .i64 ((rd_T99 l0_3 x5_3).f2), .slice none 0 0, .slice none 0 0, .slice none 0 0]) ?_ 3 _ rfl; refine grO ?_; refine blk_put (cs := #[.string ((rd_T99 l0_3 x5_3).f0), .int .i64 ((rd_T99 l0_3 x5_3).f1), .int .i64 0, .slice none 0 0, .slice none 0 0, .slice none 0 0]) ?_ 2 _ rfl; refine grO ?_; refine blk_put (cs := #[.string ((rd_T99 l0_3 x5_3).f0), .int .i64 0, .int .i64 0, .slice none 0 0, .slice none 0 0, .slice none 0 0]) ?_ 1 _ rfl; refine grO ?_; refine blk_put (cs := #[.string (⟨#[]⟩ : ByteArray), .int .i64 0, .int .i64 0, .slice none 0 0, .slice none 0 0, .slice none 0 0]) ?_ 0 _ rfl; refine grO ?_; exact BK112.out⟩, ⟨by repeat (first | (with_reducible first | exact HB.out | apply below_alloc | apply pw_below_drewN | apply below_drew1 | refine below_set ?_ GE108.out | refine below_set ?_ GE112.out) | exact HB.out)⟩⟩
          rw [if_neg c34] at H
          have c34b0 : decide (20 < (((rd_T99 l0_3 x5_3).f5).length : Int)) = false := decide_eq_false c34
          have c34b1 : decide (20 < ((rd_T99 l0_3 x5_3).f5).length) = false := decide_eq_false (by omega)
          clear c34
          by_cases c37 : (((rd_T99 l0_3 x5_3).f3).length : Int) > 10
          ·rw [if_pos c37] at H
           have c37b0 : decide (10 < (((rd_T99 l0_3 x5_3).f3).length : Int)) = true := decide_eq_true c37
           have c37b1 : decide (10 < ((rd_T99 l0_3 x5_3).f3).length) = true := decide_eq_true (by omega)
           clear c37
           have H' := Aside0.mk H
           clear H
           have hnb38 := NB112_108.out
           have hnc38 := NB108_112.out
           go_wp2
           repeat (go_quiet (fail); try go_wp2)
           go_meet
           case rel => exact ⟨_, (true), (by first | rfl | (simp; done) | (simp [*]; done)), H', ⟨by have := HJ1.out; have := HK2.out; have := HK3.out; have := HJ18.out; first | omega | exact Nat.le_refl _⟩, ⟨by refine grO ?_; refine blk_far ?_ NB108_112.out _; refine grO ?_; refine blk_far ?_ NB108_112.out _; refine grO ?_; refine blk_far ?_ NB108_112.out _; refine grO ?_; refine blk_far ?_ NB108_112.out _; refine grO ?_; refine blk_far ?_ NB108_112.out _; refine grO ?_; refine blk_far ?_ NB108_112.out _; refine grO ?_; exact BK108.out⟩, ⟨by refine grO ?_; refine blk_put (cs := #[.string ((rd_T99 l0_3 x5_3).f0), .int .i64 ((rd_T99 l0_3 x5_3).f1), .int .i64 ((rd_T99 l0_3 x5_3).f2), .slice A111_3 ((rd_T99 l0_3 x5_3).f3).length c111_3, .slice A111_4 ((rd_T99 l0_3 x5_3).f4).length c111_4, .slice none 0 0]) ?_ 5 _ rfl; refine grO ?_; refine blk_put (cs := #[.string ((rd_T99 l0_3 x5_3).f0), .int .i64 ((rd_T99 l0_3 x5_3).f1), .int .i64 ((rd_T99 l0_3 x5_3).f2), .slice A111_3 ((rd_T99 l0_3 x5_3).f3).length c111_3, .slice none 0 0, .slice none 0 0]) ?_ 4 _ rfl; refine grO ?_; refine blk_put (cs := #[.string ((rd_T99 l0_3 x5_3).f0), .int .i64 ((rd_T99 l0_3 x5_3).f1), .int .i64 ((rd_T99 l0_3 x5_3).f2), .slice none 0 0, .slice none 0 0, .slice none 0 0]) ?_ 3 _ rfl; refine grO ?_; refine blk_put (cs := #[.string ((rd_T99 l0_3 x5_3).f0), .int .i64 ((rd_T99 l0_3 x5_3).f1), .int .i64 0, .slice none 0 0, .slice none 0 0, .slice none 0 0]) ?_ 2 _ rfl; refine grO ?_; refine blk_put (cs := #[.string ((rd_T99 l0_3 x5_3).f0), .int .i64 0, .int .i64 0, .slice none 0 0, .slice none 0 0, .slice none 0 0]) ?_ 1 _ rfl; refine grO ?_; refine blk_put (cs := #[.string (⟨#[]⟩ : ByteArray), .int .i64 0, .int .i64 0, .slice none 0 0, .slice none 0 0, .slice none 0 0]) ?_ 0 _ rfl; refine grO ?_; exact BK112.out⟩, ⟨by repeat (first | (with_reducible first | exact HB.out | apply below_alloc | apply pw_below_drewN | apply below_drew1 | refine below_set ?_ GE108.out | refine below_set ?_ GE112.out) | exact HB.out)⟩⟩
          rw [if_neg c37] at H
          have c37b0 : decide (10 < (((rd_T99 l0_3 x5_3).f3).length : Int)) = false := decide_eq_false c37
          have c37b1 : decide (10 < ((rd_T99 l0_3 x5_3).f3).length) = false := decide_eq_false (by omega)
          clear c37
          have H' := Aside0.mk H
          clear H
          have hnb40 := NB112_108.out
          have hnc40 := NB108_112.out
          go_wp2
          repeat (go_quiet (fail); try go_wp2)
          go_meet
          case rel => exact ⟨_, (decide ((((rd_T99 l0_3 x5_3).f4).length : Int) > 10)), (by first | rfl | (simp; done) | (simp [*]; done)), H', ⟨by have := HJ1.out; have := HK2.out; have := HK3.out; have := HJ18.out; first | omega | exact Nat.le_refl _⟩, ⟨by refine grO ?_; refine blk_far ?_ NB108_112.out _; refine grO ?_; refine blk_far ?_ NB108_112.out _; refine grO ?_; refine blk_far ?_ NB108_112.out _; refine grO ?_; refine blk_far ?_ NB108_112.out _; refine grO ?_; refine blk_far ?_ NB108_112.out _; refine grO ?_; refine blk_far ?_ NB108_112.out _; refine grO ?_; exact BK108.out⟩, ⟨by refine grO ?_; refine blk_put (cs := #[.string ((rd_T99 l0_3 x5_3).f0), .int .i64 ((rd_T99 l0_3 x5_3).f1), .int .i64 ((rd_T99 l0_3 x5_3).f2), .slice A111_3 ((rd_T99 l0_3 x5_3).f3).length c111_3, .slice A111_4 ((rd_T99 l0_3 x5_3).f4).length c111_4, .slice none 0 0]) ?_ 5 _ rfl; refine grO ?_; refine blk_put (cs := #[.string ((rd_T99 l0_3 x5_3).f0), .int .i64 ((rd_T99 l0_3 x5_3).f1), .int .i64 ((rd_T99 l0_3 x5_3).f2), .slice A111_3 ((rd_T99 l0_3 x5_3).f3).length c111_3, .slice none 0 0, .slice none 0 0]) ?_ 4 _ rfl; refine grO ?_; refine blk_put (cs := #[.string ((rd_T99 l0_3 x5_3).f0), .int .i64 ((rd_T99 l0_3 x5_3).f1), .int .i64 ((rd_T99 l0_3 x5_3).f2), .slice none 0 0, .slice none 0 0, .slice none 0 0]) ?_ 3 _ rfl; refine grO ?_; refine blk_put (cs := #[.string ((rd_T99 l0_3 x5_3).f0), .int .i64 ((rd_T99 l0_3 x5_3).f1), .int .i64 0, .slice none 0 0, .slice none 0 0, .slice none 0 0]) ?_ 2 _ rfl; refine grO ?_; refine blk_put (cs := #[.string ((rd_T99 l0_3 x5_3).f0), .int .i64 0, .int .i64 0, .slice none 0 0, .slice none 0 0, .slice none 0 0]) ?_ 1 _ rfl; refine grO ?_; refine blk_put (cs := #[.string (⟨#[]⟩ : ByteArray), .int .i64 0, .int .i64 0, .slice none 0 0, .slice none 0 0, .slice none 0 0]) ?_ 0 _ rfl; refine grO ?_; exact BK112.out⟩, ⟨by repeat (first | (with_reducible first | exact HB.out | apply below_alloc | apply pw_below_drewN | apply below_drew1 | refine below_set ?_ GE108.out | refine below_set ?_ GE112.out) | exact HB.out)⟩⟩
         case rest =>
          clear HC26
          try clear c1
          try clear p1
          try clear q1
          try clear hx1
          try clear c2
          try clear p2
          try clear c3
          try clear c4
          try clear c4b0
          try clear c4b1
          try clear p6
          try clear c7
          try clear c9
          try clear c9b0
          try clear c9b1
          try clear c11
          try clear p11
          try clear q11
          try clear hx11
          try clear c12
          try clear c13
          try clear c13b0
          try clear c14
          try clear c14b0
          try clear c15
          try clear c15b0
          try clear c15b1
          try clear c20
          try clear c20b0
          try clear c23
          try clear c24
          try clear c24b0
          try clear c25
          try clear c25b0
          try clear c29
          try clear c31
          try clear c31b0
          try clear c31b1
          try clear c32
          try clear c34
          try clear c34b0
          try clear c34b1
          try clear c35
          try clear c37
          try clear c37b0
          try clear c37b1
          try clear c38
          try clear c40
          try clear hcz10_0 hcz10_1 hcz10_2 hcz10_3
          try clear hcz11_0 hcz11_1 hcz11_2 hcz11_3
          try clear hcz16_0 hcz16_1 hcz16_2 hcz16_3
          try clear hcz17_0 hcz17_1 hcz17_2 hcz17_3
          try clear hcz18_0 hcz18_1 hcz18_2 hcz18_3
          try clear hcz21_0 hcz21_1 hcz21_2 hcz21_3
          try clear hcz22_0 hcz22_1 hcz22_2 hcz22_3
          try clear hcz27_0 hcz27_1 hcz27_2 hcz27_3
          try clear hcz30_0 hcz30_1 hcz30_2 hcz30_3 hcz30_4 hcz30_5
          try clear hcz33_0 hcz33_1 hcz33_2 hcz33_3 hcz33_4 hcz33_5
          try clear hcz36_0 hcz36_1 hcz36_2 hcz36_3 hcz36_4 hcz36_5
          try clear hcz39_0 hcz39_1 hcz39_2 hcz39_3 hcz39_4 hcz39_5
          try clear hcz41_0 hcz41_1 hcz41_2 hcz41_3 hcz41_4 hcz41_5
          try clear hcz5_0 hcz5_1 hcz5_2 hcz5_3
          try clear hcz8_0 hcz8_1 hcz8_2 hcz8_3
          try clear hfz10_0 hfz10_1 hfz10_2 hfz10_3
          try clear hfz11_0 hfz11_1 hfz11_2 hfz11_3
          try clear hfz16_0 hfz16_1 hfz16_2 hfz16_3
          try clear hfz17_0 hfz17_1 hfz17_2 hfz17_3
          try clear hfz18_0 hfz18_1 hfz18_2 hfz18_3
          try clear hfz21_0 hfz21_1 hfz21_2 hfz21_3
          try clear hfz22_0 hfz22_1 hfz22_2 hfz22_3
          try clear hfz27_0 hfz27_1 hfz27_2 hfz27_3
          try clear hfz30_0 hfz30_1 hfz30_2 hfz30_3 hfz30_4 hfz30_5
          try clear hfz33_0 hfz33_1 hfz33_2 hfz33_3 hfz33_4 hfz33_5
          try clear hfz36_0 hfz36_1 hfz36_2 hfz36_3 hfz36_4 hfz36_5
          try clear hfz39_0 hfz39_1 hfz39_2 hfz39_3 hfz39_4 hfz39_5
          try clear hfz41_0 hfz41_1 hfz41_2 hfz41_3 hfz41_4 hfz41_5
          try clear hfz5_0 hfz5_1 hfz5_2 hfz5_3
          try clear hfz8_0 hfz8_1 hfz8_2 hfz8_3
          try clear hx110_0
          try clear hx110_1
          try clear hx110_2
          try clear hx110_3
          try clear hx111_0
          try clear hx111_1
          try clear hx111_2
          try clear hx111_3
          try clear hx111_4
          try clear hx111_5
          try clear p1
          try clear p11
          try clear p110
          try clear p111
          try clear p2
          try clear p6
          try clear q1
          try clear q11
          try clear q110
          try clear q111
          obtain ⟨kq, x82_25, rfl, HA, HJ25, BK108, BK112, HB⟩ := hcut
          cases kq with
          | zero => exact absurd HA.out (by simp [semblanceref12_Light.j4])
          | succ kj25 =>
           have H := HA.out
           clear HA
           simp only [semblanceref12_Light.j4] at H
           by_cases c42 : x82_25 = true
           ·subst c42
            have H1 : (some false) = some r := by rw [if_pos rfl] at H; exact H
            clear H
            have H := H1
            clear H1
            obtain rfl := Option.some.inj H
            go_wp2
            repeat (go_quiet (fail); try go_wp2)
            go_ret
            exact ⟨by first | rfl | (simp [errW_none, errW_some] <;> rfl) | (simp [*, errW_none, errW_some] <;> rfl), by repeat (first | (with_reducible first | exact HB.out | apply below_alloc | apply pw_below_drewN | apply below_drew1 | refine below_set ?_ GE108.out | refine below_set ?_ GE112.out) | exact HB.out)⟩
           replace c42 := Bool.eq_false_iff.mpr c42
           subst c42
           have H1 : ((semblanceref12_weigh.f kj25 ((rd_T99 l0_3 x5_3).f3)).bind fun t113 => ((semblanceref12_weigh.f kj25 ((rd_T99 l0_3 x5_3).f4)).bind fun t114 => (semblanceref12_Light.l2 kj25 (wrap64 ((wrap64 (x4_3 + t113)) + t114)) x5_3 0 a0_0 l0_1 l0_2 l0_3 ((rd_T99 l0_3 x5_3).f0) ((rd_T99 l0_3 x5_3).f1) ((rd_T99 l0_3 x5_3).f2) ((rd_T99 l0_3 x5_3).f3) ((rd_T99 l0_3 x5_3).f4) ((rd_T99 l0_3 x5_3).f5)))) = some r := by rw [if_neg (show ¬ (false = true) by decide)] at H; exact H
           clear H
           have H := H1
           clear H1
           replace H := Option.bind_eq_some_iff.mp H
           obtain ⟨t113, A430, H⟩ := H
           replace H : ((semblanceref12_weigh.f kj25 ((rd_T99 l0_3 x5_3).f4)).bind fun t114 => (semblanceref12_Light.l2 kj25 (wrap64 ((wrap64 (x4_3 + t113)) + t114)) x5_3 0 a0_0 l0_1 l0_2 l0_3 ((rd_T99 l0_3 x5_3).f0) ((rd_T99 l0_3 x5_3).f1) ((rd_T99 l0_3 x5_3).f2) ((rd_T99 l0_3 x5_3).f3) ((rd_T99 l0_3 x5_3).f4) ((rd_T99 l0_3 x5_3).f5))) = some r := H
           have A43 := Aside0.mk A430
           clear A430
           replace H := Option.bind_eq_some_iff.mp H
           obtain ⟨t114, A440, H⟩ := H
           replace H : (semblanceref12_Light.l2 kj25 (wrap64 ((wrap64 (x4_3 + t113)) + t114)) x5_3 0 a0_0 l0_1 l0_2 l0_3 ((rd_T99 l0_3 x5_3).f0) ((rd_T99 l0_3 x5_3).f1) ((rd_T99 l0_3 x5_3).f2) ((rd_T99 l0_3 x5_3).f3) ((rd_T99 l0_3 x5_3).f4) ((rd_T99 l0_3 x5_3).f5)) = some r := H
           have A44 := Aside0.mk A440
           clear A440
           have H' := Aside0.mk H
           clear H
           have hnb45 := NB112_108.out
           have hnc45 := NB108_112.out
           obtain ⟨hcz46_0, hcz46_1, hcz46_2, hcz46_3, hcz46_4, hcz46_5⟩ := cz6_ BK112.out
           obtain ⟨hfz46_0, hfz46_1, hfz46_2, hfz46_3, hfz46_4, hfz46_5⟩ := cf6_ BK112.out
           go_wp2_with (first | (go_at_call 65; (with_reducible refine (semblanceref12_weigh.calls kj25 _ _ ((rd_T99 l0_3 x5_3).f3) t113 _ ?side1 ?side2 A43.out).mono ?_); (case side1 => repeat (first | exact (Kd.C_below HR111_3.out HB.out) | (with_reducible refine Kd.C_alloc ?_ _) | (with_reducible refine Kd.C_drewN ?_ _) | (with_reducible refine Kd.C_drew ?_))); (case side2 => exact HC111_3.out); rintro e w' ⟨rfl, ⟨nd, rfl⟩⟩; (try first | exact ⟨rfl, _, World.drewN_drewN _ _ _⟩ | exact ⟨rfl, _, Eq.trans (World.drewN_drewN _ _ _) (congrArg (World.drewN _) (Nat.add_assoc _ _ _))⟩)) | (go_at_call 65; (with_reducible refine (semblanceref12_weigh.calls kj25 _ _ ((rd_T99 l0_3 x5_3).f4) t114 _ ?side1 ?side2 A44.out).mono ?_); (case side1 => repeat (first | exact (Kd.C_below HR111_4.out (by repeat (first | (with_reducible first | exact HB.out | apply below_alloc | apply pw_below_drewN | apply below_drew1 | refine below_set ?_ GE108.out | refine below_set ?_ GE112.out) | exact HB.out))) | (with_reducible refine Kd.C_alloc ?_ _) | (with_reducible refine Kd.C_drewN ?_ _) | (with_reducible refine Kd.C_drew ?_))); (case side2 => exact HC111_4.out); rintro e w' ⟨rfl, ⟨nd, rfl⟩⟩; (try first | exact ⟨rfl, _, World.drewN_drewN _ _ _⟩ | exact ⟨rfl, _, Eq.trans (World.drewN_drewN _ _ _) (congrArg (World.drewN _) (Nat.add_assoc _ _ _))⟩)))
           repeat (go_quiet (first | (go_at_call 65; (with_reducible refine (semblanceref12_weigh.calls kj25 _ _ ((rd_T99 l0_3 x5_3).f3) t113 _ ?side1 ?side2 A43.out).mono ?_); (case side1 => repeat (first | exact (Kd.C_below HR111_3.out HB.out) | (with_reducible refine Kd.C_alloc ?_ _) | (with_reducible refine Kd.C_drewN ?_ _) | (with_reducible refine Kd.C_drew ?_))); (case side2 => exact HC111_3.out); rintro e w' ⟨rfl, ⟨nd, rfl⟩⟩; (try first | exact ⟨rfl, _, World.drewN_drewN _ _ _⟩ | exact ⟨rfl, _, Eq.trans (World.drewN_drewN _ _ _) (congrArg (World.drewN _) (Nat.add_assoc _ _ _))⟩)) | (go_at_call 65; (with_reducible refine (semblanceref12_weigh.calls kj25 _ _ ((rd_T99 l0_3 x5_3).f4) t114 _ ?side1 ?side2 A44.out).mono ?_); (case side1 => repeat (first | exact (Kd.C_below HR111_4.out (by repeat (first | (with_reducible first | exact HB.out | apply below_alloc | apply pw_below_drewN | apply below_drew1 | refine below_set ?_ GE108.out | refine below_set ?_ GE112.out) | exact HB.out))) | (with_reducible refine Kd.C_alloc ?_ _) | (with_reducible refine Kd.C_drewN ?_ _) | (with_reducible refine Kd.C_drew ?_))); (case side2 => exact HC111_4.out); rintro e w' ⟨rfl, ⟨nd, rfl⟩⟩; (try first | exact ⟨rfl, _, World.drewN_drewN _ _ _⟩ | exact ⟨rfl, _, Eq.trans (World.drewN_drewN _ _ _) (congrArg (World.drewN _) (Nat.add_assoc _ _ _))⟩))); try go_wp2_with (first | (go_at_call 65; (with_reducible refine (semblanceref12_weigh.calls kj25 _ _ ((rd_T99 l0_3 x5_3).f3) t113 _ ?side1 ?side2 A43.out).mono ?_); (case side1 => repeat (first | exact (Kd.C_below HR111_3.out HB.out) | (with_reducible refine Kd.C_alloc ?_ _) | (with_reducible refine Kd.C_drewN ?_ _) | (with_reducible refine Kd.C_drew ?_))); (case side2 => exact HC111_3.out); rintro e w' ⟨rfl, ⟨nd, rfl⟩⟩; (try first | exact ⟨rfl, _, World.drewN_drewN _ _ _⟩ | exact ⟨rfl, _, Eq.trans (World.drewN_drewN _ _ _) (congrArg (World.drewN _) (Nat.add_assoc _ _ _))⟩)) | (go_at_call 65; (with_reducible refine (semblanceref12_weigh.calls kj25 _ _ ((rd_T99 l0_3 x5_3).f4) t114 _ ?side1 ?side2 A44.out).mono ?_); (case side1 => repeat (first | exact (Kd.C_below HR111_4.out (by repeat (first | (with_reducible first | exact HB.out | apply below_alloc | apply pw_below_drewN | apply below_drew1 | refine below_set ?_ GE108.out | refine below_set ?_ GE112.out) | exact HB.out))) | (with_reducible refine Kd.C_alloc ?_ _) | (with_reducible refine Kd.C_drewN ?_ _) | (with_reducible refine Kd.C_drew ?_))); (case side2 => exact HC111_4.out); rintro e w' ⟨rfl, ⟨nd, rfl⟩⟩; (try first | exact ⟨rfl, _, World.drewN_drewN _ _ _⟩ | exact ⟨rfl, _, Eq.trans (World.drewN_drewN _ _ _) (congrArg (World.drewN _) (Nat.add_assoc _ _ _))⟩))))
           go_loopg [4, 7] kj25 (fun kq v4 v7 w' => ∃ (x4_6 : Int) (x7_6 : Int), v4 = .int .i64 x4_6 ∧ v7 = .int .i64 x7_6 ∧ Aside0 (semblanceref12_Light.l2 kq x4_6 x5_3 x7_6 a0_0 l0_1 l0_2 l0_3 ((rd_T99 l0_3 x5_3).f0) ((rd_T99 l0_3 x5_3).f1) ((rd_T99 l0_3 x5_3).f2) ((rd_T99 l0_3 x5_3).f3) ((rd_T99 l0_3 x5_3).f4) ((rd_T99 l0_3 x5_3).f5) = some r) ∧ Aside0 (kq ≤ kj25) ∧ Aside0 (w'.heap[gb108]? = some (.cells #[.string a0_0, (.slice A0_1 l0_1.length c0_1), (.slice A0_2 l0_2.length c0_2), (.slice (some ad111) l0_3.length c0_3)] 59 (0, 0))) ∧ Aside0 (w'.heap[gb112]? = some (.cells #[.string ((rd_T99 l0_3 x5_3).f0), .int .i64 ((rd_T99 l0_3 x5_3).f1), .int .i64 ((rd_T99 l0_3 x5_3).f2), (.slice A111_3 ((rd_T99 l0_3 x5_3).f3).length c111_3), (.slice A111_4 ((rd_T99 l0_3 x5_3).f4).length c111_4), (.slice A111_5 ((rd_T99 l0_3 x5_3).f5).length c111_5)] 99 (0, 0))) ∧ Aside0 (Below w.heap.size w w'))
           case atStart => exact ⟨(wrap64 ((wrap64 (x4_3 + t113)) + t114)), (0), (by first | rfl | (simp; done) | (simp [*]; done)), (by first | rfl | (simp; done) | (simp [*]; done)), H', ⟨Nat.le_refl _⟩, ⟨grw BK108.out⟩, ⟨grw BK112.out⟩, ⟨by repeat (first | (with_reducible first | exact HB.out | apply below_alloc | apply pw_below_drewN | apply below_drew1 | refine below_set ?_ GE108.out | refine below_set ?_ GE112.out) | exact HB.out)⟩⟩
           case round =>
            clear H'
            try clear c1
            try clear p1
            try clear q1
            try clear hx1
            try clear c2
            try clear p2
            try clear c3
            try clear c4
            try clear c4b0
            try clear c4b1
            try clear p6
            try clear c7
            try clear c9
            try clear c9b0
            try clear c9b1
            try clear c11
            try clear p11
            try clear q11
            try clear hx11
            try clear c12
            try clear c13
            try clear c13b0
            try clear c14
            try clear c14b0
            try clear c15
            try clear c15b0
            try clear c15b1
            try clear c20
            try clear c20b0
            try clear c23
            try clear c24
            try clear c24b0
            try clear c25
            try clear c25b0
            try clear c29
            try clear c31
            try clear c31b0
            try clear c31b1
            try clear c32
            try clear c34
            try clear c34b0
            try clear c34b1
            try clear c35
            try clear c37
            try clear c37b0
            try clear c37b1
            try clear c38
            try clear c40
            try clear c42
            try clear c45
            try clear hcz10_0 hcz10_1 hcz10_2 hcz10_3
            try clear hcz11_0 hcz11_1 hcz11_2 hcz11_3
            try clear hcz16_0 hcz16_1 hcz16_2 hcz16_3
            try clear hcz17_0 hcz17_1 hcz17_2 hcz17_3
            try clear hcz18_0 hcz18_1 hcz18_2 hcz18_3
            try clear hcz21_0 hcz21_1 hcz21_2 hcz21_3
            try clear hcz22_0 hcz22_1 hcz22_2 hcz22_3
            try clear hcz27_0 hcz27_1 hcz27_2 hcz27_3
            try clear hcz30_0 hcz30_1 hcz30_2 hcz30_3 hcz30_4 hcz30_5
            try clear hcz33_0 hcz33_1 hcz33_2 hcz33_3 hcz33_4 hcz33_5
            try clear hcz36_0 hcz36_1 hcz36_2 hcz36_3 hcz36_4 hcz36_5
            try clear hcz39_0 hcz39_1 hcz39_2 hcz39_3 hcz39_4 hcz39_5
            try clear hcz41_0 hcz41_1 hcz41_2 hcz41_3 hcz41_4 hcz41_5
            try clear hcz46_0 hcz46_1 hcz46_2 hcz46_3 hcz46_4 hcz46_5
            try clear hcz5_0 hcz5_1 hcz5_2 hcz5_3
            try clear hcz8_0 hcz8_1 hcz8_2 hcz8_3
            try clear hfz10_0 hfz10_1 hfz10_2 hfz10_3
            try clear hfz11_0 hfz11_1 hfz11_2 hfz11_3
            try clear hfz16_0 hfz16_1 hfz16_2 hfz16_3
            try clear hfz17_0 hfz17_1 hfz17_2 hfz17_3
            try clear hfz18_0 hfz18_1 hfz18_2 hfz18_3
            try clear hfz21_0 hfz21_1 hfz21_2 hfz21_3
            try clear hfz22_0 hfz22_1 hfz22_2 hfz22_3
            try clear hfz27_0 hfz27_1 hfz27_2 hfz27_3
            try clear hfz30_0 hfz30_1 hfz30_2 hfz30_3 hfz30_4 hfz30_5
            try clear hfz33_0 hfz33_1 hfz33_2 hfz33_3 hfz33_4 hfz33_5
            try clear hfz36_0 hfz36_1 hfz36_2 hfz36_3 hfz36_4 hfz36_5
            try clear hfz39_0 hfz39_1 hfz39_2 hfz39_3 hfz39_4 hfz39_5
            try clear hfz41_0 hfz41_1 hfz41_2 hfz41_3 hfz41_4 hfz41_5
            try clear hfz46_0 hfz46_1 hfz46_2 hfz46_3 hfz46_4 hfz46_5
            try clear hfz5_0 hfz5_1 hfz5_2 hfz5_3
            try clear hfz8_0 hfz8_1 hfz8_2 hfz8_3
            try clear hx110_0
            try clear hx110_1
            try clear hx110_2
            try clear hx110_3
            try clear hx111_0
            try clear hx111_1
            try clear hx111_2
            try clear hx111_3
            try clear hx111_4
            try clear hx111_5
            try clear p1
            try clear p11
            try clear p110
            try clear p111
            try clear p2
            try clear p6
            try clear q1
            try clear q11
            try clear q110
            try clear q111
            obtain ⟨x4_6, x7_6, rfl, rfl, HA, HK6, BK108, BK112, HB⟩ := hrel
            cases gk with
            | zero => exact absurd HA.out (by simp [semblanceref12_Light.l2])
            | succ k6 =>
             have H := HA.out
             clear HA
             simp only [semblanceref12_Light.l2] at H
             have HZ_ := Aside0.mk H
             clear H
             obtain ⟨hcz51_0, hcz51_1, hcz51_2, hcz51_3, hcz51_4, hcz51_5⟩ := cz6_ BK112.out
             obtain ⟨hfz51_0, hfz51_1, hfz51_2, hfz51_3, hfz51_4, hfz51_5⟩ := cf6_ BK112.out
             have H := HZ_.out
             clear HZ_
             by_cases c47 : x7_6 < (((rd_T99 l0_3 x5_3).f5).length : Int)
             rotate_left
             ·rw [if_neg c47] at H
              have c47b0 : decide (x7_6 < (((rd_T99 l0_3 x5_3).f5).length : Int)) = false := decide_eq_false c47
              clear c47
              have H' := Aside0.mk H
              clear H
              have hnb73 := NB112_108.out
              have hnc73 := NB108_112.out
              go_wp2
              repeat (go_quiet (fail); try go_wp2)
              go_roundg k6
              case measure => have := HJ1.out; have := HK2.out; have := HK3.out; have := HJ18.out; have := HJ25.out; have := HK6.out; omega
              case rel => exact ⟨(x4_6), (wrap64 (x5_3 + 1)), (by first | rfl | (simp; done) | (simp [*]; done)), (by first | rfl | (simp; done) | (simp [*]; done)), H', ⟨by have := HJ1.out; have := HK2.out; have := HK3.out; have := HJ18.out; have := HJ25.out; have := HK6.out; omega⟩, ⟨grw BK108.out⟩, ⟨by repeat (first | (with_reducible first | exact HB.out | apply below_alloc | apply pw_below_drewN | apply below_drew1 | refine below_set ?_ GE108.out | refine below_set ?_ GE112.out) | exact HB.out)⟩⟩
             rw [if_pos c47] at H
             have c47b0 : decide (x7_6 < (((rd_T99 l0_3 x5_3).f5).length : Int)) = true := decide_eq_true c47
             clear c47
             by_cases c48 : 0 ≤ x7_6
             rotate_left
             ·rw [if_neg c48] at H
              exact absurd H (by simp)
             rw [if_pos c48] at H
             have c48b0 : decide (0 ≤ x7_6) = true := decide_eq_true c48
             clear c48
             have HC49 := Aside0.mk H
             clear H
             have hnb50 := NB112_108.out
             have hnc50 := NB108_112.out
             have p115 : 0 ≤ (x7_6 : Int) := of_decide_eq_true (by first | (with_reducible assumption) | assumption)
             have q115 : x7_6 < (((rd_T99 l0_3 x5_3).f5).length : Int) := of_decide_eq_true (by first | (with_reducible assumption) | assumption)
             obtain ⟨ad115, A115_1, c115_1, A115_2, c115_2, e115, hx115_0, hx115_1, hx115_2, hx115_3, hl115_1, hi115_1, hl115_2, hi115_2⟩ := at_T102 HR111_5.out x7_6 p115 q115
             cases e115
             replace hx115_0 := hc4_ HB.out hx115_0
             replace hx115_1 := hc4_ HB.out hx115_1
             replace hx115_2 := hc4_ HB.out hx115_2
             replace hx115_3 := hc4_ HB.out hx115_3
             have HR115_1 := Aside0.mk hi115_1
             have HC115_1 := Aside0.mk hl115_1
             clear hi115_1 hl115_1
             have HR115_2 := Aside0.mk hi115_2
             have HC115_2 := Aside0.mk hl115_2
             clear hi115_2 hl115_2
             replace p115 := eq_true p115
             replace q115 := eq_true q115
             go_upto_region 20 with (first | ((with_reducible refine gate_dst (N := 8) rfl ?_); (try (refine gate_guard (by rfl) ?_; dsimp only)); refine box_event ?hg (N := 8) ?hd (cs := #[.string (⟨#[]⟩ : ByteArray), .slice none 0 0, .slice none 0 0, .string (⟨#[]⟩ : ByteArray)]) (t := 102) ?hr ?_; (case hd => rfl); (case hg => rfl); (case hr => first | (go_simp; done) | (go_simp; rfl)); intro gb116 hg w52 hbox hb; have hB_ := bz4_ hb (by repeat (first | (with_reducible first | exact HB.out | apply below_alloc | apply pw_below_drewN | apply below_drew1 | refine below_set ?_ GE108.out | refine below_set ?_ GE112.out) | exact HB.out)); have n0_ := Aside0.mk (blk_below (grw BK108.out) hb); have n1_ := Aside0.mk (blk_below (grw BK112.out) hb); have n2_ := Aside0.mk (below_step hB_ hb); have n3_ := Aside0.mk (hbox); have n4_ := Aside0.mk ((by rw [hg]; exact (below_size hB_) : w.heap.size ≤ gb116)); have n5_ := Aside0.mk ((by rw [hg]; exact (below_size hB_) : w.heap.size ≤ gb116)); have n6_ := Aside0.mk ((by rw [hg]; exact Nat.ne_of_lt (blk_lt (grw BK108.out)) : gb108 ≠ gb116)); have n7_ := Aside0.mk ((by rw [hg]; exact Nat.ne_of_gt (blk_lt (grw BK108.out)) : gb116 ≠ gb108)); have n8_ := Aside0.mk ((by rw [hg]; exact Nat.ne_of_lt (blk_lt (grw BK112.out)) : gb112 ≠ gb116)); have n9_ := Aside0.mk ((by rw [hg]; exact Nat.ne_of_gt (blk_lt (grw BK112.out)) : gb116 ≠ gb112)); clear BK108; clear BK112; clear HB; have BK108 := n0_; have BK112 := n1_; have HB := n2_; have BK116 := n3_; have GW116 := n4_; have GE116 := n5_; have NB108_116 := n6_; have NB116_108 := n7_; have NB112_116 := n8_; have NB116_112 := n9_; clear n0_ n1_ n2_ n3_ n4_ n5_ n6_ n7_ n8_ n9_; clear hb hbox hg; have hnb53 := NB116_108.out; have hnc53 := NB108_116.out; have hnb54 := NB116_112.out; have hnc54 := NB112_116.out; obtain ⟨hcz55_0, hcz55_1, hcz55_2, hcz55_3⟩ := cz4_ BK116.out; obtain ⟨hfz55_0, hfz55_1, hfz55_2, hfz55_3⟩ := cf4_ BK116.out))
             repeat (go_quiet (first | ((with_reducible refine gate_dst (N := 8) rfl ?_); (try (refine gate_guard (by rfl) ?_; dsimp only)); refine box_event ?hg (N := 8) ?hd (cs := #[.string (⟨#[]⟩ : ByteArray), .slice none 0 0, .slice none 0 0, .string (⟨#[]⟩ : ByteArray)]) (t := 102) ?hr ?_; (case hd => rfl); (case hg => rfl); (case hr => first | (go_simp; done) | (go_simp; rfl)); intro gb116 hg w52 hbox hb; have hB_ := bz4_ hb (by repeat (first | (with_reducible first | exact HB.out | apply below_alloc | apply pw_below_drewN | apply below_drew1 | refine below_set ?_ GE108.out | refine below_set ?_ GE112.out) | exact HB.out)); have n0_ := Aside0.mk (blk_below (grw BK108.out) hb); have n1_ := Aside0.mk (blk_below (grw BK112.out) hb); have n2_ := Aside0.mk (below_step hB_ hb); have n3_ := Aside0.mk (hbox); have n4_ := Aside0.mk ((by rw [hg]; exact (below_size hB_) : w.heap.size ≤ gb116)); have n5_ := Aside0.mk ((by rw [hg]; exact (below_size hB_) : w.heap.size ≤ gb116)); have n6_ := Aside0.mk ((by rw [hg]; exact Nat.ne_of_lt (blk_lt (grw BK108.out)) : gb108 ≠ gb116)); have n7_ := Aside0.mk ((by rw [hg]; exact Nat.ne_of_gt (blk_lt (grw BK108.out)) : gb116 ≠ gb108)); have n8_ := Aside0.mk ((by rw [hg]; exact Nat.ne_of_lt (blk_lt (grw BK112.out)) : gb112 ≠ gb116)); have n9_ := Aside0.mk ((by rw [hg]; exact Nat.ne_of_gt (blk_lt (grw BK112.out)) : gb116 ≠ gb112)); clear BK108; clear BK112; clear HB; have BK108 := n0_; have BK112 := n1_; have HB := n2_; have BK116 := n3_; have GW116 := n4_; have GE116 := n5_; have NB108_116 := n6_; have NB116_108 := n7_; have NB112_116 := n8_; have NB116_112 := n9_; clear n0_ n1_ n2_ n3_ n4_ n5_ n6_ n7_ n8_ n9_; clear hb hbox hg; have hnb53 := NB116_108.out; have hnc53 := NB108_116.out; have hnb54 := NB116_112.out; have hnc54 := NB112_116.out; obtain ⟨hcz55_0, hcz55_1, hcz55_2, hcz55_3⟩ := cz4_ BK116.out; obtain ⟨hfz55_0, hfz55_1, hfz55_2, hfz55_3⟩ := cf4_ BK116.out)); go_upto_region 20 with (first | ((with_reducible refine gate_dst (N := 8) rfl ?_); (try (refine gate_guard (by rfl) ?_; dsimp only)); refine box_event ?hg (N := 8) ?hd (cs := #[.string (⟨#[]⟩ : ByteArray), .slice none 0 0, .slice none 0 0, .string (⟨#[]⟩ : ByteArray)]) (t := 102) ?hr ?_; (case hd => rfl); (case hg => rfl); (case hr => first | (go_simp; done) | (go_simp; rfl)); intro gb116 hg w52 hbox hb; have hB_ := bz4_ hb (by repeat (first | (with_reducible first | exact HB.out | apply below_alloc | apply pw_below_drewN | apply below_drew1 | refine below_set ?_ GE108.out | refine below_set ?_ GE112.out) | exact HB.out)); have n0_ := Aside0.mk (blk_below (grw BK108.out) hb); have n1_ := Aside0.mk (blk_below (grw BK112.out) hb); have n2_ := Aside0.mk (below_step hB_ hb); have n3_ := Aside0.mk (hbox); have n4_ := Aside0.mk ((by rw [hg]; exact (below_size hB_) : w.heap.size ≤ gb116)); have n5_ := Aside0.mk ((by rw [hg]; exact (below_size hB_) : w.heap.size ≤ gb116)); have n6_ := Aside0.mk ((by rw [hg]; exact Nat.ne_of_lt (blk_lt (grw BK108.out)) : gb108 ≠ gb116)); have n7_ := Aside0.mk ((by rw [hg]; exact Nat.ne_of_gt (blk_lt (grw BK108.out)) : gb116 ≠ gb108)); have n8_ := Aside0.mk ((by rw [hg]; exact Nat.ne_of_lt (blk_lt (grw BK112.out)) : gb112 ≠ gb116)); have n9_ := Aside0.mk ((by rw [hg]; exact Nat.ne_of_gt (blk_lt (grw BK112.out)) : gb116 ≠ gb112)); clear BK108; clear BK112; clear HB; have BK108 := n0_; have BK112 := n1_; have HB := n2_; have BK116 := n3_; have GW116 := n4_; have GE116 := n5_; have NB108_116 := n6_; have NB116_108 := n7_; have NB112_116 := n8_; have NB116_112 := n9_; clear n0_ n1_ n2_ n3_ n4_ n5_ n6_ n7_ n8_ n9_; clear hb hbox hg; have hnb53 := NB116_108.out; have hnc53 := NB108_116.out; have hnb54 := NB116_112.out; have hnc54 := NB112_116.out; obtain ⟨hcz55_0, hcz55_1, hcz55_2, hcz55_3⟩ := cz4_ BK116.out; obtain ⟨hfz55_0, hfz55_1, hfz55_2, hfz55_3⟩ := cf4_ BK116.out)))
             (try simp only [Act.put, sb_, s0_, s1_])
             go_cut [119] (fun v119 wc => ∃ (kq : Nat) (x119_48 : Bool), v119 = .bool x119_48 ∧ Aside0 (semblanceref12_Light.j6 kq x4_6 x5_3 x7_6 x119_48 a0_0 l0_1 l0_2 l0_3 ((rd_T99 l0_3 x5_3).f0) ((rd_T99 l0_3 x5_3).f1) ((rd_T99 l0_3 x5_3).f2) ((rd_T99 l0_3 x5_3).f3) ((rd_T99 l0_3 x5_3).f4) ((rd_T99 l0_3 x5_3).f5) ((rd_T102 ((rd_T99 l0_3 x5_3).f5) x7_6).f0) ((rd_T102 ((rd_T99 l0_3 x5_3).f5) x7_6).f1) ((rd_T102 ((rd_T99 l0_3 x5_3).f5) x7_6).f2) ((rd_T102 ((rd_T99 l0_3 x5_3).f5) x7_6).f3) = some r) ∧ Aside0 (kq ≤ k6) ∧ Aside0 (wc.heap[gb108]? = some (.cells #[.string a0_0, (.slice A0_1 l0_1.length c0_1), (.slice A0_2 l0_2.length c0_2), (.slice (some ad111) l0_3.length c0_3)] 59 (0, 0))) ∧ Aside0 (wc.heap[gb112]? = some (.cells #[.string ((rd_T99 l0_3 x5_3).f0), .int .i64 ((rd_T99 l0_3 x5_3).f1), .int .i64 ((rd_T99 l0_3 x5_3).f2), (.slice A111_3 ((rd_T99 l0_3 x5_3).f3).length c111_3), (.slice A111_4 ((rd_T99 l0_3 x5_3).f4).length c111_4), (.slice (some ad115) ((rd_T99 l0_3 x5_3).f5).length c111_5)] 99 (0, 0))) ∧ Aside0 (wc.heap[gb116]? = some (.cells #[.string ((rd_T102 ((rd_T99 l0_3 x5_3).f5) x7_6).f0), (.slice A115_1 ((rd_T102 ((rd_T99 l0_3 x5_3).f5) x7_6).f1).length c115_1), (.slice A115_2 ((rd_T102 ((rd_T99 l0_3 x5_3).f5) x7_6).f2).length c115_2), .string ((rd_T102 ((rd_T99 l0_3 x5_3).f5) x7_6).f3)] 102 (0, 0))) ∧ Aside0 (Below w.heap.size w wc))
             case first =>
              have H := HC49.out
              clear HC49
              by_cases c56 : (((rd_T102 ((rd_T99 l0_3 x5_3).f5) x7_6).f0).size : Int) > 100
              ·rw [if_pos c56] at H
               have c56b0 : decide (100 < (((rd_T102 ((rd_T99 l0_3 x5_3).f5) x7_6).f0).size : Int)) = true := decide_eq_true c56
               have c56b1 : decide (100 < ((rd_T102 ((rd_T99 l0_3 x5_3).f5) x7_6).f0).size) = true := decide_eq_true (by omega)
               clear c56
               (first | rw [c56b0] | (simp only [i64_w, i32_w]; rw [c56b0]) | skip)
               have H' := Aside0.mk H
               clear H
               have hnb57 := NB116_108.out
               have hnc57 := NB108_116.out
               have hnb58 := NB116_112.out
               have hnc58 := NB112_116.out
               obtain ⟨hcz59_0, hcz59_1, hcz59_2, hcz59_3⟩ := cz4_ BK116.out
               obtain ⟨hfz59_0, hfz59_1, hfz59_2, hfz59_3⟩ := cf4_ BK116.out
               go_wp2
               repeat (go_quiet (fail); try go_wp2)
               go_meet
               case rel => exact ⟨_, (true), (by first | rfl | (simp; done) | (simp [*]; done)), H', ⟨by have := HJ1.out; have := HK2.out; have := HK3.out; have := HJ18.out; have := HJ25.out; have := HK6.out; first | omega | exact Nat.le_refl _⟩, ⟨by refine grO ?_; refine blk_far ?_ NB108_116.out _; refine grO ?_; refine blk_far ?_ NB108_116.out _; refine grO ?_; refine blk_far ?_ NB108_116.out _; refine grO ?_; refine blk_far ?_ NB108_116.out _; refine grO ?_; exact BK108.out⟩, ⟨by refine grO ?_; refine blk_far ?_ NB112_116.out _; refine grO ?_; refine blk_far ?_ NB112_116.out _; refine grO ?_; refine blk_far ?_ NB112_116.out _; refine grO ?_; refine blk_far ?_ NB112_116.out _; refine grO ?_; exact BK112.out⟩, ⟨by refine grO ?_; refine blk_put (cs := #[.string ((rd_T102 ((rd_T99 l0_3 x5_3).f5) x7_6).f0), .slice A115_1 ((rd_T102 ((rd_T99 l0_3 x5_3).f5) x7_6).f1).length c115_1, .slice A115_2 ((rd_T102 ((rd_T99 l0_3 x5_3).f5) x7_6).f2).length c115_2, .string (⟨#[]⟩ : ByteArray)]) ?_ 3 _ rfl; refine grO ?_; refine blk_put (cs := #[.string ((rd_T102 ((rd_T99 l0_3 x5_3).f5) x7_6).f0), .slice A115_1 ((rd_T102 ((rd_T99 l0_3 x5_3).f5) x7_6).f1).length c115_1, .slice none 0 0, .string (⟨#[]⟩ : ByteArray)]) ?_ 2 _ rfl; refine grO ?_; refine blk_put (cs := #[.string ((rd_T102 ((rd_T99 l0_3 x5_3).f5) x7_6).f0), .slice none 0 0, .slice none 0 0, .string (⟨#[]⟩ : ByteArray)]) ?_ 1 _ rfl; refine grO ?_; refine blk_put (cs := #[.string (⟨#[]⟩ : ByteArray), .slice none 0 0, .slice none 0 0, .string (⟨#[]⟩ : ByteArray)]) ?_ 0 _ rfl; refine grO ?_; exact BK116.out⟩, ⟨by repeat (first | (with_reducible first | exact HB.out | apply below_alloc | apply pw_below_drewN | apply below_drew1 | refine below_set ?_ GE108.out | refine below_set ?_ GE112.out | refine below_set ?_ GE116.out) | exact HB.out)⟩⟩
              rw [if_neg c56] at H
              have c56b0 : decide (100 < (((rd_T102 ((rd_T99 l0_3 x5_3).f5) x7_6).f0).size : Int)) = false := decide_eq_false c56
              have c56b1 : decide (100 < ((rd_T102 ((rd_T99 l0_3 x5_3).f5) x7_6).f0).size) = false := decide_eq_false (by omega)
              clear c56
              (first | rw [c56b0] | (simp only [i64_w, i32_w]; rw [c56b0]) | skip)
              by_cases c60 : (((rd_T102 ((rd_T99 l0_3 x5_3).f5) x7_6).f3).size : Int) > 100
              ·rw [if_pos c60] at H
               have c60b0 : decide (100 < (((rd_T102 ((rd_T99 l0_3 x5_3).f5) x7_6).f3).size : Int)) = true := decide_eq_true c60
               have c60b1 : decide (100 < ((rd_T102 ((rd_T99 l0_3 x5_3).f5) x7_6).f3).size) = true := decide_eq_true (by omega)
               clear c60
               have H' := Aside0.mk H
               clear H
               have hnb61 := NB116_108.out
               have hnc61 := NB108_116.out
               have hnb62 := NB116_112.out
               have hnc62 := NB112_116.out
               obtain ⟨hcz63_0, hcz63_1, hcz63_2, hcz63_3⟩ := cz4_ BK116.out
               obtain ⟨hfz63_0, hfz63_1, hfz63_2, hfz63_3⟩ := cf4_ BK116.out
               go_wp2
               repeat (go_quiet (fail); try go_wp2)
               go_meet
               case rel => exact ⟨_, (true), (by first | rfl | (simp; done) | (simp [*]; done)), H', ⟨by have := HJ1.out; have := HK2.out; have := HK3.out; have := HJ18.out; have := HJ25.out; have := HK6.out; first | omega | exact Nat.le_refl _⟩, ⟨by refine grO ?_; refine blk_far ?_ NB108_116.out _; refine grO ?_; refine blk_far ?_ NB108_116.out _; refine grO ?_; refine blk_far ?_ NB108_116.out _; refine grO ?_; refine blk_far ?_ NB108_116.out _; refine grO ?_; exact BK108.out⟩, ⟨by refine grO ?_; refine blk_far ?_ NB112_116.out _; refine grO ?_; refine blk_far ?_ NB112_116.out _; refine grO ?_; refine blk_far ?_ NB112_116.out _; refine grO ?_; refine blk_far ?_ NB112_116.out _; refine grO ?_; exact BK112.out⟩, ⟨by refine grO ?_; refine blk_put (cs := #[.string ((rd_T102 ((rd_T99 l0_3 x5_3).f5) x7_6).f0), .slice A115_1 ((rd_T102 ((rd_T99 l0_3 x5_3).f5) x7_6).f1).length c115_1, .slice A115_2 ((rd_T102 ((rd_T99 l0_3 x5_3).f5) x7_6).f2).length c115_2, .string (⟨#[]⟩ : ByteArray)]) ?_ 3 _ rfl; refine grO ?_; refine blk_put (cs := #[.string ((rd_T102 ((rd_T99 l0_3 x5_3).f5) x7_6).f0), .slice A115_1 ((rd_T102 ((rd_T99 l0_3 x5_3).f5) x7_6).f1).length c115_1, .slice none 0 0, .string (⟨#[]⟩ : ByteArray)]) ?_ 2 _ rfl; refine grO ?_; refine blk_put (cs := #[.string ((rd_T102 ((rd_T99 l0_3 x5_3).f5) x7_6).f0), .slice none 0 0, .slice none 0 0, .string (⟨#[]⟩ : ByteArray)]) ?_ 1 _ rfl; refine grO ?_; refine blk_put (cs := #[.string (⟨#[]⟩ : ByteArray), .slice none 0 0, .slice none 0 0, .string (⟨#[]⟩ : ByteArray)]) ?_ 0 _ rfl; refine grO ?_; exact BK116.out⟩, ⟨by repeat (first | (with_reducible first | exact HB.out | apply below_alloc | apply pw_below_drewN | apply below_drew1 | refine below_set ?_ GE108.out | refine below_set ?_ GE112.out | refine below_set ?_ GE116.out) | exact HB.out)⟩⟩
              rw [if_neg c60] at H
              have c60b0 : decide (100 < (((rd_T102 ((rd_T99 l0_3 x5_3).f5) x7_6).f3).size : Int)) = false := decide_eq_false c60
              have c60b1 : decide (100 < ((rd_T102 ((rd_T99 l0_3 x5_3).f5) x7_6).f3).size) = false := decide_eq_false (by omega)
              clear c60
              have H' := Aside0.mk H
              clear H
              have hnb64 := NB116_108.out
              have hnc64 := NB108_116.out
              have hnb65 := NB116_112.out
              have hnc65 := NB112_116.out
              obtain ⟨hcz66_0, hcz66_1, hcz66_2, hcz66_3⟩ := cz4_ BK116.out
              obtain ⟨hfz66_0, hfz66_1, hfz66_2, hfz66_3⟩ := cf4_ BK116.out
              go_wp2
              repeat (go_quiet (fail); try go_wp2)
              go_meet
              case rel => exact ⟨_, (decide ((((rd_T102 ((rd_T99 l0_3 x5_3).f5) x7_6).f2).length : Int) > 10)), (by first | rfl | (simp; done) | (simp [*]; done)), H', ⟨by have := HJ1.out; have := HK2.out; have := HK3.out; have := HJ18.out; have := HJ25.out; have := HK6.out; first | omega | exact Nat.le_refl _⟩, ⟨by refine grO ?_; refine blk_far ?_ NB108_116.out _; refine grO ?_; refine blk_far ?_ NB108_116.out _; refine grO ?_; refine blk_far ?_ NB108_116.out _; refine grO ?_; refine blk_far ?_ NB108_116.out _; refine grO ?_; exact BK108.out⟩, ⟨by refine grO ?_; refine blk_far ?_ NB112_116.out _; refine grO ?_; refine blk_far ?_ NB112_116.out _; refine grO ?_; refine blk_far ?_ NB112_116.out _; refine grO ?_; refine blk_far ?_ NB112_116.out _; refine grO ?_; exact BK112.out⟩, ⟨by refine grO ?_; refine blk_put (cs := #[.string ((rd_T102 ((rd_T99 l0_3 x5_3).f5) x7_6).f0), .slice A115_1 ((rd_T102 ((rd_T99 l0_3 x5_3).f5) x7_6).f1).length c115_1, .slice A115_2 ((rd_T102 ((rd_T99 l0_3 x5_3).f5) x7_6).f2).length c115_2, .string (⟨#[]⟩ : ByteArray)]) ?_ 3 _ rfl; refine grO ?_; refine blk_put (cs := #[.string ((rd_T102 ((rd_T99 l0_3 x5_3).f5) x7_6).f0), .slice A115_1 ((rd_T102 ((rd_T99 l0_3 x5_3).f5) x7_6).f1).length c115_1, .slice none 0 0, .string (⟨#[]⟩ : ByteArray)]) ?_ 2 _ rfl; refine grO ?_; refine blk_put (cs := #[.string ((rd_T102 ((rd_T99 l0_3 x5_3).f5) x7_6).f0), .slice none 0 0, .slice none 0 0, .string (⟨#[]⟩ : ByteArray)]) ?_ 1 _ rfl; refine grO ?_; refine blk_put (cs := #[.string (⟨#[]⟩ : ByteArray), .slice none 0 0, .slice none 0 0, .string (⟨#[]⟩ : ByteArray)]) ?_ 0 _ rfl; refine grO ?_; exact BK116.out⟩, ⟨by repeat (first | (with_reducible first | exact HB.out | apply below_alloc | apply pw_below_drewN | apply below_drew1 | refine below_set ?_ GE108.out | refine below_set ?_ GE112.out | refine below_set ?_ GE116.out) | exact HB.out)⟩⟩
             case rest =>
              clear HC49
              try clear c1
              try clear p1
              try clear q1
              try clear hx1
              try clear c2
              try clear p2
              try clear c3
              try clear c4
              try clear c4b0
              try clear c4b1
              try clear c5
              try clear c6
              try clear p6
              try clear c7
              try clear c9
              try clear c9b0
              try clear c9b1
              try clear c11
              try clear p11
              try clear q11
              try clear hx11
              try clear c12
              try clear c13
              try clear c13b0
              try clear c14
              try clear c14b0
              try clear c15
              try clear c15b0
              try clear c15b1
              try clear c20
              try clear c20b0
              try clear c23
              try clear c24
              try clear c24b0
              try clear c25
              try clear c25b0
              try clear c29
              try clear c31
              try clear c31b0
              try clear c31b1
              try clear c32
              try clear c34
              try clear c34b0
              try clear c34b1
              try clear c35
              try clear c37
              try clear c37b0
              try clear c37b1
              try clear c38
              try clear c40
              try clear c42
              try clear c45
              try clear c47
              try clear c47b0
              try clear c48
              try clear c48b0
              try clear c50
              try clear c53
              try clear c54
              try clear c56
              try clear c56b0
              try clear c56b1
              try clear c57
              try clear c58
              try clear c60
              try clear c60b0
              try clear c60b1
              try clear c61
              try clear c62
              try clear c64
              try clear p64
              try clear c65
              try clear hcz10_0 hcz10_1 hcz10_2 hcz10_3
              try clear hcz11_0 hcz11_1 hcz11_2 hcz11_3
              try clear hcz16_0 hcz16_1 hcz16_2 hcz16_3
              try clear hcz17_0 hcz17_1 hcz17_2 hcz17_3
              try clear hcz18_0 hcz18_1 hcz18_2 hcz18_3
              try clear hcz21_0 hcz21_1 hcz21_2 hcz21_3
              try clear hcz22_0 hcz22_1 hcz22_2 hcz22_3
              try clear hcz27_0 hcz27_1 hcz27_2 hcz27_3
              try clear hcz30_0 hcz30_1 hcz30_2 hcz30_3 hcz30_4 hcz30_5
              try clear hcz33_0 hcz33_1 hcz33_2 hcz33_3 hcz33_4 hcz33_5
              try clear hcz36_0 hcz36_1 hcz36_2 hcz36_3 hcz36_4 hcz36_5
              try clear hcz39_0 hcz39_1 hcz39_2 hcz39_3 hcz39_4 hcz39_5
              try clear hcz41_0 hcz41_1 hcz41_2 hcz41_3 hcz41_4 hcz41_5
              try clear hcz46_0 hcz46_1 hcz46_2 hcz46_3 hcz46_4 hcz46_5
              try clear hcz51_0 hcz51_1 hcz51_2 hcz51_3 hcz51_4 hcz51_5
              try clear hcz55_0 hcz55_1 hcz55_2 hcz55_3
              try clear hcz59_0 hcz59_1 hcz59_2 hcz59_3
              try clear hcz5_0 hcz5_1 hcz5_2 hcz5_3
              try clear hcz63_0 hcz63_1 hcz63_2 hcz63_3
              try clear hcz66_0 hcz66_1 hcz66_2 hcz66_3
              try clear hcz8_0 hcz8_1 hcz8_2 hcz8_3
              try clear hfz10_0 hfz10_1 hfz10_2 hfz10_3
              try clear hfz11_0 hfz11_1 hfz11_2 hfz11_3
              try clear hfz16_0 hfz16_1 hfz16_2 hfz16_3
              try clear hfz17_0 hfz17_1 hfz17_2 hfz17_3
              try clear hfz18_0 hfz18_1 hfz18_2 hfz18_3
              try clear hfz21_0 hfz21_1 hfz21_2 hfz21_3
              try clear hfz22_0 hfz22_1 hfz22_2 hfz22_3
              try clear hfz27_0 hfz27_1 hfz27_2 hfz27_3
              try clear hfz30_0 hfz30_1 hfz30_2 hfz30_3 hfz30_4 hfz30_5
              try clear hfz33_0 hfz33_1 hfz33_2 hfz33_3 hfz33_4 hfz33_5
              try clear hfz36_0 hfz36_1 hfz36_2 hfz36_3 hfz36_4 hfz36_5
              try clear hfz39_0 hfz39_1 hfz39_2 hfz39_3 hfz39_4 hfz39_5
              try clear hfz41_0 hfz41_1 hfz41_2 hfz41_3 hfz41_4 hfz41_5
              try clear hfz46_0 hfz46_1 hfz46_2 hfz46_3 hfz46_4 hfz46_5
              try clear hfz51_0 hfz51_1 hfz51_2 hfz51_3 hfz51_4 hfz51_5
              try clear hfz55_0 hfz55_1 hfz55_2 hfz55_3
              try clear hfz59_0 hfz59_1 hfz59_2 hfz59_3
              try clear hfz5_0 hfz5_1 hfz5_2 hfz5_3
              try clear hfz63_0 hfz63_1 hfz63_2 hfz63_3
              try clear hfz66_0 hfz66_1 hfz66_2 hfz66_3
              try clear hfz8_0 hfz8_1 hfz8_2 hfz8_3
              try clear hx110_0
              try clear hx110_1
              try clear hx110_2
              try clear hx110_3
              try clear hx111_0
              try clear hx111_1
              try clear hx111_2
              try clear hx111_3
              try clear hx111_4
              try clear hx111_5
              try clear hx115_0
              try clear hx115_1
              try clear hx115_2
              try clear hx115_3
              try clear p1
              try clear p11
              try clear p110
              try clear p111
              try clear p115
              try clear p2
              try clear p6
              try clear q1
              try clear q11
              try clear q110
              try clear q111
              try clear q115
              obtain ⟨kq, x119_48, rfl, HA, HJ48, BK108, BK112, BK116, HB⟩ := hcut
              cases kq with
              | zero => exact absurd HA.out (by simp [semblanceref12_Light.j6])
              | succ kj48 =>
               have H := HA.out
               clear HA
               simp only [semblanceref12_Light.j6] at H
               by_cases c67 : x119_48 = true
               ·subst c67
                have H1 : (some false) = some r := by rw [if_pos rfl] at H; exact H
                clear H
                have H := H1
                clear H1
                obtain rfl := Option.some.inj H
                go_wp2
                repeat (go_quiet (fail); try go_wp2)
                go_ret
                exact ⟨by first | rfl | (simp [errW_none, errW_some] <;> rfl) | (simp [*, errW_none, errW_some] <;> rfl), by repeat (first | (with_reducible first | exact HB.out | apply below_alloc | apply pw_below_drewN | apply below_drew1 | refine below_set ?_ GE108.out | refine below_set ?_ GE112.out | refine below_set ?_ GE116.out) | exact HB.out)⟩
               replace c67 := Bool.eq_false_iff.mpr c67
               subst c67
               have H1 : ((semblanceref12_weigh.f kj48 ((rd_T102 ((rd_T99 l0_3 x5_3).f5) x7_6).f2)).bind fun t117 => ((semblanceref12_terms.f kj48 ((rd_T102 ((rd_T99 l0_3 x5_3).f5) x7_6).f1)).bind fun t118 => (semblanceref12_Light.l2 kj48 (wrap64 ((wrap64 ((wrap64 (x4_6 + 1)) + t117)) + t118)) x5_3 (wrap64 (x7_6 + 1)) a0_0 l0_1 l0_2 l0_3 ((rd_T99 l0_3 x5_3).f0) ((rd_T99 l0_3 x5_3).f1) ((rd_T99 l0_3 x5_3).f2) ((rd_T99 l0_3 x5_3).f3) ((rd_T99 l0_3 x5_3).f4) ((rd_T99 l0_3 x5_3).f5)))) = some r := by rw [if_neg (show ¬ (false = true) by decide)] at H; exact H
               clear H
               have H := H1
               clear H1
               replace H := Option.bind_eq_some_iff.mp H
               obtain ⟨t117, A680, H⟩ := H
               replace H : ((semblanceref12_terms.f kj48 ((rd_T102 ((rd_T99 l0_3 x5_3).f5) x7_6).f1)).bind fun t118 => (semblanceref12_Light.l2 kj48 (wrap64 ((wrap64 ((wrap64 (x4_6 + 1)) + t117)) + t118)) x5_3 (wrap64 (x7_6 + 1)) a0_0 l0_1 l0_2 l0_3 ((rd_T99 l0_3 x5_3).f0) ((rd_T99 l0_3 x5_3).f1) ((rd_T99 l0_3 x5_3).f2) ((rd_T99 l0_3 x5_3).f3) ((rd_T99 l0_3 x5_3).f4) ((rd_T99 l0_3 x5_3).f5))) = some r := H
               have A68 := Aside0.mk A680
               clear A680
               replace H := Option.bind_eq_some_iff.mp H
               obtain ⟨t118, A690, H⟩ := H
               replace H : (semblanceref12_Light.l2 kj48 (wrap64 ((wrap64 ((wrap64 (x4_6 + 1)) + t117)) + t118)) x5_3 (wrap64 (x7_6 + 1)) a0_0 l0_1 l0_2 l0_3 ((rd_T99 l0_3 x5_3).f0) ((rd_T99 l0_3 x5_3).f1) ((rd_T99 l0_3 x5_3).f2) ((rd_T99 l0_3 x5_3).f3) ((rd_T99 l0_3 x5_3).f4) ((rd_T99 l0_3 x5_3).f5)) = some r := H
               have A69 := Aside0.mk A690
               clear A690
               have H' := Aside0.mk H
               clear H
               have hnb70 := NB116_108.out
               have hnc70 := NB108_116.out
               have hnb71 := NB116_112.out
               have hnc71 := NB112_116.out
               obtain ⟨hcz72_0, hcz72_1, hcz72_2, hcz72_3⟩ := cz4_ BK116.out
               obtain ⟨hfz72_0, hfz72_1, hfz72_2, hfz72_3⟩ := cf4_ BK116.out
               go_wp2_with (first | (go_at_call 65; (with_reducible refine (semblanceref12_weigh.calls kj48 _ _ ((rd_T102 ((rd_T99 l0_3 x5_3).f5) x7_6).f2) t117 _ ?side1 ?side2 A68.out).mono ?_); (case side1 => repeat (first | exact (Kd.C_below HR115_2.out HB.out) | (with_reducible refine Kd.C_alloc ?_ _) | (with_reducible refine Kd.C_drewN ?_ _) | (with_reducible refine Kd.C_drew ?_))); (case side2 => exact HC115_2.out); rintro e w' ⟨rfl, ⟨nd, rfl⟩⟩; (try first | exact ⟨rfl, _, World.drewN_drewN _ _ _⟩ | exact ⟨rfl, _, Eq.trans (World.drewN_drewN _ _ _) (congrArg (World.drewN _) (Nat.add_assoc _ _ _))⟩)) | (go_at_call 66; (with_reducible refine (semblanceref12_terms.calls kj48 _ _ ((rd_T102 ((rd_T99 l0_3 x5_3).f5) x7_6).f1) t118 _ ?side1 ?side2 A69.out).mono ?_); (case side1 => repeat (first | exact (Kd.C_below HR115_1.out (by repeat (first | (with_reducible first | exact HB.out | apply below_alloc | apply pw_below_drewN | apply below_drew1 | refine below_set ?_ GE108.out | refine below_set ?_ GE112.out | refine below_set ?_ GE116.out) | exact HB.out))) | (with_reducible refine Kd.C_alloc ?_ _) | (with_reducible refine Kd.C_drewN ?_ _) | (with_reducible refine Kd.C_drew ?_))); (case side2 => exact HC115_1.out); rintro e w' ⟨rfl, ⟨nd, rfl⟩⟩; (try first | exact ⟨rfl, _, World.drewN_drewN _ _ _⟩ | exact ⟨rfl, _, Eq.trans (World.drewN_drewN _ _ _) (congrArg (World.drewN _) (Nat.add_assoc _ _ _))⟩)))
               repeat (go_quiet (first | (go_at_call 65; (with_reducible refine (semblanceref12_weigh.calls kj48 _ _ ((rd_T102 ((rd_T99 l0_3 x5_3).f5) x7_6).f2) t117 _ ?side1 ?side2 A68.out).mono ?_); (case side1 => repeat (first | exact (Kd.C_below HR115_2.out HB.out) | (with_reducible refine Kd.C_alloc ?_ _) | (with_reducible refine Kd.C_drewN ?_ _) | (with_reducible refine Kd.C_drew ?_))); (case side2 => exact HC115_2.out); rintro e w' ⟨rfl, ⟨nd, rfl⟩⟩; (try first | exact ⟨rfl, _, World.drewN_drewN _ _ _⟩ | exact ⟨rfl, _, Eq.trans (World.drewN_drewN _ _ _) (congrArg (World.drewN _) (Nat.add_assoc _ _ _))⟩)) | (go_at_call 66; (with_reducible refine (semblanceref12_terms.calls kj48 _ _ ((rd_T102 ((rd_T99 l0_3 x5_3).f5) x7_6).f1) t118 _ ?side1 ?side2 A69.out).mono ?_); (case side1 => repeat (first | exact (Kd.C_below HR115_1.out (by repeat (first | (with_reducible first | exact HB.out | apply below_alloc | apply pw_below_drewN | apply below_drew1 | refine below_set ?_ GE108.out | refine below_set ?_ GE112.out | refine below_set ?_ GE116.out) | exact HB.out))) | (with_reducible refine Kd.C_alloc ?_ _) | (with_reducible refine Kd.C_drewN ?_ _) | (with_reducible refine Kd.C_drew ?_))); (case side2 => exact HC115_1.out); rintro e w' ⟨rfl, ⟨nd, rfl⟩⟩; (try first | exact ⟨rfl, _, World.drewN_drewN _ _ _⟩ | exact ⟨rfl, _, Eq.trans (World.drewN_drewN _ _ _) (congrArg (World.drewN _) (Nat.add_assoc _ _ _))⟩))); try go_wp2_with (first | (go_at_call 65; (with_reducible refine (semblanceref12_weigh.calls kj48 _ _ ((rd_T102 ((rd_T99 l0_3 x5_3).f5) x7_6).f2) t117 _ ?side1 ?side2 A68.out).mono ?_); (case side1 => repeat (first | exact (Kd.C_below HR115_2.out HB.out) | (with_reducible refine Kd.C_alloc ?_ _) | (with_reducible refine Kd.C_drewN ?_ _) | (with_reducible refine Kd.C_drew ?_))); (case side2 => exact HC115_2.out); rintro e w' ⟨rfl, ⟨nd, rfl⟩⟩; (try first | exact ⟨rfl, _, World.drewN_drewN _ _ _⟩ | exact ⟨rfl, _, Eq.trans (World.drewN_drewN _ _ _) (congrArg (World.drewN _) (Nat.add_assoc _ _ _))⟩)) | (go_at_call 66; (with_reducible refine (semblanceref12_terms.calls kj48 _ _ ((rd_T102 ((rd_T99 l0_3 x5_3).f5) x7_6).f1) t118 _ ?side1 ?side2 A69.out).mono ?_); (case side1 => repeat (first | exact (Kd.C_below HR115_1.out (by repeat (first | (with_reducible first | exact HB.out | apply below_alloc | apply pw_below_drewN | apply below_drew1 | refine below_set ?_ GE108.out | refine below_set ?_ GE112.out | refine below_set ?_ GE116.out) | exact HB.out))) | (with_reducible refine Kd.C_alloc ?_ _) | (with_reducible refine Kd.C_drewN ?_ _) | (with_reducible refine Kd.C_drew ?_))); (case side2 => exact HC115_1.out); rintro e w' ⟨rfl, ⟨nd, rfl⟩⟩; (try first | exact ⟨rfl, _, World.drewN_drewN _ _ _⟩ | exact ⟨rfl, _, Eq.trans (World.drewN_drewN _ _ _) (congrArg (World.drewN _) (Nat.add_assoc _ _ _))⟩))))
               go_roundg kj48
               case measure => have := HJ1.out; have := HK2.out; have := HK3.out; have := HJ18.out; have := HJ25.out; have := HK6.out; have := HJ48.out; omega
               case rel => exact ⟨(wrap64 ((wrap64 ((wrap64 (x4_6 + 1)) + t117)) + t118)), (wrap64 (x7_6 + 1)), (by first | rfl | (simp; done) | (simp [*]; done)), (by first | rfl | (simp; done) | (simp [*]; done)), H', ⟨by have := HJ1.out; have := HK2.out; have := HK3.out; have := HJ18.out; have := HJ25.out; have := HK6.out; have := HJ48.out; omega⟩, ⟨grw BK108.out⟩, ⟨grw BK112.out⟩, ⟨by repeat (first | (with_reducible first | exact HB.out | apply below_alloc | apply pw_below_drewN | apply below_drew1 | refine below_set ?_ GE108.out | refine below_set ?_ GE112.out | refine below_set ?_ GE116.out) | exact HB.out)⟩⟩
end Go.Proofs.Ytjlegibfeenglaa.XF
