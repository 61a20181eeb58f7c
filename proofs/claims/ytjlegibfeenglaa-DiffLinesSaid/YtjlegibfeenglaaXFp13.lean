-- written by wip/xprint.py out of the translation
import Derived.Test.YtjlegibfeenglaaXFp0
import Derived.Test.YtjlegibfeenglaaXFp1
import Derived.Test.YtjlegibfeenglaaXFp9
import Derived.Test.YtjlegibfeenglaaXFp10
import Derived.Test.YtjlegibfeenglaaXFp11
import Derived.Test.YtjlegibfeenglaaXFp12
namespace Go.Proofs.Ytjlegibfeenglaa.XF
open Go.Proofs.Ytjlegibfeenglaa.XGrow Go.RowKit Go.Proofs.YtjlegibfeenglaaW.PrintWords Go.Proofs.YtjlegibfeenglaaW.PrintLast Go.Proofs.YtjlegibfeenglaaW.PrintMore
attribute [local go_sem] max2_int min2_int max_two min_two max_three min_three max_four min_four   -- for this text's walks alone
set_option linter.unusedVariables false
set_option linter.unusedSimpArgs false

attribute [local go_sem high] eqA95
/-! ### semblanceref53_Lines: function 32 -/
mutual
def semblanceref53_Lines.j0 : Nat → List ByteArray → ByteArray → List ByteArray → List (S95) → List (S99) → ByteArray → List ByteArray → List (S95) → List (S99) → Option (List ByteArray)
  | 0, _, _, _, _, _, _, _, _, _ => none
  | k + 1, x5, x251000, x251001, x251002, x251003, x252000, x252001, x252002, x252003 => (semblanceref01_Texts.f k x251001 x252001).bind fun t258 => (if t258 = true then (semblanceref53_Lines.j1 k x5 x251000 x251001 x251002 x251003 x252000 x252001 x252002 x252003) else (if x5.length < 8796093022208 then (semblanceref53_Lines.j1 k (x5 ++ [(⟨#[101, 118, 101, 110, 116, 115]⟩ : ByteArray)]) x251000 x251001 x251002 x251003 x252000 x252001 x252002 x252003) else (none)))
def semblanceref53_Lines.j1 : Nat → List ByteArray → ByteArray → List ByteArray → List (S95) → List (S99) → ByteArray → List ByteArray → List (S95) → List (S99) → Option (List ByteArray)
  | 0, _, _, _, _, _, _, _, _, _ => none
  | k + 1, x5, x251000, x251001, x251002, x251003, x252000, x252001, x252002, x252003 => semblanceref53_Lines.l0 k x5 ((x251002.length : Int) == (x252002.length : Int)) 0 x251000 x251001 x251002 x251003 x252000 x252001 x252002 x252003
def semblanceref53_Lines.j3 : Nat → List ByteArray → Bool → ByteArray → List ByteArray → List (S95) → List (S99) → ByteArray → List ByteArray → List (S95) → List (S99) → Option (List ByteArray)
  | 0, _, _, _, _, _, _, _, _, _, _ => none
  | k + 1, x5, x6, x251000, x251001, x251002, x251003, x252000, x252001, x252002, x252003 => if x6 = true then (semblanceref53_Lines.j4 k x5 x251000 x251001 x251002 x251003 x252000 x252001 x252002 x252003) else (if x5.length < 8796093022208 then (semblanceref53_Lines.j4 k (x5 ++ [(⟨#[118, 97, 114, 115]⟩ : ByteArray)]) x251000 x251001 x251002 x251003 x252000 x252001 x252002 x252003) else (none))
def semblanceref53_Lines.j4 : Nat → List ByteArray → ByteArray → List ByteArray → List (S95) → List (S99) → ByteArray → List ByteArray → List (S95) → List (S99) → Option (List ByteArray)
  | 0, _, _, _, _, _, _, _, _, _ => none
  | k + 1, x5, x251000, x251001, x251002, x251003, x252000, x252001, x252002, x252003 => semblanceref53_Lines.l1 k x5 0 x251000 x251001 x251002 x251003 x252000 x252001 x252002 x252003
def semblanceref53_Lines.l1 : Nat → List ByteArray → Int → ByteArray → List ByteArray → List (S95) → List (S99) → ByteArray → List ByteArray → List (S95) → List (S99) → Option (List ByteArray)
  | 0, _, _, _, _, _, _, _, _, _, _ => none
  | k + 1, x5, x8, x251000, x251001, x251002, x251003, x252000, x252001, x252002, x252003 => if x8 < (x251003.length : Int) then (if 0 ≤ x8 then ((semblanceref17_Place.f k x252000 x252001 x252002 x252003 ((rd_T99 x251003 x8).f0)).bind fun t269 => (if t269 < 0 then (if 2 + ((rd_T99 x251003 x8).f0).size ≤ 9223372036854775807 then (if x5.length < 8796093022208 then (semblanceref53_Lines.l1 k (x5 ++ [(⟨#[45, 32]⟩ : ByteArray) ++ ((rd_T99 x251003 x8).f0)]) (wrap64 (x8 + 1)) x251000 x251001 x251002 x251003 x252000 x252001 x252002 x252003) else (none)) else (none)) else (if 0 ≤ t269 then (if t269 < (x252003.length : Int) then (if ((rd_T99 x251003 x8).f1) = ((rd_T99 x252003 t269).f1) then ((semblanceref53_above.f x251000 x251001 x251002 x251003 x8).bind fun t275 => ((semblanceref53_above.f x252000 x252001 x252002 x252003 t269).bind fun t276 => (if t275.toList = t276.toList then ((semblanceref08_Same.f k ((rd_T99 x251003 x8).f3) ((rd_T99 x252003 t269).f3)).bind fun t277 => (if t277 = true then ((semblanceref08_Same.f k ((rd_T99 x251003 x8).f4) ((rd_T99 x252003 t269).f4)).bind fun t278 => (if t278 = true then ((semblanceref09_All.f k ((rd_T99 x251003 x8).f5) ((rd_T99 x252003 t269).f5)).bind fun t279 => (if t279 = true then (semblanceref53_Lines.l1 k x5 (wrap64 (x8 + 1)) x251000 x251001 x251002 x251003 x252000 x252001 x252002 x252003) else (if 2 + ((rd_T99 x251003 x8).f0).size ≤ 9223372036854775807 then (if x5.length < 8796093022208 then (semblanceref53_Lines.l1 k (x5 ++ [(⟨#[126, 32]⟩ : ByteArray) ++ ((rd_T99 x251003 x8).f0)]) (wrap64 (x8 + 1)) x251000 x251001 x251002 x251003 x252000 x252001 x252002 x252003) else (none)) else (none)))) else (if 2 + ((rd_T99 x251003 x8).f0).size ≤ 9223372036854775807 then (if x5.length < 8796093022208 then (semblanceref53_Lines.l1 k (x5 ++ [(⟨#[126, 32]⟩ : ByteArray) ++ ((rd_T99 x251003 x8).f0)]) (wrap64 (x8 + 1)) x251000 x251001 x251002 x251003 x252000 x252001 x252002 x252003) else (none)) else (none)))) else (if 2 + ((rd_T99 x251003 x8).f0).size ≤ 9223372036854775807 then (if x5.length < 8796093022208 then (semblanceref53_Lines.l1 k (x5 ++ [(⟨#[126, 32]⟩ : ByteArray) ++ ((rd_T99 x251003 x8).f0)]) (wrap64 (x8 + 1)) x251000 x251001 x251002 x251003 x252000 x252001 x252002 x252003) else (none)) else (none)))) else (if 2 + ((rd_T99 x251003 x8).f0).size ≤ 9223372036854775807 then (if x5.length < 8796093022208 then (semblanceref53_Lines.l1 k (x5 ++ [(⟨#[126, 32]⟩ : ByteArray) ++ ((rd_T99 x251003 x8).f0)]) (wrap64 (x8 + 1)) x251000 x251001 x251002 x251003 x252000 x252001 x252002 x252003) else (none)) else (none))))) else (if 2 + ((rd_T99 x251003 x8).f0).size ≤ 9223372036854775807 then (if x5.length < 8796093022208 then (semblanceref53_Lines.l1 k (x5 ++ [(⟨#[126, 32]⟩ : ByteArray) ++ ((rd_T99 x251003 x8).f0)]) (wrap64 (x8 + 1)) x251000 x251001 x251002 x251003 x252000 x252001 x252002 x252003) else (none)) else (none))) else (none)) else (none)))) else (none)) else (semblanceref53_Lines.l2 k x5 0 x251000 x251001 x251002 x251003 x252000 x252001 x252002 x252003)
def semblanceref53_Lines.l2 : Nat → List ByteArray → Int → ByteArray → List ByteArray → List (S95) → List (S99) → ByteArray → List ByteArray → List (S95) → List (S99) → Option (List ByteArray)
  | 0, _, _, _, _, _, _, _, _, _, _ => none
  | k + 1, x5, x12, x251000, x251001, x251002, x251003, x252000, x252001, x252002, x252003 => if x12 < (x252003.length : Int) then (if 0 ≤ x12 then ((semblanceref17_Place.f k x251000 x251001 x251002 x251003 ((rd_T99 x252003 x12).f0)).bind fun t296 => (if t296 < 0 then (if 2 + ((rd_T99 x252003 x12).f0).size ≤ 9223372036854775807 then (if x5.length < 8796093022208 then (semblanceref53_Lines.l2 k (x5 ++ [(⟨#[43, 32]⟩ : ByteArray) ++ ((rd_T99 x252003 x12).f0)]) (wrap64 (x12 + 1)) x251000 x251001 x251002 x251003 x252000 x252001 x252002 x252003) else (none)) else (none)) else (semblanceref53_Lines.l2 k x5 (wrap64 (x12 + 1)) x251000 x251001 x251002 x251003 x252000 x252001 x252002 x252003))) else (none)) else (some x5)
def semblanceref53_Lines.l0 : Nat → List ByteArray → Bool → Int → ByteArray → List ByteArray → List (S95) → List (S99) → ByteArray → List ByteArray → List (S95) → List (S99) → Option (List ByteArray)
  | 0, _, _, _, _, _, _, _, _, _, _, _ => none
  | k + 1, x5, x6, x7, x251000, x251001, x251002, x251003, x252000, x252001, x252002, x252003 => if x7 < (x251002.length : Int) then (if x6 = true then (if 0 ≤ x7 then (if x7 < (x252002.length : Int) then (semblanceref53_Lines.l0 k x5 ((((rd_T95 x251002 x7).f0).toList) == (((rd_T95 x252002 x7).f0).toList) && (((rd_T95 x251002 x7).f1) == ((rd_T95 x252002 x7).f1) && (((rd_T95 x251002 x7).f2) == ((rd_T95 x252002 x7).f2) && (((rd_T95 x251002 x7).f3) == ((rd_T95 x252002 x7).f3))))) (wrap64 (x7 + 1)) x251000 x251001 x251002 x251003 x252000 x252001 x252002 x252003) else (none)) else (none)) else (semblanceref53_Lines.j3 k x5 x6 x251000 x251001 x251002 x251003 x252000 x252001 x252002 x252003)) else (semblanceref53_Lines.j3 k x5 x6 x251000 x251001 x251002 x251003 x252000 x252001 x252002 x252003)
end
def semblanceref53_Lines.f (k : Nat) (a0_0 : ByteArray) (l0_1 : List ByteArray) (l0_2 : List (S95)) (l0_3 : List (S99)) (a1_0 : ByteArray) (l1_1 : List ByteArray) (l1_2 : List (S95)) (l1_3 : List (S99)) : Option (List ByteArray) := (some (([] : List ByteArray) : List ByteArray)).bind fun y252 => (if a0_0.toList = a1_0.toList then (semblanceref53_Lines.j0 k y252 a0_0 l0_1 l0_2 l0_3 a1_0 l1_1 l1_2 l1_3) else (if y252.length < 8796093022208 then (semblanceref53_Lines.j0 k (y252 ++ [(⟨#[110, 97, 109, 101]⟩ : ByteArray)]) a0_0 l0_1 l0_2 l0_3 a1_0 l1_1 l1_2 l1_3) else (none)))
theorem semblanceref53_Lines.mono_l : ∀ k, (∀ y0 y1 y2 y3 y4 y5 y6 y7 y8, LeO (semblanceref53_Lines.j0 k y0 y1 y2 y3 y4 y5 y6 y7 y8) (semblanceref53_Lines.j0 (k + 1) y0 y1 y2 y3 y4 y5 y6 y7 y8)) ∧ (∀ y0 y1 y2 y3 y4 y5 y6 y7 y8, LeO (semblanceref53_Lines.j1 k y0 y1 y2 y3 y4 y5 y6 y7 y8) (semblanceref53_Lines.j1 (k + 1) y0 y1 y2 y3 y4 y5 y6 y7 y8)) ∧ (∀ y0 y1 y2 y3 y4 y5 y6 y7 y8 y9, LeO (semblanceref53_Lines.j3 k y0 y1 y2 y3 y4 y5 y6 y7 y8 y9) (semblanceref53_Lines.j3 (k + 1) y0 y1 y2 y3 y4 y5 y6 y7 y8 y9)) ∧ (∀ y0 y1 y2 y3 y4 y5 y6 y7 y8, LeO (semblanceref53_Lines.j4 k y0 y1 y2 y3 y4 y5 y6 y7 y8) (semblanceref53_Lines.j4 (k + 1) y0 y1 y2 y3 y4 y5 y6 y7 y8)) ∧ (∀ y0 y1 y2 y3 y4 y5 y6 y7 y8 y9, LeO (semblanceref53_Lines.l1 k y0 y1 y2 y3 y4 y5 y6 y7 y8 y9) (semblanceref53_Lines.l1 (k + 1) y0 y1 y2 y3 y4 y5 y6 y7 y8 y9)) ∧ (∀ y0 y1 y2 y3 y4 y5 y6 y7 y8 y9, LeO (semblanceref53_Lines.l2 k y0 y1 y2 y3 y4 y5 y6 y7 y8 y9) (semblanceref53_Lines.l2 (k + 1) y0 y1 y2 y3 y4 y5 y6 y7 y8 y9)) ∧ (∀ y0 y1 y2 y3 y4 y5 y6 y7 y8 y9 y10, LeO (semblanceref53_Lines.l0 k y0 y1 y2 y3 y4 y5 y6 y7 y8 y9 y10) (semblanceref53_Lines.l0 (k + 1) y0 y1 y2 y3 y4 y5 y6 y7 y8 y9 y10))
  | 0 => ⟨fun _ _ _ _ _ _ _ _ _ r h => by simp [semblanceref53_Lines.j0] at h, fun _ _ _ _ _ _ _ _ _ r h => by simp [semblanceref53_Lines.j1] at h, fun _ _ _ _ _ _ _ _ _ _ r h => by simp [semblanceref53_Lines.j3] at h, fun _ _ _ _ _ _ _ _ _ r h => by simp [semblanceref53_Lines.j4] at h, fun _ _ _ _ _ _ _ _ _ _ r h => by simp [semblanceref53_Lines.l1] at h, fun _ _ _ _ _ _ _ _ _ _ r h => by simp [semblanceref53_Lines.l2] at h, fun _ _ _ _ _ _ _ _ _ _ _ r h => by simp [semblanceref53_Lines.l0] at h⟩
  | k + 1 => by
    obtain ⟨ih0, ih1, ih2, ih3, ih4, ih5, ih6⟩ := semblanceref53_Lines.mono_l k
    refine ⟨?_, ?_, ?_, ?_, ?_, ?_, ?_⟩
    · intro y0 y1 y2 y3 y4 y5 y6 y7 y8
      unfold semblanceref53_Lines.j0
      repeat' first
      | (with_reducible exact ih0 _ _ _ _ _ _ _ _ _)
      | (with_reducible exact ih1 _ _ _ _ _ _ _ _ _)
      | (with_reducible exact ih2 _ _ _ _ _ _ _ _ _ _)
      | (with_reducible exact ih3 _ _ _ _ _ _ _ _ _)
      | (with_reducible exact ih4 _ _ _ _ _ _ _ _ _ _)
      | (with_reducible exact ih5 _ _ _ _ _ _ _ _ _ _)
      | (with_reducible exact ih6 _ _ _ _ _ _ _ _ _ _ _)
      | (with_reducible exact semblanceref01_Texts.mono _ _ _)
      | (with_reducible exact semblanceref08_Same.mono _ _ _)
      | (with_reducible exact semblanceref09_All.mono _ _ _)
      | (with_reducible exact semblanceref17_Place.mono _ _ _ _ _ _)
      | (with_reducible exact LeO.refl _)
      | (with_reducible exact LeO.none _)
      | (with_reducible refine LeO.ite ?_ ?_)
      | (with_reducible refine LeO.bind ?_ (fun _ => ?_))
      | exact ih0 _ _ _ _ _ _ _ _ _
      | exact ih1 _ _ _ _ _ _ _ _ _
      | exact ih2 _ _ _ _ _ _ _ _ _ _
      | exact ih3 _ _ _ _ _ _ _ _ _
      | exact ih4 _ _ _ _ _ _ _ _ _ _
      | exact ih5 _ _ _ _ _ _ _ _ _ _
      | exact ih6 _ _ _ _ _ _ _ _ _ _ _
      | exact semblanceref01_Texts.mono _ _ _
      | exact semblanceref08_Same.mono _ _ _
      | exact semblanceref09_All.mono _ _ _
      | exact semblanceref17_Place.mono _ _ _ _ _ _
      | exact LeO.none _
      | refine LeO.ite ?_ ?_
      | refine LeO.bind ?_ (fun _ => ?_)
    · intro y0 y1 y2 y3 y4 y5 y6 y7 y8
      unfold semblanceref53_Lines.j1
      repeat' first
      | (with_reducible exact ih0 _ _ _ _ _ _ _ _ _)
      | (with_reducible exact ih1 _ _ _ _ _ _ _ _ _)
      | (with_reducible exact ih2 _ _ _ _ _ _ _ _ _ _)
      | (with_reducible exact ih3 _ _ _ _ _ _ _ _ _)
      | (with_reducible exact ih4 _ _ _ _ _ _ _ _ _ _)
      | (with_reducible exact ih5 _ _ _ _ _ _ _ _ _ _)
      | (with_reducible exact ih6 _ _ _ _ _ _ _ _ _ _ _)
      | (with_reducible exact semblanceref01_Texts.mono _ _ _)
      | (with_reducible exact semblanceref08_Same.mono _ _ _)
      | (with_reducible exact semblanceref09_All.mono _ _ _)
      | (with_reducible exact semblanceref17_Place.mono _ _ _ _ _ _)
      | (with_reducible exact LeO.refl _)
      | (with_reducible exact LeO.none _)
      | (with_reducible refine LeO.ite ?_ ?_)
      | (with_reducible refine LeO.bind ?_ (fun _ => ?_))
      | exact ih0 _ _ _ _ _ _ _ _ _
      | exact ih1 _ _ _ _ _ _ _ _ _
      | exact ih2 _ _ _ _ _ _ _ _ _ _
      | exact ih3 _ _ _ _ _ _ _ _ _
      | exact ih4 _ _ _ _ _ _ _ _ _ _
      | exact ih5 _ _ _ _ _ _ _ _ _ _
      | exact ih6 _ _ _ _ _ _ _ _ _ _ _
      | exact semblanceref01_Texts.mono _ _ _
      | exact semblanceref08_Same.mono _ _ _
      | exact semblanceref09_All.mono _ _ _
      | exact semblanceref17_Place.mono _ _ _ _ _ _
      | exact LeO.none _
      | refine LeO.ite ?_ ?_
      | refine LeO.bind ?_ (fun _ => ?_)
    · intro y0 y1 y2 y3 y4 y5 y6 y7 y8 y9
      unfold semblanceref53_Lines.j3
      repeat' first
      | (with_reducible exact ih0 _ _ _ _ _ _ _ _ _)
      | (with_reducible exact ih1 _ _ _ _ _ _ _ _ _)
      | (with_reducible exact ih2 _ _ _ _ _ _ _ _ _ _)
      | (with_reducible exact ih3 _ _ _ _ _ _ _ _ _)
      | (with_reducible exact ih4 _ _ _ _ _ _ _ _ _ _)
      | (with_reducible exact ih5 _ _ _ _ _ _ _ _ _ _)
      | (with_reducible exact ih6 _ _ _ _ _ _ _ _ _ _ _)
      | (with_reducible exact semblanceref01_Texts.mono _ _ _)
      | (with_reducible exact semblanceref08_Same.mono _ _ _)
      | (with_reducible exact semblanceref09_All.mono _ _ _)
      | (with_reducible exact semblanceref17_Place.mono _ _ _ _ _ _)
      | (with_reducible exact LeO.refl _)
      | (with_reducible exact LeO.none _)
      | (with_reducible refine LeO.ite ?_ ?_)
      | (with_reducible refine LeO.bind ?_ (fun _ => ?_))
      | exact ih0 _ _ _ _ _ _ _ _ _
      | exact ih1 _ _ _ _ _ _ _ _ _
      | exact ih2 _ _ _ _ _ _ _ _ _ _
      | exact ih3 _ _ _ _ _ _ _ _ _
      | exact ih4 _ _ _ _ _ _ _ _ _ _
      | exact ih5 _ _ _ _ _ _ _ _ _ _
      | exact ih6 _ _ _ _ _ _ _ _ _ _ _
      | exact semblanceref01_Texts.mono _ _ _
      | exact semblanceref08_Same.mono _ _ _
      | exact semblanceref09_All.mono _ _ _
      | exact semblanceref17_Place.mono _ _ _ _ _ _
      | exact LeO.none _
      | refine LeO.ite ?_ ?_
      | refine LeO.bind ?_ (fun _ => ?_)
    · intro y0 y1 y2 y3 y4 y5 y6 y7 y8
      unfold semblanceref53_Lines.j4
      repeat' first
      | (with_reducible exact ih0 _ _ _ _ _ _ _ _ _)
      | (with_reducible exact ih1 _ _ _ _ _ _ _ _ _)
      | (with_reducible exact ih2 _ _ _ _ _ _ _ _ _ _)
      | (with_reducible exact ih3 _ _ _ _ _ _ _ _ _)
      | (with_reducible exact ih4 _ _ _ _ _ _ _ _ _ _)
      | (with_reducible exact ih5 _ _ _ _ _ _ _ _ _ _)
      | (with_reducible exact ih6 _ _ _ _ _ _ _ _ _ _ _)
      | (with_reducible exact semblanceref01_Texts.mono _ _ _)
      | (with_reducible exact semblanceref08_Same.mono _ _ _)
      | (with_reducible exact semblanceref09_All.mono _ _ _)
      | (with_reducible exact semblanceref17_Place.mono _ _ _ _ _ _)
      | (with_reducible exact LeO.refl _)
      | (with_reducible exact LeO.none _)
      | (with_reducible refine LeO.ite ?_ ?_)
      | (with_reducible refine LeO.bind ?_ (fun _ => ?_))
      | exact ih0 _ _ _ _ _ _ _ _ _
      | exact ih1 _ _ _ _ _ _ _ _ _
      | exact ih2 _ _ _ _ _ _ _ _ _ _
      | exact ih3 _ _ _ _ _ _ _ _ _
      | exact ih4 _ _ _ _ _ _ _ _ _ _
      | exact ih5 _ _ _ _ _ _ _ _ _ _
      | exact ih6 _ _ _ _ _ _ _ _ _ _ _
      | exact semblanceref01_Texts.mono _ _ _
      | exact semblanceref08_Same.mono _ _ _
      | exact semblanceref09_All.mono _ _ _
      | exact semblanceref17_Place.mono _ _ _ _ _ _
      | exact LeO.none _
      | refine LeO.ite ?_ ?_
      | refine LeO.bind ?_ (fun _ => ?_)
    · intro y0 y1 y2 y3 y4 y5 y6 y7 y8 y9
      unfold semblanceref53_Lines.l1
      repeat' first
      | (with_reducible exact ih0 _ _ _ _ _ _ _ _ _)
      | (with_reducible exact ih1 _ _ _ _ _ _ _ _ _)
      | (with_reducible exact ih2 _ _ _ _ _ _ _ _ _ _)
      | (with_reducible exact ih3 _ _ _ _ _ _ _ _ _)
      | (with_reducible exact ih4 _ _ _ _ _ _ _ _ _ _)
      | (with_reducible exact ih5 _ _ _ _ _ _ _ _ _ _)
      | (with_reducible exact ih6 _ _ _ _ _ _ _ _ _ _ _)
      | (with_reducible exact semblanceref01_Texts.mono _ _ _)
      | (with_reducible exact semblanceref08_Same.mono _ _ _)
      | (with_reducible exact semblanceref09_All.mono _ _ _)
      | (with_reducible exact semblanceref17_Place.mono _ _ _ _ _ _)
      | (with_reducible exact LeO.refl _)
      | (with_reducible exact LeO.none _)
      | (with_reducible refine LeO.ite ?_ ?_)
      | (with_reducible refine LeO.bind ?_ (fun _ => ?_))
      | exact ih0 _ _ _ _ _ _ _ _ _
      | exact ih1 _ _ _ _ _ _ _ _ _
      | exact ih2 _ _ _ _ _ _ _ _ _ _
      | exact ih3 _ _ _ _ _ _ _ _ _
      | exact ih4 _ _ _ _ _ _ _ _ _ _
      | exact ih5 _ _ _ _ _ _ _ _ _ _
      | exact ih6 _ _ _ _ _ _ _ _ _ _ _
      | exact semblanceref01_Texts.mono _ _ _
      | exact semblanceref08_Same.mono _ _ _
      | exact semblanceref09_All.mono _ _ _
      | exact semblanceref17_Place.mono _ _ _ _ _ _
      | exact LeO.none _
      | refine LeO.ite ?_ ?_
      | refine LeO.bind ?_ (fun _ => ?_)
    · intro y0 y1 y2 y3 y4 y5 y6 y7 y8 y9
      unfold semblanceref53_Lines.l2
      repeat' first
      | (with_reducible exact ih0 _ _ _ _ _ _ _ _ _)
      | (with_reducible exact ih1 _ _ _ _ _ _ _ _ _)
      | (with_reducible exact ih2 _ _ _ _ _ _ _ _ _ _)
      | (with_reducible exact ih3 _ _ _ _ _ _ _ _ _)
      | (with_reducible exact ih4 _ _ _ _ _ _ _ _ _ _)
      | (with_reducible exact ih5 _ _ _ _ _ _ _ _ _ _)
      | (with_reducible exact ih6 _ _ _ _ _ _ _ _ _ _ _)
      | (with_reducible exact semblanceref01_Texts.mono _ _ _)
      | (with_reducible exact semblanceref08_Same.mono _ _ _)
      | (with_reducible exact semblanceref09_All.mono _ _ _)
      | (with_reducible exact semblanceref17_Place.mono _ _ _ _ _ _)
      | (with_reducible exact LeO.refl _)
      | (with_reducible exact LeO.none _)
      | (with_reducible refine LeO.ite ?_ ?_)
      | (with_reducible refine LeO.bind ?_ (fun _ => ?_))
      | exact ih0 _ _ _ _ _ _ _ _ _
      | exact ih1 _ _ _ _ _ _ _ _ _
      | exact ih2 _ _ _ _ _ _ _ _ _ _
      | exact ih3 _ _ _ _ _ _ _ _ _
      | exact ih4 _ _ _ _ _ _ _ _ _ _
      | exact ih5 _ _ _ _ _ _ _ _ _ _
      | exact ih6 _ _ _ _ _ _ _ _ _ _ _
      | exact semblanceref01_Texts.mono _ _ _
      | exact semblanceref08_Same.mono _ _ _
      | exact semblanceref09_All.mono _ _ _
      | exact semblanceref17_Place.mono _ _ _ _ _ _
      | exact LeO.none _
      | refine LeO.ite ?_ ?_
      | refine LeO.bind ?_ (fun _ => ?_)
    · intro y0 y1 y2 y3 y4 y5 y6 y7 y8 y9 y10
      unfold semblanceref53_Lines.l0
      repeat' first
      | (with_reducible exact ih0 _ _ _ _ _ _ _ _ _)
      | (with_reducible exact ih1 _ _ _ _ _ _ _ _ _)
      | (with_reducible exact ih2 _ _ _ _ _ _ _ _ _ _)
      | (with_reducible exact ih3 _ _ _ _ _ _ _ _ _)
      | (with_reducible exact ih4 _ _ _ _ _ _ _ _ _ _)
      | (with_reducible exact ih5 _ _ _ _ _ _ _ _ _ _)
      | (with_reducible exact ih6 _ _ _ _ _ _ _ _ _ _ _)
      | (with_reducible exact semblanceref01_Texts.mono _ _ _)
      | (with_reducible exact semblanceref08_Same.mono _ _ _)
      | (with_reducible exact semblanceref09_All.mono _ _ _)
      | (with_reducible exact semblanceref17_Place.mono _ _ _ _ _ _)
      | (with_reducible exact LeO.refl _)
      | (with_reducible exact LeO.none _)
      | (with_reducible refine LeO.ite ?_ ?_)
      | (with_reducible refine LeO.bind ?_ (fun _ => ?_))
      | exact ih0 _ _ _ _ _ _ _ _ _
      | exact ih1 _ _ _ _ _ _ _ _ _
      | exact ih2 _ _ _ _ _ _ _ _ _ _
      | exact ih3 _ _ _ _ _ _ _ _ _
      | exact ih4 _ _ _ _ _ _ _ _ _ _
      | exact ih5 _ _ _ _ _ _ _ _ _ _
      | exact ih6 _ _ _ _ _ _ _ _ _ _ _
      | exact semblanceref01_Texts.mono _ _ _
      | exact semblanceref08_Same.mono _ _ _
      | exact semblanceref09_All.mono _ _ _
      | exact semblanceref17_Place.mono _ _ _ _ _ _
      | exact LeO.none _
      | refine LeO.ite ?_ ?_
      | refine LeO.bind ?_ (fun _ => ?_)
theorem semblanceref53_Lines.mono : ∀ a0 a1 a2 a3 a4 a5 a6 a7 k, LeO (semblanceref53_Lines.f k a0 a1 a2 a3 a4 a5 a6 a7) (semblanceref53_Lines.f (k + 1) a0 a1 a2 a3 a4 a5 a6 a7) := by
  intro a0 a1 a2 a3 a4 a5 a6 a7 k
  obtain ⟨ih0, ih1, ih2, ih3, ih4, ih5, ih6⟩ := semblanceref53_Lines.mono_l k
  unfold semblanceref53_Lines.f
  repeat' first
      | (with_reducible exact ih0 _ _ _ _ _ _ _ _ _)
      | (with_reducible exact ih1 _ _ _ _ _ _ _ _ _)
      | (with_reducible exact ih2 _ _ _ _ _ _ _ _ _ _)
      | (with_reducible exact ih3 _ _ _ _ _ _ _ _ _)
      | (with_reducible exact ih4 _ _ _ _ _ _ _ _ _ _)
      | (with_reducible exact ih5 _ _ _ _ _ _ _ _ _ _)
      | (with_reducible exact ih6 _ _ _ _ _ _ _ _ _ _ _)
      | (with_reducible exact semblanceref01_Texts.mono _ _ _)
      | (with_reducible exact semblanceref08_Same.mono _ _ _)
      | (with_reducible exact semblanceref09_All.mono _ _ _)
      | (with_reducible exact semblanceref17_Place.mono _ _ _ _ _ _)
      | (with_reducible exact LeO.refl _)
      | (with_reducible exact LeO.none _)
      | (with_reducible refine LeO.ite ?_ ?_)
      | (with_reducible refine LeO.bind ?_ (fun _ => ?_))
      | exact ih0 _ _ _ _ _ _ _ _ _
      | exact ih1 _ _ _ _ _ _ _ _ _
      | exact ih2 _ _ _ _ _ _ _ _ _ _
      | exact ih3 _ _ _ _ _ _ _ _ _
      | exact ih4 _ _ _ _ _ _ _ _ _ _
      | exact ih5 _ _ _ _ _ _ _ _ _ _
      | exact ih6 _ _ _ _ _ _ _ _ _ _ _
      | exact semblanceref01_Texts.mono _ _ _
      | exact semblanceref08_Same.mono _ _ _
      | exact semblanceref09_All.mono _ _ _
      | exact semblanceref17_Place.mono _ _ _ _ _ _
      | exact LeO.none _
      | refine LeO.ite ?_ ?_
      | refine LeO.bind ?_ (fun _ => ?_)
def semblanceref53_Lines.T10 : Bool × List (List Nat × List Nat) := (true, [([], []), ([0], [0]), ([], []), ([1, 2], [1, 2]), ([3], [3]), ([], []), ([5], [5]), ([], []), ([6, 7], [6, 7]), ([8], [8]), ([4, 9], [4, 9]), ([10, 0, 1, 2, 3, 4, 5, 6, 7, 8, 9, 10], [10])])
def semblanceref53_Lines.B10 : List Nat := [0, 1, 0, 7, 15, 0, 32, 0, 224, 480, 1023, 2047]
theorem semblanceref53_Lines.tab10 : rtab .any (opsOf Try.f32 10) = semblanceref53_Lines.T10 := by kernel_rfl
theorem semblanceref53_Lines.bits10 : waitsOk semblanceref53_Lines.T10.2 semblanceref53_Lines.B10 = true := by kernel_rfl
def semblanceref53_Lines.T21 : Bool × List (List Nat × List Nat) := (true, [([], []), ([0], [0]), ([], []), ([2], [2]), ([1, 3], [1, 3]), ([4], [4]), ([5], [5]), ([5], [5]), ([6, 7, 5, 5], [5, 6, 7]), ([5], [5]), ([5], [5]), ([9, 10, 8, 5], [5, 9, 10]), ([8, 11, 5], [5, 8, 11]), ([5, 12], [5, 12]), ([13, 11], [13]), ([14], [14]), ([15, 14], [14, 15]), ([14], [14]), ([17, 14], [14, 17]), ([16, 18, 14, 14], [14, 16, 18]), ([19, 14], [14, 19]), ([14, 20], [14, 20]), ([21, 19], [21]), ([22], [22]), ([23, 22], [22, 23]), ([22], [22]), ([25, 22], [22, 25]), ([24, 26, 22, 22], [22, 24, 26]), ([27, 22], [22, 27]), ([22, 28], [22, 28]), ([29, 27], [29]), ([30], [30]), ([31, 30], [30, 31]), ([30], [30]), ([33, 30], [30, 33]), ([32, 34, 30, 30], [30, 32, 34]), ([35, 30], [30, 35]), ([30, 36], [30, 36])])
def semblanceref53_Lines.B21 : List Nat := [0, 1, 0, 4, 15, 31, 63, 63, 255, 63, 63, 2047, 4095, 8191, 16383, 32767, 65535, 32767, 163839, 524287, 1048575, 2097151, 4194303, 8388607, 16777215, 8388607, 41943039, 134217727, 268435455, 536870911, 1073741823, 2147483647, 4294967295, 2147483647, 10737418239, 34359738367, 68719476735, 137438953471]
theorem semblanceref53_Lines.tab21 : rtab .any (opsOf Try.f32 21) = semblanceref53_Lines.T21 := by kernel_rfl
theorem semblanceref53_Lines.bits21 : waitsOk semblanceref53_Lines.T21.2 semblanceref53_Lines.B21 = true := by kernel_rfl
def semblanceref53_Lines.T26 : Bool × List (List Nat × List Nat) := (true, [([], []), ([], []), ([1], [1]), ([], []), ([2, 3], [2, 3]), ([4], [4]), ([5], [5]), ([0, 6], [0, 6]), ([7], [7])])
def semblanceref53_Lines.B26 : List Nat := [0, 0, 2, 0, 14, 30, 62, 127, 255]
theorem semblanceref53_Lines.tab26 : rtab .any (opsOf Try.f32 26) = semblanceref53_Lines.T26 := by kernel_rfl
theorem semblanceref53_Lines.bits26 : waitsOk semblanceref53_Lines.T26.2 semblanceref53_Lines.B26 = true := by kernel_rfl
abbrev bw23_0 : Array Bool := #[false, false, false, false, false, false, false, false, false, false, false, false]
abbrev bw23_1 : Array Bool := #[true, false, false, false, false, false, false, false, false, false, false, false]
abbrev bw23_2 : Array Bool := #[true, false, true, false, false, false, false, false, false, false, false, false]
abbrev bw23_3 : Array Bool := #[true, false, true, false, false, true, false, false, false, false, false, false]
abbrev bw23_4 : Array Bool := #[true, false, true, false, false, true, false, true, false, false, false, false]
abbrev bw23_5 : Array Bool := #[true, true, true, false, false, true, false, true, false, false, false, false]
abbrev bw23_6 : Array Bool := #[true, true, true, true, false, true, false, true, false, false, false, false]
abbrev bw23_7 : Array Bool := #[true, true, true, true, true, true, false, true, false, false, false, false]
abbrev bw23_8 : Array Bool := #[true, true, true, true, true, true, true, true, false, false, false, false]
abbrev bw23_9 : Array Bool := #[true, true, true, true, true, true, true, true, true, false, false, false]
abbrev bw23_10 : Array Bool := #[true, true, true, true, true, true, true, true, true, true, false, false]
abbrev bw23_11 : Array Bool := #[true, true, true, true, true, true, true, true, true, true, true, false]
abbrev bw23_12 : Array Bool := #[true, true, true, true, true, true, true, true, true, true, true, true]
abbrev bw23_13 : Array Bool := #[false, false, false, false, false, false, false, false, false]
abbrev bw23_14 : Array Bool := #[false, true, false, false, false, false, false, false, false]
abbrev bw23_15 : Array Bool := #[false, true, false, true, false, false, false, false, false]
abbrev bw23_16 : Array Bool := #[true, true, false, true, false, false, false, false, false]
abbrev bw23_17 : Array Bool := #[true, true, true, true, false, false, false, false, false]
abbrev bw23_18 : Array Bool := #[true, true, true, true, true, false, false, false, false]
abbrev bw23_19 : Array Bool := #[true, true, true, true, true, true, false, false, false]
abbrev bw23_20 : Array Bool := #[true, true, true, true, true, true, true, false, false]
abbrev bw23_21 : Array Bool := #[true, true, true, true, true, true, true, true, false]
abbrev bw23_22 : Array Bool := #[true, true, true, true, true, true, true, true, true]
abbrev bw23_23 : Array Bool := #[false, false, false, false, false, false, false, false, false, false, false, false, false, false, false, false, false, false, false, false, false, false, false, false, false, false, false, false, false, false, false, false, false, false, false, false, false, false]
abbrev bw23_24 : Array Bool := #[true, false, false, false, false, false, false, false, false, false, false, false, false, false, false, false, false, false, false, false, false, false, false, false, false, false, false, false, false, false, false, false, false, false, false, false, false, false]
abbrev bw23_25 : Array Bool := #[true, false, true, false, false, false, false, false, false, false, false, false, false, false, false, false, false, false, false, false, false, false, false, false, false, false, false, false, false, false, false, false, false, false, false, false, false, false]
abbrev bw23_26 : Array Bool := #[true, true, true, false, false, false, false, false, false, false, false, false, false, false, false, false, false, false, false, false, false, false, false, false, false, false, false, false, false, false, false, false, false, false, false, false, false, false]
abbrev bw23_27 : Array Bool := #[true, true, true, true, false, false, false, false, false, false, false, false, false, false, false, false, false, false, false, false, false, false, false, false, false, false, false, false, false, false, false, false, false, false, false, false, false, false]
abbrev bw23_28 : Array Bool := #[true, true, true, true, true, false, false, false, false, false, false, false, false, false, false, false, false, false, false, false, false, false, false, false, false, false, false, false, false, false, false, false, false, false, false, false, false, false]
abbrev bw23_29 : Array Bool := #[true, true, true, true, true, true, false, false, false, false, false, false, false, false, false, false, false, false, false, false, false, false, false, false, false, false, false, false, false, false, false, false, false, false, false, false, false, false]
abbrev bw23_30 : Array Bool := #[true, true, true, true, true, true, true, false, false, false, false, false, false, false, false, false, false, false, false, false, false, false, false, false, false, false, false, false, false, false, false, false, false, false, false, false, false, false]
abbrev bw23_31 : Array Bool := #[true, true, true, true, true, true, true, true, false, false, false, false, false, false, false, false, false, false, false, false, false, false, false, false, false, false, false, false, false, false, false, false, false, false, false, false, false, false]
abbrev bw23_32 : Array Bool := #[true, true, true, true, true, true, true, true, true, false, false, false, false, false, false, false, false, false, false, false, false, false, false, false, false, false, false, false, false, false, false, false, false, false, false, false, false, false]
abbrev bw23_33 : Array Bool := #[true, true, true, true, true, true, true, true, true, true, false, false, false, false, false, false, false, false, false, false, false, false, false, false, false, false, false, false, false, false, false, false, false, false, false, false, false, false]
abbrev bw23_34 : Array Bool := #[true, true, true, true, true, true, true, true, true, true, true, false, false, false, false, false, false, false, false, false, false, false, false, false, false, false, false, false, false, false, false, false, false, false, false, false, false, false]
abbrev bw23_35 : Array Bool := #[true, true, true, true, true, true, true, true, true, true, true, true, false, false, false, false, false, false, false, false, false, false, false, false, false, false, false, false, false, false, false, false, false, false, false, false, false, false]
abbrev bw23_36 : Array Bool := #[true, true, true, true, true, true, true, true, true, true, true, true, true, false, false, false, false, false, false, false, false, false, false, false, false, false, false, false, false, false, false, false, false, false, false, false, false, false]
abbrev bw23_37 : Array Bool := #[true, true, true, true, true, true, true, true, true, true, true, true, true, true, false, false, false, false, false, false, false, false, false, false, false, false, false, false, false, false, false, false, false, false, false, false, false, false]
abbrev bw23_38 : Array Bool := #[true, true, true, true, true, true, true, true, true, true, true, true, true, true, true, false, false, false, false, false, false, false, false, false, false, false, false, false, false, false, false, false, false, false, false, false, false, false]
abbrev bw23_39 : Array Bool := #[true, true, true, true, true, true, true, true, true, true, true, true, true, true, true, true, false, false, false, false, false, false, false, false, false, false, false, false, false, false, false, false, false, false, false, false, false, false]
abbrev bw23_40 : Array Bool := #[true, true, true, true, true, true, true, true, true, true, true, true, true, true, true, true, true, false, false, false, false, false, false, false, false, false, false, false, false, false, false, false, false, false, false, false, false, false]
abbrev bw23_41 : Array Bool := #[true, true, true, true, true, true, true, true, true, true, true, true, true, true, true, true, true, true, false, false, false, false, false, false, false, false, false, false, false, false, false, false, false, false, false, false, false, false]
abbrev bw23_42 : Array Bool := #[true, true, true, true, true, true, true, true, true, true, true, true, true, true, true, true, true, true, true, false, false, false, false, false, false, false, false, false, false, false, false, false, false, false, false, false, false, false]
abbrev bw23_43 : Array Bool := #[true, true, true, true, true, true, true, true, true, true, true, true, true, true, true, true, true, true, true, true, false, false, false, false, false, false, false, false, false, false, false, false, false, false, false, false, false, false]
abbrev bw23_44 : Array Bool := #[true, true, true, true, true, true, true, true, true, true, true, true, true, true, true, true, true, true, true, true, true, false, false, false, false, false, false, false, false, false, false, false, false, false, false, false, false, false]
abbrev bw23_45 : Array Bool := #[true, true, true, true, true, true, true, true, true, true, true, true, true, true, true, true, true, true, true, true, true, true, false, false, false, false, false, false, false, false, false, false, false, false, false, false, false, false]
abbrev bw23_46 : Array Bool := #[true, true, true, true, true, true, true, true, true, true, true, true, true, true, true, true, true, true, true, true, true, true, true, false, false, false, false, false, false, false, false, false, false, false, false, false, false, false]
abbrev bw23_47 : Array Bool := #[true, true, true, true, true, true, true, true, true, true, true, true, true, true, true, true, true, true, true, true, true, true, true, true, false, false, false, false, false, false, false, false, false, false, false, false, false, false]
abbrev bw23_48 : Array Bool := #[true, true, true, true, true, true, true, true, true, true, true, true, true, true, true, true, true, true, true, true, true, true, true, true, true, false, false, false, false, false, false, false, false, false, false, false, false, false]
abbrev bw23_49 : Array Bool := #[true, true, true, true, true, true, true, true, true, true, true, true, true, true, true, true, true, true, true, true, true, true, true, true, true, true, false, false, false, false, false, false, false, false, false, false, false, false]
abbrev bw23_50 : Array Bool := #[true, true, true, true, true, true, true, true, true, true, true, true, true, true, true, true, true, true, true, true, true, true, true, true, true, true, true, false, false, false, false, false, false, false, false, false, false, false]
abbrev bw23_51 : Array Bool := #[true, true, true, true, true, true, true, true, true, true, true, true, true, true, true, true, true, true, true, true, true, true, true, true, true, true, true, true, false, false, false, false, false, false, false, false, false, false]
abbrev bw23_52 : Array Bool := #[true, true, true, true, true, true, true, true, true, true, true, true, true, true, true, true, true, true, true, true, true, true, true, true, true, true, true, true, true, false, false, false, false, false, false, false, false, false]
abbrev bw23_53 : Array Bool := #[true, true, true, true, true, true, true, true, true, true, true, true, true, true, true, true, true, true, true, true, true, true, true, true, true, true, true, true, true, true, false, false, false, false, false, false, false, false]
abbrev bw23_54 : Array Bool := #[true, true, true, true, true, true, true, true, true, true, true, true, true, true, true, true, true, true, true, true, true, true, true, true, true, true, true, true, true, true, true, false, false, false, false, false, false, false]
abbrev bw23_55 : Array Bool := #[true, true, true, true, true, true, true, true, true, true, true, true, true, true, true, true, true, true, true, true, true, true, true, true, true, true, true, true, true, true, true, true, false, false, false, false, false, false]
abbrev bw23_56 : Array Bool := #[true, true, true, true, true, true, true, true, true, true, true, true, true, true, true, true, true, true, true, true, true, true, true, true, true, true, true, true, true, true, true, true, true, false, false, false, false, false]
abbrev bw23_57 : Array Bool := #[true, true, true, true, true, true, true, true, true, true, true, true, true, true, true, true, true, true, true, true, true, true, true, true, true, true, true, true, true, true, true, true, true, true, false, false, false, false]
abbrev bw23_58 : Array Bool := #[true, true, true, true, true, true, true, true, true, true, true, true, true, true, true, true, true, true, true, true, true, true, true, true, true, true, true, true, true, true, true, true, true, true, true, false, false, false]
abbrev bw23_59 : Array Bool := #[true, true, true, true, true, true, true, true, true, true, true, true, true, true, true, true, true, true, true, true, true, true, true, true, true, true, true, true, true, true, true, true, true, true, true, true, false, false]
abbrev bw23_60 : Array Bool := #[true, true, true, true, true, true, true, true, true, true, true, true, true, true, true, true, true, true, true, true, true, true, true, true, true, true, true, true, true, true, true, true, true, true, true, true, true, false]
abbrev bw23_61 : Array Bool := #[true, true, true, true, true, true, true, true, true, true, true, true, true, true, true, true, true, true, true, true, true, true, true, true, true, true, true, true, true, true, true, true, true, true, true, true, true, true]
abbrev bw23_62 : Array Bool := #[true, true, true, true, true, true, false, true, false, false, false, false, false, false, false, false, false, false, false, false, false, false, false, false, false, false, false, false, false, false, false, false, false, false, false, false, false, false]
abbrev bw23_63 : Array Bool := #[true, true, true, true, true, true, false, true, false, false, true, false, false, false, false, false, false, false, false, false, false, false, false, false, false, false, false, false, false, false, false, false, false, false, false, false, false, false]
abbrev bw23_64 : Array Bool := #[true, true, true, true, true, true, true, true, false, false, true, false, false, false, false, false, false, false, false, false, false, false, false, false, false, false, false, false, false, false, false, false, false, false, false, false, false, false]
abbrev bw23_65 : Array Bool := #[true, true, true, true, true, true, true, true, false, true, true, false, false, false, false, false, false, false, false, false, false, false, false, false, false, false, false, false, false, false, false, false, false, false, false, false, false, false]
abbrev bw23_66 : Array Bool := #[true, true, true, true, true, true, true, true, true, true, true, true, true, true, true, true, false, true, false, false, false, false, false, false, false, false, false, false, false, false, false, false, false, false, false, false, false, false]
abbrev bw23_67 : Array Bool := #[true, true, true, true, true, true, true, true, true, true, true, true, true, true, true, true, true, true, true, true, true, true, true, true, false, true, false, false, false, false, false, false, false, false, false, false, false, false]
abbrev bw23_68 : Array Bool := #[true, true, true, true, true, true, true, true, true, true, true, true, true, true, true, true, true, true, true, true, true, true, true, true, true, true, true, true, true, true, true, true, false, true, false, false, false, false]
theorem hc23_ {w W : World} {a : Addr} {v : Value} (hb : Below w.heap.size w W) (h : w.cell? a = some v) : W.cell? a = some v := (hb.cell (World.block_lt_of_cell? w _ h)).trans h
theorem bz23_ {W W2 w : World} (_ : Below W.heap.size W W2) (h : Below w.heap.size w W) : Below w.heap.size w W := h
set_option maxHeartbeats 8000000 in
set_option maxRecDepth 100000 in
theorem semblanceref53_Lines.calls (k : Nat) (a0_0 : ByteArray) (A0_1 : Option Addr) (c0_1 : Nat) (l0_1 : List ByteArray) (A0_2 : Option Addr) (c0_2 : Nat) (l0_2 : List (S95)) (A0_3 : Option Addr) (c0_3 : Nat) (l0_3 : List (S99)) (a1_0 : ByteArray) (A1_1 : Option Addr) (c1_1 : Nat) (l1_1 : List ByteArray) (A1_2 : Option Addr) (c1_2 : Nat) (l1_2 : List (S95)) (A1_3 : Option Addr) (c1_3 : Nat) (l1_3 : List (S99)) (r : List ByteArray) (w : World) (hr0_1 : Kd.C Kd.string w A0_1 l0_1.length l0_1) (hc0_1 : l0_1.length ≤ c0_1) (hr0_2 : Kd.C k95 w A0_2 l0_2.length l0_2) (hc0_2 : l0_2.length ≤ c0_2) (hr0_3 : Kd.C k99 w A0_3 l0_3.length l0_3) (hc0_3 : l0_3.length ≤ c0_3) (hr1_1 : Kd.C Kd.string w A1_1 l1_1.length l1_1) (hc1_1 : l1_1.length ≤ c1_1) (hr1_2 : Kd.C k95 w A1_2 l1_2.length l1_2) (hc1_2 : l1_2.length ≤ c1_2) (hr1_3 : Kd.C k99 w A1_3 l1_3.length l1_3) (hc1_3 : l1_3.length ≤ c1_3) (h : semblanceref53_Lines.f k a0_0 l0_1 l0_2 l0_3 a1_0 l1_1 l1_2 l1_3 = some r) :
  Calls Try.prog 32 #[.agg #[.string a0_0, .slice A0_1 l0_1.length c0_1, .slice A0_2 l0_2.length c0_2, .slice A0_3 l0_3.length c0_3], .agg #[.string a1_0, .slice A1_1 l1_1.length c1_1, .slice A1_2 l1_2.length c1_2, .slice A1_3 l1_3.length c1_3]] w fun e w' => ∃ v0_ : Value, e = .returned (v0_) ∧ Kd.R Kd.string 9 w' w.heap.size (fun _ => True) v0_ r ∧ Below w.heap.size w w' := by
 have hu59 := Try.underlying59
 have hu95 := Try.underlying95
 have hu99 := Try.underlying99
 have HR0_1 := Aside0.mk hr0_1
 have HC0_1 := Aside0.mk hc0_1
 clear hr0_1 hc0_1
 have HR0_2 := Aside0.mk hr0_2
 have HC0_2 := Aside0.mk hc0_2
 clear hr0_2 hc0_2
 have HR0_3 := Aside0.mk hr0_3
 have HC0_3 := Aside0.mk hc0_3
 clear hr0_3 hc0_3
 have HR1_1 := Aside0.mk hr1_1
 have HC1_1 := Aside0.mk hc1_1
 clear hr1_1 hc1_1
 have HR1_2 := Aside0.mk hr1_2
 have HC1_2 := Aside0.mk hc1_2
 clear hr1_2 hc1_2
 have HR1_3 := Aside0.mk hr1_3
 have HC1_3 := Aside0.mk hc1_3
 clear hr1_3 hc1_3
 have HB := Aside0.mk (Below.refl w.heap.size w)
 have H : ((some (([] : List ByteArray) : List ByteArray)).bind fun y252 => (if a0_0.toList = a1_0.toList then (semblanceref53_Lines.j0 k y252 a0_0 l0_1 l0_2 l0_3 a1_0 l1_1 l1_2 l1_3) else (if y252.length < 8796093022208 then (semblanceref53_Lines.j0 k (y252 ++ [(⟨#[110, 97, 109, 101]⟩ : ByteArray)]) a0_0 l0_1 l0_2 l0_3 a1_0 l1_1 l1_2 l1_3) else (none)))) = some r := h
 clear h
 obtain ⟨y252, hy252⟩ : ∃ y_ : List ByteArray, y_ = (([] : List ByteArray)) := ⟨_, rfl⟩
 replace H : (if a0_0.toList = a1_0.toList then (semblanceref53_Lines.j0 k y252 a0_0 l0_1 l0_2 l0_3 a1_0 l1_1 l1_2 l1_3) else (if y252.length < 8796093022208 then (semblanceref53_Lines.j0 k (y252 ++ [(⟨#[110, 97, 109, 101]⟩ : ByteArray)]) a0_0 l0_1 l0_2 l0_3 a1_0 l1_1 l1_2 l1_3) else (none))) = some r := by first | (rw [hy252]; with_reducible exact H) | (have H2_ := (Option.bind_some _ _).symm.trans H; rw [hy252]; with_reducible exact H2_) | (have H2_ := (Option.bind_some _ _).symm.trans H; with_reducible exact H2_) | with_reducible exact H | (rw [hy252]; exact H) | exact H
 have Ny252 := Aside0.mk hy252
 clear hy252
 have HC3 := Aside0.mk H
 clear H
 go_enter Try.func32, Try.ntmps32
 go_upto_if 18 with (first | ((with_reducible refine gate_dst (N := 2) rfl ?_); refine box_event ?hg (N := 2) ?hd (cs := #[.string a0_0, .slice A0_1 l0_1.length c0_1, .slice A0_2 l0_2.length c0_2, .slice A0_3 l0_3.length c0_3]) (t := 59) ?hr ?_; (case hd => rfl); (case hg => rfl); (case hr => first | (go_simp; done) | (go_simp; rfl)); intro gb250 hg w4 hbox hb; have hB_ := bz23_ hb (brw HB.out); have n0_ := Aside0.mk (below_step hB_ hb); have n1_ := Aside0.mk (hbox); have n2_ := Aside0.mk ((by rw [hg]; exact (below_size hB_) : w.heap.size ≤ gb250)); have n3_ := Aside0.mk ((by rw [hg]; exact (below_size hB_) : w.heap.size ≤ gb250)); clear HB; have HB := n0_; have BK250 := n1_; have GW250 := n2_; have GE250 := n3_; clear n0_ n1_ n2_ n3_; clear hb hbox hg) | ((with_reducible refine gate_dst (N := 3) rfl ?_); refine box_event ?hg (N := 3) ?hd (cs := #[.string a1_0, .slice A1_1 l1_1.length c1_1, .slice A1_2 l1_2.length c1_2, .slice A1_3 l1_3.length c1_3]) (t := 59) ?hr ?_; (case hd => rfl); (case hg => rfl); (case hr => first | (go_simp; done) | (go_simp; rfl)); intro gb251 hg w5 hbox hb; have hB_ := bz23_ hb (by repeat (first | (with_reducible first | exact HB.out | apply below_alloc | apply pw_below_drewN | apply below_drew1 | refine below_set ?_ GE250.out) | exact HB.out)); have n0_ := Aside0.mk (blk_below (grw BK250.out) hb); have n1_ := Aside0.mk (below_step hB_ hb); have n2_ := Aside0.mk (hbox); have n3_ := Aside0.mk ((by rw [hg]; exact (below_size hB_) : w.heap.size ≤ gb251)); have n4_ := Aside0.mk ((by rw [hg]; exact (below_size hB_) : w.heap.size ≤ gb251)); have n5_ := Aside0.mk ((by rw [hg]; exact Nat.ne_of_lt (blk_lt (grw BK250.out)) : gb250 ≠ gb251)); have n6_ := Aside0.mk ((by rw [hg]; exact Nat.ne_of_gt (blk_lt (grw BK250.out)) : gb251 ≠ gb250)); clear BK250; clear HB; have BK250 := n0_; have HB := n1_; have BK251 := n2_; have GW251 := n3_; have GE251 := n4_; have NB250_251 := n5_; have NB251_250 := n6_; clear n0_ n1_ n2_ n3_ n4_ n5_ n6_; clear hb hbox hg) | ((with_reducible refine gate_dst (N := 13) rfl ?_); refine Kd.R_lit Kd.string _ 9 ?hg (N := 13) ?hd (xs := ([] : List ByteArray)) (inner := []) (ok := fun _ => True) (okp := fun _ => True) ?hr ?hp (fun _ hk => hk) trivial (Below.refl _ _) (Nat.le_refl _) (by simp) ?_; (case hd => rfl); (case hg => rfl); (case hr => first | (go_simp; done) | (go_simp; rfl)); (case hp => exact (Reps.none _ _)); intro v253 w6 ho7 hb hg_ hnew_; clear hg_ hnew_; (first | rw [← Ny252.out] at ho7 | (simp only [Int.reduceToNat] at ho7; rw [← Ny252.out] at ho7)); have n0_ := Aside0.mk (Kd.R_lower ho7 (below_size (by repeat (first | (with_reducible first | exact HB.out | apply below_alloc | apply pw_below_drewN | apply below_drew1 | refine below_set ?_ GE250.out | refine below_set ?_ GE251.out) | exact HB.out)))); have n1_ := Aside0.mk (blk_below (grw BK250.out) hb); have n2_ := Aside0.mk (blk_below (grw BK251.out) hb); have n3_ := Aside0.mk (below_step (by repeat (first | (with_reducible first | exact HB.out | apply below_alloc | apply pw_below_drewN | apply below_drew1 | refine below_set ?_ GE250.out | refine below_set ?_ GE251.out) | exact HB.out)) hb); clear BK250; clear BK251; clear HB; have HO254 := n0_; have BK250 := n1_; have BK251 := n2_; have HB := n3_; clear n0_ n1_ n2_ n3_; clear hb ho7; have hnb8 := NB250_251.out; have hnc8 := NB251_250.out; obtain ⟨hcz9_0, hcz9_1, hcz9_2, hcz9_3⟩ := cz4_ BK250.out; obtain ⟨hfz9_0, hfz9_1, hfz9_2, hfz9_3⟩ := cf4_ BK250.out; obtain ⟨hcz10_0, hcz10_1, hcz10_2, hcz10_3⟩ := cz4_ BK251.out; obtain ⟨hfz10_0, hfz10_1, hfz10_2, hfz10_3⟩ := cf4_ BK251.out))
 (try simp only [Act.put, sb_, s0_, s1_])
 go_cut [5] (fun v5 wc => ∃ (kq : Nat) (x5_2 : List ByteArray), Aside0 (semblanceref53_Lines.j0 kq x5_2 a0_0 l0_1 l0_2 l0_3 a1_0 l1_1 l1_2 l1_3 = some r) ∧ Aside0 (kq ≤ k) ∧ Aside0 (Kd.R Kd.string 9 wc w.heap.size (fun _ => True) v5 x5_2) ∧ Aside0 (wc.heap[gb250]? = some (.cells #[.string a0_0, (.slice A0_1 l0_1.length c0_1), (.slice A0_2 l0_2.length c0_2), (.slice A0_3 l0_3.length c0_3)] 59 (0, 0))) ∧ Aside0 (wc.heap[gb251]? = some (.cells #[.string a1_0, (.slice A1_1 l1_1.length c1_1), (.slice A1_2 l1_2.length c1_2), (.slice A1_3 l1_3.length c1_3)] 59 (0, 0))) ∧ Aside0 (Below w.heap.size w wc))
 case first =>
  have H := HC3.out
  clear HC3
  by_cases c11 : a0_0.toList = a1_0.toList
  ·rw [if_pos c11] at H
   have c11b0 : (a0_0.toList == a1_0.toList) = true := beq_iff_eq.mpr c11
   have c11b1 : (a0_0.toList != a1_0.toList) = false := bne_eq_false_iff_eq.mpr c11
   clear c11
   (first | rw [c11b0] | (simp only [i64_w, i32_w]; rw [c11b0]) | skip)
   have H' := Aside0.mk H
   clear H
   as_aux_lemma =>
    go_wp2
    go_meet
    case rel => exact ⟨_, (y252), H', ⟨by first | omega | exact Nat.le_refl _⟩, ⟨by (with_reducible repeat (first | apply Kd.R_alloc | apply Kd.R_drewN | apply Kd.R_drew)); exact HO254.out⟩, ⟨grw BK250.out⟩, ⟨grw BK251.out⟩, ⟨by repeat (first | (with_reducible first | exact HB.out | apply below_alloc | apply pw_below_drewN | apply below_drew1 | refine below_set ?_ GE250.out | refine below_set ?_ GE251.out) | exact HB.out)⟩⟩
  rw [if_neg c11] at H
  have c11b0 : (a0_0.toList == a1_0.toList) = false := beq_eq_false_iff_ne.mpr c11
  have c11b1 : (a0_0.toList != a1_0.toList) = true := bne_iff_ne.mpr c11
  (first | rw [c11b0] | (simp only [i64_w, i32_w]; rw [c11b0]) | skip)
  by_cases c12 : y252.length < 8796093022208
  rotate_left
  ·rw [if_neg c12] at H
   exact absurd H (by simp)
  rw [if_pos c12] at H
  have LMc12 := Aside0.mk c12
  clear c12
  obtain ⟨y255, hy255⟩ : ∃ y_ : List ByteArray, y_ = (y252 ++ [(⟨#[110, 97, 109, 101]⟩ : ByteArray)]) := ⟨_, rfl⟩
  replace H : (semblanceref53_Lines.j0 k y255 a0_0 l0_1 l0_2 l0_3 a1_0 l1_1 l1_2 l1_3) = some r := by first | (rw [hy255]; with_reducible exact H) | (have H2_ := (Option.bind_some _ _).symm.trans H; rw [hy255]; with_reducible exact H2_) | (have H2_ := (Option.bind_some _ _).symm.trans H; with_reducible exact H2_) | with_reducible exact H | (rw [hy255]; exact H) | exact H
  have Ny255 := Aside0.mk hy255
  clear hy255
  have H' := Aside0.mk H
  clear H
  as_aux_lemma =>
   go_wp2_with (first | ((with_reducible refine gate_builtin (b := .append) (xs := #[.tmp 19, .tmp 20]) rfl ?_); at_builtin; refine Kd.R_append Kd.string (w0 := w) w.heap.size rfl (.tmp 19) (.tmp 20) 55 9 (.string ⟨#[]⟩) 16 rfl Try.underlying55 info9 rfl (by decide) (by omega) v253 y252 (⟨#[110, 97, 109, 101]⟩ : ByteArray) [.string (⟨#[110, 97, 109, 101]⟩ : ByteArray)] (fun _ => True) (fun _ => False) rfl rfl ?aP (fun _ hk => hk.elim) ?aF ?aO ?aB ?aS ?aL ?_; (case aP => exact rfl); (case aB => exact (by repeat (first | (with_reducible first | exact HB.out | apply below_alloc | apply pw_below_drewN | apply below_drew1 | refine below_set ?_ GE250.out | refine below_set ?_ GE251.out) | exact HB.out))); (case aF => exact (fun _ _ => trivial)); (case aO => exact (by (with_reducible repeat (first | apply Kd.R_alloc | apply Kd.R_drewN | apply Kd.R_drew)); exact HO254.out)); (case aS => exact (below_size (by repeat (first | (with_reducible first | exact HB.out | apply below_alloc | apply pw_below_drewN | apply below_drew1 | refine below_set ?_ GE250.out | refine below_set ?_ GE251.out) | exact HB.out)))); (case aL => have := LMc12.out; omega); intro v256 w13 ho hb hg hat; rw [← Ny255.out] at ho; have n0_ := Aside0.mk (blk_grown (grw BK250.out) hg (Kd.R_ne HO254.out BK250.out (by decide))); have n1_ := Aside0.mk (blk_grown (grw BK251.out) hg (Kd.R_ne HO254.out BK251.out (by decide))); have n2_ := Aside0.mk (hb); have n3_ := Aside0.mk (ho); clear BK250; clear BK251; clear HB; clear HO254; have BK250 := n0_; have BK251 := n1_; have HB := n2_; have HO257 := n3_; clear n0_ n1_ n2_ n3_; clear ho hb hg hat))
   go_meet
   case rel => exact ⟨_, (y255), H', ⟨by first | omega | exact Nat.le_refl _⟩, ⟨by (with_reducible repeat (first | apply Kd.R_alloc | apply Kd.R_drewN | apply Kd.R_drew)); exact HO257.out⟩, ⟨grw BK250.out⟩, ⟨grw BK251.out⟩, ⟨by repeat (first | (with_reducible first | exact HB.out | apply below_alloc | apply pw_below_drewN | apply below_drew1 | refine below_set ?_ GE250.out | refine below_set ?_ GE251.out) | exact HB.out)⟩⟩
 case rest =>
  clear HC3
  try clear c1
  try clear p2
  try clear c3
  try clear c8
  try clear c11
  try clear c11b0
  try clear c11b1
  try clear c12
  try clear hcz10_0 hcz10_1 hcz10_2 hcz10_3
  try clear hcz9_0 hcz9_1 hcz9_2 hcz9_3
  try clear hfz10_0 hfz10_1 hfz10_2 hfz10_3
  try clear hfz9_0 hfz9_1 hfz9_2 hfz9_3
  obtain ⟨kq, x5_2, HA, HJ2, HO_5, BK250, BK251, HB⟩ := hcut
  cases kq with
  | zero => exact absurd HA.out (by simp [semblanceref53_Lines.j0])
  | succ kj2 =>
   have H := HA.out
   clear HA
   simp only [semblanceref53_Lines.j0] at H
   replace H := Option.bind_eq_some_iff.mp H
   obtain ⟨t258, A140, H⟩ := H
   replace H : (if t258 = true then (semblanceref53_Lines.j1 kj2 x5_2 a0_0 l0_1 l0_2 l0_3 a1_0 l1_1 l1_2 l1_3) else (if x5_2.length < 8796093022208 then (semblanceref53_Lines.j1 kj2 (x5_2 ++ [(⟨#[101, 118, 101, 110, 116, 115]⟩ : ByteArray)]) a0_0 l0_1 l0_2 l0_3 a1_0 l1_1 l1_2 l1_3) else (none))) = some r := H
   have A14 := Aside0.mk A140
   clear A140
   have HC15 := Aside0.mk H
   clear H
   have hnb16 := NB250_251.out
   have hnc16 := NB251_250.out
   obtain ⟨hcz17_0, hcz17_1, hcz17_2, hcz17_3⟩ := cz4_ BK250.out
   obtain ⟨hfz17_0, hfz17_1, hfz17_2, hfz17_3⟩ := cf4_ BK250.out
   obtain ⟨hcz18_0, hcz18_1, hcz18_2, hcz18_3⟩ := cz4_ BK251.out
   obtain ⟨hfz18_0, hfz18_1, hfz18_2, hfz18_3⟩ := cf4_ BK251.out
   go_upto_if 27 with (first | ((with_reducible refine gate_callee (f := 31) rfl ?_); refine goesL_ (some 26) rfl rfl Try.func31 (by kernel_rfl) rfl #[.slice A0_1 l0_1.length c0_1, .slice A1_1 l1_1.length c1_1] rfl (by (try simp only [List.map_toArray, List.map_cons, List.map_nil]); first | done | rfl | (simp only [List.length_drop, List.length_take]; rfl)) ?_; (with_reducible refine (semblanceref01_Texts.calls kj2 _ _ l0_1 _ _ l1_1 t258 _ ?side1 ?side2 ?side3 ?side4 A14.out).mono ?_); (case side1 => repeat (first | exact (Kd.C_below HR0_1.out HB.out) | (with_reducible refine Kd.C_alloc ?_ _) | (with_reducible refine Kd.C_drewN ?_ _) | (with_reducible refine Kd.C_drew ?_))); (case side2 => exact HC0_1.out); (case side3 => repeat (first | exact (Kd.C_below HR1_1.out HB.out) | (with_reducible refine Kd.C_alloc ?_ _) | (with_reducible refine Kd.C_drewN ?_ _) | (with_reducible refine Kd.C_drew ?_))); (case side4 => exact HC1_1.out); rintro e w' ⟨rfl, ⟨nd, rfl⟩⟩; refine ⟨_, rfl, ?_⟩))
   (try simp only [Act.put, sb_, s0_, s1_])
   go_cut [5] (fun v5 wc => ∃ (kq : Nat) (x5_14 : List ByteArray), Aside0 (semblanceref53_Lines.j1 kq x5_14 a0_0 l0_1 l0_2 l0_3 a1_0 l1_1 l1_2 l1_3 = some r) ∧ Aside0 (kq ≤ kj2) ∧ Aside0 (Kd.R Kd.string 9 wc w.heap.size (fun _ => True) v5 x5_14) ∧ Aside0 (wc.heap[gb250]? = some (.cells #[.string a0_0, (.slice A0_1 l0_1.length c0_1), (.slice A0_2 l0_2.length c0_2), (.slice A0_3 l0_3.length c0_3)] 59 (0, 0))) ∧ Aside0 (wc.heap[gb251]? = some (.cells #[.string a1_0, (.slice A1_1 l1_1.length c1_1), (.slice A1_2 l1_2.length c1_2), (.slice A1_3 l1_3.length c1_3)] 59 (0, 0))) ∧ Aside0 (Below w.heap.size w wc))
   case first =>
    have H := HC15.out
    clear HC15
    by_cases c19 : t258 = true
    ·subst c19
     have H1 : (semblanceref53_Lines.j1 kj2 x5_2 a0_0 l0_1 l0_2 l0_3 a1_0 l1_1 l1_2 l1_3) = some r := by rw [if_pos rfl] at H; exact H
     clear H
     have H := H1
     clear H1
     have H' := Aside0.mk H
     clear H
     as_aux_lemma =>
      go_wp2
      go_meet
      case rel => exact ⟨_, (x5_2), H', ⟨by have := HJ2.out; first | omega | exact Nat.le_refl _⟩, ⟨by (with_reducible repeat (first | apply Kd.R_alloc | apply Kd.R_drewN | apply Kd.R_drew)); exact HO_5.out⟩, ⟨grw BK250.out⟩, ⟨grw BK251.out⟩, ⟨by repeat (first | (with_reducible first | exact HB.out | apply below_alloc | apply pw_below_drewN | apply below_drew1 | refine below_set ?_ GE250.out | refine below_set ?_ GE251.out) | exact HB.out)⟩⟩
    replace c19 := Bool.eq_false_iff.mpr c19
    subst c19
    have H1 : (if x5_2.length < 8796093022208 then (semblanceref53_Lines.j1 kj2 (x5_2 ++ [(⟨#[101, 118, 101, 110, 116, 115]⟩ : ByteArray)]) a0_0 l0_1 l0_2 l0_3 a1_0 l1_1 l1_2 l1_3) else (none)) = some r := by rw [if_neg (show ¬ (false = true) by decide)] at H; exact H
    clear H
    have H := H1
    clear H1
    by_cases c20 : x5_2.length < 8796093022208
    rotate_left
    ·rw [if_neg c20] at H
     exact absurd H (by simp)
    rw [if_pos c20] at H
    have LMc20 := Aside0.mk c20
    clear c20
    obtain ⟨y259, hy259⟩ : ∃ y_ : List ByteArray, y_ = (x5_2 ++ [(⟨#[101, 118, 101, 110, 116, 115]⟩ : ByteArray)]) := ⟨_, rfl⟩
    replace H : (semblanceref53_Lines.j1 kj2 y259 a0_0 l0_1 l0_2 l0_3 a1_0 l1_1 l1_2 l1_3) = some r := by first | (rw [hy259]; with_reducible exact H) | (have H2_ := (Option.bind_some _ _).symm.trans H; rw [hy259]; with_reducible exact H2_) | (have H2_ := (Option.bind_some _ _).symm.trans H; with_reducible exact H2_) | with_reducible exact H | (rw [hy259]; exact H) | exact H
    have Ny259 := Aside0.mk hy259
    clear hy259
    have H' := Aside0.mk H
    clear H
    as_aux_lemma =>
     go_wp2_with (first | ((with_reducible refine gate_builtin (b := .append) (xs := #[.tmp 28, .tmp 29]) rfl ?_); at_builtin; refine Kd.R_append Kd.string (w0 := w) w.heap.size rfl (.tmp 28) (.tmp 29) 55 9 (.string ⟨#[]⟩) 16 rfl Try.underlying55 info9 rfl (by decide) (by omega) u5 x5_2 (⟨#[101, 118, 101, 110, 116, 115]⟩ : ByteArray) [.string (⟨#[101, 118, 101, 110, 116, 115]⟩ : ByteArray)] (fun _ => True) (fun _ => False) rfl rfl ?aP (fun _ hk => hk.elim) ?aF ?aO ?aB ?aS ?aL ?_; (case aP => exact rfl); (case aB => exact (by repeat (first | (with_reducible first | exact HB.out | apply below_alloc | apply pw_below_drewN | apply below_drew1 | refine below_set ?_ GE250.out | refine below_set ?_ GE251.out) | exact HB.out))); (case aF => exact (fun _ _ => trivial)); (case aO => exact (by (with_reducible repeat (first | apply Kd.R_alloc | apply Kd.R_drewN | apply Kd.R_drew)); exact HO_5.out)); (case aS => exact (below_size (by repeat (first | (with_reducible first | exact HB.out | apply below_alloc | apply pw_below_drewN | apply below_drew1 | refine below_set ?_ GE250.out | refine below_set ?_ GE251.out) | exact HB.out)))); (case aL => have := LMc20.out; omega); intro v260 w21 ho hb hg hat; rw [← Ny259.out] at ho; have n0_ := Aside0.mk (blk_grown (grw BK250.out) hg (Kd.R_ne HO_5.out BK250.out (by decide))); have n1_ := Aside0.mk (blk_grown (grw BK251.out) hg (Kd.R_ne HO_5.out BK251.out (by decide))); have n2_ := Aside0.mk (hb); have n3_ := Aside0.mk (ho); clear BK250; clear BK251; clear HB; clear HO_5; have BK250 := n0_; have BK251 := n1_; have HB := n2_; have HO261 := n3_; clear n0_ n1_ n2_ n3_; clear ho hb hg hat))
     go_meet
     case rel => exact ⟨_, (y259), H', ⟨by have := HJ2.out; first | omega | exact Nat.le_refl _⟩, ⟨by (with_reducible repeat (first | apply Kd.R_alloc | apply Kd.R_drewN | apply Kd.R_drew)); exact HO261.out⟩, ⟨grw BK250.out⟩, ⟨grw BK251.out⟩, ⟨by repeat (first | (with_reducible first | exact HB.out | apply below_alloc | apply pw_below_drewN | apply below_drew1 | refine below_set ?_ GE250.out | refine below_set ?_ GE251.out) | exact HB.out)⟩⟩
   case rest =>
    clear HC15
    try clear c1
    try clear c2
    try clear p2
    try clear c3
    try clear c8
    try clear c11
    try clear c11b0
    try clear c11b1
    try clear c12
    try clear c16
    try clear c19
    try clear c20
    try clear hcz10_0 hcz10_1 hcz10_2 hcz10_3
    try clear hcz17_0 hcz17_1 hcz17_2 hcz17_3
    try clear hcz18_0 hcz18_1 hcz18_2 hcz18_3
    try clear hcz9_0 hcz9_1 hcz9_2 hcz9_3
    try clear hfz10_0 hfz10_1 hfz10_2 hfz10_3
    try clear hfz17_0 hfz17_1 hfz17_2 hfz17_3
    try clear hfz18_0 hfz18_1 hfz18_2 hfz18_3
    try clear hfz9_0 hfz9_1 hfz9_2 hfz9_3
    try clear p2
    obtain ⟨kq, x5_14, HA, HJ14, HO_5, BK250, BK251, HB⟩ := hcut
    cases kq with
    | zero => exact absurd HA.out (by simp [semblanceref53_Lines.j1])
    | succ kj14 =>
     have H := HA.out
     clear HA
     simp only [semblanceref53_Lines.j1] at H
     have HC22 := Aside0.mk H
     clear H
     have hnb23 := NB250_251.out
     have hnc23 := NB251_250.out
     obtain ⟨hcz24_0, hcz24_1, hcz24_2, hcz24_3⟩ := cz4_ BK250.out
     obtain ⟨hfz24_0, hfz24_1, hfz24_2, hfz24_3⟩ := cf4_ BK250.out
     obtain ⟨hcz25_0, hcz25_1, hcz25_2, hcz25_3⟩ := cz4_ BK251.out
     obtain ⟨hfz25_0, hfz25_1, hfz25_2, hfz25_3⟩ := cf4_ BK251.out
     go_upto_block 0 with (fail)
     go_cut [6] (fun v6 wc => ∃ (kq : Nat) (x6_21 : Bool), v6 = .bool x6_21 ∧ Aside0 (semblanceref53_Lines.j3 kq x5_14 x6_21 a0_0 l0_1 l0_2 l0_3 a1_0 l1_1 l1_2 l1_3 = some r) ∧ Aside0 (kq ≤ kj14) ∧ Aside0 (Kd.R Kd.string 9 wc w.heap.size (fun _ => True) u5 x5_14) ∧ Aside0 (wc.heap[gb250]? = some (.cells #[.string a0_0, (.slice A0_1 l0_1.length c0_1), (.slice A0_2 l0_2.length c0_2), (.slice A0_3 l0_3.length c0_3)] 59 (0, 0))) ∧ Aside0 (wc.heap[gb251]? = some (.cells #[.string a1_0, (.slice A1_1 l1_1.length c1_1), (.slice A1_2 l1_2.length c1_2), (.slice A1_3 l1_3.length c1_3)] 59 (0, 0))) ∧ Aside0 (Below w.heap.size w wc))
     case first =>
      have H := HC22.out
      clear HC22
      have H' := Aside0.mk H
      clear H
      go_wp2
      go_loopg [6, 7] kj14 (fun kq v6 v7 w' => ∃ (x6_3 : Bool) (x7_3 : Int), v6 = .bool x6_3 ∧ v7 = .int .i64 x7_3 ∧ Aside0 (semblanceref53_Lines.l0 kq x5_14 x6_3 x7_3 a0_0 l0_1 l0_2 l0_3 a1_0 l1_1 l1_2 l1_3 = some r) ∧ Aside0 (kq ≤ kj14) ∧ Aside0 (Kd.R Kd.string 9 w' w.heap.size (fun _ => True) u5 x5_14) ∧ Aside0 (w'.heap[gb250]? = some (.cells #[.string a0_0, (.slice A0_1 l0_1.length c0_1), (.slice A0_2 l0_2.length c0_2), (.slice A0_3 l0_3.length c0_3)] 59 (0, 0))) ∧ Aside0 (w'.heap[gb251]? = some (.cells #[.string a1_0, (.slice A1_1 l1_1.length c1_1), (.slice A1_2 l1_2.length c1_2), (.slice A1_3 l1_3.length c1_3)] 59 (0, 0))) ∧ Aside0 (Below w.heap.size w w'))
      case atStart => exact ⟨(((l0_2.length : Int) == (l1_2.length : Int))), (0), (by first | rfl | (simp; done) | (simp [*]; done)), (by first | rfl | (simp; done) | (simp [*]; done)), H', ⟨Nat.le_refl _⟩, ⟨by (with_reducible repeat (first | apply Kd.R_alloc | apply Kd.R_drewN | apply Kd.R_drew)); exact HO_5.out⟩, ⟨grw BK250.out⟩, ⟨grw BK251.out⟩, ⟨by repeat (first | (with_reducible first | exact HB.out | apply below_alloc | apply pw_below_drewN | apply below_drew1 | refine below_set ?_ GE250.out | refine below_set ?_ GE251.out) | exact HB.out)⟩⟩
      case round =>
       clear H'
       try clear c1
       try clear c2
       try clear p2
       try clear c3
       try clear c8
       try clear c11
       try clear c11b0
       try clear c11b1
       try clear c12
       try clear c16
       try clear c19
       try clear c20
       try clear c23
       try clear hcz10_0 hcz10_1 hcz10_2 hcz10_3
       try clear hcz17_0 hcz17_1 hcz17_2 hcz17_3
       try clear hcz18_0 hcz18_1 hcz18_2 hcz18_3
       try clear hcz24_0 hcz24_1 hcz24_2 hcz24_3
       try clear hcz25_0 hcz25_1 hcz25_2 hcz25_3
       try clear hcz9_0 hcz9_1 hcz9_2 hcz9_3
       try clear hfz10_0 hfz10_1 hfz10_2 hfz10_3
       try clear hfz17_0 hfz17_1 hfz17_2 hfz17_3
       try clear hfz18_0 hfz18_1 hfz18_2 hfz18_3
       try clear hfz24_0 hfz24_1 hfz24_2 hfz24_3
       try clear hfz25_0 hfz25_1 hfz25_2 hfz25_3
       try clear hfz9_0 hfz9_1 hfz9_2 hfz9_3
       try clear p2
       obtain ⟨x6_3, x7_3, rfl, rfl, HA, HK3, HO_5, BK250, BK251, HB⟩ := hrel
       cases gk with
       | zero => exact absurd HA.out (by simp [semblanceref53_Lines.l0])
       | succ k3 =>
        have H := HA.out
        clear HA
        simp only [semblanceref53_Lines.l0] at H
        by_cases c26 : x7_3 < (l0_2.length : Int)
        rotate_left
        ·rw [if_neg c26] at H
         have c26b0 : decide (x7_3 < (l0_2.length : Int)) = false := decide_eq_false c26
         clear c26
         (first | rw [c26b0] | (simp only [i64_w, i32_w]; rw [c26b0]) | skip)
         have H' := Aside0.mk H
         clear H
         as_aux_lemma =>
          have hnb35 := NB250_251.out
          have hnc35 := NB251_250.out
          obtain ⟨hcz36_0, hcz36_1, hcz36_2, hcz36_3⟩ := cz4_ BK250.out
          obtain ⟨hfz36_0, hfz36_1, hfz36_2, hfz36_3⟩ := cf4_ BK250.out
          go_wp2
          go_meet
          case rel => exact ⟨_, (x6_3), (by first | rfl | (simp; done) | (simp [*]; done)), H', ⟨by have := HJ2.out; have := HJ14.out; have := HK3.out; first | omega | exact Nat.le_refl _⟩, ⟨by (with_reducible repeat (first | apply Kd.R_alloc | apply Kd.R_drewN | apply Kd.R_drew)); exact HO_5.out⟩, ⟨grw BK250.out⟩, ⟨grw BK251.out⟩, ⟨by repeat (first | (with_reducible first | exact HB.out | apply below_alloc | apply pw_below_drewN | apply below_drew1 | refine below_set ?_ GE250.out | refine below_set ?_ GE251.out) | exact HB.out)⟩⟩
        rw [if_pos c26] at H
        have c26b0 : decide (x7_3 < (l0_2.length : Int)) = true := decide_eq_true c26
        clear c26
        (first | rw [c26b0] | (simp only [i64_w, i32_w]; rw [c26b0]) | skip)
        by_cases c27 : x6_3 = true
        rotate_left
        ·replace c27 := Bool.eq_false_iff.mpr c27
         subst c27
         have H1 : (semblanceref53_Lines.j3 k3 x5_14 false a0_0 l0_1 l0_2 l0_3 a1_0 l1_1 l1_2 l1_3) = some r := by rw [if_neg (show ¬ (false = true) by decide)] at H; exact H
         clear H
         have H := H1
         clear H1
         have H' := Aside0.mk H
         clear H
         as_aux_lemma =>
          have hnb33 := NB250_251.out
          have hnc33 := NB251_250.out
          obtain ⟨hcz34_0, hcz34_1, hcz34_2, hcz34_3⟩ := cz4_ BK250.out
          obtain ⟨hfz34_0, hfz34_1, hfz34_2, hfz34_3⟩ := cf4_ BK250.out
          go_wp2
          go_meet
          case rel => exact ⟨_, (false), (by first | rfl | (simp; done) | (simp [*]; done)), H', ⟨by have := HJ2.out; have := HJ14.out; have := HK3.out; first | omega | exact Nat.le_refl _⟩, ⟨by (with_reducible repeat (first | apply Kd.R_alloc | apply Kd.R_drewN | apply Kd.R_drew)); exact HO_5.out⟩, ⟨grw BK250.out⟩, ⟨grw BK251.out⟩, ⟨by repeat (first | (with_reducible first | exact HB.out | apply below_alloc | apply pw_below_drewN | apply below_drew1 | refine below_set ?_ GE250.out | refine below_set ?_ GE251.out) | exact HB.out)⟩⟩
        subst c27
        have H1 : (if 0 ≤ x7_3 then (if x7_3 < (l1_2.length : Int) then (semblanceref53_Lines.l0 k3 x5_14 ((((rd_T95 l0_2 x7_3).f0).toList) == (((rd_T95 l1_2 x7_3).f0).toList) && (((rd_T95 l0_2 x7_3).f1) == ((rd_T95 l1_2 x7_3).f1) && (((rd_T95 l0_2 x7_3).f2) == ((rd_T95 l1_2 x7_3).f2) && (((rd_T95 l0_2 x7_3).f3) == ((rd_T95 l1_2 x7_3).f3))))) (wrap64 (x7_3 + 1)) a0_0 l0_1 l0_2 l0_3 a1_0 l1_1 l1_2 l1_3) else (none)) else (none)) = some r := by rw [if_pos rfl] at H; exact H
        clear H
        have H := H1
        clear H1
        by_cases c28 : 0 ≤ x7_3
        rotate_left
        ·rw [if_neg c28] at H
         exact absurd H (by simp)
        rw [if_pos c28] at H
        have c28b0 : decide (0 ≤ x7_3) = true := decide_eq_true c28
        clear c28
        by_cases c29 : x7_3 < (l1_2.length : Int)
        rotate_left
        ·rw [if_neg c29] at H
         exact absurd H (by simp)
        rw [if_pos c29] at H
        have c29b0 : decide (x7_3 < (l1_2.length : Int)) = true := decide_eq_true c29
        clear c29
        have H' := Aside0.mk H
        clear H
        have hnb30 := NB250_251.out
        have hnc30 := NB251_250.out
        obtain ⟨hcz31_0, hcz31_1, hcz31_2, hcz31_3⟩ := cz4_ BK250.out
        obtain ⟨hfz31_0, hfz31_1, hfz31_2, hfz31_3⟩ := cf4_ BK250.out
        try go_wp2
        have n0_ := Aside0.mk (Kd.R_drew HO_5.out)
        have n1_ := Aside0.mk (blk_drew BK250.out)
        have n2_ := Aside0.mk (blk_drew BK251.out)
        have n3_ := Aside0.mk (below_drew1 HB.out)
        clear HO_5
        clear BK250
        clear BK251
        clear HB
        have HO_5 := n0_
        have BK250 := n1_
        have BK251 := n2_
        have HB := n3_
        clear n0_ n1_ n2_ n3_
        have p262 : 0 ≤ (x7_3 : Int) := of_decide_eq_true (by first | (with_reducible assumption) | assumption)
        have q262 : x7_3 < (l0_2.length : Int) := of_decide_eq_true (by first | (with_reducible assumption) | assumption)
        obtain ⟨ad262, e262, hx262_0, hx262_1, hx262_2, hx262_3⟩ := at_T95 HR0_2.out x7_3 p262 q262
        have hw262_3 := hx262_3
        have hw262_2 := hx262_2
        have hw262_1 := hx262_1
        have hw262_0 := hx262_0
        cases e262
        replace hx262_0 := hc23_ HB.out hx262_0
        replace hx262_1 := hc23_ HB.out hx262_1
        replace hx262_2 := hc23_ HB.out hx262_2
        replace hx262_3 := hc23_ HB.out hx262_3
        replace p262 := eq_true p262
        replace q262 := eq_true q262
        have p263 : 0 ≤ (x7_3 : Int) := of_decide_eq_true (by first | (with_reducible assumption) | assumption)
        have q263 : x7_3 < (l1_2.length : Int) := of_decide_eq_true (by first | (with_reducible assumption) | assumption)
        obtain ⟨ad263, e263, hx263_0, hx263_1, hx263_2, hx263_3⟩ := at_T95 HR1_2.out x7_3 p263 q263
        have hw263_3 := hx263_3
        have hw263_2 := hx263_2
        have hw263_1 := hx263_1
        have hw263_0 := hx263_0
        cases e263
        replace hx263_0 := hc23_ HB.out hx263_0
        replace hx263_1 := hc23_ HB.out hx263_1
        replace hx263_2 := hc23_ HB.out hx263_2
        replace hx263_3 := hc23_ HB.out hx263_3
        replace p263 := eq_true p263
        replace q263 := eq_true q263
        refine start_ (n := 12) (S := fun w' => w'.cell? ⟨gb250, 0, none⟩ = some (.string a0_0) ∧ w'.cell? ⟨gb250, 1, none⟩ = some (.slice A0_1 l0_1.length c0_1) ∧ w'.cell? ⟨gb250, 2, none⟩ = some (.slice (some ad262) l0_2.length c0_2) ∧ w'.cell? ⟨gb250, 3, none⟩ = some (.slice A0_3 l0_3.length c0_3) ∧ w'.cell? ⟨gb251, 0, none⟩ = some (.string a1_0) ∧ w'.cell? ⟨gb251, 1, none⟩ = some (.slice A1_1 l1_1.length c1_1) ∧ w'.cell? ⟨gb251, 2, none⟩ = some (.slice (some ad263) l1_2.length c1_2) ∧ w'.cell? ⟨gb251, 3, none⟩ = some (.slice A1_3 l1_3.length c1_3) ∧ w'.cell? (ad262.add ((x7_3).toNat * 4)) = some (.string ((rd_T95 l0_2 x7_3).f0)) ∧ w'.cell? ⟨(ad262.add ((x7_3).toNat * 4)).block, (ad262.add ((x7_3).toNat * 4)).off + 1, none⟩ = some (.int .i64 ((rd_T95 l0_2 x7_3).f1)) ∧ w'.cell? ⟨(ad262.add ((x7_3).toNat * 4)).block, (ad262.add ((x7_3).toNat * 4)).off + 2, none⟩ = some (.int .i64 ((rd_T95 l0_2 x7_3).f2)) ∧ w'.cell? ⟨(ad262.add ((x7_3).toNat * 4)).block, (ad262.add ((x7_3).toNat * 4)).off + 3, none⟩ = some (.int .i64 ((rd_T95 l0_2 x7_3).f3)) ∧ w'.cell? (ad263.add ((x7_3).toNat * 4)) = some (.string ((rd_T95 l1_2 x7_3).f0)) ∧ w'.cell? ⟨(ad263.add ((x7_3).toNat * 4)).block, (ad263.add ((x7_3).toNat * 4)).off + 1, none⟩ = some (.int .i64 ((rd_T95 l1_2 x7_3).f1)) ∧ w'.cell? ⟨(ad263.add ((x7_3).toNat * 4)).block, (ad263.add ((x7_3).toNat * 4)).off + 2, none⟩ = some (.int .i64 ((rd_T95 l1_2 x7_3).f2)) ∧ w'.cell? ⟨(ad263.add ((x7_3).toNat * 4)).block, (ad263.add ((x7_3).toNat * 4)).off + 3, none⟩ = some (.int .i64 ((rd_T95 l1_2 x7_3).f3))) (ds := []) bw23_0 (by kernel_rfl) rfl rfl ⟨(blk_cell BK250.out 0).trans rfl, (blk_cell BK250.out 1).trans rfl, (blk_cell BK250.out 2).trans rfl, (blk_cell BK250.out 3).trans rfl, (blk_cell BK251.out 0).trans rfl, (blk_cell BK251.out 1).trans rfl, (blk_cell BK251.out 2).trans rfl, (blk_cell BK251.out 3).trans rfl, (hc23_ HB.out hw262_0 :), (hc23_ HB.out hw262_1 :), (hc23_ HB.out hw262_2 :), (hc23_ HB.out hw262_3 :), (hc23_ HB.out hw263_0 :), (hc23_ HB.out hw263_1 :), (hc23_ HB.out hw263_2 :), (hc23_ HB.out hw263_3 :)⟩ (fun hHeld => ?_); refine with_tabW semblanceref53_Lines.tab10 semblanceref53_Lines.bits10 (fun HT_ HW_ => ?_)
        generalize wr.drew = w32 at HO_5 BK250 BK251 HB hx262_0 hx262_1 hx262_2 hx262_3 hx263_0 hx263_1 hx263_2 hx263_3 hHeld ⊢
        refine pure_ (i := 0) (N := some 48) (v := ?_) (a' := ?_) bw23_1 rfl rfl (any_of HT_.out (by kernel_rfl)) (fun _ _ _ h => h) (Or.inl ⟨by rfl, ?_⟩) ?_ ?_
        rotate_left
        ·intro w'
         go_simp
         with_reducible rfl
        rotate_left
        ·simp only [Act.put, sb_, s0_, s1_, i64_w, i32_w]
         rfl
        refine pure_ (i := 2) (N := some 50) (v := ?_) (a' := ?_) bw23_2 rfl rfl (any_of HT_.out (by kernel_rfl)) (fun _ _ _ h => h) (Or.inl ⟨by rfl, ?_⟩) ?_ ?_
        rotate_left
        ·intro w'
         go_simp
         with_reducible rfl
        rotate_left
        ·simp only [Act.put, sb_, s0_, s1_, i64_w, i32_w]
         rfl
        refine pure_ (i := 5) (N := some 53) (v := ?_) (a' := ?_) bw23_3 rfl rfl (any_of HT_.out (by kernel_rfl)) (fun _ _ _ h => h) (Or.inl ⟨by rfl, ?_⟩) ?_ ?_
        rotate_left
        ·intro w'
         go_simp
         with_reducible rfl
        rotate_left
        ·simp only [Act.put, sb_, s0_, s1_, i64_w, i32_w]
         rfl
        refine pure_ (i := 7) (N := some 55) (v := ?_) (a' := ?_) bw23_4 rfl rfl (any_of HT_.out (by kernel_rfl)) (fun _ _ _ h => h) (Or.inl ⟨by rfl, ?_⟩) ?_ ?_
        rotate_left
        ·intro w'
         go_simp
         with_reducible rfl
        rotate_left
        ·simp only [Act.put, sb_, s0_, s1_, i64_w, i32_w]
         rfl
        refine take_ (i := 1) (N := some 49) (v := ?_) (a' := ?_) bw23_5 rfl rfl (take_ofW HT_.out HW_.out (by kernel_rfl)) (fun _ _ _ h => h) (Or.inl ⟨by rfl, ?_⟩) hHeld ?_ ?_
        rotate_left
        ·rintro w' ⟨s0, s1, s2, s3, s4, s5, s6, s7, s8, s9, s10, s11, s12, s13, s14, s15⟩
         go_simp
         with_reducible rfl
        rotate_left
        ·simp only [Act.put, sb_, s0_, s1_, i64_w, i32_w]
         rfl
        refine pure_ (i := 3) (N := some 51) (v := ?_) (a' := ?_) bw23_6 rfl rfl (any_of HT_.out (by kernel_rfl)) (fun _ _ _ h => h) (Or.inl ⟨by rfl, ?_⟩) ?_ ?_
        rotate_left
        ·intro w'
         go_simp
         with_reducible rfl
        rotate_left
        ·simp only [Act.put, sb_, s0_, s1_, i64_w, i32_w]
         rfl
        refine take_ (i := 4) (N := some 52) (v := ?_) (a' := ?_) bw23_7 rfl rfl (take_ofW HT_.out HW_.out (by kernel_rfl)) (fun _ _ _ h => h) (Or.inl ⟨by rfl, ?_⟩) hHeld ?_ ?_
        rotate_left
        ·rintro w' ⟨s0, s1, s2, s3, s4, s5, s6, s7, s8, s9, s10, s11, s12, s13, s14, s15⟩
         go_simp
         with_reducible rfl
        rotate_left
        ·simp only [Act.put, sb_, s0_, s1_, i64_w, i32_w]
         rfl
        refine take_ (i := 6) (N := some 54) (v := ?_) (a' := ?_) bw23_8 rfl rfl (take_ofW HT_.out HW_.out (by kernel_rfl)) (fun _ _ _ h => h) (Or.inl ⟨by rfl, ?_⟩) hHeld ?_ ?_
        rotate_left
        ·rintro w' ⟨s0, s1, s2, s3, s4, s5, s6, s7, s8, s9, s10, s11, s12, s13, s14, s15⟩
         go_simp
         with_reducible rfl
        rotate_left
        ·simp only [Act.put, sb_, s0_, s1_, i64_w, i32_w]
         rfl
        refine pure_ (i := 8) (N := some 56) (v := ?_) (a' := ?_) bw23_9 rfl rfl (any_of HT_.out (by kernel_rfl)) (fun _ _ _ h => h) (Or.inl ⟨by rfl, ?_⟩) ?_ ?_
        rotate_left
        ·intro w'
         go_simp
         with_reducible rfl
        rotate_left
        ·simp only [Act.put, sb_, s0_, s1_, i64_w, i32_w]
         rfl
        refine take_ (i := 9) (N := some 57) (v := ?_) (a' := ?_) bw23_10 rfl rfl (take_ofW HT_.out HW_.out (by kernel_rfl)) (fun _ _ _ h => h) (Or.inl ⟨by rfl, ?_⟩) hHeld ?_ ?_
        rotate_left
        ·rintro w' ⟨s0, s1, s2, s3, s4, s5, s6, s7, s8, s9, s10, s11, s12, s13, s14, s15⟩
         go_simp
         with_reducible rfl
        rotate_left
        ·simp only [Act.put, sb_, s0_, s1_, i64_w, i32_w]
         rfl
        refine pure_ (i := 10) (N := some 58) (v := ?_) (a' := ?_) bw23_11 rfl rfl (any_of HT_.out (by kernel_rfl)) (fun _ _ _ h => h) (Or.inl ⟨by rfl, ?_⟩) ?_ ?_
        rotate_left
        ·intro w'
         go_simp
         with_reducible rfl
        rotate_left
        ·simp only [Act.put, sb_, s0_, s1_, i64_w, i32_w]
         rfl
        refine pure_ (i := 11) (N := some 6) (v := ?_) (a' := ?_) bw23_12 rfl rfl (any_of HT_.out (by kernel_rfl)) (fun _ _ _ h => h) (Or.inl ⟨by rfl, ?_⟩) ?_ ?_
        rotate_left
        ·intro w'
         go_simp
         with_reducible rfl
        rotate_left
        ·simp only [Act.put, sb_, s0_, s1_, i64_w, i32_w]
         rfl
        refine done_ (done_of HT_.out (by kernel_rfl)) ?_
        try go_wp2
        go_roundg k3
        case measure => have := HJ2.out; have := HJ14.out; have := HK3.out; omega
        case rel => exact ⟨(((((rd_T95 l0_2 x7_3).f0).toList) == (((rd_T95 l1_2 x7_3).f0).toList) && (((rd_T95 l0_2 x7_3).f1) == ((rd_T95 l1_2 x7_3).f1) && (((rd_T95 l0_2 x7_3).f2) == ((rd_T95 l1_2 x7_3).f2) && (((rd_T95 l0_2 x7_3).f3) == ((rd_T95 l1_2 x7_3).f3)))))), (wrap64 (x7_3 + 1)), (by first | rfl | (simp; done) | (simp [*]; done)), (by first | rfl | (simp; done) | (simp [*]; done)), H', ⟨by have := HJ2.out; have := HJ14.out; have := HK3.out; omega⟩, ⟨by (with_reducible repeat (first | apply Kd.R_alloc | apply Kd.R_drewN | apply Kd.R_drew)); exact HO_5.out⟩, ⟨grw BK250.out⟩, ⟨grw BK251.out⟩, ⟨by repeat (first | (with_reducible first | exact HB.out | apply below_alloc | apply pw_below_drewN | apply below_drew1 | refine below_set ?_ GE250.out | refine below_set ?_ GE251.out) | exact HB.out)⟩⟩
     case rest =>
      clear HC22
      try clear c1
      try clear c2
      try clear p2
      try clear q2
      try clear hx2
      try clear c3
      try clear p6
      try clear c8
      try clear c11
      try clear c11b0
      try clear c11b1
      try clear c12
      try clear c16
      try clear c19
      try clear c20
      try clear c23
      try clear c26
      try clear c26b0
      try clear p26
      try clear q26
      try clear hx26
      try clear c27
      try clear c28
      try clear c28b0
      try clear c29
      try clear c29b0
      try clear c30
      try clear c31
      try clear c32
      try clear c33
      try clear c35
      try clear hcz10_0 hcz10_1 hcz10_2 hcz10_3
      try clear hcz17_0 hcz17_1 hcz17_2 hcz17_3
      try clear hcz18_0 hcz18_1 hcz18_2 hcz18_3
      try clear hcz24_0 hcz24_1 hcz24_2 hcz24_3
      try clear hcz25_0 hcz25_1 hcz25_2 hcz25_3
      try clear hcz31_0 hcz31_1 hcz31_2 hcz31_3
      try clear hcz34_0 hcz34_1 hcz34_2 hcz34_3
      try clear hcz36_0 hcz36_1 hcz36_2 hcz36_3
      try clear hcz9_0 hcz9_1 hcz9_2 hcz9_3
      try clear hfz10_0 hfz10_1 hfz10_2 hfz10_3
      try clear hfz17_0 hfz17_1 hfz17_2 hfz17_3
      try clear hfz18_0 hfz18_1 hfz18_2 hfz18_3
      try clear hfz24_0 hfz24_1 hfz24_2 hfz24_3
      try clear hfz25_0 hfz25_1 hfz25_2 hfz25_3
      try clear hfz31_0 hfz31_1 hfz31_2 hfz31_3
      try clear hfz34_0 hfz34_1 hfz34_2 hfz34_3
      try clear hfz36_0 hfz36_1 hfz36_2 hfz36_3
      try clear hfz9_0 hfz9_1 hfz9_2 hfz9_3
      try clear hx262_0
      try clear hx262_1
      try clear hx262_2
      try clear hx262_3
      try clear hx263_0
      try clear hx263_1
      try clear hx263_2
      try clear hx263_3
      try clear p2
      try clear p262
      try clear p263
      try clear q262
      try clear q263
      obtain ⟨kq, x6_21, rfl, HA, HJ21, HO_5, BK250, BK251, HB⟩ := hcut
      cases kq with
      | zero => exact absurd HA.out (by simp [semblanceref53_Lines.j3])
      | succ kj21 =>
       have H := HA.out
       clear HA
       simp only [semblanceref53_Lines.j3] at H
       have HC37 := Aside0.mk H
       clear H
       go_upto_if 60 with (fail)
       go_cut [5] (fun v5 wc => ∃ (kq : Nat) (x5_36 : List ByteArray), Aside0 (semblanceref53_Lines.j4 kq x5_36 a0_0 l0_1 l0_2 l0_3 a1_0 l1_1 l1_2 l1_3 = some r) ∧ Aside0 (kq ≤ kj21) ∧ Aside0 (Kd.R Kd.string 9 wc w.heap.size (fun _ => True) v5 x5_36) ∧ Aside0 (wc.heap[gb250]? = some (.cells #[.string a0_0, (.slice A0_1 l0_1.length c0_1), (.slice A0_2 l0_2.length c0_2), (.slice A0_3 l0_3.length c0_3)] 59 (0, 0))) ∧ Aside0 (wc.heap[gb251]? = some (.cells #[.string a1_0, (.slice A1_1 l1_1.length c1_1), (.slice A1_2 l1_2.length c1_2), (.slice A1_3 l1_3.length c1_3)] 59 (0, 0))) ∧ Aside0 (Below w.heap.size w wc))
       case first =>
        have H := HC37.out
        clear HC37
        by_cases c38 : x6_21 = true
        ·subst c38
         have H1 : (semblanceref53_Lines.j4 kj21 x5_14 a0_0 l0_1 l0_2 l0_3 a1_0 l1_1 l1_2 l1_3) = some r := by rw [if_pos rfl] at H; exact H
         clear H
         have H := H1
         clear H1
         have H' := Aside0.mk H
         clear H
         as_aux_lemma =>
          go_wp2
          go_meet
          case rel => exact ⟨_, (x5_14), H', ⟨by have := HJ2.out; have := HJ14.out; have := HJ21.out; first | omega | exact Nat.le_refl _⟩, ⟨by (with_reducible repeat (first | apply Kd.R_alloc | apply Kd.R_drewN | apply Kd.R_drew)); exact HO_5.out⟩, ⟨grw BK250.out⟩, ⟨grw BK251.out⟩, ⟨by repeat (first | (with_reducible first | exact HB.out | apply below_alloc | apply pw_below_drewN | apply below_drew1 | refine below_set ?_ GE250.out | refine below_set ?_ GE251.out) | exact HB.out)⟩⟩
        replace c38 := Bool.eq_false_iff.mpr c38
        subst c38
        have H1 : (if x5_14.length < 8796093022208 then (semblanceref53_Lines.j4 kj21 (x5_14 ++ [(⟨#[118, 97, 114, 115]⟩ : ByteArray)]) a0_0 l0_1 l0_2 l0_3 a1_0 l1_1 l1_2 l1_3) else (none)) = some r := by rw [if_neg (show ¬ (false = true) by decide)] at H; exact H
        clear H
        have H := H1
        clear H1
        by_cases c39 : x5_14.length < 8796093022208
        rotate_left
        ·rw [if_neg c39] at H
         exact absurd H (by simp)
        rw [if_pos c39] at H
        have LMc39 := Aside0.mk c39
        clear c39
        obtain ⟨y264, hy264⟩ : ∃ y_ : List ByteArray, y_ = (x5_14 ++ [(⟨#[118, 97, 114, 115]⟩ : ByteArray)]) := ⟨_, rfl⟩
        replace H : (semblanceref53_Lines.j4 kj21 y264 a0_0 l0_1 l0_2 l0_3 a1_0 l1_1 l1_2 l1_3) = some r := by first | (rw [hy264]; with_reducible exact H) | (have H2_ := (Option.bind_some _ _).symm.trans H; rw [hy264]; with_reducible exact H2_) | (have H2_ := (Option.bind_some _ _).symm.trans H; with_reducible exact H2_) | with_reducible exact H | (rw [hy264]; exact H) | exact H
        have Ny264 := Aside0.mk hy264
        clear hy264
        have H' := Aside0.mk H
        clear H
        as_aux_lemma =>
         go_wp2_with (first | ((with_reducible refine gate_builtin (b := .append) (xs := #[.tmp 61, .tmp 62]) rfl ?_); at_builtin; refine Kd.R_append Kd.string (w0 := w) w.heap.size rfl (.tmp 61) (.tmp 62) 55 9 (.string ⟨#[]⟩) 16 rfl Try.underlying55 info9 rfl (by decide) (by omega) u5 x5_14 (⟨#[118, 97, 114, 115]⟩ : ByteArray) [.string (⟨#[118, 97, 114, 115]⟩ : ByteArray)] (fun _ => True) (fun _ => False) rfl rfl ?aP (fun _ hk => hk.elim) ?aF ?aO ?aB ?aS ?aL ?_; (case aP => exact rfl); (case aB => exact (by repeat (first | (with_reducible first | exact HB.out | apply below_alloc | apply pw_below_drewN | apply below_drew1 | refine below_set ?_ GE250.out | refine below_set ?_ GE251.out) | exact HB.out))); (case aF => exact (fun _ _ => trivial)); (case aO => exact (by (with_reducible repeat (first | apply Kd.R_alloc | apply Kd.R_drewN | apply Kd.R_drew)); exact HO_5.out)); (case aS => exact (below_size (by repeat (first | (with_reducible first | exact HB.out | apply below_alloc | apply pw_below_drewN | apply below_drew1 | refine below_set ?_ GE250.out | refine below_set ?_ GE251.out) | exact HB.out)))); (case aL => have := LMc39.out; omega); intro v265 w40 ho hb hg hat; rw [← Ny264.out] at ho; have n0_ := Aside0.mk (blk_grown (grw BK250.out) hg (Kd.R_ne HO_5.out BK250.out (by decide))); have n1_ := Aside0.mk (blk_grown (grw BK251.out) hg (Kd.R_ne HO_5.out BK251.out (by decide))); have n2_ := Aside0.mk (hb); have n3_ := Aside0.mk (ho); clear BK250; clear BK251; clear HB; clear HO_5; have BK250 := n0_; have BK251 := n1_; have HB := n2_; have HO266 := n3_; clear n0_ n1_ n2_ n3_; clear ho hb hg hat))
         go_meet
         case rel => exact ⟨_, (y264), H', ⟨by have := HJ2.out; have := HJ14.out; have := HJ21.out; first | omega | exact Nat.le_refl _⟩, ⟨by (with_reducible repeat (first | apply Kd.R_alloc | apply Kd.R_drewN | apply Kd.R_drew)); exact HO266.out⟩, ⟨grw BK250.out⟩, ⟨grw BK251.out⟩, ⟨by repeat (first | (with_reducible first | exact HB.out | apply below_alloc | apply pw_below_drewN | apply below_drew1 | refine below_set ?_ GE250.out | refine below_set ?_ GE251.out) | exact HB.out)⟩⟩
       case rest =>
        clear HC37
        try clear c1
        try clear c2
        try clear p2
        try clear q2
        try clear hx2
        try clear c3
        try clear p6
        try clear c8
        try clear c11
        try clear c11b0
        try clear c11b1
        try clear c12
        try clear c16
        try clear c19
        try clear c20
        try clear c23
        try clear c26
        try clear c26b0
        try clear p26
        try clear q26
        try clear hx26
        try clear c27
        try clear c28
        try clear c28b0
        try clear c29
        try clear c29b0
        try clear c30
        try clear c31
        try clear c32
        try clear c33
        try clear c35
        try clear c38
        try clear c39
        try clear hcz10_0 hcz10_1 hcz10_2 hcz10_3
        try clear hcz17_0 hcz17_1 hcz17_2 hcz17_3
        try clear hcz18_0 hcz18_1 hcz18_2 hcz18_3
        try clear hcz24_0 hcz24_1 hcz24_2 hcz24_3
        try clear hcz25_0 hcz25_1 hcz25_2 hcz25_3
        try clear hcz31_0 hcz31_1 hcz31_2 hcz31_3
        try clear hcz34_0 hcz34_1 hcz34_2 hcz34_3
        try clear hcz36_0 hcz36_1 hcz36_2 hcz36_3
        try clear hcz9_0 hcz9_1 hcz9_2 hcz9_3
        try clear hfz10_0 hfz10_1 hfz10_2 hfz10_3
        try clear hfz17_0 hfz17_1 hfz17_2 hfz17_3
        try clear hfz18_0 hfz18_1 hfz18_2 hfz18_3
        try clear hfz24_0 hfz24_1 hfz24_2 hfz24_3
        try clear hfz25_0 hfz25_1 hfz25_2 hfz25_3
        try clear hfz31_0 hfz31_1 hfz31_2 hfz31_3
        try clear hfz34_0 hfz34_1 hfz34_2 hfz34_3
        try clear hfz36_0 hfz36_1 hfz36_2 hfz36_3
        try clear hfz9_0 hfz9_1 hfz9_2 hfz9_3
        try clear hx262_0
        try clear hx262_1
        try clear hx262_2
        try clear hx262_3
        try clear hx263_0
        try clear hx263_1
        try clear hx263_2
        try clear hx263_3
        try clear p2
        try clear p26
        try clear p262
        try clear p263
        try clear p6
        try clear q2
        try clear q26
        try clear q262
        try clear q263
        obtain ⟨kq, x5_36, HA, HJ36, HO_5, BK250, BK251, HB⟩ := hcut
        cases kq with
        | zero => exact absurd HA.out (by simp [semblanceref53_Lines.j4])
        | succ kj36 =>
         have H := HA.out
         clear HA
         simp only [semblanceref53_Lines.j4] at H
         have H' := Aside0.mk H
         clear H
         go_wp2
         go_loopg [5, 8] kj36 (fun kq v5 v8 w' => ∃ (x5_5 : List ByteArray) (x8_5 : Int), v8 = .int .i64 x8_5 ∧ Aside0 (semblanceref53_Lines.l1 kq x5_5 x8_5 a0_0 l0_1 l0_2 l0_3 a1_0 l1_1 l1_2 l1_3 = some r) ∧ Aside0 (kq ≤ kj36) ∧ Aside0 (Kd.R Kd.string 9 w' w.heap.size (fun _ => True) v5 x5_5) ∧ Aside0 (w'.heap[gb250]? = some (.cells #[.string a0_0, (.slice A0_1 l0_1.length c0_1), (.slice A0_2 l0_2.length c0_2), (.slice A0_3 l0_3.length c0_3)] 59 (0, 0))) ∧ Aside0 (w'.heap[gb251]? = some (.cells #[.string a1_0, (.slice A1_1 l1_1.length c1_1), (.slice A1_2 l1_2.length c1_2), (.slice A1_3 l1_3.length c1_3)] 59 (0, 0))) ∧ Aside0 (Below w.heap.size w w'))
         case atStart => exact ⟨(x5_36), (0), (by first | rfl | (simp; done) | (simp [*]; done)), H', ⟨Nat.le_refl _⟩, ⟨by (with_reducible repeat (first | apply Kd.R_alloc | apply Kd.R_drewN | apply Kd.R_drew)); exact HO_5.out⟩, ⟨grw BK250.out⟩, ⟨grw BK251.out⟩, ⟨by repeat (first | (with_reducible first | exact HB.out | apply below_alloc | apply pw_below_drewN | apply below_drew1 | refine below_set ?_ GE250.out | refine below_set ?_ GE251.out) | exact HB.out)⟩⟩
         case round =>
          clear H'
          try clear c1
          try clear c2
          try clear p2
          try clear q2
          try clear hx2
          try clear c3
          try clear p6
          try clear c8
          try clear c11
          try clear c11b0
          try clear c11b1
          try clear c12
          try clear c16
          try clear c19
          try clear c20
          try clear c23
          try clear c26
          try clear c26b0
          try clear p26
          try clear q26
          try clear hx26
          try clear c27
          try clear c28
          try clear c28b0
          try clear c29
          try clear c29b0
          try clear c30
          try clear c31
          try clear c32
          try clear c33
          try clear c35
          try clear c38
          try clear c39
          try clear hcz10_0 hcz10_1 hcz10_2 hcz10_3
          try clear hcz17_0 hcz17_1 hcz17_2 hcz17_3
          try clear hcz18_0 hcz18_1 hcz18_2 hcz18_3
          try clear hcz24_0 hcz24_1 hcz24_2 hcz24_3
          try clear hcz25_0 hcz25_1 hcz25_2 hcz25_3
          try clear hcz31_0 hcz31_1 hcz31_2 hcz31_3
          try clear hcz34_0 hcz34_1 hcz34_2 hcz34_3
          try clear hcz36_0 hcz36_1 hcz36_2 hcz36_3
          try clear hcz9_0 hcz9_1 hcz9_2 hcz9_3
          try clear hfz10_0 hfz10_1 hfz10_2 hfz10_3
          try clear hfz17_0 hfz17_1 hfz17_2 hfz17_3
          try clear hfz18_0 hfz18_1 hfz18_2 hfz18_3
          try clear hfz24_0 hfz24_1 hfz24_2 hfz24_3
          try clear hfz25_0 hfz25_1 hfz25_2 hfz25_3
          try clear hfz31_0 hfz31_1 hfz31_2 hfz31_3
          try clear hfz34_0 hfz34_1 hfz34_2 hfz34_3
          try clear hfz36_0 hfz36_1 hfz36_2 hfz36_3
          try clear hfz9_0 hfz9_1 hfz9_2 hfz9_3
          try clear hx262_0
          try clear hx262_1
          try clear hx262_2
          try clear hx262_3
          try clear hx263_0
          try clear hx263_1
          try clear hx263_2
          try clear hx263_3
          try clear p2
          try clear p26
          try clear p262
          try clear p263
          try clear p6
          try clear q2
          try clear q26
          try clear q262
          try clear q263
          obtain ⟨x5_5, x8_5, rfl, HA, HK5, HO_5, BK250, BK251, HB⟩ := hrel
          cases gk with
          | zero => exact absurd HA.out (by simp [semblanceref53_Lines.l1])
          | succ k5 =>
           have H := HA.out
           clear HA
           simp only [semblanceref53_Lines.l1] at H
           by_cases c41 : x8_5 < (l0_3.length : Int)
           rotate_left
           ·rw [if_neg c41] at H
            have c41b0 : decide (x8_5 < (l0_3.length : Int)) = false := decide_eq_false c41
            clear c41
            have H' := Aside0.mk H
            clear H
            have hnb204 := NB250_251.out
            have hnc204 := NB251_250.out
            obtain ⟨hcz205_0, hcz205_1, hcz205_2, hcz205_3⟩ := cz4_ BK250.out
            obtain ⟨hfz205_0, hfz205_1, hfz205_2, hfz205_3⟩ := cf4_ BK250.out
            go_wp2
            go_loopg [5, 12] k5 (fun kq v5 v12 w' => ∃ (x5_6 : List ByteArray) (x12_6 : Int), v12 = .int .i64 x12_6 ∧ Aside0 (semblanceref53_Lines.l2 kq x5_6 x12_6 a0_0 l0_1 l0_2 l0_3 a1_0 l1_1 l1_2 l1_3 = some r) ∧ Aside0 (kq ≤ k5) ∧ Aside0 (Kd.R Kd.string 9 w' w.heap.size (fun _ => True) v5 x5_6) ∧ Aside0 (w'.heap[gb250]? = some (.cells #[.string a0_0, (.slice A0_1 l0_1.length c0_1), (.slice A0_2 l0_2.length c0_2), (.slice A0_3 l0_3.length c0_3)] 59 (0, 0))) ∧ Aside0 (w'.heap[gb251]? = some (.cells #[.string a1_0, (.slice A1_1 l1_1.length c1_1), (.slice A1_2 l1_2.length c1_2), (.slice A1_3 l1_3.length c1_3)] 59 (0, 0))) ∧ Aside0 (Below w.heap.size w w'))
            case atStart => exact ⟨(x5_5), (0), (by first | rfl | (simp; done) | (simp [*]; done)), H', ⟨Nat.le_refl _⟩, ⟨by (with_reducible repeat (first | apply Kd.R_alloc | apply Kd.R_drewN | apply Kd.R_drew)); exact HO_5.out⟩, ⟨grw BK250.out⟩, ⟨grw BK251.out⟩, ⟨by repeat (first | (with_reducible first | exact HB.out | apply below_alloc | apply pw_below_drewN | apply below_drew1 | refine below_set ?_ GE250.out | refine below_set ?_ GE251.out) | exact HB.out)⟩⟩
            case round =>
             clear H'
             try clear c1
             try clear c2
             try clear p2
             try clear q2
             try clear hx2
             try clear c4
             try clear c5
             try clear p6
             try clear c7
             try clear c16
             try clear c18
             try clear c19
             try clear c20
             try clear c26
             try clear p26
             try clear q26
             try clear hx26
             try clear c27
             try clear p27
             try clear q27
             try clear hx27
             try clear c41
             try clear c41b0
             try clear c42
             try clear c57
             try clear c58
             try clear c59
             try clear c59b0
             try clear c59b1
             try clear p64
             try clear c70
             try clear c71
             try clear c162
             try clear c163
             try clear c184
             try clear c184b0
             try clear c184b1
             try clear c184b2
             try clear c185
             try clear c186
             try clear c189
             try clear c190
             try clear c196
             try clear c197
             try clear c198
             try clear c204
             try clear hcz182_0 hcz182_1 hcz182_2 hcz182_3 hcz182_4 hcz182_5
             try clear hcz187_0 hcz187_1 hcz187_2 hcz187_3
             try clear hcz191_0 hcz191_1 hcz191_2 hcz191_3 hcz191_4 hcz191_5
             try clear hcz192_0 hcz192_1 hcz192_2 hcz192_3
             try clear hcz194_0 hcz194_1 hcz194_2 hcz194_3
             try clear hcz199_0 hcz199_1 hcz199_2 hcz199_3 hcz199_4 hcz199_5
             try clear hcz202_0 hcz202_1 hcz202_2 hcz202_3 hcz202_4 hcz202_5
             try clear hcz205_0 hcz205_1 hcz205_2 hcz205_3
             try clear hfz182_0 hfz182_1 hfz182_2 hfz182_3 hfz182_4 hfz182_5
             try clear hfz187_0 hfz187_1 hfz187_2 hfz187_3
             try clear hfz191_0 hfz191_1 hfz191_2 hfz191_3 hfz191_4 hfz191_5
             try clear hfz192_0 hfz192_1 hfz192_2 hfz192_3
             try clear hfz194_0 hfz194_1 hfz194_2 hfz194_3
             try clear hfz199_0 hfz199_1 hfz199_2 hfz199_3 hfz199_4 hfz199_5
             try clear hfz202_0 hfz202_1 hfz202_2 hfz202_3 hfz202_4 hfz202_5
             try clear hfz205_0 hfz205_1 hfz205_2 hfz205_3
             try clear hx267_0
             try clear hx267_1
             try clear hx267_2
             try clear hx267_3
             try clear hx267_4
             try clear hx267_5
             try clear hx273_0
             try clear hx273_1
             try clear hx273_2
             try clear hx273_3
             try clear hx273_4
             try clear hx273_5
             try clear p267
             try clear p273
             try clear q267
             try clear q273
             obtain ⟨x5_6, x12_6, rfl, HA, HK6, HO_5, BK250, BK251, HB⟩ := hrel
             cases gk with
             | zero => exact absurd HA.out (by simp [semblanceref53_Lines.l2])
             | succ k6 =>
              have H := HA.out
              clear HA
              simp only [semblanceref53_Lines.l2] at H
              by_cases c206 : x12_6 < (l1_3.length : Int)
              rotate_left
              ·rw [if_neg c206] at H
               have c206b0 : decide (x12_6 < (l1_3.length : Int)) = false := decide_eq_false c206
               clear c206
               obtain rfl := Option.some.inj H
               as_aux_lemma =>
                have hnb222 := NB251_250.out
                have hnc222 := NB250_251.out
                obtain ⟨hcz223_0, hcz223_1, hcz223_2, hcz223_3⟩ := cz4_ BK251.out
                obtain ⟨hfz223_0, hfz223_1, hfz223_2, hfz223_3⟩ := cf4_ BK251.out
                go_wp2
                go_ret
                exact ⟨_, by first | rfl | (simp [errW_none, errW_some] <;> rfl) | (simp [*, errW_none, errW_some] <;> rfl), by (with_reducible repeat (first | apply Kd.R_alloc | apply Kd.R_drewN | apply Kd.R_drew)); exact HO_5.out, by repeat (first | (with_reducible first | exact HB.out | apply below_alloc | apply pw_below_drewN | apply below_drew1 | refine below_set ?_ GE250.out | refine below_set ?_ GE251.out) | exact HB.out)⟩

              rw [if_pos c206] at H
              have c206b0 : decide (x12_6 < (l1_3.length : Int)) = true := decide_eq_true c206
              clear c206
              by_cases c207 : 0 ≤ x12_6
              rotate_left
              ·rw [if_neg c207] at H
               exact absurd H (by simp)
              rw [if_pos c207] at H
              have c207b0 : decide (0 ≤ x12_6) = true := decide_eq_true c207
              clear c207
              replace H := Option.bind_eq_some_iff.mp H
              obtain ⟨t296, A2080, H⟩ := H
              replace H : (if t296 < 0 then (if 2 + ((rd_T99 l1_3 x12_6).f0).size ≤ 9223372036854775807 then (if x5_6.length < 8796093022208 then (semblanceref53_Lines.l2 k6 (x5_6 ++ [(⟨#[43, 32]⟩ : ByteArray) ++ ((rd_T99 l1_3 x12_6).f0)]) (wrap64 (x12_6 + 1)) a0_0 l0_1 l0_2 l0_3 a1_0 l1_1 l1_2 l1_3) else (none)) else (none)) else (semblanceref53_Lines.l2 k6 x5_6 (wrap64 (x12_6 + 1)) a0_0 l0_1 l0_2 l0_3 a1_0 l1_1 l1_2 l1_3)) = some r := H
              have A208 := Aside0.mk A2080
              clear A2080
              have HZ_ := Aside0.mk H
              clear H
              obtain ⟨hcz213_0, hcz213_1, hcz213_2, hcz213_3⟩ := cz4_ BK251.out
              obtain ⟨hfz213_0, hfz213_1, hfz213_2, hfz213_3⟩ := cf4_ BK251.out
              try go_wp2
              have n0_ := Aside0.mk (Kd.R_drew HO_5.out)
              have n1_ := Aside0.mk (blk_drew BK250.out)
              have n2_ := Aside0.mk (blk_drew BK251.out)
              have n3_ := Aside0.mk (below_drew1 HB.out)
              clear HO_5
              clear BK250
              clear BK251
              clear HB
              have HO_5 := n0_
              have BK250 := n1_
              have BK251 := n2_
              have HB := n3_
              clear n0_ n1_ n2_ n3_
              have p295 : 0 ≤ (x12_6 : Int) := of_decide_eq_true (by first | (with_reducible assumption) | assumption)
              have q295 : x12_6 < (l1_3.length : Int) := of_decide_eq_true (by first | (with_reducible assumption) | assumption)
              obtain ⟨ad295, A295_3, c295_3, A295_4, c295_4, A295_5, c295_5, e295, hx295_0, hx295_1, hx295_2, hx295_3, hx295_4, hx295_5, hl295_3, hi295_3, hl295_4, hi295_4, hl295_5, hi295_5⟩ := at_T99 HR1_3.out x12_6 p295 q295
              have hw295_5 := hx295_5
              have hw295_4 := hx295_4
              have hw295_3 := hx295_3
              have hw295_2 := hx295_2
              have hw295_1 := hx295_1
              have hw295_0 := hx295_0
              cases e295
              replace hx295_0 := hc23_ HB.out hx295_0
              replace hx295_1 := hc23_ HB.out hx295_1
              replace hx295_2 := hc23_ HB.out hx295_2
              replace hx295_3 := hc23_ HB.out hx295_3
              replace hx295_4 := hc23_ HB.out hx295_4
              replace hx295_5 := hc23_ HB.out hx295_5
              have HR295_3 := Aside0.mk hi295_3
              have HC295_3 := Aside0.mk hl295_3
              clear hi295_3 hl295_3
              have HR295_4 := Aside0.mk hi295_4
              have HC295_4 := Aside0.mk hl295_4
              clear hi295_4 hl295_4
              have HR295_5 := Aside0.mk hi295_5
              have HC295_5 := Aside0.mk hl295_5
              clear hi295_5 hl295_5
              replace p295 := eq_true p295
              replace q295 := eq_true q295
              refine start_ (n := 9) (S := fun w' => w'.cell? ⟨gb250, 0, none⟩ = some (.string a0_0) ∧ w'.cell? ⟨gb250, 1, none⟩ = some (.slice A0_1 l0_1.length c0_1) ∧ w'.cell? ⟨gb250, 2, none⟩ = some (.slice A0_2 l0_2.length c0_2) ∧ w'.cell? ⟨gb250, 3, none⟩ = some (.slice A0_3 l0_3.length c0_3) ∧ w'.cell? ⟨gb251, 0, none⟩ = some (.string a1_0) ∧ w'.cell? ⟨gb251, 1, none⟩ = some (.slice A1_1 l1_1.length c1_1) ∧ w'.cell? ⟨gb251, 2, none⟩ = some (.slice A1_2 l1_2.length c1_2) ∧ w'.cell? ⟨gb251, 3, none⟩ = some (.slice (some ad295) l1_3.length c1_3) ∧ w'.cell? (ad295.add ((x12_6).toNat * 6)) = some (.string ((rd_T99 l1_3 x12_6).f0)) ∧ w'.cell? ⟨(ad295.add ((x12_6).toNat * 6)).block, (ad295.add ((x12_6).toNat * 6)).off + 1, none⟩ = some (.int .i64 ((rd_T99 l1_3 x12_6).f1)) ∧ w'.cell? ⟨(ad295.add ((x12_6).toNat * 6)).block, (ad295.add ((x12_6).toNat * 6)).off + 2, none⟩ = some (.int .i64 ((rd_T99 l1_3 x12_6).f2)) ∧ w'.cell? ⟨(ad295.add ((x12_6).toNat * 6)).block, (ad295.add ((x12_6).toNat * 6)).off + 3, none⟩ = some (.slice A295_3 ((rd_T99 l1_3 x12_6).f3).length c295_3) ∧ w'.cell? ⟨(ad295.add ((x12_6).toNat * 6)).block, (ad295.add ((x12_6).toNat * 6)).off + 4, none⟩ = some (.slice A295_4 ((rd_T99 l1_3 x12_6).f4).length c295_4) ∧ w'.cell? ⟨(ad295.add ((x12_6).toNat * 6)).block, (ad295.add ((x12_6).toNat * 6)).off + 5, none⟩ = some (.slice A295_5 ((rd_T99 l1_3 x12_6).f5).length c295_5)) (ds := []) bw23_13 (by kernel_rfl) rfl rfl ⟨(blk_cell BK250.out 0).trans rfl, (blk_cell BK250.out 1).trans rfl, (blk_cell BK250.out 2).trans rfl, (blk_cell BK250.out 3).trans rfl, (blk_cell BK251.out 0).trans rfl, (blk_cell BK251.out 1).trans rfl, (blk_cell BK251.out 2).trans rfl, (blk_cell BK251.out 3).trans rfl, (hc23_ HB.out hw295_0 :), (hc23_ HB.out hw295_1 :), (hc23_ HB.out hw295_2 :), (hc23_ HB.out hw295_3 :), (hc23_ HB.out hw295_4 :), (hc23_ HB.out hw295_5 :)⟩ (fun hHeld => ?_); refine with_tabW semblanceref53_Lines.tab26 semblanceref53_Lines.bits26 (fun HT_ HW_ => ?_)
              generalize wr.drew = w214 at HO_5 BK250 BK251 HB HR295_3 HR295_4 HR295_5 hx295_0 hx295_1 hx295_2 hx295_3 hx295_4 hx295_5 hHeld ⊢
              refine pure_ (i := 1) (N := some 145) (v := ?_) (a' := ?_) bw23_14 rfl rfl (any_of HT_.out (by kernel_rfl)) (fun _ _ _ h => h) (Or.inl ⟨by rfl, ?_⟩) ?_ ?_
              rotate_left
              ·intro w'
               go_simp
               with_reducible rfl
              rotate_left
              ·simp only [Act.put, sb_, s0_, s1_, i64_w, i32_w]
               rfl
              refine pure_ (i := 3) (N := some 147) (v := ?_) (a' := ?_) bw23_15 rfl rfl (any_of HT_.out (by kernel_rfl)) (fun _ _ _ h => h) (Or.inl ⟨by rfl, ?_⟩) ?_ ?_
              rotate_left
              ·intro w'
               go_simp
               with_reducible rfl
              rotate_left
              ·simp only [Act.put, sb_, s0_, s1_, i64_w, i32_w]
               rfl
              refine take_ (i := 0) (N := some 144) (v := ?_) (a' := ?_) bw23_16 rfl rfl (take_ofW HT_.out HW_.out (by kernel_rfl)) (fun _ _ _ h => h) (Or.inl ⟨by rfl, ?_⟩) hHeld ?_ ?_
              rotate_left
              ·rintro w' ⟨s0, s1, s2, s3, s4, s5, s6, s7, s8, s9, s10, s11, s12, s13⟩
               go_simp
               with_reducible rfl
              rotate_left
              ·simp only [Act.put, sb_, s0_, s1_, i64_w, i32_w]
               rfl
              refine take_ (i := 2) (N := some 146) (v := ?_) (a' := ?_) bw23_17 rfl rfl (take_ofW HT_.out HW_.out (by kernel_rfl)) (fun _ _ _ h => h) (Or.inl ⟨by rfl, ?_⟩) hHeld ?_ ?_
              rotate_left
              ·rintro w' ⟨s0, s1, s2, s3, s4, s5, s6, s7, s8, s9, s10, s11, s12, s13⟩
               go_simp
               with_reducible rfl
              rotate_left
              ·simp only [Act.put, sb_, s0_, s1_, i64_w, i32_w]
               rfl
              refine pure_ (i := 4) (N := some 148) (v := ?_) (a' := ?_) bw23_18 rfl rfl (any_of HT_.out (by kernel_rfl)) (fun _ _ _ h => h) (Or.inl ⟨by rfl, ?_⟩) ?_ ?_
              rotate_left
              ·intro w'
               go_simp
               with_reducible rfl
              rotate_left
              ·simp only [Act.put, sb_, s0_, s1_, i64_w, i32_w]
               rfl
              refine pure_ (i := 5) (N := some 149) (v := ?_) (a' := ?_) bw23_19 rfl rfl (any_of HT_.out (by kernel_rfl)) (fun _ _ _ h => h) (Or.inl ⟨by rfl, ?_⟩) ?_ ?_
              rotate_left
              ·intro w'
               go_simp
               with_reducible rfl
              rotate_left
              ·simp only [Act.put, sb_, s0_, s1_, i64_w, i32_w]
               rfl
              refine take_ (i := 6) (N := some 150) (v := ?_) (a' := ?_) bw23_20 rfl rfl (take_ofW HT_.out HW_.out (by kernel_rfl)) (fun _ _ _ h => h) (Or.inl ⟨by rfl, ?_⟩) hHeld ?_ ?_
              rotate_left
              ·rintro w' ⟨s0, s1, s2, s3, s4, s5, s6, s7, s8, s9, s10, s11, s12, s13⟩
               go_simp
               with_reducible rfl
              rotate_left
              ·simp only [Act.put, sb_, s0_, s1_, i64_w, i32_w]
               rfl
              refine one_ (i := 7) (N := some 151) bw23_21 rfl rfl (one_of HT_.out (by kernel_rfl)) (by decide) (fun K hK => ?_)
              refine goes_ Try.func70 (by kernel_rfl) rfl #[.agg #[.string a0_0, .slice A0_1 l0_1.length c0_1, .slice A0_2 l0_2.length c0_2, .slice A0_3 l0_3.length c0_3], .string ((rd_T99 l1_3 x12_6).f0)] (by rfl) rfl rfl (by (try simp only [List.map_toArray, List.map_cons, List.map_nil]); first | done | rfl | (simp only [List.length_drop, List.length_take]; rfl)) ?_
              with_reducible refine (semblanceref17_Place.calls k6 a0_0 _ _ l0_1 _ _ l0_2 _ _ l0_3 ((rd_T99 l1_3 x12_6).f0) t296 _ ?side1 ?side2 ?side3 ?side4 ?side5 ?side6 A208.out).mono ?_
              (case side1 => repeat (first | exact (Kd.C_below HR0_1.out HB.out) | (with_reducible refine Kd.C_alloc ?_ _) | (with_reducible refine Kd.C_drewN ?_ _) | (with_reducible refine Kd.C_drew ?_)))
              (case side2 => exact HC0_1.out)
              (case side3 => repeat (first | exact (Kd.C_below HR0_2.out HB.out) | (with_reducible refine Kd.C_alloc ?_ _) | (with_reducible refine Kd.C_drewN ?_ _) | (with_reducible refine Kd.C_drew ?_)))
              (case side4 => exact HC0_2.out)
              (case side5 => repeat (first | exact (Kd.C_below HR0_3.out HB.out) | (with_reducible refine Kd.C_alloc ?_ _) | (with_reducible refine Kd.C_drewN ?_ _) | (with_reducible refine Kd.C_drew ?_)))
              (case side6 => exact HC0_3.out)
              rintro e w215 ⟨rfl, hb⟩
              refine ⟨_, rfl, ?_⟩
              have n0_ := Aside0.mk (Kd.R_below (by (with_reducible repeat (first | apply Kd.R_alloc | apply Kd.R_drewN | apply Kd.R_drew)); exact HO_5.out) hb)
              have n1_ := Aside0.mk (blk_below (grw BK250.out) hb)
              have n2_ := Aside0.mk (blk_below (grw BK251.out) hb)
              have n3_ := Aside0.mk (below_step (by repeat (first | (with_reducible first | exact HB.out | apply below_alloc | apply pw_below_drewN | apply below_drew1 | refine below_set ?_ GE250.out | refine below_set ?_ GE251.out) | exact HB.out)) hb)
              clear HO_5
              clear BK250
              clear BK251
              clear HB
              have HO_5 := n0_
              have BK250 := n1_
              have BK251 := n2_
              have HB := n3_
              clear n0_ n1_ n2_ n3_
              (try clear hb)
              (try clear hb2)
              (try clear hk)
              (try clear hi)
              refine hK.out _ _ ⟨(blk_cell BK250.out 0).trans rfl, (blk_cell BK250.out 1).trans rfl, (blk_cell BK250.out 2).trans rfl, (blk_cell BK250.out 3).trans rfl, (blk_cell BK251.out 0).trans rfl, (blk_cell BK251.out 1).trans rfl, (blk_cell BK251.out 2).trans rfl, (blk_cell BK251.out 3).trans rfl, (hc23_ HB.out hw295_0 :), (hc23_ HB.out hw295_1 :), (hc23_ HB.out hw295_2 :), (hc23_ HB.out hw295_3 :), (hc23_ HB.out hw295_4 :), (hc23_ HB.out hw295_5 :)⟩ (fun hHeld => ?_)
              clear hK K
              refine norm_ (a' := ?_) ?_ ?_
              rotate_left
              ·show Act.put _ (some 151) _ = _
               simp only [Act.put, sb_, s0_, s1_, i64_w, i32_w]
               rfl
              have H := HZ_.out
              clear HZ_
              by_cases c209 : t296 < 0
              rotate_left
              ·rw [if_neg c209] at H
               have c209b0 : decide (t296 < 0) = false := decide_eq_false c209
               clear c209
               have H' := Aside0.mk H
               clear H
               have hnb218 := NB251_250.out
               have hnc218 := NB250_251.out
               refine pure_ (i := 8) (N := some 152) (v := ?_) (a' := ?_) bw23_22 rfl rfl (any_of HT_.out (by kernel_rfl)) (fun _ _ _ h => h) (Or.inl ⟨by rfl, ?_⟩) ?_ ?_
               rotate_left
               ·intro w'
                go_simp
                with_reducible rfl
               rotate_left
               ·simp only [Act.put, sb_, s0_, s1_, i64_w, i32_w]
                rfl
               refine done_ (done_of HT_.out (by kernel_rfl)) ?_
               try go_wp2
               go_roundg k6
               case measure => have := HJ2.out; have := HJ14.out; have := HJ21.out; have := HJ36.out; have := HK5.out; have := HK6.out; omega
               case rel => exact ⟨(x5_6), (wrap64 (x12_6 + 1)), (by first | rfl | (simp; done) | (simp [*]; done)), H', ⟨by have := HJ2.out; have := HJ14.out; have := HJ21.out; have := HJ36.out; have := HK5.out; have := HK6.out; omega⟩, ⟨by (with_reducible repeat (first | apply Kd.R_alloc | apply Kd.R_drewN | apply Kd.R_drew)); exact HO_5.out⟩, ⟨grw BK250.out⟩, ⟨grw BK251.out⟩, ⟨by repeat (first | (with_reducible first | exact HB.out | apply below_alloc | apply pw_below_drewN | apply below_drew1 | refine below_set ?_ GE250.out | refine below_set ?_ GE251.out) | exact HB.out)⟩⟩
              rw [if_pos c209] at H
              have c209b0 : decide (t296 < 0) = true := decide_eq_true c209
              clear c209
              by_cases c210 : 2 + ((rd_T99 l1_3 x12_6).f0).size ≤ 9223372036854775807
              rotate_left
              ·rw [if_neg c210] at H
               exact absurd H (by simp)
              rw [if_pos c210] at H
              have c210b0 := eq_true c210
              have c210b1 : decide (2 + ((rd_T99 l1_3 x12_6).f0).size ≤ 9223372036854775807) = true := decide_eq_true c210
              try have c210b2 : (9223372036854775807 < 2 + ((rd_T99 l1_3 x12_6).f0).size) = False := eq_false (Nat.not_lt.2 c210)
              by_cases c211 : x5_6.length < 8796093022208
              rotate_left
              ·rw [if_neg c211] at H
               exact absurd H (by simp)
              rw [if_pos c211] at H
              have LMc211 := Aside0.mk c211
              clear c211
              obtain ⟨y298, hy298⟩ : ∃ y_ : List ByteArray, y_ = (x5_6 ++ [(⟨#[43, 32]⟩ : ByteArray) ++ ((rd_T99 l1_3 x12_6).f0)]) := ⟨_, rfl⟩
              replace H : (semblanceref53_Lines.l2 k6 y298 (wrap64 (x12_6 + 1)) a0_0 l0_1 l0_2 l0_3 a1_0 l1_1 l1_2 l1_3) = some r := by first | (rw [hy298]; with_reducible exact H) | (have H2_ := (Option.bind_some _ _).symm.trans H; rw [hy298]; with_reducible exact H2_) | (have H2_ := (Option.bind_some _ _).symm.trans H; with_reducible exact H2_) | with_reducible exact H | (rw [hy298]; exact H) | exact H
              have Ny298 := Aside0.mk hy298
              clear hy298
              have H' := Aside0.mk H
              clear H
              have hnb212 := NB251_250.out
              have hnc212 := NB250_251.out
              refine pure_ (i := 8) (N := some 152) (v := ?_) (a' := ?_) bw23_22 rfl rfl (any_of HT_.out (by kernel_rfl)) (fun _ _ _ h => h) (Or.inl ⟨by rfl, ?_⟩) ?_ ?_
              rotate_left
              ·intro w'
               go_simp
               with_reducible rfl
              rotate_left
              ·simp only [Act.put, sb_, s0_, s1_, i64_w, i32_w]
               rfl
              refine done_ (done_of HT_.out (by kernel_rfl)) ?_
              obtain ⟨hcz216_0, hcz216_1, hcz216_2, hcz216_3⟩ := cz4_ BK251.out
              obtain ⟨hfz216_0, hfz216_1, hfz216_2, hfz216_3⟩ := cf4_ BK251.out
              have p297 : 0 ≤ (x12_6 : Int) := of_decide_eq_true (by first | (with_reducible assumption) | assumption)
              have q297 : x12_6 < (l1_3.length : Int) := of_decide_eq_true (by first | (with_reducible assumption) | assumption)
              obtain ⟨ad297, A297_3, c297_3, A297_4, c297_4, A297_5, c297_5, e297, hx297_0, hx297_1, hx297_2, hx297_3, hx297_4, hx297_5, hl297_3, hi297_3, hl297_4, hi297_4, hl297_5, hi297_5⟩ := at_T99 HR1_3.out x12_6 p297 q297
              obtain rfl : ad295 = ad297 := (by injection e297)
              replace hx297_0 := hc23_ HB.out hx297_0
              replace hx297_1 := hc23_ HB.out hx297_1
              replace hx297_2 := hc23_ HB.out hx297_2
              replace hx297_3 := hc23_ HB.out hx297_3
              replace hx297_4 := hc23_ HB.out hx297_4
              replace hx297_5 := hc23_ HB.out hx297_5
              have HR297_3 := Aside0.mk hi297_3
              have HC297_3 := Aside0.mk hl297_3
              clear hi297_3 hl297_3
              have HR297_4 := Aside0.mk hi297_4
              have HC297_4 := Aside0.mk hl297_4
              clear hi297_4 hl297_4
              have HR297_5 := Aside0.mk hi297_5
              have HC297_5 := Aside0.mk hl297_5
              clear hi297_5 hl297_5
              replace p297 := eq_true p297
              replace q297 := eq_true q297
              try go_wp2_with (first | ((with_reducible refine gate_builtin (b := .append) (xs := #[.tmp 153, .tmp 161]) rfl ?_); at_builtin; refine Kd.R_append Kd.string (w0 := w) w.heap.size rfl (.tmp 153) (.tmp 161) 55 9 (.string ⟨#[]⟩) 16 rfl Try.underlying55 info9 rfl (by decide) (by omega) u5 x5_6 ((⟨#[43, 32]⟩ : ByteArray) ++ ((rd_T99 l1_3 x12_6).f0)) [.string ((⟨#[43, 32]⟩ : ByteArray) ++ ((rd_T99 l1_3 x12_6).f0))] (fun _ => True) (fun _ => False) rfl rfl ?aP (fun _ hk => hk.elim) ?aF ?aO ?aB ?aS ?aL ?_; (case aP => exact rfl); (case aB => exact (by repeat (first | (with_reducible first | exact HB.out | apply below_alloc | apply pw_below_drewN | apply below_drew1 | refine below_set ?_ GE250.out | refine below_set ?_ GE251.out) | exact HB.out))); (case aF => exact (fun _ _ => trivial)); (case aO => exact (by (with_reducible repeat (first | apply Kd.R_alloc | apply Kd.R_drewN | apply Kd.R_drew)); exact HO_5.out)); (case aS => exact (below_size (by repeat (first | (with_reducible first | exact HB.out | apply below_alloc | apply pw_below_drewN | apply below_drew1 | refine below_set ?_ GE250.out | refine below_set ?_ GE251.out) | exact HB.out)))); (case aL => have := LMc211.out; omega); intro v299 w217 ho hb hg hat; rw [← Ny298.out] at ho; have n0_ := Aside0.mk (blk_grown (grw BK250.out) hg (Kd.R_ne HO_5.out BK250.out (by decide))); have n1_ := Aside0.mk (blk_grown (grw BK251.out) hg (Kd.R_ne HO_5.out BK251.out (by decide))); have n2_ := Aside0.mk (hb); have n3_ := Aside0.mk (ho); clear BK250; clear BK251; clear HB; clear HO_5; have BK250 := n0_; have BK251 := n1_; have HB := n2_; have HO300 := n3_; clear n0_ n1_ n2_ n3_; clear ho hb hg hat))
              go_roundg k6
              case measure => have := HJ2.out; have := HJ14.out; have := HJ21.out; have := HJ36.out; have := HK5.out; have := HK6.out; omega
              case rel => exact ⟨(y298), (wrap64 (x12_6 + 1)), (by first | rfl | (simp; done) | (simp [*]; done)), H', ⟨by have := HJ2.out; have := HJ14.out; have := HJ21.out; have := HJ36.out; have := HK5.out; have := HK6.out; omega⟩, ⟨by (with_reducible repeat (first | apply Kd.R_alloc | apply Kd.R_drewN | apply Kd.R_drew)); exact HO300.out⟩, ⟨grw BK250.out⟩, ⟨grw BK251.out⟩, ⟨by repeat (first | (with_reducible first | exact HB.out | apply below_alloc | apply pw_below_drewN | apply below_drew1 | refine below_set ?_ GE250.out | refine below_set ?_ GE251.out) | exact HB.out)⟩⟩
           rw [if_pos c41] at H
           have c41b0 : decide (x8_5 < (l0_3.length : Int)) = true := decide_eq_true c41
           clear c41
           by_cases c42 : 0 ≤ x8_5
           rotate_left
           ·rw [if_neg c42] at H
            exact absurd H (by simp)
           rw [if_pos c42] at H
           have c42b0 : decide (0 ≤ x8_5) = true := decide_eq_true c42
           clear c42
           replace H := Option.bind_eq_some_iff.mp H
           obtain ⟨t269, A430, H⟩ := H
           replace H : (if t269 < 0 then (if 2 + ((rd_T99 l0_3 x8_5).f0).size ≤ 9223372036854775807 then (if x5_5.length < 8796093022208 then (semblanceref53_Lines.l1 k5 (x5_5 ++ [(⟨#[45, 32]⟩ : ByteArray) ++ ((rd_T99 l0_3 x8_5).f0)]) (wrap64 (x8_5 + 1)) a0_0 l0_1 l0_2 l0_3 a1_0 l1_1 l1_2 l1_3) else (none)) else (none)) else (if 0 ≤ t269 then (if t269 < (l1_3.length : Int) then (if ((rd_T99 l0_3 x8_5).f1) = ((rd_T99 l1_3 t269).f1) then ((semblanceref53_above.f a0_0 l0_1 l0_2 l0_3 x8_5).bind fun t275 => ((semblanceref53_above.f a1_0 l1_1 l1_2 l1_3 t269).bind fun t276 => (if t275.toList = t276.toList then ((semblanceref08_Same.f k5 ((rd_T99 l0_3 x8_5).f3) ((rd_T99 l1_3 t269).f3)).bind fun t277 => (if t277 = true then ((semblanceref08_Same.f k5 ((rd_T99 l0_3 x8_5).f4) ((rd_T99 l1_3 t269).f4)).bind fun t278 => (if t278 = true then ((semblanceref09_All.f k5 ((rd_T99 l0_3 x8_5).f5) ((rd_T99 l1_3 t269).f5)).bind fun t279 => (if t279 = true then (semblanceref53_Lines.l1 k5 x5_5 (wrap64 (x8_5 + 1)) a0_0 l0_1 l0_2 l0_3 a1_0 l1_1 l1_2 l1_3) else (if 2 + ((rd_T99 l0_3 x8_5).f0).size ≤ 9223372036854775807 then (if x5_5.length < 8796093022208 then (semblanceref53_Lines.l1 k5 (x5_5 ++ [(⟨#[126, 32]⟩ : ByteArray) ++ ((rd_T99 l0_3 x8_5).f0)]) (wrap64 (x8_5 + 1)) a0_0 l0_1 l0_2 l0_3 a1_0 l1_1 l1_2 l1_3) else (none)) else (none)))) else (if 2 + ((rd_T99 l0_3 x8_5).f0).size ≤ 9223372036854775807 then (if x5_5.length < 8796093022208 then (semblanceref53_Lines.l1 k5 (x5_5 ++ [(⟨#[126, 32]⟩ : ByteArray) ++ ((rd_T99 l0_3 x8_5).f0)]) (wrap64 (x8_5 + 1)) a0_0 l0_1 l0_2 l0_3 a1_0 l1_1 l1_2 l1_3) else (none)) else (none)))) else (if 2 + ((rd_T99 l0_3 x8_5).f0).size ≤ 9223372036854775807 then (if x5_5.length < 8796093022208 then (semblanceref53_Lines.l1 k5 (x5_5 ++ [(⟨#[126, 32]⟩ : ByteArray) ++ ((rd_T99 l0_3 x8_5).f0)]) (wrap64 (x8_5 + 1)) a0_0 l0_1 l0_2 l0_3 a1_0 l1_1 l1_2 l1_3) else (none)) else (none)))) else (if 2 + ((rd_T99 l0_3 x8_5).f0).size ≤ 9223372036854775807 then (if x5_5.length < 8796093022208 then (semblanceref53_Lines.l1 k5 (x5_5 ++ [(⟨#[126, 32]⟩ : ByteArray) ++ ((rd_T99 l0_3 x8_5).f0)]) (wrap64 (x8_5 + 1)) a0_0 l0_1 l0_2 l0_3 a1_0 l1_1 l1_2 l1_3) else (none)) else (none))))) else (if 2 + ((rd_T99 l0_3 x8_5).f0).size ≤ 9223372036854775807 then (if x5_5.length < 8796093022208 then (semblanceref53_Lines.l1 k5 (x5_5 ++ [(⟨#[126, 32]⟩ : ByteArray) ++ ((rd_T99 l0_3 x8_5).f0)]) (wrap64 (x8_5 + 1)) a0_0 l0_1 l0_2 l0_3 a1_0 l1_1 l1_2 l1_3) else (none)) else (none))) else (none)) else (none))) = some r := H
           have A43 := Aside0.mk A430
           clear A430
           have HZ_ := Aside0.mk H
           clear H
           obtain ⟨hcz48_0, hcz48_1, hcz48_2, hcz48_3⟩ := cz4_ BK250.out
           obtain ⟨hfz48_0, hfz48_1, hfz48_2, hfz48_3⟩ := cf4_ BK250.out
           have p267 : 0 ≤ (x8_5 : Int) := of_decide_eq_true (by first | (with_reducible assumption) | assumption)
           have q267 : x8_5 < (l0_3.length : Int) := of_decide_eq_true (by first | (with_reducible assumption) | assumption)
           obtain ⟨ad267, A267_3, c267_3, A267_4, c267_4, A267_5, c267_5, e267, hx267_0, hx267_1, hx267_2, hx267_3, hx267_4, hx267_5, hl267_3, hi267_3, hl267_4, hi267_4, hl267_5, hi267_5⟩ := at_T99 HR0_3.out x8_5 p267 q267
           cases e267
           replace hx267_0 := hc23_ HB.out hx267_0
           replace hx267_1 := hc23_ HB.out hx267_1
           replace hx267_2 := hc23_ HB.out hx267_2
           replace hx267_3 := hc23_ HB.out hx267_3
           replace hx267_4 := hc23_ HB.out hx267_4
           replace hx267_5 := hc23_ HB.out hx267_5
           have HR267_3 := Aside0.mk hi267_3
           have HC267_3 := Aside0.mk hl267_3
           clear hi267_3 hl267_3
           have HR267_4 := Aside0.mk hi267_4
           have HC267_4 := Aside0.mk hl267_4
           clear hi267_4 hl267_4
           have HR267_5 := Aside0.mk hi267_5
           have HC267_5 := Aside0.mk hl267_5
           clear hi267_5 hl267_5
           replace p267 := eq_true p267
           replace q267 := eq_true q267
           have H := HZ_.out
           clear HZ_
           by_cases c44 : t269 < 0
           ·rw [if_pos c44] at H
            have c44b0 : decide (t269 < 0) = true := decide_eq_true c44
            clear c44
            by_cases c45 : 2 + ((rd_T99 l0_3 x8_5).f0).size ≤ 9223372036854775807
            rotate_left
            ·rw [if_neg c45] at H
             exact absurd H (by simp)
            rw [if_pos c45] at H
            have c45b0 := eq_true c45
            have c45b1 : decide (2 + ((rd_T99 l0_3 x8_5).f0).size ≤ 9223372036854775807) = true := decide_eq_true c45
            try have c45b2 : (9223372036854775807 < 2 + ((rd_T99 l0_3 x8_5).f0).size) = False := eq_false (Nat.not_lt.2 c45)
            by_cases c46 : x5_5.length < 8796093022208
            rotate_left
            ·rw [if_neg c46] at H
             exact absurd H (by simp)
            rw [if_pos c46] at H
            have LMc46 := Aside0.mk c46
            clear c46
            obtain ⟨y270, hy270⟩ : ∃ y_ : List ByteArray, y_ = (x5_5 ++ [(⟨#[45, 32]⟩ : ByteArray) ++ ((rd_T99 l0_3 x8_5).f0)]) := ⟨_, rfl⟩
            replace H : (semblanceref53_Lines.l1 k5 y270 (wrap64 (x8_5 + 1)) a0_0 l0_1 l0_2 l0_3 a1_0 l1_1 l1_2 l1_3) = some r := by first | (rw [hy270]; with_reducible exact H) | (have H2_ := (Option.bind_some _ _).symm.trans H; rw [hy270]; with_reducible exact H2_) | (have H2_ := (Option.bind_some _ _).symm.trans H; with_reducible exact H2_) | with_reducible exact H | (rw [hy270]; exact H) | exact H
            have Ny270 := Aside0.mk hy270
            clear hy270
            have H' := Aside0.mk H
            clear H
            as_aux_lemma =>
             have hnb47 := NB250_251.out
             have hnc47 := NB251_250.out
             go_wp2_with (first | ((with_reducible refine gate_dst (N := 9) rfl ?_); refine box_store ?hg ?hg2 (N := 9) ?hd ?hd2 (cs := #[.string (⟨#[]⟩ : ByteArray), .int .i64 0, .int .i64 0, .slice none 0 0, .slice none 0 0, .slice none 0 0]) (vs := #[.string ((rd_T99 l0_3 x8_5).f0), .int .i64 ((rd_T99 l0_3 x8_5).f1), .int .i64 ((rd_T99 l0_3 x8_5).f2), .slice A267_3 ((rd_T99 l0_3 x8_5).f3).length c267_3, .slice A267_4 ((rd_T99 l0_3 x8_5).f4).length c267_4, .slice A267_5 ((rd_T99 l0_3 x8_5).f5).length c267_5]) (t := 99) (.tmp 75) ?hr ?ho ?hx ?hy ?hi rfl ?hall ?_; (case hd => rfl); (case hd2 => rfl); (case hg => rfl); (case hg2 => rfl); (case hr => first | (go_simp; done) | (go_simp; rfl)); (case ho => rfl); (case hx => intro _; rfl); (case hy => intro _; rfl); (case hi => kernel_rfl); (case hall => simp [Value.oneCell']); intro gb268 hg w49 hbox hb; have hB_ := bz23_ hb (by repeat (first | (with_reducible first | exact HB.out | apply below_alloc | apply pw_below_drewN | apply below_drew1 | refine below_set ?_ GE250.out | refine below_set ?_ GE251.out) | exact HB.out)); have n0_ := Aside0.mk (Kd.R_below (by (with_reducible repeat (first | apply Kd.R_alloc | apply Kd.R_drewN | apply Kd.R_drew)); exact HO_5.out) hb); have n1_ := Aside0.mk (blk_below (grw BK250.out) hb); have n2_ := Aside0.mk (blk_below (grw BK251.out) hb); have n3_ := Aside0.mk (below_step hB_ hb); have n4_ := Aside0.mk (hbox); have n5_ := Aside0.mk ((by rw [hg]; exact (below_size hB_) : w.heap.size ≤ gb268)); have n6_ := Aside0.mk ((by rw [hg]; exact (below_size hB_) : w.heap.size ≤ gb268)); have n7_ := Aside0.mk ((by rw [hg]; exact Nat.ne_of_lt (blk_lt (grw BK250.out)) : gb250 ≠ gb268)); have n8_ := Aside0.mk ((by rw [hg]; exact Nat.ne_of_gt (blk_lt (grw BK250.out)) : gb268 ≠ gb250)); have n9_ := Aside0.mk ((by rw [hg]; exact Nat.ne_of_lt (blk_lt (grw BK251.out)) : gb251 ≠ gb268)); have n10_ := Aside0.mk ((by rw [hg]; exact Nat.ne_of_gt (blk_lt (grw BK251.out)) : gb268 ≠ gb251)); clear HO_5; clear BK250; clear BK251; clear HB; have HO_5 := n0_; have BK250 := n1_; have BK251 := n2_; have HB := n3_; have BK268 := n4_; have GW268 := n5_; have GE268 := n6_; have NB250_268 := n7_; have NB268_250 := n8_; have NB251_268 := n9_; have NB268_251 := n10_; clear n0_ n1_ n2_ n3_ n4_ n5_ n6_ n7_ n8_ n9_ n10_; clear hb hbox hg; have hnb50 := NB268_250.out; have hnc50 := NB250_268.out; have hnb51 := NB268_251.out; have hnc51 := NB251_268.out; obtain ⟨hcz52_0, hcz52_1, hcz52_2, hcz52_3, hcz52_4, hcz52_5⟩ := cz6_ BK268.out; obtain ⟨hfz52_0, hfz52_1, hfz52_2, hfz52_3, hfz52_4, hfz52_5⟩ := cf6_ BK268.out; obtain ⟨hcz53_0, hcz53_1, hcz53_2, hcz53_3⟩ := cz4_ BK251.out; obtain ⟨hfz53_0, hfz53_1, hfz53_2, hfz53_3⟩ := cf4_ BK251.out) | ((with_reducible refine gate_callee (f := 70) rfl ?_); refine goesL_ (some 79) rfl rfl Try.func70 (by kernel_rfl) rfl #[.agg #[.string a1_0, .slice A1_1 l1_1.length c1_1, .slice A1_2 l1_2.length c1_2, .slice A1_3 l1_3.length c1_3], .string ((rd_T99 l0_3 x8_5).f0)] rfl (by (try simp only [List.map_toArray, List.map_cons, List.map_nil]); first | done | rfl | (simp only [List.length_drop, List.length_take]; rfl)) ?_; (with_reducible refine (semblanceref17_Place.calls k5 a1_0 _ _ l1_1 _ _ l1_2 _ _ l1_3 ((rd_T99 l0_3 x8_5).f0) t269 _ ?side1 ?side2 ?side3 ?side4 ?side5 ?side6 A43.out).mono ?_); (case side1 => exact Kd.C_below HR1_1.out (by repeat (first | (with_reducible first | exact HB.out | apply below_alloc | apply pw_below_drewN | apply below_drew1 | refine below_set ?_ GE250.out | refine below_set ?_ GE251.out | refine below_set ?_ GE268.out) | exact HB.out))); (case side2 => exact HC1_1.out); (case side3 => exact Kd.C_below HR1_2.out (by repeat (first | (with_reducible first | exact HB.out | apply below_alloc | apply pw_below_drewN | apply below_drew1 | refine below_set ?_ GE250.out | refine below_set ?_ GE251.out | refine below_set ?_ GE268.out) | exact HB.out))); (case side4 => exact HC1_2.out); (case side5 => exact Kd.C_below HR1_3.out (by repeat (first | (with_reducible first | exact HB.out | apply below_alloc | apply pw_below_drewN | apply below_drew1 | refine below_set ?_ GE250.out | refine below_set ?_ GE251.out | refine below_set ?_ GE268.out) | exact HB.out))); (case side6 => exact HC1_3.out); rintro e w54 ⟨rfl, hb⟩; refine ⟨_, rfl, ?_⟩; have n0_ := Aside0.mk (Kd.R_below (by (with_reducible repeat (first | apply Kd.R_alloc | apply Kd.R_drewN | apply Kd.R_drew)); exact HO_5.out) hb); have n1_ := Aside0.mk (blk_below (grw BK250.out) hb); have n2_ := Aside0.mk (blk_below (grw BK251.out) hb); have n3_ := Aside0.mk (blk_below (grw BK268.out) hb); have n4_ := Aside0.mk (below_step (by repeat (first | (with_reducible first | exact HB.out | apply below_alloc | apply pw_below_drewN | apply below_drew1 | refine below_set ?_ GE250.out | refine below_set ?_ GE251.out | refine below_set ?_ GE268.out) | exact HB.out)) hb); clear HO_5; clear BK250; clear BK251; clear BK268; clear HB; have HO_5 := n0_; have BK250 := n1_; have BK251 := n2_; have BK268 := n3_; have HB := n4_; clear n0_ n1_ n2_ n3_ n4_; (try clear hb); (try clear hb2); (try clear hk); (try clear hi); obtain ⟨hcz55_0, hcz55_1, hcz55_2, hcz55_3, hcz55_4, hcz55_5⟩ := cz6_ BK268.out; obtain ⟨hfz55_0, hfz55_1, hfz55_2, hfz55_3, hfz55_4, hfz55_5⟩ := cf6_ BK268.out) | ((with_reducible refine gate_builtin (b := .append) (xs := #[.tmp 82, .tmp 86]) rfl ?_); at_builtin; refine Kd.R_append Kd.string (w0 := w) w.heap.size rfl (.tmp 82) (.tmp 86) 55 9 (.string ⟨#[]⟩) 16 rfl Try.underlying55 info9 rfl (by decide) (by omega) u5 x5_5 ((⟨#[45, 32]⟩ : ByteArray) ++ ((rd_T99 l0_3 x8_5).f0)) [.string ((⟨#[45, 32]⟩ : ByteArray) ++ ((rd_T99 l0_3 x8_5).f0))] (fun _ => True) (fun _ => False) rfl rfl ?aP (fun _ hk => hk.elim) ?aF ?aO ?aB ?aS ?aL ?_; (case aP => exact rfl); (case aB => exact (by repeat (first | (with_reducible first | exact HB.out | apply below_alloc | apply pw_below_drewN | apply below_drew1 | refine below_set ?_ GE250.out | refine below_set ?_ GE251.out | refine below_set ?_ GE268.out) | exact HB.out))); (case aF => exact (fun _ _ => trivial)); (case aO => exact (by (with_reducible repeat (first | apply Kd.R_alloc | apply Kd.R_drewN | apply Kd.R_drew)); exact HO_5.out)); (case aS => exact (below_size (by repeat (first | (with_reducible first | exact HB.out | apply below_alloc | apply pw_below_drewN | apply below_drew1 | refine below_set ?_ GE250.out | refine below_set ?_ GE251.out | refine below_set ?_ GE268.out) | exact HB.out)))); (case aL => have := LMc46.out; omega); intro v271 w56 ho hb hg hat; rw [← Ny270.out] at ho; have n0_ := Aside0.mk (blk_grown (grw BK250.out) hg (Kd.R_ne HO_5.out BK250.out (by decide))); have n1_ := Aside0.mk (blk_grown (grw BK251.out) hg (Kd.R_ne HO_5.out BK251.out (by decide))); have n2_ := Aside0.mk (blk_grown (grw BK268.out) hg (Kd.R_ne HO_5.out BK268.out (by decide))); have n3_ := Aside0.mk (hb); have n4_ := Aside0.mk (ho); clear BK250; clear BK251; clear BK268; clear HB; clear HO_5; have BK250 := n0_; have BK251 := n1_; have BK268 := n2_; have HB := n3_; have HO272 := n4_; clear n0_ n1_ n2_ n3_ n4_; clear ho hb hg hat))
             go_roundg k5
             case measure => have := HJ2.out; have := HJ14.out; have := HJ21.out; have := HJ36.out; have := HK5.out; omega
             case rel => exact ⟨(y270), (wrap64 (x8_5 + 1)), (by first | rfl | (simp; done) | (simp [*]; done)), H', ⟨by have := HJ2.out; have := HJ14.out; have := HJ21.out; have := HJ36.out; have := HK5.out; omega⟩, ⟨by (with_reducible repeat (first | apply Kd.R_alloc | apply Kd.R_drewN | apply Kd.R_drew)); exact HO272.out⟩, ⟨grw BK250.out⟩, ⟨grw BK251.out⟩, ⟨by repeat (first | (with_reducible first | exact HB.out | apply below_alloc | apply pw_below_drewN | apply below_drew1 | refine below_set ?_ GE250.out | refine below_set ?_ GE251.out | refine below_set ?_ GE268.out) | exact HB.out)⟩⟩
           rw [if_neg c44] at H
           have c44b0 : decide (t269 < 0) = false := decide_eq_false c44
           clear c44
           by_cases c57 : 0 ≤ t269
           rotate_left
           ·rw [if_neg c57] at H
            exact absurd H (by simp)
           rw [if_pos c57] at H
           have c57b0 : decide (0 ≤ t269) = true := decide_eq_true c57
           clear c57
           by_cases c58 : t269 < (l1_3.length : Int)
           rotate_left
           ·rw [if_neg c58] at H
            exact absurd H (by simp)
           rw [if_pos c58] at H
           have c58b0 : decide (t269 < (l1_3.length : Int)) = true := decide_eq_true c58
           clear c58
           by_cases c59 : ((rd_T99 l0_3 x8_5).f1) = ((rd_T99 l1_3 t269).f1)
           rotate_left
           ·rw [if_neg c59] at H
            have c59b0 : (((rd_T99 l0_3 x8_5).f1) == ((rd_T99 l1_3 t269).f1)) = false := beq_eq_false_iff_ne.mpr c59
            have c59b1 : (((rd_T99 l0_3 x8_5).f1) != ((rd_T99 l1_3 t269).f1)) = true := bne_iff_ne.mpr c59
            by_cases c184 : 2 + ((rd_T99 l0_3 x8_5).f0).size ≤ 9223372036854775807
            rotate_left
            ·rw [if_neg c184] at H
             exact absurd H (by simp)
            rw [if_pos c184] at H
            have c184b0 := eq_true c184
            have c184b1 : decide (2 + ((rd_T99 l0_3 x8_5).f0).size ≤ 9223372036854775807) = true := decide_eq_true c184
            try have c184b2 : (9223372036854775807 < 2 + ((rd_T99 l0_3 x8_5).f0).size) = False := eq_false (Nat.not_lt.2 c184)
            by_cases c185 : x5_5.length < 8796093022208
            rotate_left
            ·rw [if_neg c185] at H
             exact absurd H (by simp)
            rw [if_pos c185] at H
            have LMc185 := Aside0.mk c185
            clear c185
            obtain ⟨y292, hy292⟩ : ∃ y_ : List ByteArray, y_ = (x5_5 ++ [(⟨#[126, 32]⟩ : ByteArray) ++ ((rd_T99 l0_3 x8_5).f0)]) := ⟨_, rfl⟩
            replace H : (semblanceref53_Lines.l1 k5 y292 (wrap64 (x8_5 + 1)) a0_0 l0_1 l0_2 l0_3 a1_0 l1_1 l1_2 l1_3) = some r := by first | (rw [hy292]; with_reducible exact H) | (have H2_ := (Option.bind_some _ _).symm.trans H; rw [hy292]; with_reducible exact H2_) | (have H2_ := (Option.bind_some _ _).symm.trans H; with_reducible exact H2_) | with_reducible exact H | (rw [hy292]; exact H) | exact H
            have Ny292 := Aside0.mk hy292
            clear hy292
            have H' := Aside0.mk H
            clear H
            have hnb186 := NB250_251.out
            have hnc186 := NB251_250.out
            try go_wp2_with (first | ((with_reducible refine gate_dst (N := 9) rfl ?_); refine box_store ?hg ?hg2 (N := 9) ?hd ?hd2 (cs := #[.string (⟨#[]⟩ : ByteArray), .int .i64 0, .int .i64 0, .slice none 0 0, .slice none 0 0, .slice none 0 0]) (vs := #[.string ((rd_T99 l0_3 x8_5).f0), .int .i64 ((rd_T99 l0_3 x8_5).f1), .int .i64 ((rd_T99 l0_3 x8_5).f2), .slice A267_3 ((rd_T99 l0_3 x8_5).f3).length c267_3, .slice A267_4 ((rd_T99 l0_3 x8_5).f4).length c267_4, .slice A267_5 ((rd_T99 l0_3 x8_5).f5).length c267_5]) (t := 99) (.tmp 75) ?hr ?ho ?hx ?hy ?hi rfl ?hall ?_; (case hd => rfl); (case hd2 => rfl); (case hg => rfl); (case hg2 => rfl); (case hr => first | (go_simp; done) | (go_simp; rfl)); (case ho => rfl); (case hx => intro _; rfl); (case hy => intro _; rfl); (case hi => kernel_rfl); (case hall => simp [Value.oneCell']); intro gb268 hg w188 hbox hb; have hB_ := bz23_ hb (by repeat (first | (with_reducible first | exact HB.out | apply below_alloc | apply pw_below_drewN | apply below_drew1 | refine below_set ?_ GE250.out | refine below_set ?_ GE251.out) | exact HB.out)); have n0_ := Aside0.mk (Kd.R_below (by (with_reducible repeat (first | apply Kd.R_alloc | apply Kd.R_drewN | apply Kd.R_drew)); exact HO_5.out) hb); have n1_ := Aside0.mk (blk_below (grw BK250.out) hb); have n2_ := Aside0.mk (blk_below (grw BK251.out) hb); have n3_ := Aside0.mk (below_step hB_ hb); have n4_ := Aside0.mk (hbox); have n5_ := Aside0.mk ((by rw [hg]; exact (below_size hB_) : w.heap.size ≤ gb268)); have n6_ := Aside0.mk ((by rw [hg]; exact (below_size hB_) : w.heap.size ≤ gb268)); have n7_ := Aside0.mk ((by rw [hg]; exact Nat.ne_of_lt (blk_lt (grw BK250.out)) : gb250 ≠ gb268)); have n8_ := Aside0.mk ((by rw [hg]; exact Nat.ne_of_gt (blk_lt (grw BK250.out)) : gb268 ≠ gb250)); have n9_ := Aside0.mk ((by rw [hg]; exact Nat.ne_of_lt (blk_lt (grw BK251.out)) : gb251 ≠ gb268)); have n10_ := Aside0.mk ((by rw [hg]; exact Nat.ne_of_gt (blk_lt (grw BK251.out)) : gb268 ≠ gb251)); clear HO_5; clear BK250; clear BK251; clear HB; have HO_5 := n0_; have BK250 := n1_; have BK251 := n2_; have HB := n3_; have BK268 := n4_; have GW268 := n5_; have GE268 := n6_; have NB250_268 := n7_; have NB268_250 := n8_; have NB251_268 := n9_; have NB268_251 := n10_; clear n0_ n1_ n2_ n3_ n4_ n5_ n6_ n7_ n8_ n9_ n10_; clear hb hbox hg; have hnb189 := NB268_250.out; have hnc189 := NB250_268.out; have hnb190 := NB268_251.out; have hnc190 := NB251_268.out; obtain ⟨hcz191_0, hcz191_1, hcz191_2, hcz191_3, hcz191_4, hcz191_5⟩ := cz6_ BK268.out; obtain ⟨hfz191_0, hfz191_1, hfz191_2, hfz191_3, hfz191_4, hfz191_5⟩ := cf6_ BK268.out; obtain ⟨hcz192_0, hcz192_1, hcz192_2, hcz192_3⟩ := cz4_ BK251.out; obtain ⟨hfz192_0, hfz192_1, hfz192_2, hfz192_3⟩ := cf4_ BK251.out) | ((with_reducible refine gate_callee (f := 70) rfl ?_); refine goesL_ (some 79) rfl rfl Try.func70 (by kernel_rfl) rfl #[.agg #[.string a1_0, .slice A1_1 l1_1.length c1_1, .slice A1_2 l1_2.length c1_2, .slice A1_3 l1_3.length c1_3], .string ((rd_T99 l0_3 x8_5).f0)] rfl (by (try simp only [List.map_toArray, List.map_cons, List.map_nil]); first | done | rfl | (simp only [List.length_drop, List.length_take]; rfl)) ?_; (with_reducible refine (semblanceref17_Place.calls k5 a1_0 _ _ l1_1 _ _ l1_2 _ _ l1_3 ((rd_T99 l0_3 x8_5).f0) t269 _ ?side1 ?side2 ?side3 ?side4 ?side5 ?side6 A43.out).mono ?_); (case side1 => exact Kd.C_below HR1_1.out (by repeat (first | (with_reducible first | exact HB.out | apply below_alloc | apply pw_below_drewN | apply below_drew1 | refine below_set ?_ GE250.out | refine below_set ?_ GE251.out | refine below_set ?_ GE268.out) | exact HB.out))); (case side2 => exact HC1_1.out); (case side3 => exact Kd.C_below HR1_2.out (by repeat (first | (with_reducible first | exact HB.out | apply below_alloc | apply pw_below_drewN | apply below_drew1 | refine below_set ?_ GE250.out | refine below_set ?_ GE251.out | refine below_set ?_ GE268.out) | exact HB.out))); (case side4 => exact HC1_2.out); (case side5 => exact Kd.C_below HR1_3.out (by repeat (first | (with_reducible first | exact HB.out | apply below_alloc | apply pw_below_drewN | apply below_drew1 | refine below_set ?_ GE250.out | refine below_set ?_ GE251.out | refine below_set ?_ GE268.out) | exact HB.out))); (case side6 => exact HC1_3.out); rintro e w193 ⟨rfl, hb⟩; refine ⟨_, rfl, ?_⟩; have n0_ := Aside0.mk (Kd.R_below (by (with_reducible repeat (first | apply Kd.R_alloc | apply Kd.R_drewN | apply Kd.R_drew)); exact HO_5.out) hb); have n1_ := Aside0.mk (blk_below (grw BK250.out) hb); have n2_ := Aside0.mk (blk_below (grw BK251.out) hb); have n3_ := Aside0.mk (blk_below (grw BK268.out) hb); have n4_ := Aside0.mk (below_step (by repeat (first | (with_reducible first | exact HB.out | apply below_alloc | apply pw_below_drewN | apply below_drew1 | refine below_set ?_ GE250.out | refine below_set ?_ GE251.out | refine below_set ?_ GE268.out) | exact HB.out)) hb); clear HO_5; clear BK250; clear BK251; clear BK268; clear HB; have HO_5 := n0_; have BK250 := n1_; have BK251 := n2_; have BK268 := n3_; have HB := n4_; clear n0_ n1_ n2_ n3_ n4_; (try clear hb); (try clear hb2); (try clear hk); (try clear hi); obtain ⟨hcz194_0, hcz194_1, hcz194_2, hcz194_3⟩ := cz4_ BK251.out; obtain ⟨hfz194_0, hfz194_1, hfz194_2, hfz194_3⟩ := cf4_ BK251.out; have p273 : 0 ≤ (t269 : Int) := of_decide_eq_true (by first | (with_reducible assumption) | assumption); have q273 : t269 < (l1_3.length : Int) := of_decide_eq_true (by first | (with_reducible assumption) | assumption); obtain ⟨ad273, A273_3, c273_3, A273_4, c273_4, A273_5, c273_5, e273, hx273_0, hx273_1, hx273_2, hx273_3, hx273_4, hx273_5, hl273_3, hi273_3, hl273_4, hi273_4, hl273_5, hi273_5⟩ := at_T99 HR1_3.out t269 p273 q273; cases e273; replace hx273_0 := hc23_ HB.out hx273_0; replace hx273_1 := hc23_ HB.out hx273_1; replace hx273_2 := hc23_ HB.out hx273_2; replace hx273_3 := hc23_ HB.out hx273_3; replace hx273_4 := hc23_ HB.out hx273_4; replace hx273_5 := hc23_ HB.out hx273_5; have HR273_3 := Aside0.mk hi273_3; have HC273_3 := Aside0.mk hl273_3; clear hi273_3 hl273_3; have HR273_4 := Aside0.mk hi273_4; have HC273_4 := Aside0.mk hl273_4; clear hi273_4 hl273_4; have HR273_5 := Aside0.mk hi273_5; have HC273_5 := Aside0.mk hl273_5; clear hi273_5 hl273_5; replace p273 := eq_true p273; replace q273 := eq_true q273) | ((with_reducible refine gate_dst (N := 11) rfl ?_); refine box_store ?hg ?hg2 (N := 11) ?hd ?hd2 (cs := #[.string (⟨#[]⟩ : ByteArray), .int .i64 0, .int .i64 0, .slice none 0 0, .slice none 0 0, .slice none 0 0]) (vs := #[.string ((rd_T99 l1_3 t269).f0), .int .i64 ((rd_T99 l1_3 t269).f1), .int .i64 ((rd_T99 l1_3 t269).f2), .slice A273_3 ((rd_T99 l1_3 t269).f3).length c273_3, .slice A273_4 ((rd_T99 l1_3 t269).f4).length c273_4, .slice A273_5 ((rd_T99 l1_3 t269).f5).length c273_5]) (t := 99) (.tmp 92) ?hr ?ho ?hx ?hy ?hi rfl ?hall ?_; (case hd => rfl); (case hd2 => rfl); (case hg => rfl); (case hg2 => rfl); (case hr => first | (go_simp; done) | (go_simp; rfl)); (case ho => rfl); (case hx => intro _; rfl); (case hy => intro _; rfl); (case hi => kernel_rfl); (case hall => simp [Value.oneCell']); intro gb274 hg w195 hbox hb; have hB_ := bz23_ hb (by repeat (first | (with_reducible first | exact HB.out | apply below_alloc | apply pw_below_drewN | apply below_drew1 | refine below_set ?_ GE250.out | refine below_set ?_ GE251.out | refine below_set ?_ GE268.out) | exact HB.out)); have n0_ := Aside0.mk (Kd.R_below (by (with_reducible repeat (first | apply Kd.R_alloc | apply Kd.R_drewN | apply Kd.R_drew)); exact HO_5.out) hb); have n1_ := Aside0.mk (blk_below (grw BK250.out) hb); have n2_ := Aside0.mk (blk_below (grw BK251.out) hb); have n3_ := Aside0.mk (blk_below (grw BK268.out) hb); have n4_ := Aside0.mk (below_step hB_ hb); have n5_ := Aside0.mk (hbox); have n6_ := Aside0.mk ((by rw [hg]; exact (below_size hB_) : w.heap.size ≤ gb274)); have n7_ := Aside0.mk ((by rw [hg]; exact (below_size hB_) : w.heap.size ≤ gb274)); have n8_ := Aside0.mk ((by rw [hg]; exact Nat.ne_of_lt (blk_lt (grw BK250.out)) : gb250 ≠ gb274)); have n9_ := Aside0.mk ((by rw [hg]; exact Nat.ne_of_gt (blk_lt (grw BK250.out)) : gb274 ≠ gb250)); have n10_ := Aside0.mk ((by rw [hg]; exact Nat.ne_of_lt (blk_lt (grw BK251.out)) : gb251 ≠ gb274)); have n11_ := Aside0.mk ((by rw [hg]; exact Nat.ne_of_gt (blk_lt (grw BK251.out)) : gb274 ≠ gb251)); have n12_ := Aside0.mk ((by rw [hg]; exact Nat.ne_of_lt (blk_lt (grw BK268.out)) : gb268 ≠ gb274)); have n13_ := Aside0.mk ((by rw [hg]; exact Nat.ne_of_gt (blk_lt (grw BK268.out)) : gb274 ≠ gb268)); clear HO_5; clear BK250; clear BK251; clear BK268; clear HB; have HO_5 := n0_; have BK250 := n1_; have BK251 := n2_; have BK268 := n3_; have HB := n4_; have BK274 := n5_; have GW274 := n6_; have GE274 := n7_; have NB250_274 := n8_; have NB274_250 := n9_; have NB251_274 := n10_; have NB274_251 := n11_; have NB268_274 := n12_; have NB274_268 := n13_; clear n0_ n1_ n2_ n3_ n4_ n5_ n6_ n7_ n8_ n9_ n10_ n11_ n12_ n13_; clear hb hbox hg; have hnb196 := NB274_250.out; have hnc196 := NB250_274.out; have hnb197 := NB274_251.out; have hnc197 := NB251_274.out; have hnb198 := NB274_268.out; have hnc198 := NB268_274.out; obtain ⟨hcz199_0, hcz199_1, hcz199_2, hcz199_3, hcz199_4, hcz199_5⟩ := cz6_ BK274.out; obtain ⟨hfz199_0, hfz199_1, hfz199_2, hfz199_3, hfz199_4, hfz199_5⟩ := cf6_ BK274.out))
            have n0_ : Aside0 (Kd.R Kd.string 9 w195 w.heap.size (fun _ => True) u5 x5_5) := ⟨by (with_reducible repeat (first | apply Kd.R_alloc | apply Kd.R_drewN | apply Kd.R_drew)); exact HO_5.out⟩
            have n1_ : Aside0 (w195.heap[gb250]? = some (.cells #[.string a0_0, .slice A0_1 l0_1.length c0_1, .slice A0_2 l0_2.length c0_2, .slice (some ad267) l0_3.length c0_3] 59 (0, 0))) := ⟨grw BK250.out⟩
            have n2_ : Aside0 (w195.heap[gb251]? = some (.cells #[.string a1_0, .slice A1_1 l1_1.length c1_1, .slice A1_2 l1_2.length c1_2, .slice (some ad273) l1_3.length c1_3] 59 (0, 0))) := ⟨grw BK251.out⟩
            have n3_ : Aside0 (w195.heap[gb268]? = some (.cells #[.string ((rd_T99 l0_3 x8_5).f0), .int .i64 ((rd_T99 l0_3 x8_5).f1), .int .i64 ((rd_T99 l0_3 x8_5).f2), .slice A267_3 ((rd_T99 l0_3 x8_5).f3).length c267_3, .slice A267_4 ((rd_T99 l0_3 x8_5).f4).length c267_4, .slice A267_5 ((rd_T99 l0_3 x8_5).f5).length c267_5] 99 (0, 0))) := ⟨grw BK268.out⟩
            have n4_ : Aside0 (w195.heap[gb274]? = some (.cells #[.string ((rd_T99 l1_3 t269).f0), .int .i64 ((rd_T99 l1_3 t269).f1), .int .i64 ((rd_T99 l1_3 t269).f2), .slice A273_3 ((rd_T99 l1_3 t269).f3).length c273_3, .slice A273_4 ((rd_T99 l1_3 t269).f4).length c273_4, .slice A273_5 ((rd_T99 l1_3 t269).f5).length c273_5] 99 (0, 0))) := ⟨grw BK274.out⟩
            have n5_ : Aside0 (Below w.heap.size w w195) := ⟨by repeat (first | (with_reducible first | exact HB.out | apply below_alloc | apply pw_below_drewN | apply below_drew1 | refine below_set ?_ GE250.out | refine below_set ?_ GE251.out | refine below_set ?_ GE268.out | refine below_set ?_ GE274.out) | exact HB.out)⟩
            (try clear HO_5)
            (try clear BK250)
            (try clear BK251)
            (try clear BK268)
            (try clear BK274)
            (try clear HB)
            generalize w195 = w200 at n0_ n1_ n2_ n3_ n4_ n5_ ⊢
            have HO_5 := n0_
            have BK250 := n1_
            have BK251 := n2_
            have BK268 := n3_
            have BK274 := n4_
            have HB := n5_
            clear n0_ n1_ n2_ n3_ n4_ n5_
            have n0_ := Aside0.mk (Kd.R_drew HO_5.out)
            have n1_ := Aside0.mk (blk_drew BK250.out)
            have n2_ := Aside0.mk (blk_drew BK251.out)
            have n3_ := Aside0.mk (blk_drew BK268.out)
            have n4_ := Aside0.mk (blk_drew BK274.out)
            have n5_ := Aside0.mk (below_drew1 HB.out)
            clear HO_5
            clear BK250
            clear BK251
            clear BK268
            clear BK274
            clear HB
            have HO_5 := n0_
            have BK250 := n1_
            have BK251 := n2_
            have BK268 := n3_
            have BK274 := n4_
            have HB := n5_
            clear n0_ n1_ n2_ n3_ n4_ n5_
            refine start_ (n := 38) (S := fun w' => w'.cell? ⟨gb268, 0, none⟩ = some (.string ((rd_T99 l0_3 x8_5).f0)) ∧ w'.cell? ⟨gb268, 1, none⟩ = some (.int .i64 ((rd_T99 l0_3 x8_5).f1)) ∧ w'.cell? ⟨gb268, 2, none⟩ = some (.int .i64 ((rd_T99 l0_3 x8_5).f2)) ∧ w'.cell? ⟨gb268, 3, none⟩ = some (.slice A267_3 ((rd_T99 l0_3 x8_5).f3).length c267_3) ∧ w'.cell? ⟨gb268, 4, none⟩ = some (.slice A267_4 ((rd_T99 l0_3 x8_5).f4).length c267_4) ∧ w'.cell? ⟨gb268, 5, none⟩ = some (.slice A267_5 ((rd_T99 l0_3 x8_5).f5).length c267_5) ∧ w'.cell? ⟨gb274, 0, none⟩ = some (.string ((rd_T99 l1_3 t269).f0)) ∧ w'.cell? ⟨gb274, 1, none⟩ = some (.int .i64 ((rd_T99 l1_3 t269).f1)) ∧ w'.cell? ⟨gb274, 2, none⟩ = some (.int .i64 ((rd_T99 l1_3 t269).f2)) ∧ w'.cell? ⟨gb274, 3, none⟩ = some (.slice A273_3 ((rd_T99 l1_3 t269).f3).length c273_3) ∧ w'.cell? ⟨gb274, 4, none⟩ = some (.slice A273_4 ((rd_T99 l1_3 t269).f4).length c273_4) ∧ w'.cell? ⟨gb274, 5, none⟩ = some (.slice A273_5 ((rd_T99 l1_3 t269).f5).length c273_5)) (ds := []) bw23_23 (by kernel_rfl) rfl rfl ⟨(blk_cell BK268.out 0).trans rfl, (blk_cell BK268.out 1).trans rfl, (blk_cell BK268.out 2).trans rfl, (blk_cell BK268.out 3).trans rfl, (blk_cell BK268.out 4).trans rfl, (blk_cell BK268.out 5).trans rfl, (blk_cell BK274.out 0).trans rfl, (blk_cell BK274.out 1).trans rfl, (blk_cell BK274.out 2).trans rfl, (blk_cell BK274.out 3).trans rfl, (blk_cell BK274.out 4).trans rfl, (blk_cell BK274.out 5).trans rfl⟩ (fun hHeld => ?_); refine with_tabW semblanceref53_Lines.tab21 semblanceref53_Lines.bits21 (fun HT_ HW_ => ?_)
            generalize w200.drew = w201 at HO_5 BK250 BK251 BK268 BK274 HB hHeld ⊢
            refine pure_ (i := 0) (N := some 93) (v := ?_) (a' := ?_) bw23_24 rfl rfl (any_of HT_.out (by kernel_rfl)) (fun _ _ _ h => h) (Or.inl ⟨by rfl, ?_⟩) ?_ ?_
            rotate_left
            ·intro w'
             go_simp
             with_reducible rfl
            rotate_left
            ·simp only [Act.put, sb_, s0_, s1_, i64_w, i32_w]
             rfl
            refine pure_ (i := 2) (N := some 95) (v := ?_) (a' := ?_) bw23_25 rfl rfl (any_of HT_.out (by kernel_rfl)) (fun _ _ _ h => h) (Or.inl ⟨by rfl, ?_⟩) ?_ ?_
            rotate_left
            ·intro w'
             go_simp
             with_reducible rfl
            rotate_left
            ·simp only [Act.put, sb_, s0_, s1_, i64_w, i32_w]
             rfl
            refine take_ (i := 1) (N := some 94) (v := ?_) (a' := ?_) bw23_26 rfl rfl (take_ofW HT_.out HW_.out (by kernel_rfl)) (fun _ _ _ h => h) (Or.inl ⟨by rfl, ?_⟩) hHeld ?_ ?_
            rotate_left
            ·rintro w' ⟨s0, s1, s2, s3, s4, s5, s6, s7, s8, s9, s10, s11⟩
             go_simp
             with_reducible rfl
            rotate_left
            ·simp only [Act.put, sb_, s0_, s1_, i64_w, i32_w]
             rfl
            refine take_ (i := 3) (N := some 96) (v := ?_) (a' := ?_) bw23_27 rfl rfl (take_ofW HT_.out HW_.out (by kernel_rfl)) (fun _ _ _ h => h) (Or.inl ⟨by rfl, ?_⟩) hHeld ?_ ?_
            rotate_left
            ·rintro w' ⟨s0, s1, s2, s3, s4, s5, s6, s7, s8, s9, s10, s11⟩
             go_simp
             with_reducible rfl
            rotate_left
            ·simp only [Act.put, sb_, s0_, s1_, i64_w, i32_w]
             rfl
            refine pure_ (i := 4) (N := some 97) (v := ?_) (a' := ?_) bw23_28 rfl rfl (any_of HT_.out (by kernel_rfl)) (fun _ _ _ h => h) (Or.inl ⟨by rfl, ?_⟩) ?_ ?_
            rotate_left
            ·intro w'
             go_simp
             with_reducible rfl
            rotate_left
            ·simp only [Act.put, sb_, s0_, s1_, i64_w, i32_w]
             rfl
            refine pure_ (i := 5) (N := some 98) (v := ?_) (a' := ?_) bw23_29 rfl rfl (any_of HT_.out (by kernel_rfl)) (fun _ _ _ h => h) (Or.inl ⟨by rfl, ?_⟩) ?_ ?_
            rotate_left
            ·intro w'
             go_simp
             with_reducible rfl
            rotate_left
            ·simp only [Act.put, sb_, s0_, s1_, i64_w, i32_w]
             rfl
            refine pure_ (i := 6) (N := some 99) (v := undef) (a' := ?_) bw23_30 rfl rfl (any_of HT_.out (by kernel_rfl)) (fun _ _ _ h => h) (Or.inr ⟨by rfl, rfl⟩) ?_ ?_
            rotate_left
            ·simp only [Act.put, sb_, s0_, s1_, i64_w, i32_w]
             rfl
            refine pure_ (i := 7) (N := some 100) (v := undef) (a' := ?_) bw23_31 rfl rfl (any_of HT_.out (by kernel_rfl)) (fun _ _ _ h => h) (Or.inr ⟨by rfl, rfl⟩) ?_ ?_
            rotate_left
            ·simp only [Act.put, sb_, s0_, s1_, i64_w, i32_w]
             rfl
            refine pure_ (i := 8) (N := some 101) (v := undef) (a' := ?_) bw23_32 rfl rfl (any_of HT_.out (by kernel_rfl)) (fun _ _ _ h => h) (Or.inr ⟨by rfl, rfl⟩) ?_ ?_
            rotate_left
            ·simp only [Act.put, sb_, s0_, s1_, i64_w, i32_w]
             rfl
            refine pure_ (i := 9) (N := some 102) (v := undef) (a' := ?_) bw23_33 rfl rfl (any_of HT_.out (by kernel_rfl)) (fun _ _ _ h => h) (Or.inr ⟨by rfl, rfl⟩) ?_ ?_
            rotate_left
            ·simp only [Act.put, sb_, s0_, s1_, i64_w, i32_w]
             rfl
            refine pure_ (i := 10) (N := some 103) (v := undef) (a' := ?_) bw23_34 rfl rfl (any_of HT_.out (by kernel_rfl)) (fun _ _ _ h => h) (Or.inr ⟨by rfl, rfl⟩) ?_ ?_
            rotate_left
            ·simp only [Act.put, sb_, s0_, s1_, i64_w, i32_w]
             rfl
            refine pure_ (i := 11) (N := some 104) (v := undef) (a' := ?_) bw23_35 rfl rfl (any_of HT_.out (by kernel_rfl)) (fun _ _ _ h => h) (Or.inr ⟨by rfl, rfl⟩) ?_ ?_
            rotate_left
            ·simp only [Act.put, sb_, s0_, s1_, i64_w, i32_w]
             rfl
            refine pure_ (i := 12) (N := some 105) (v := undef) (a' := ?_) bw23_36 rfl rfl (any_of HT_.out (by kernel_rfl)) (fun _ _ _ h => h) (Or.inr ⟨by rfl, rfl⟩) ?_ ?_
            rotate_left
            ·simp only [Act.put, sb_, s0_, s1_, i64_w, i32_w]
             rfl
            refine pure_ (i := 13) (N := some 106) (v := ?_) (a' := ?_) bw23_37 rfl rfl (any_of HT_.out (by kernel_rfl)) (fun _ _ _ h => h) (Or.inl ⟨by rfl, ?_⟩) ?_ ?_
            rotate_left
            ·intro w'
             go_simp
             with_reducible rfl
            rotate_left
            ·simp only [Act.put, sb_, s0_, s1_, i64_w, i32_w]
             rfl
            refine pure_ (i := 14) (N := some 107) (v := ?_) (a' := ?_) bw23_38 rfl rfl (any_of HT_.out (by kernel_rfl)) (fun _ _ _ h => h) (Or.inl ⟨by rfl, ?_⟩) ?_ ?_
            rotate_left
            ·intro w'
             go_simp
             with_reducible rfl
            rotate_left
            ·simp only [Act.put, sb_, s0_, s1_, i64_w, i32_w]
             rfl
            refine pure_ (i := 15) (N := some 108) (v := undef) (a' := ?_) bw23_39 rfl rfl (any_of HT_.out (by kernel_rfl)) (fun _ _ _ h => h) (Or.inr ⟨by rfl, rfl⟩) ?_ ?_
            rotate_left
            ·simp only [Act.put, sb_, s0_, s1_, i64_w, i32_w]
             rfl
            refine pure_ (i := 16) (N := some 109) (v := undef) (a' := ?_) bw23_40 rfl rfl (any_of HT_.out (by kernel_rfl)) (fun _ _ _ h => h) (Or.inr ⟨by rfl, rfl⟩) ?_ ?_
            rotate_left
            ·simp only [Act.put, sb_, s0_, s1_, i64_w, i32_w]
             rfl
            refine pure_ (i := 17) (N := some 110) (v := undef) (a' := ?_) bw23_41 rfl rfl (any_of HT_.out (by kernel_rfl)) (fun _ _ _ h => h) (Or.inr ⟨by rfl, rfl⟩) ?_ ?_
            rotate_left
            ·simp only [Act.put, sb_, s0_, s1_, i64_w, i32_w]
             rfl
            refine pure_ (i := 18) (N := some 111) (v := undef) (a' := ?_) bw23_42 rfl rfl (any_of HT_.out (by kernel_rfl)) (fun _ _ _ h => h) (Or.inr ⟨by rfl, rfl⟩) ?_ ?_
            rotate_left
            ·simp only [Act.put, sb_, s0_, s1_, i64_w, i32_w]
             rfl
            refine pure_ (i := 19) (N := some 112) (v := undef) (a' := ?_) bw23_43 rfl rfl (any_of HT_.out (by kernel_rfl)) (fun _ _ _ h => h) (Or.inr ⟨by rfl, rfl⟩) ?_ ?_
            rotate_left
            ·simp only [Act.put, sb_, s0_, s1_, i64_w, i32_w]
             rfl
            refine pure_ (i := 20) (N := some 113) (v := undef) (a' := ?_) bw23_44 rfl rfl (any_of HT_.out (by kernel_rfl)) (fun _ _ _ h => h) (Or.inr ⟨by rfl, rfl⟩) ?_ ?_
            rotate_left
            ·simp only [Act.put, sb_, s0_, s1_, i64_w, i32_w]
             rfl
            refine pure_ (i := 21) (N := some 114) (v := ?_) (a' := ?_) bw23_45 rfl rfl (any_of HT_.out (by kernel_rfl)) (fun _ _ _ h => h) (Or.inl ⟨by rfl, ?_⟩) ?_ ?_
            rotate_left
            ·intro w'
             go_simp
             with_reducible rfl
            rotate_left
            ·simp only [Act.put, sb_, s0_, s1_, i64_w, i32_w]
             rfl
            refine pure_ (i := 22) (N := some 115) (v := ?_) (a' := ?_) bw23_46 rfl rfl (any_of HT_.out (by kernel_rfl)) (fun _ _ _ h => h) (Or.inl ⟨by rfl, ?_⟩) ?_ ?_
            rotate_left
            ·intro w'
             go_simp
             with_reducible rfl
            rotate_left
            ·simp only [Act.put, sb_, s0_, s1_, i64_w, i32_w]
             rfl
            refine pure_ (i := 23) (N := some 116) (v := undef) (a' := ?_) bw23_47 rfl rfl (any_of HT_.out (by kernel_rfl)) (fun _ _ _ h => h) (Or.inr ⟨by rfl, rfl⟩) ?_ ?_
            rotate_left
            ·simp only [Act.put, sb_, s0_, s1_, i64_w, i32_w]
             rfl
            refine pure_ (i := 24) (N := some 117) (v := undef) (a' := ?_) bw23_48 rfl rfl (any_of HT_.out (by kernel_rfl)) (fun _ _ _ h => h) (Or.inr ⟨by rfl, rfl⟩) ?_ ?_
            rotate_left
            ·simp only [Act.put, sb_, s0_, s1_, i64_w, i32_w]
             rfl
            refine pure_ (i := 25) (N := some 118) (v := undef) (a' := ?_) bw23_49 rfl rfl (any_of HT_.out (by kernel_rfl)) (fun _ _ _ h => h) (Or.inr ⟨by rfl, rfl⟩) ?_ ?_
            rotate_left
            ·simp only [Act.put, sb_, s0_, s1_, i64_w, i32_w]
             rfl
            refine pure_ (i := 26) (N := some 119) (v := undef) (a' := ?_) bw23_50 rfl rfl (any_of HT_.out (by kernel_rfl)) (fun _ _ _ h => h) (Or.inr ⟨by rfl, rfl⟩) ?_ ?_
            rotate_left
            ·simp only [Act.put, sb_, s0_, s1_, i64_w, i32_w]
             rfl
            refine pure_ (i := 27) (N := some 120) (v := undef) (a' := ?_) bw23_51 rfl rfl (any_of HT_.out (by kernel_rfl)) (fun _ _ _ h => h) (Or.inr ⟨by rfl, rfl⟩) ?_ ?_
            rotate_left
            ·simp only [Act.put, sb_, s0_, s1_, i64_w, i32_w]
             rfl
            refine pure_ (i := 28) (N := some 121) (v := undef) (a' := ?_) bw23_52 rfl rfl (any_of HT_.out (by kernel_rfl)) (fun _ _ _ h => h) (Or.inr ⟨by rfl, rfl⟩) ?_ ?_
            rotate_left
            ·simp only [Act.put, sb_, s0_, s1_, i64_w, i32_w]
             rfl
            refine pure_ (i := 29) (N := some 122) (v := ?_) (a' := ?_) bw23_53 rfl rfl (any_of HT_.out (by kernel_rfl)) (fun _ _ _ h => h) (Or.inl ⟨by rfl, ?_⟩) ?_ ?_
            rotate_left
            ·intro w'
             go_simp
             with_reducible rfl
            rotate_left
            ·simp only [Act.put, sb_, s0_, s1_, i64_w, i32_w]
             rfl
            refine pure_ (i := 30) (N := some 123) (v := ?_) (a' := ?_) bw23_54 rfl rfl (any_of HT_.out (by kernel_rfl)) (fun _ _ _ h => h) (Or.inl ⟨by rfl, ?_⟩) ?_ ?_
            rotate_left
            ·intro w'
             go_simp
             with_reducible rfl
            rotate_left
            ·simp only [Act.put, sb_, s0_, s1_, i64_w, i32_w]
             rfl
            refine pure_ (i := 31) (N := some 124) (v := undef) (a' := ?_) bw23_55 rfl rfl (any_of HT_.out (by kernel_rfl)) (fun _ _ _ h => h) (Or.inr ⟨by rfl, rfl⟩) ?_ ?_
            rotate_left
            ·simp only [Act.put, sb_, s0_, s1_, i64_w, i32_w]
             rfl
            refine pure_ (i := 32) (N := some 125) (v := undef) (a' := ?_) bw23_56 rfl rfl (any_of HT_.out (by kernel_rfl)) (fun _ _ _ h => h) (Or.inr ⟨by rfl, rfl⟩) ?_ ?_
            rotate_left
            ·simp only [Act.put, sb_, s0_, s1_, i64_w, i32_w]
             rfl
            refine pure_ (i := 33) (N := some 126) (v := undef) (a' := ?_) bw23_57 rfl rfl (any_of HT_.out (by kernel_rfl)) (fun _ _ _ h => h) (Or.inr ⟨by rfl, rfl⟩) ?_ ?_
            rotate_left
            ·simp only [Act.put, sb_, s0_, s1_, i64_w, i32_w]
             rfl
            refine pure_ (i := 34) (N := some 127) (v := undef) (a' := ?_) bw23_58 rfl rfl (any_of HT_.out (by kernel_rfl)) (fun _ _ _ h => h) (Or.inr ⟨by rfl, rfl⟩) ?_ ?_
            rotate_left
            ·simp only [Act.put, sb_, s0_, s1_, i64_w, i32_w]
             rfl
            refine pure_ (i := 35) (N := some 128) (v := undef) (a' := ?_) bw23_59 rfl rfl (any_of HT_.out (by kernel_rfl)) (fun _ _ _ h => h) (Or.inr ⟨by rfl, rfl⟩) ?_ ?_
            rotate_left
            ·simp only [Act.put, sb_, s0_, s1_, i64_w, i32_w]
             rfl
            refine pure_ (i := 36) (N := some 129) (v := undef) (a' := ?_) bw23_60 rfl rfl (any_of HT_.out (by kernel_rfl)) (fun _ _ _ h => h) (Or.inr ⟨by rfl, rfl⟩) ?_ ?_
            rotate_left
            ·simp only [Act.put, sb_, s0_, s1_, i64_w, i32_w]
             rfl
            refine pure_ (i := 37) (N := some 130) (v := ?_) (a' := ?_) bw23_61 rfl rfl (any_of HT_.out (by kernel_rfl)) (fun _ _ _ h => h) (Or.inl ⟨by rfl, ?_⟩) ?_ ?_
            rotate_left
            ·intro w'
             go_simp
             with_reducible rfl
            rotate_left
            ·simp only [Act.put, sb_, s0_, s1_, i64_w, i32_w]
             rfl
            refine done_ (done_of HT_.out (by kernel_rfl)) ?_
            obtain ⟨hcz202_0, hcz202_1, hcz202_2, hcz202_3, hcz202_4, hcz202_5⟩ := cz6_ BK268.out
            obtain ⟨hfz202_0, hfz202_1, hfz202_2, hfz202_3, hfz202_4, hfz202_5⟩ := cf6_ BK268.out
            try go_wp2_with (first | ((with_reducible refine gate_builtin (b := .append) (xs := #[.tmp 131, .tmp 135]) rfl ?_); at_builtin; refine Kd.R_append Kd.string (w0 := w) w.heap.size rfl (.tmp 131) (.tmp 135) 55 9 (.string ⟨#[]⟩) 16 rfl Try.underlying55 info9 rfl (by decide) (by omega) u5 x5_5 ((⟨#[126, 32]⟩ : ByteArray) ++ ((rd_T99 l0_3 x8_5).f0)) [.string ((⟨#[126, 32]⟩ : ByteArray) ++ ((rd_T99 l0_3 x8_5).f0))] (fun _ => True) (fun _ => False) rfl rfl ?aP (fun _ hk => hk.elim) ?aF ?aO ?aB ?aS ?aL ?_; (case aP => exact rfl); (case aB => exact (by repeat (first | (with_reducible first | exact HB.out | apply below_alloc | apply pw_below_drewN | apply below_drew1 | refine below_set ?_ GE250.out | refine below_set ?_ GE251.out | refine below_set ?_ GE268.out | refine below_set ?_ GE274.out) | exact HB.out))); (case aF => exact (fun _ _ => trivial)); (case aO => exact (by (with_reducible repeat (first | apply Kd.R_alloc | apply Kd.R_drewN | apply Kd.R_drew)); exact HO_5.out)); (case aS => exact (below_size (by repeat (first | (with_reducible first | exact HB.out | apply below_alloc | apply pw_below_drewN | apply below_drew1 | refine below_set ?_ GE250.out | refine below_set ?_ GE251.out | refine below_set ?_ GE268.out | refine below_set ?_ GE274.out) | exact HB.out)))); (case aL => have := LMc185.out; omega); intro v293 w203 ho hb hg hat; rw [← Ny292.out] at ho; have n0_ := Aside0.mk (blk_grown (grw BK250.out) hg (Kd.R_ne HO_5.out BK250.out (by decide))); have n1_ := Aside0.mk (blk_grown (grw BK251.out) hg (Kd.R_ne HO_5.out BK251.out (by decide))); have n2_ := Aside0.mk (blk_grown (grw BK268.out) hg (Kd.R_ne HO_5.out BK268.out (by decide))); have n3_ := Aside0.mk (blk_grown (grw BK274.out) hg (Kd.R_ne HO_5.out BK274.out (by decide))); have n4_ := Aside0.mk (hb); have n5_ := Aside0.mk (ho); clear BK250; clear BK251; clear BK268; clear BK274; clear HB; clear HO_5; have BK250 := n0_; have BK251 := n1_; have BK268 := n2_; have BK274 := n3_; have HB := n4_; have HO294 := n5_; clear n0_ n1_ n2_ n3_ n4_ n5_; clear ho hb hg hat))
            go_roundg k5
            case measure => have := HJ2.out; have := HJ14.out; have := HJ21.out; have := HJ36.out; have := HK5.out; omega
            case rel => exact ⟨(y292), (wrap64 (x8_5 + 1)), (by first | rfl | (simp; done) | (simp [*]; done)), H', ⟨by have := HJ2.out; have := HJ14.out; have := HJ21.out; have := HJ36.out; have := HK5.out; omega⟩, ⟨by (with_reducible repeat (first | apply Kd.R_alloc | apply Kd.R_drewN | apply Kd.R_drew)); exact HO294.out⟩, ⟨grw BK250.out⟩, ⟨grw BK251.out⟩, ⟨by repeat (first | (with_reducible first | exact HB.out | apply below_alloc | apply pw_below_drewN | apply below_drew1 | refine below_set ?_ GE250.out | refine below_set ?_ GE251.out | refine below_set ?_ GE268.out | refine below_set ?_ GE274.out) | exact HB.out)⟩⟩
           rw [if_pos c59] at H
           have c59b0 : (((rd_T99 l0_3 x8_5).f1) == ((rd_T99 l1_3 t269).f1)) = true := beq_iff_eq.mpr c59
           have c59b1 : (((rd_T99 l0_3 x8_5).f1) != ((rd_T99 l1_3 t269).f1)) = false := bne_eq_false_iff_eq.mpr c59
           clear c59
           replace H := Option.bind_eq_some_iff.mp H
           obtain ⟨t275, A600, H⟩ := H
           replace H : ((semblanceref53_above.f a1_0 l1_1 l1_2 l1_3 t269).bind fun t276 => (if t275.toList = t276.toList then ((semblanceref08_Same.f k5 ((rd_T99 l0_3 x8_5).f3) ((rd_T99 l1_3 t269).f3)).bind fun t277 => (if t277 = true then ((semblanceref08_Same.f k5 ((rd_T99 l0_3 x8_5).f4) ((rd_T99 l1_3 t269).f4)).bind fun t278 => (if t278 = true then ((semblanceref09_All.f k5 ((rd_T99 l0_3 x8_5).f5) ((rd_T99 l1_3 t269).f5)).bind fun t279 => (if t279 = true then (semblanceref53_Lines.l1 k5 x5_5 (wrap64 (x8_5 + 1)) a0_0 l0_1 l0_2 l0_3 a1_0 l1_1 l1_2 l1_3) else (if 2 + ((rd_T99 l0_3 x8_5).f0).size ≤ 9223372036854775807 then (if x5_5.length < 8796093022208 then (semblanceref53_Lines.l1 k5 (x5_5 ++ [(⟨#[126, 32]⟩ : ByteArray) ++ ((rd_T99 l0_3 x8_5).f0)]) (wrap64 (x8_5 + 1)) a0_0 l0_1 l0_2 l0_3 a1_0 l1_1 l1_2 l1_3) else (none)) else (none)))) else (if 2 + ((rd_T99 l0_3 x8_5).f0).size ≤ 9223372036854775807 then (if x5_5.length < 8796093022208 then (semblanceref53_Lines.l1 k5 (x5_5 ++ [(⟨#[126, 32]⟩ : ByteArray) ++ ((rd_T99 l0_3 x8_5).f0)]) (wrap64 (x8_5 + 1)) a0_0 l0_1 l0_2 l0_3 a1_0 l1_1 l1_2 l1_3) else (none)) else (none)))) else (if 2 + ((rd_T99 l0_3 x8_5).f0).size ≤ 9223372036854775807 then (if x5_5.length < 8796093022208 then (semblanceref53_Lines.l1 k5 (x5_5 ++ [(⟨#[126, 32]⟩ : ByteArray) ++ ((rd_T99 l0_3 x8_5).f0)]) (wrap64 (x8_5 + 1)) a0_0 l0_1 l0_2 l0_3 a1_0 l1_1 l1_2 l1_3) else (none)) else (none)))) else (if 2 + ((rd_T99 l0_3 x8_5).f0).size ≤ 9223372036854775807 then (if x5_5.length < 8796093022208 then (semblanceref53_Lines.l1 k5 (x5_5 ++ [(⟨#[126, 32]⟩ : ByteArray) ++ ((rd_T99 l0_3 x8_5).f0)]) (wrap64 (x8_5 + 1)) a0_0 l0_1 l0_2 l0_3 a1_0 l1_1 l1_2 l1_3) else (none)) else (none)))) = some r := H
           have A60 := Aside0.mk A600
           clear A600
           replace H := Option.bind_eq_some_iff.mp H
           obtain ⟨t276, A610, H⟩ := H
           replace H : (if t275.toList = t276.toList then ((semblanceref08_Same.f k5 ((rd_T99 l0_3 x8_5).f3) ((rd_T99 l1_3 t269).f3)).bind fun t277 => (if t277 = true then ((semblanceref08_Same.f k5 ((rd_T99 l0_3 x8_5).f4) ((rd_T99 l1_3 t269).f4)).bind fun t278 => (if t278 = true then ((semblanceref09_All.f k5 ((rd_T99 l0_3 x8_5).f5) ((rd_T99 l1_3 t269).f5)).bind fun t279 => (if t279 = true then (semblanceref53_Lines.l1 k5 x5_5 (wrap64 (x8_5 + 1)) a0_0 l0_1 l0_2 l0_3 a1_0 l1_1 l1_2 l1_3) else (if 2 + ((rd_T99 l0_3 x8_5).f0).size ≤ 9223372036854775807 then (if x5_5.length < 8796093022208 then (semblanceref53_Lines.l1 k5 (x5_5 ++ [(⟨#[126, 32]⟩ : ByteArray) ++ ((rd_T99 l0_3 x8_5).f0)]) (wrap64 (x8_5 + 1)) a0_0 l0_1 l0_2 l0_3 a1_0 l1_1 l1_2 l1_3) else (none)) else (none)))) else (if 2 + ((rd_T99 l0_3 x8_5).f0).size ≤ 9223372036854775807 then (if x5_5.length < 8796093022208 then (semblanceref53_Lines.l1 k5 (x5_5 ++ [(⟨#[126, 32]⟩ : ByteArray) ++ ((rd_T99 l0_3 x8_5).f0)]) (wrap64 (x8_5 + 1)) a0_0 l0_1 l0_2 l0_3 a1_0 l1_1 l1_2 l1_3) else (none)) else (none)))) else (if 2 + ((rd_T99 l0_3 x8_5).f0).size ≤ 9223372036854775807 then (if x5_5.length < 8796093022208 then (semblanceref53_Lines.l1 k5 (x5_5 ++ [(⟨#[126, 32]⟩ : ByteArray) ++ ((rd_T99 l0_3 x8_5).f0)]) (wrap64 (x8_5 + 1)) a0_0 l0_1 l0_2 l0_3 a1_0 l1_1 l1_2 l1_3) else (none)) else (none)))) else (if 2 + ((rd_T99 l0_3 x8_5).f0).size ≤ 9223372036854775807 then (if x5_5.length < 8796093022208 then (semblanceref53_Lines.l1 k5 (x5_5 ++ [(⟨#[126, 32]⟩ : ByteArray) ++ ((rd_T99 l0_3 x8_5).f0)]) (wrap64 (x8_5 + 1)) a0_0 l0_1 l0_2 l0_3 a1_0 l1_1 l1_2 l1_3) else (none)) else (none))) = some r := H
           have A61 := Aside0.mk A610
           clear A610
           have HZ_ := Aside0.mk H
           clear H
           try go_wp2_with (first | ((with_reducible refine gate_dst (N := 9) rfl ?_); refine box_store ?hg ?hg2 (N := 9) ?hd ?hd2 (cs := #[.string (⟨#[]⟩ : ByteArray), .int .i64 0, .int .i64 0, .slice none 0 0, .slice none 0 0, .slice none 0 0]) (vs := #[.string ((rd_T99 l0_3 x8_5).f0), .int .i64 ((rd_T99 l0_3 x8_5).f1), .int .i64 ((rd_T99 l0_3 x8_5).f2), .slice A267_3 ((rd_T99 l0_3 x8_5).f3).length c267_3, .slice A267_4 ((rd_T99 l0_3 x8_5).f4).length c267_4, .slice A267_5 ((rd_T99 l0_3 x8_5).f5).length c267_5]) (t := 99) (.tmp 75) ?hr ?ho ?hx ?hy ?hi rfl ?hall ?_; (case hd => rfl); (case hd2 => rfl); (case hg => rfl); (case hg2 => rfl); (case hr => first | (go_simp; done) | (go_simp; rfl)); (case ho => rfl); (case hx => intro _; rfl); (case hy => intro _; rfl); (case hi => kernel_rfl); (case hall => simp [Value.oneCell']); intro gb268 hg w71 hbox hb; have hB_ := bz23_ hb (by repeat (first | (with_reducible first | exact HB.out | apply below_alloc | apply pw_below_drewN | apply below_drew1 | refine below_set ?_ GE250.out | refine below_set ?_ GE251.out) | exact HB.out)); have n0_ := Aside0.mk (Kd.R_below (by (with_reducible repeat (first | apply Kd.R_alloc | apply Kd.R_drewN | apply Kd.R_drew)); exact HO_5.out) hb); have n1_ := Aside0.mk (blk_below (grw BK250.out) hb); have n2_ := Aside0.mk (blk_below (grw BK251.out) hb); have n3_ := Aside0.mk (below_step hB_ hb); have n4_ := Aside0.mk (hbox); have n5_ := Aside0.mk ((by rw [hg]; exact (below_size hB_) : w.heap.size ≤ gb268)); have n6_ := Aside0.mk ((by rw [hg]; exact (below_size hB_) : w.heap.size ≤ gb268)); have n7_ := Aside0.mk ((by rw [hg]; exact Nat.ne_of_lt (blk_lt (grw BK250.out)) : gb250 ≠ gb268)); have n8_ := Aside0.mk ((by rw [hg]; exact Nat.ne_of_gt (blk_lt (grw BK250.out)) : gb268 ≠ gb250)); have n9_ := Aside0.mk ((by rw [hg]; exact Nat.ne_of_lt (blk_lt (grw BK251.out)) : gb251 ≠ gb268)); have n10_ := Aside0.mk ((by rw [hg]; exact Nat.ne_of_gt (blk_lt (grw BK251.out)) : gb268 ≠ gb251)); clear HO_5; clear BK250; clear BK251; clear HB; have HO_5 := n0_; have BK250 := n1_; have BK251 := n2_; have HB := n3_; have BK268 := n4_; have GW268 := n5_; have GE268 := n6_; have NB250_268 := n7_; have NB268_250 := n8_; have NB251_268 := n9_; have NB268_251 := n10_; clear n0_ n1_ n2_ n3_ n4_ n5_ n6_ n7_ n8_ n9_ n10_; clear hb hbox hg; have hnb72 := NB268_250.out; have hnc72 := NB250_268.out; have hnb73 := NB268_251.out; have hnc73 := NB251_268.out; obtain ⟨hcz74_0, hcz74_1, hcz74_2, hcz74_3, hcz74_4, hcz74_5⟩ := cz6_ BK268.out; obtain ⟨hfz74_0, hfz74_1, hfz74_2, hfz74_3, hfz74_4, hfz74_5⟩ := cf6_ BK268.out; obtain ⟨hcz75_0, hcz75_1, hcz75_2, hcz75_3⟩ := cz4_ BK251.out; obtain ⟨hfz75_0, hfz75_1, hfz75_2, hfz75_3⟩ := cf4_ BK251.out) | ((with_reducible refine gate_callee (f := 70) rfl ?_); refine goesL_ (some 79) rfl rfl Try.func70 (by kernel_rfl) rfl #[.agg #[.string a1_0, .slice A1_1 l1_1.length c1_1, .slice A1_2 l1_2.length c1_2, .slice A1_3 l1_3.length c1_3], .string ((rd_T99 l0_3 x8_5).f0)] rfl (by (try simp only [List.map_toArray, List.map_cons, List.map_nil]); first | done | rfl | (simp only [List.length_drop, List.length_take]; rfl)) ?_; (with_reducible refine (semblanceref17_Place.calls k5 a1_0 _ _ l1_1 _ _ l1_2 _ _ l1_3 ((rd_T99 l0_3 x8_5).f0) t269 _ ?side1 ?side2 ?side3 ?side4 ?side5 ?side6 A43.out).mono ?_); (case side1 => exact Kd.C_below HR1_1.out (by repeat (first | (with_reducible first | exact HB.out | apply below_alloc | apply pw_below_drewN | apply below_drew1 | refine below_set ?_ GE250.out | refine below_set ?_ GE251.out | refine below_set ?_ GE268.out) | exact HB.out))); (case side2 => exact HC1_1.out); (case side3 => exact Kd.C_below HR1_2.out (by repeat (first | (with_reducible first | exact HB.out | apply below_alloc | apply pw_below_drewN | apply below_drew1 | refine below_set ?_ GE250.out | refine below_set ?_ GE251.out | refine below_set ?_ GE268.out) | exact HB.out))); (case side4 => exact HC1_2.out); (case side5 => exact Kd.C_below HR1_3.out (by repeat (first | (with_reducible first | exact HB.out | apply below_alloc | apply pw_below_drewN | apply below_drew1 | refine below_set ?_ GE250.out | refine below_set ?_ GE251.out | refine below_set ?_ GE268.out) | exact HB.out))); (case side6 => exact HC1_3.out); rintro e w76 ⟨rfl, hb⟩; refine ⟨_, rfl, ?_⟩; have n0_ := Aside0.mk (Kd.R_below (by (with_reducible repeat (first | apply Kd.R_alloc | apply Kd.R_drewN | apply Kd.R_drew)); exact HO_5.out) hb); have n1_ := Aside0.mk (blk_below (grw BK250.out) hb); have n2_ := Aside0.mk (blk_below (grw BK251.out) hb); have n3_ := Aside0.mk (blk_below (grw BK268.out) hb); have n4_ := Aside0.mk (below_step (by repeat (first | (with_reducible first | exact HB.out | apply below_alloc | apply pw_below_drewN | apply below_drew1 | refine below_set ?_ GE250.out | refine below_set ?_ GE251.out | refine below_set ?_ GE268.out) | exact HB.out)) hb); clear HO_5; clear BK250; clear BK251; clear BK268; clear HB; have HO_5 := n0_; have BK250 := n1_; have BK251 := n2_; have BK268 := n3_; have HB := n4_; clear n0_ n1_ n2_ n3_ n4_; (try clear hb); (try clear hb2); (try clear hk); (try clear hi); obtain ⟨hcz77_0, hcz77_1, hcz77_2, hcz77_3⟩ := cz4_ BK251.out; obtain ⟨hfz77_0, hfz77_1, hfz77_2, hfz77_3⟩ := cf4_ BK251.out; have p273 : 0 ≤ (t269 : Int) := of_decide_eq_true (by first | (with_reducible assumption) | assumption); have q273 : t269 < (l1_3.length : Int) := of_decide_eq_true (by first | (with_reducible assumption) | assumption); obtain ⟨ad273, A273_3, c273_3, A273_4, c273_4, A273_5, c273_5, e273, hx273_0, hx273_1, hx273_2, hx273_3, hx273_4, hx273_5, hl273_3, hi273_3, hl273_4, hi273_4, hl273_5, hi273_5⟩ := at_T99 HR1_3.out t269 p273 q273; cases e273; replace hx273_0 := hc23_ HB.out hx273_0; replace hx273_1 := hc23_ HB.out hx273_1; replace hx273_2 := hc23_ HB.out hx273_2; replace hx273_3 := hc23_ HB.out hx273_3; replace hx273_4 := hc23_ HB.out hx273_4; replace hx273_5 := hc23_ HB.out hx273_5; have HR273_3 := Aside0.mk hi273_3; have HC273_3 := Aside0.mk hl273_3; clear hi273_3 hl273_3; have HR273_4 := Aside0.mk hi273_4; have HC273_4 := Aside0.mk hl273_4; clear hi273_4 hl273_4; have HR273_5 := Aside0.mk hi273_5; have HC273_5 := Aside0.mk hl273_5; clear hi273_5 hl273_5; replace p273 := eq_true p273; replace q273 := eq_true q273) | ((with_reducible refine gate_dst (N := 11) rfl ?_); refine box_store ?hg ?hg2 (N := 11) ?hd ?hd2 (cs := #[.string (⟨#[]⟩ : ByteArray), .int .i64 0, .int .i64 0, .slice none 0 0, .slice none 0 0, .slice none 0 0]) (vs := #[.string ((rd_T99 l1_3 t269).f0), .int .i64 ((rd_T99 l1_3 t269).f1), .int .i64 ((rd_T99 l1_3 t269).f2), .slice A273_3 ((rd_T99 l1_3 t269).f3).length c273_3, .slice A273_4 ((rd_T99 l1_3 t269).f4).length c273_4, .slice A273_5 ((rd_T99 l1_3 t269).f5).length c273_5]) (t := 99) (.tmp 92) ?hr ?ho ?hx ?hy ?hi rfl ?hall ?_; (case hd => rfl); (case hd2 => rfl); (case hg => rfl); (case hg2 => rfl); (case hr => first | (go_simp; done) | (go_simp; rfl)); (case ho => rfl); (case hx => intro _; rfl); (case hy => intro _; rfl); (case hi => kernel_rfl); (case hall => simp [Value.oneCell']); intro gb274 hg w78 hbox hb; have hB_ := bz23_ hb (by repeat (first | (with_reducible first | exact HB.out | apply below_alloc | apply pw_below_drewN | apply below_drew1 | refine below_set ?_ GE250.out | refine below_set ?_ GE251.out | refine below_set ?_ GE268.out) | exact HB.out)); have n0_ := Aside0.mk (Kd.R_below (by (with_reducible repeat (first | apply Kd.R_alloc | apply Kd.R_drewN | apply Kd.R_drew)); exact HO_5.out) hb); have n1_ := Aside0.mk (blk_below (grw BK250.out) hb); have n2_ := Aside0.mk (blk_below (grw BK251.out) hb); have n3_ := Aside0.mk (blk_below (grw BK268.out) hb); have n4_ := Aside0.mk (below_step hB_ hb); have n5_ := Aside0.mk (hbox); have n6_ := Aside0.mk ((by rw [hg]; exact (below_size hB_) : w.heap.size ≤ gb274)); have n7_ := Aside0.mk ((by rw [hg]; exact (below_size hB_) : w.heap.size ≤ gb274)); have n8_ := Aside0.mk ((by rw [hg]; exact Nat.ne_of_lt (blk_lt (grw BK250.out)) : gb250 ≠ gb274)); have n9_ := Aside0.mk ((by rw [hg]; exact Nat.ne_of_gt (blk_lt (grw BK250.out)) : gb274 ≠ gb250)); have n10_ := Aside0.mk ((by rw [hg]; exact Nat.ne_of_lt (blk_lt (grw BK251.out)) : gb251 ≠ gb274)); have n11_ := Aside0.mk ((by rw [hg]; exact Nat.ne_of_gt (blk_lt (grw BK251.out)) : gb274 ≠ gb251)); have n12_ := Aside0.mk ((by rw [hg]; exact Nat.ne_of_lt (blk_lt (grw BK268.out)) : gb268 ≠ gb274)); have n13_ := Aside0.mk ((by rw [hg]; exact Nat.ne_of_gt (blk_lt (grw BK268.out)) : gb274 ≠ gb268)); clear HO_5; clear BK250; clear BK251; clear BK268; clear HB; have HO_5 := n0_; have BK250 := n1_; have BK251 := n2_; have BK268 := n3_; have HB := n4_; have BK274 := n5_; have GW274 := n6_; have GE274 := n7_; have NB250_274 := n8_; have NB274_250 := n9_; have NB251_274 := n10_; have NB274_251 := n11_; have NB268_274 := n12_; have NB274_268 := n13_; clear n0_ n1_ n2_ n3_ n4_ n5_ n6_ n7_ n8_ n9_ n10_ n11_ n12_ n13_; clear hb hbox hg; have hnb79 := NB274_250.out; have hnc79 := NB250_274.out; have hnb80 := NB274_251.out; have hnc80 := NB251_274.out; have hnb81 := NB274_268.out; have hnc81 := NB268_274.out; obtain ⟨hcz82_0, hcz82_1, hcz82_2, hcz82_3, hcz82_4, hcz82_5⟩ := cz6_ BK274.out; obtain ⟨hfz82_0, hfz82_1, hfz82_2, hfz82_3, hfz82_4, hfz82_5⟩ := cf6_ BK274.out))
           have n0_ : Aside0 (Kd.R Kd.string 9 w78 w.heap.size (fun _ => True) u5 x5_5) := ⟨by (with_reducible repeat (first | apply Kd.R_alloc | apply Kd.R_drewN | apply Kd.R_drew)); exact HO_5.out⟩
           have n1_ : Aside0 (w78.heap[gb250]? = some (.cells #[.string a0_0, .slice A0_1 l0_1.length c0_1, .slice A0_2 l0_2.length c0_2, .slice (some ad267) l0_3.length c0_3] 59 (0, 0))) := ⟨grw BK250.out⟩
           have n2_ : Aside0 (w78.heap[gb251]? = some (.cells #[.string a1_0, .slice A1_1 l1_1.length c1_1, .slice A1_2 l1_2.length c1_2, .slice (some ad273) l1_3.length c1_3] 59 (0, 0))) := ⟨grw BK251.out⟩
           have n3_ : Aside0 (w78.heap[gb268]? = some (.cells #[.string ((rd_T99 l0_3 x8_5).f0), .int .i64 ((rd_T99 l0_3 x8_5).f1), .int .i64 ((rd_T99 l0_3 x8_5).f2), .slice A267_3 ((rd_T99 l0_3 x8_5).f3).length c267_3, .slice A267_4 ((rd_T99 l0_3 x8_5).f4).length c267_4, .slice A267_5 ((rd_T99 l0_3 x8_5).f5).length c267_5] 99 (0, 0))) := ⟨grw BK268.out⟩
           have n4_ : Aside0 (w78.heap[gb274]? = some (.cells #[.string ((rd_T99 l1_3 t269).f0), .int .i64 ((rd_T99 l1_3 t269).f1), .int .i64 ((rd_T99 l1_3 t269).f2), .slice A273_3 ((rd_T99 l1_3 t269).f3).length c273_3, .slice A273_4 ((rd_T99 l1_3 t269).f4).length c273_4, .slice A273_5 ((rd_T99 l1_3 t269).f5).length c273_5] 99 (0, 0))) := ⟨grw BK274.out⟩
           have n5_ : Aside0 (Below w.heap.size w w78) := ⟨by repeat (first | (with_reducible first | exact HB.out | apply below_alloc | apply pw_below_drewN | apply below_drew1 | refine below_set ?_ GE250.out | refine below_set ?_ GE251.out | refine below_set ?_ GE268.out | refine below_set ?_ GE274.out) | exact HB.out)⟩
           (try clear HO_5)
           (try clear BK250)
           (try clear BK251)
           (try clear BK268)
           (try clear BK274)
           (try clear HB)
           generalize w78 = w83 at n0_ n1_ n2_ n3_ n4_ n5_ ⊢
           have HO_5 := n0_
           have BK250 := n1_
           have BK251 := n2_
           have BK268 := n3_
           have BK274 := n4_
           have HB := n5_
           clear n0_ n1_ n2_ n3_ n4_ n5_
           have n0_ := Aside0.mk (Kd.R_drew HO_5.out)
           have n1_ := Aside0.mk (blk_drew BK250.out)
           have n2_ := Aside0.mk (blk_drew BK251.out)
           have n3_ := Aside0.mk (blk_drew BK268.out)
           have n4_ := Aside0.mk (blk_drew BK274.out)
           have n5_ := Aside0.mk (below_drew1 HB.out)
           clear HO_5
           clear BK250
           clear BK251
           clear BK268
           clear BK274
           clear HB
           have HO_5 := n0_
           have BK250 := n1_
           have BK251 := n2_
           have BK268 := n3_
           have BK274 := n4_
           have HB := n5_
           clear n0_ n1_ n2_ n3_ n4_ n5_
           refine start_ (n := 38) (S := fun w' => w'.cell? ⟨gb268, 0, none⟩ = some (.string ((rd_T99 l0_3 x8_5).f0)) ∧ w'.cell? ⟨gb268, 1, none⟩ = some (.int .i64 ((rd_T99 l0_3 x8_5).f1)) ∧ w'.cell? ⟨gb268, 2, none⟩ = some (.int .i64 ((rd_T99 l0_3 x8_5).f2)) ∧ w'.cell? ⟨gb268, 3, none⟩ = some (.slice A267_3 ((rd_T99 l0_3 x8_5).f3).length c267_3) ∧ w'.cell? ⟨gb268, 4, none⟩ = some (.slice A267_4 ((rd_T99 l0_3 x8_5).f4).length c267_4) ∧ w'.cell? ⟨gb268, 5, none⟩ = some (.slice A267_5 ((rd_T99 l0_3 x8_5).f5).length c267_5) ∧ w'.cell? ⟨gb274, 0, none⟩ = some (.string ((rd_T99 l1_3 t269).f0)) ∧ w'.cell? ⟨gb274, 1, none⟩ = some (.int .i64 ((rd_T99 l1_3 t269).f1)) ∧ w'.cell? ⟨gb274, 2, none⟩ = some (.int .i64 ((rd_T99 l1_3 t269).f2)) ∧ w'.cell? ⟨gb274, 3, none⟩ = some (.slice A273_3 ((rd_T99 l1_3 t269).f3).length c273_3) ∧ w'.cell? ⟨gb274, 4, none⟩ = some (.slice A273_4 ((rd_T99 l1_3 t269).f4).length c273_4) ∧ w'.cell? ⟨gb274, 5, none⟩ = some (.slice A273_5 ((rd_T99 l1_3 t269).f5).length c273_5) ∧ w'.cell? ⟨gb250, 0, none⟩ = some (.string a0_0) ∧ w'.cell? ⟨gb250, 1, none⟩ = some (.slice A0_1 l0_1.length c0_1) ∧ w'.cell? ⟨gb250, 2, none⟩ = some (.slice A0_2 l0_2.length c0_2) ∧ w'.cell? ⟨gb250, 3, none⟩ = some (.slice (some ad267) l0_3.length c0_3) ∧ w'.cell? ⟨gb251, 0, none⟩ = some (.string a1_0) ∧ w'.cell? ⟨gb251, 1, none⟩ = some (.slice A1_1 l1_1.length c1_1) ∧ w'.cell? ⟨gb251, 2, none⟩ = some (.slice A1_2 l1_2.length c1_2) ∧ w'.cell? ⟨gb251, 3, none⟩ = some (.slice (some ad273) l1_3.length c1_3)) (ds := []) bw23_23 (by kernel_rfl) rfl rfl ⟨(blk_cell BK268.out 0).trans rfl, (blk_cell BK268.out 1).trans rfl, (blk_cell BK268.out 2).trans rfl, (blk_cell BK268.out 3).trans rfl, (blk_cell BK268.out 4).trans rfl, (blk_cell BK268.out 5).trans rfl, (blk_cell BK274.out 0).trans rfl, (blk_cell BK274.out 1).trans rfl, (blk_cell BK274.out 2).trans rfl, (blk_cell BK274.out 3).trans rfl, (blk_cell BK274.out 4).trans rfl, (blk_cell BK274.out 5).trans rfl, (blk_cell BK250.out 0).trans rfl, (blk_cell BK250.out 1).trans rfl, (blk_cell BK250.out 2).trans rfl, (blk_cell BK250.out 3).trans rfl, (blk_cell BK251.out 0).trans rfl, (blk_cell BK251.out 1).trans rfl, (blk_cell BK251.out 2).trans rfl, (blk_cell BK251.out 3).trans rfl⟩ (fun hHeld => ?_); refine with_tabW semblanceref53_Lines.tab21 semblanceref53_Lines.bits21 (fun HT_ HW_ => ?_)
           generalize w83.drew = w84 at HO_5 BK250 BK251 BK268 BK274 HB hHeld ⊢
           refine pure_ (i := 0) (N := some 93) (v := ?_) (a' := ?_) bw23_24 rfl rfl (any_of HT_.out (by kernel_rfl)) (fun _ _ _ h => h) (Or.inl ⟨by rfl, ?_⟩) ?_ ?_
           rotate_left
           ·intro w'
            go_simp
            with_reducible rfl
           rotate_left
           ·simp only [Act.put, sb_, s0_, s1_, i64_w, i32_w]
            rfl
           refine pure_ (i := 2) (N := some 95) (v := ?_) (a' := ?_) bw23_25 rfl rfl (any_of HT_.out (by kernel_rfl)) (fun _ _ _ h => h) (Or.inl ⟨by rfl, ?_⟩) ?_ ?_
           rotate_left
           ·intro w'
            go_simp
            with_reducible rfl
           rotate_left
           ·simp only [Act.put, sb_, s0_, s1_, i64_w, i32_w]
            rfl
           refine take_ (i := 1) (N := some 94) (v := ?_) (a' := ?_) bw23_26 rfl rfl (take_ofW HT_.out HW_.out (by kernel_rfl)) (fun _ _ _ h => h) (Or.inl ⟨by rfl, ?_⟩) hHeld ?_ ?_
           rotate_left
           ·rintro w' ⟨s0, s1, s2, s3, s4, s5, s6, s7, s8, s9, s10, s11, s12, s13, s14, s15, s16, s17, s18, s19⟩
            go_simp
            with_reducible rfl
           rotate_left
           ·simp only [Act.put, sb_, s0_, s1_, i64_w, i32_w]
            rfl
           refine take_ (i := 3) (N := some 96) (v := ?_) (a' := ?_) bw23_27 rfl rfl (take_ofW HT_.out HW_.out (by kernel_rfl)) (fun _ _ _ h => h) (Or.inl ⟨by rfl, ?_⟩) hHeld ?_ ?_
           rotate_left
           ·rintro w' ⟨s0, s1, s2, s3, s4, s5, s6, s7, s8, s9, s10, s11, s12, s13, s14, s15, s16, s17, s18, s19⟩
            go_simp
            with_reducible rfl
           rotate_left
           ·simp only [Act.put, sb_, s0_, s1_, i64_w, i32_w]
            rfl
           refine pure_ (i := 4) (N := some 97) (v := ?_) (a' := ?_) bw23_28 rfl rfl (any_of HT_.out (by kernel_rfl)) (fun _ _ _ h => h) (Or.inl ⟨by rfl, ?_⟩) ?_ ?_
           rotate_left
           ·intro w'
            go_simp
            with_reducible rfl
           rotate_left
           ·simp only [Act.put, sb_, s0_, s1_, i64_w, i32_w]
            rfl
           refine pure_ (i := 5) (N := some 98) (v := ?_) (a' := ?_) bw23_29 rfl rfl (any_of HT_.out (by kernel_rfl)) (fun _ _ _ h => h) (Or.inl ⟨by rfl, ?_⟩) ?_ ?_
           rotate_left
           ·intro w'
            go_simp
            with_reducible rfl
           rotate_left
           ·simp only [Act.put, sb_, s0_, s1_, i64_w, i32_w]
            rfl
           refine pure_ (i := 7) (N := some 100) (v := ?_) (a' := ?_) bw23_62 rfl rfl (any_of HT_.out (by kernel_rfl)) (fun _ _ _ h => h) (Or.inl ⟨by rfl, ?_⟩) ?_ ?_
           rotate_left
           ·intro w'
            go_simp
            with_reducible rfl
           rotate_left
           ·simp only [Act.put, sb_, s0_, s1_, i64_w, i32_w]
            rfl
           refine pure_ (i := 10) (N := some 103) (v := ?_) (a' := ?_) bw23_63 rfl rfl (any_of HT_.out (by kernel_rfl)) (fun _ _ _ h => h) (Or.inl ⟨by rfl, ?_⟩) ?_ ?_
           rotate_left
           ·intro w'
            go_simp
            with_reducible rfl
           rotate_left
           ·simp only [Act.put, sb_, s0_, s1_, i64_w, i32_w]
            rfl
           refine take_ (i := 6) (N := some 99) (v := ?_) (a' := ?_) bw23_64 rfl rfl (take_ofW HT_.out HW_.out (by kernel_rfl)) (fun _ _ _ h => h) (Or.inl ⟨by rfl, ?_⟩) hHeld ?_ ?_
           rotate_left
           ·rintro w' ⟨s0, s1, s2, s3, s4, s5, s6, s7, s8, s9, s10, s11, s12, s13, s14, s15, s16, s17, s18, s19⟩
            go_simp
            with_reducible rfl
           rotate_left
           ·simp only [Act.put, sb_, s0_, s1_, i64_w, i32_w]
            rfl
           refine take_ (i := 9) (N := some 102) (v := ?_) (a' := ?_) bw23_65 rfl rfl (take_ofW HT_.out HW_.out (by kernel_rfl)) (fun _ _ _ h => h) (Or.inl ⟨by rfl, ?_⟩) hHeld ?_ ?_
           rotate_left
           ·rintro w' ⟨s0, s1, s2, s3, s4, s5, s6, s7, s8, s9, s10, s11, s12, s13, s14, s15, s16, s17, s18, s19⟩
            go_simp
            with_reducible rfl
           rotate_left
           ·simp only [Act.put, sb_, s0_, s1_, i64_w, i32_w]
            rfl
           refine one_ (i := 8) (N := some 101) bw23_34 rfl rfl (one_of HT_.out (by kernel_rfl)) (by decide) (fun K hK => ?_)
           refine goes_ Try.func71 (by kernel_rfl) rfl #[.agg #[.string a0_0, .slice A0_1 l0_1.length c0_1, .slice A0_2 l0_2.length c0_2, .slice (some ad267) l0_3.length c0_3], .int .i64 x8_5] (by rfl) rfl rfl (by (try simp only [List.map_toArray, List.map_cons, List.map_nil]); first | done | rfl | (simp only [List.length_drop, List.length_take]; rfl)) ?_
           with_reducible refine (semblanceref53_above.calls a0_0 _ _ l0_1 _ _ l0_2 _ _ l0_3 x8_5 t275 _ ?side1 ?side2 ?side3 ?side4 ?side5 ?side6 A60.out).mono ?_
           (case side1 => repeat (first | exact (Kd.C_below HR0_1.out HB.out) | (with_reducible refine Kd.C_alloc ?_ _) | (with_reducible refine Kd.C_drewN ?_ _) | (with_reducible refine Kd.C_drew ?_)))
           (case side2 => exact HC0_1.out)
           (case side3 => repeat (first | exact (Kd.C_below HR0_2.out HB.out) | (with_reducible refine Kd.C_alloc ?_ _) | (with_reducible refine Kd.C_drewN ?_ _) | (with_reducible refine Kd.C_drew ?_)))
           (case side4 => exact HC0_2.out)
           (case side5 => repeat (first | exact (Kd.C_below HR0_3.out HB.out) | (with_reducible refine Kd.C_alloc ?_ _) | (with_reducible refine Kd.C_drewN ?_ _) | (with_reducible refine Kd.C_drew ?_)))
           (case side6 => exact HC0_3.out)
           rintro e w85 ⟨rfl, hb⟩
           refine ⟨_, rfl, ?_⟩
           have n0_ := Aside0.mk (Kd.R_below (by (with_reducible repeat (first | apply Kd.R_alloc | apply Kd.R_drewN | apply Kd.R_drew)); exact HO_5.out) hb)
           have n1_ := Aside0.mk (blk_below (grw BK250.out) hb)
           have n2_ := Aside0.mk (blk_below (grw BK251.out) hb)
           have n3_ := Aside0.mk (blk_below (grw BK268.out) hb)
           have n4_ := Aside0.mk (blk_below (grw BK274.out) hb)
           have n5_ := Aside0.mk (below_step (by repeat (first | (with_reducible first | exact HB.out | apply below_alloc | apply pw_below_drewN | apply below_drew1 | refine below_set ?_ GE250.out | refine below_set ?_ GE251.out | refine below_set ?_ GE268.out | refine below_set ?_ GE274.out) | exact HB.out)) hb)
           clear HO_5
           clear BK250
           clear BK251
           clear BK268
           clear BK274
           clear HB
           have HO_5 := n0_
           have BK250 := n1_
           have BK251 := n2_
           have BK268 := n3_
           have BK274 := n4_
           have HB := n5_
           clear n0_ n1_ n2_ n3_ n4_ n5_
           (try clear hb)
           (try clear hb2)
           (try clear hk)
           (try clear hi)
           refine hK.out _ _ ⟨(blk_cell BK268.out 0).trans rfl, (blk_cell BK268.out 1).trans rfl, (blk_cell BK268.out 2).trans rfl, (blk_cell BK268.out 3).trans rfl, (blk_cell BK268.out 4).trans rfl, (blk_cell BK268.out 5).trans rfl, (blk_cell BK274.out 0).trans rfl, (blk_cell BK274.out 1).trans rfl, (blk_cell BK274.out 2).trans rfl, (blk_cell BK274.out 3).trans rfl, (blk_cell BK274.out 4).trans rfl, (blk_cell BK274.out 5).trans rfl, (blk_cell BK250.out 0).trans rfl, (blk_cell BK250.out 1).trans rfl, (blk_cell BK250.out 2).trans rfl, (blk_cell BK250.out 3).trans rfl, (blk_cell BK251.out 0).trans rfl, (blk_cell BK251.out 1).trans rfl, (blk_cell BK251.out 2).trans rfl, (blk_cell BK251.out 3).trans rfl⟩ (fun hHeld => ?_)
           clear hK K
           refine norm_ (a' := ?_) ?_ ?_
           rotate_left
           ·show Act.put _ (some 101) _ = _
            simp only [Act.put, sb_, s0_, s1_, i64_w, i32_w]
            rfl
           refine one_ (i := 11) (N := some 104) bw23_35 rfl rfl (one_of HT_.out (by kernel_rfl)) (by decide) (fun K hK => ?_)
           refine goes_ Try.func71 (by kernel_rfl) rfl #[.agg #[.string a1_0, .slice A1_1 l1_1.length c1_1, .slice A1_2 l1_2.length c1_2, .slice (some ad273) l1_3.length c1_3], .int .i64 t269] (by rfl) rfl rfl (by (try simp only [List.map_toArray, List.map_cons, List.map_nil]); first | done | rfl | (simp only [List.length_drop, List.length_take]; rfl)) ?_
           with_reducible refine (semblanceref53_above.calls a1_0 _ _ l1_1 _ _ l1_2 _ _ l1_3 t269 t276 _ ?side1 ?side2 ?side3 ?side4 ?side5 ?side6 A61.out).mono ?_
           (case side1 => repeat (first | exact (Kd.C_below HR1_1.out HB.out) | (with_reducible refine Kd.C_alloc ?_ _) | (with_reducible refine Kd.C_drewN ?_ _) | (with_reducible refine Kd.C_drew ?_)))
           (case side2 => exact HC1_1.out)
           (case side3 => repeat (first | exact (Kd.C_below HR1_2.out HB.out) | (with_reducible refine Kd.C_alloc ?_ _) | (with_reducible refine Kd.C_drewN ?_ _) | (with_reducible refine Kd.C_drew ?_)))
           (case side4 => exact HC1_2.out)
           (case side5 => repeat (first | exact (Kd.C_below HR1_3.out HB.out) | (with_reducible refine Kd.C_alloc ?_ _) | (with_reducible refine Kd.C_drewN ?_ _) | (with_reducible refine Kd.C_drew ?_)))
           (case side6 => exact HC1_3.out)
           rintro e w86 ⟨rfl, hb⟩
           refine ⟨_, rfl, ?_⟩
           have n0_ := Aside0.mk (Kd.R_below (by (with_reducible repeat (first | apply Kd.R_alloc | apply Kd.R_drewN | apply Kd.R_drew)); exact HO_5.out) hb)
           have n1_ := Aside0.mk (blk_below (grw BK250.out) hb)
           have n2_ := Aside0.mk (blk_below (grw BK251.out) hb)
           have n3_ := Aside0.mk (blk_below (grw BK268.out) hb)
           have n4_ := Aside0.mk (blk_below (grw BK274.out) hb)
           have n5_ := Aside0.mk (below_step (by repeat (first | (with_reducible first | exact HB.out | apply below_alloc | apply pw_below_drewN | apply below_drew1 | refine below_set ?_ GE250.out | refine below_set ?_ GE251.out | refine below_set ?_ GE268.out | refine below_set ?_ GE274.out) | exact HB.out)) hb)
           clear HO_5
           clear BK250
           clear BK251
           clear BK268
           clear BK274
           clear HB
           have HO_5 := n0_
           have BK250 := n1_
           have BK251 := n2_
           have BK268 := n3_
           have BK274 := n4_
           have HB := n5_
           clear n0_ n1_ n2_ n3_ n4_ n5_
           (try clear hb)
           (try clear hb2)
           (try clear hk)
           (try clear hi)
           refine hK.out _ _ ⟨(blk_cell BK268.out 0).trans rfl, (blk_cell BK268.out 1).trans rfl, (blk_cell BK268.out 2).trans rfl, (blk_cell BK268.out 3).trans rfl, (blk_cell BK268.out 4).trans rfl, (blk_cell BK268.out 5).trans rfl, (blk_cell BK274.out 0).trans rfl, (blk_cell BK274.out 1).trans rfl, (blk_cell BK274.out 2).trans rfl, (blk_cell BK274.out 3).trans rfl, (blk_cell BK274.out 4).trans rfl, (blk_cell BK274.out 5).trans rfl, (blk_cell BK250.out 0).trans rfl, (blk_cell BK250.out 1).trans rfl, (blk_cell BK250.out 2).trans rfl, (blk_cell BK250.out 3).trans rfl, (blk_cell BK251.out 0).trans rfl, (blk_cell BK251.out 1).trans rfl, (blk_cell BK251.out 2).trans rfl, (blk_cell BK251.out 3).trans rfl⟩ (fun hHeld => ?_)
           clear hK K
           refine norm_ (a' := ?_) ?_ ?_
           rotate_left
           ·show Act.put _ (some 104) _ = _
            simp only [Act.put, sb_, s0_, s1_, i64_w, i32_w]
            rfl
           have H := HZ_.out
           clear HZ_
           by_cases c62 : t275.toList = t276.toList
           rotate_left
           ·rw [if_neg c62] at H
            have c62b0 : (t275.toList == t276.toList) = false := beq_eq_false_iff_ne.mpr c62
            have c62b1 : (t275.toList != t276.toList) = true := bne_iff_ne.mpr c62
            by_cases c162 : 2 + ((rd_T99 l0_3 x8_5).f0).size ≤ 9223372036854775807
            rotate_left
            ·rw [if_neg c162] at H
             exact absurd H (by simp)
            rw [if_pos c162] at H
            have c162b0 := eq_true c162
            have c162b1 : decide (2 + ((rd_T99 l0_3 x8_5).f0).size ≤ 9223372036854775807) = true := decide_eq_true c162
            try have c162b2 : (9223372036854775807 < 2 + ((rd_T99 l0_3 x8_5).f0).size) = False := eq_false (Nat.not_lt.2 c162)
            by_cases c163 : x5_5.length < 8796093022208
            rotate_left
            ·rw [if_neg c163] at H
             exact absurd H (by simp)
            rw [if_pos c163] at H
            have LMc163 := Aside0.mk c163
            clear c163
            obtain ⟨y289, hy289⟩ : ∃ y_ : List ByteArray, y_ = (x5_5 ++ [(⟨#[126, 32]⟩ : ByteArray) ++ ((rd_T99 l0_3 x8_5).f0)]) := ⟨_, rfl⟩
            replace H : (semblanceref53_Lines.l1 k5 y289 (wrap64 (x8_5 + 1)) a0_0 l0_1 l0_2 l0_3 a1_0 l1_1 l1_2 l1_3) = some r := by first | (rw [hy289]; with_reducible exact H) | (have H2_ := (Option.bind_some _ _).symm.trans H; rw [hy289]; with_reducible exact H2_) | (have H2_ := (Option.bind_some _ _).symm.trans H; with_reducible exact H2_) | with_reducible exact H | (rw [hy289]; exact H) | exact H
            have Ny289 := Aside0.mk hy289
            clear hy289
            have H' := Aside0.mk H
            clear H
            have hnb164 := NB250_251.out
            have hnc164 := NB251_250.out
            refine pure_ (i := 12) (N := some 105) (v := ?_) (a' := ?_) bw23_36 rfl rfl (any_of HT_.out (by kernel_rfl)) (fun _ _ _ h => h) (Or.inl ⟨by rfl, ?_⟩) ?_ ?_
            rotate_left
            ·intro w'
             go_simp
             with_reducible rfl
            rotate_left
            ·simp only [Act.put, sb_, s0_, s1_, i64_w, i32_w]
             rfl
            refine pure_ (i := 13) (N := some 106) (v := ?_) (a' := ?_) bw23_37 rfl rfl (any_of HT_.out (by kernel_rfl)) (fun _ _ _ h => h) (Or.inl ⟨by rfl, ?_⟩) ?_ ?_
            rotate_left
            ·intro w'
             go_simp
             with_reducible rfl
            rotate_left
            ·simp only [Act.put, sb_, s0_, s1_, i64_w, i32_w]
             rfl
            refine pure_ (i := 14) (N := some 107) (v := ?_) (a' := ?_) bw23_38 rfl rfl (any_of HT_.out (by kernel_rfl)) (fun _ _ _ h => h) (Or.inl ⟨by rfl, ?_⟩) ?_ ?_
            rotate_left
            ·intro w'
             go_simp
             with_reducible rfl
            rotate_left
            ·simp only [Act.put, sb_, s0_, s1_, i64_w, i32_w]
             rfl
            refine pure_ (i := 15) (N := some 108) (v := undef) (a' := ?_) bw23_39 rfl rfl (any_of HT_.out (by kernel_rfl)) (fun _ _ _ h => h) (Or.inr ⟨by rfl, rfl⟩) ?_ ?_
            rotate_left
            ·simp only [Act.put, sb_, s0_, s1_, i64_w, i32_w]
             rfl
            refine pure_ (i := 16) (N := some 109) (v := undef) (a' := ?_) bw23_40 rfl rfl (any_of HT_.out (by kernel_rfl)) (fun _ _ _ h => h) (Or.inr ⟨by rfl, rfl⟩) ?_ ?_
            rotate_left
            ·simp only [Act.put, sb_, s0_, s1_, i64_w, i32_w]
             rfl
            refine pure_ (i := 17) (N := some 110) (v := undef) (a' := ?_) bw23_41 rfl rfl (any_of HT_.out (by kernel_rfl)) (fun _ _ _ h => h) (Or.inr ⟨by rfl, rfl⟩) ?_ ?_
            rotate_left
            ·simp only [Act.put, sb_, s0_, s1_, i64_w, i32_w]
             rfl
            refine pure_ (i := 18) (N := some 111) (v := undef) (a' := ?_) bw23_42 rfl rfl (any_of HT_.out (by kernel_rfl)) (fun _ _ _ h => h) (Or.inr ⟨by rfl, rfl⟩) ?_ ?_
            rotate_left
            ·simp only [Act.put, sb_, s0_, s1_, i64_w, i32_w]
             rfl
            refine pure_ (i := 19) (N := some 112) (v := undef) (a' := ?_) bw23_43 rfl rfl (any_of HT_.out (by kernel_rfl)) (fun _ _ _ h => h) (Or.inr ⟨by rfl, rfl⟩) ?_ ?_
            rotate_left
            ·simp only [Act.put, sb_, s0_, s1_, i64_w, i32_w]
             rfl
            refine pure_ (i := 20) (N := some 113) (v := undef) (a' := ?_) bw23_44 rfl rfl (any_of HT_.out (by kernel_rfl)) (fun _ _ _ h => h) (Or.inr ⟨by rfl, rfl⟩) ?_ ?_
            rotate_left
            ·simp only [Act.put, sb_, s0_, s1_, i64_w, i32_w]
             rfl
            refine pure_ (i := 21) (N := some 114) (v := ?_) (a' := ?_) bw23_45 rfl rfl (any_of HT_.out (by kernel_rfl)) (fun _ _ _ h => h) (Or.inl ⟨by rfl, ?_⟩) ?_ ?_
            rotate_left
            ·intro w'
             go_simp
             with_reducible rfl
            rotate_left
            ·simp only [Act.put, sb_, s0_, s1_, i64_w, i32_w]
             rfl
            refine pure_ (i := 22) (N := some 115) (v := ?_) (a' := ?_) bw23_46 rfl rfl (any_of HT_.out (by kernel_rfl)) (fun _ _ _ h => h) (Or.inl ⟨by rfl, ?_⟩) ?_ ?_
            rotate_left
            ·intro w'
             go_simp
             with_reducible rfl
            rotate_left
            ·simp only [Act.put, sb_, s0_, s1_, i64_w, i32_w]
             rfl
            refine pure_ (i := 23) (N := some 116) (v := undef) (a' := ?_) bw23_47 rfl rfl (any_of HT_.out (by kernel_rfl)) (fun _ _ _ h => h) (Or.inr ⟨by rfl, rfl⟩) ?_ ?_
            rotate_left
            ·simp only [Act.put, sb_, s0_, s1_, i64_w, i32_w]
             rfl
            refine pure_ (i := 24) (N := some 117) (v := undef) (a' := ?_) bw23_48 rfl rfl (any_of HT_.out (by kernel_rfl)) (fun _ _ _ h => h) (Or.inr ⟨by rfl, rfl⟩) ?_ ?_
            rotate_left
            ·simp only [Act.put, sb_, s0_, s1_, i64_w, i32_w]
             rfl
            refine pure_ (i := 25) (N := some 118) (v := undef) (a' := ?_) bw23_49 rfl rfl (any_of HT_.out (by kernel_rfl)) (fun _ _ _ h => h) (Or.inr ⟨by rfl, rfl⟩) ?_ ?_
            rotate_left
            ·simp only [Act.put, sb_, s0_, s1_, i64_w, i32_w]
             rfl
            refine pure_ (i := 26) (N := some 119) (v := undef) (a' := ?_) bw23_50 rfl rfl (any_of HT_.out (by kernel_rfl)) (fun _ _ _ h => h) (Or.inr ⟨by rfl, rfl⟩) ?_ ?_
            rotate_left
            ·simp only [Act.put, sb_, s0_, s1_, i64_w, i32_w]
             rfl
            refine pure_ (i := 27) (N := some 120) (v := undef) (a' := ?_) bw23_51 rfl rfl (any_of HT_.out (by kernel_rfl)) (fun _ _ _ h => h) (Or.inr ⟨by rfl, rfl⟩) ?_ ?_
            rotate_left
            ·simp only [Act.put, sb_, s0_, s1_, i64_w, i32_w]
             rfl
            refine pure_ (i := 28) (N := some 121) (v := undef) (a' := ?_) bw23_52 rfl rfl (any_of HT_.out (by kernel_rfl)) (fun _ _ _ h => h) (Or.inr ⟨by rfl, rfl⟩) ?_ ?_
            rotate_left
            ·simp only [Act.put, sb_, s0_, s1_, i64_w, i32_w]
             rfl
            refine pure_ (i := 29) (N := some 122) (v := ?_) (a' := ?_) bw23_53 rfl rfl (any_of HT_.out (by kernel_rfl)) (fun _ _ _ h => h) (Or.inl ⟨by rfl, ?_⟩) ?_ ?_
            rotate_left
            ·intro w'
             go_simp
             with_reducible rfl
            rotate_left
            ·simp only [Act.put, sb_, s0_, s1_, i64_w, i32_w]
             rfl
            refine pure_ (i := 30) (N := some 123) (v := ?_) (a' := ?_) bw23_54 rfl rfl (any_of HT_.out (by kernel_rfl)) (fun _ _ _ h => h) (Or.inl ⟨by rfl, ?_⟩) ?_ ?_
            rotate_left
            ·intro w'
             go_simp
             with_reducible rfl
            rotate_left
            ·simp only [Act.put, sb_, s0_, s1_, i64_w, i32_w]
             rfl
            refine pure_ (i := 31) (N := some 124) (v := undef) (a' := ?_) bw23_55 rfl rfl (any_of HT_.out (by kernel_rfl)) (fun _ _ _ h => h) (Or.inr ⟨by rfl, rfl⟩) ?_ ?_
            rotate_left
            ·simp only [Act.put, sb_, s0_, s1_, i64_w, i32_w]
             rfl
            refine pure_ (i := 32) (N := some 125) (v := undef) (a' := ?_) bw23_56 rfl rfl (any_of HT_.out (by kernel_rfl)) (fun _ _ _ h => h) (Or.inr ⟨by rfl, rfl⟩) ?_ ?_
            rotate_left
            ·simp only [Act.put, sb_, s0_, s1_, i64_w, i32_w]
             rfl
            refine pure_ (i := 33) (N := some 126) (v := undef) (a' := ?_) bw23_57 rfl rfl (any_of HT_.out (by kernel_rfl)) (fun _ _ _ h => h) (Or.inr ⟨by rfl, rfl⟩) ?_ ?_
            rotate_left
            ·simp only [Act.put, sb_, s0_, s1_, i64_w, i32_w]
             rfl
            refine pure_ (i := 34) (N := some 127) (v := undef) (a' := ?_) bw23_58 rfl rfl (any_of HT_.out (by kernel_rfl)) (fun _ _ _ h => h) (Or.inr ⟨by rfl, rfl⟩) ?_ ?_
            rotate_left
            ·simp only [Act.put, sb_, s0_, s1_, i64_w, i32_w]
             rfl
            refine pure_ (i := 35) (N := some 128) (v := undef) (a' := ?_) bw23_59 rfl rfl (any_of HT_.out (by kernel_rfl)) (fun _ _ _ h => h) (Or.inr ⟨by rfl, rfl⟩) ?_ ?_
            rotate_left
            ·simp only [Act.put, sb_, s0_, s1_, i64_w, i32_w]
             rfl
            refine pure_ (i := 36) (N := some 129) (v := undef) (a' := ?_) bw23_60 rfl rfl (any_of HT_.out (by kernel_rfl)) (fun _ _ _ h => h) (Or.inr ⟨by rfl, rfl⟩) ?_ ?_
            rotate_left
            ·simp only [Act.put, sb_, s0_, s1_, i64_w, i32_w]
             rfl
            refine pure_ (i := 37) (N := some 130) (v := ?_) (a' := ?_) bw23_61 rfl rfl (any_of HT_.out (by kernel_rfl)) (fun _ _ _ h => h) (Or.inl ⟨by rfl, ?_⟩) ?_ ?_
            rotate_left
            ·intro w'
             go_simp
             with_reducible rfl
            rotate_left
            ·simp only [Act.put, sb_, s0_, s1_, i64_w, i32_w]
             rfl
            refine done_ (done_of HT_.out (by kernel_rfl)) ?_
            obtain ⟨hcz182_0, hcz182_1, hcz182_2, hcz182_3, hcz182_4, hcz182_5⟩ := cz6_ BK268.out
            obtain ⟨hfz182_0, hfz182_1, hfz182_2, hfz182_3, hfz182_4, hfz182_5⟩ := cf6_ BK268.out
            try go_wp2_with (first | ((with_reducible refine gate_builtin (b := .append) (xs := #[.tmp 131, .tmp 135]) rfl ?_); at_builtin; refine Kd.R_append Kd.string (w0 := w) w.heap.size rfl (.tmp 131) (.tmp 135) 55 9 (.string ⟨#[]⟩) 16 rfl Try.underlying55 info9 rfl (by decide) (by omega) u5 x5_5 ((⟨#[126, 32]⟩ : ByteArray) ++ ((rd_T99 l0_3 x8_5).f0)) [.string ((⟨#[126, 32]⟩ : ByteArray) ++ ((rd_T99 l0_3 x8_5).f0))] (fun _ => True) (fun _ => False) rfl rfl ?aP (fun _ hk => hk.elim) ?aF ?aO ?aB ?aS ?aL ?_; (case aP => exact rfl); (case aB => exact (by repeat (first | (with_reducible first | exact HB.out | apply below_alloc | apply pw_below_drewN | apply below_drew1 | refine below_set ?_ GE250.out | refine below_set ?_ GE251.out | refine below_set ?_ GE268.out | refine below_set ?_ GE274.out) | exact HB.out))); (case aF => exact (fun _ _ => trivial)); (case aO => exact (by (with_reducible repeat (first | apply Kd.R_alloc | apply Kd.R_drewN | apply Kd.R_drew)); exact HO_5.out)); (case aS => exact (below_size (by repeat (first | (with_reducible first | exact HB.out | apply below_alloc | apply pw_below_drewN | apply below_drew1 | refine below_set ?_ GE250.out | refine below_set ?_ GE251.out | refine below_set ?_ GE268.out | refine below_set ?_ GE274.out) | exact HB.out)))); (case aL => have := LMc163.out; omega); intro v290 w183 ho hb hg hat; rw [← Ny289.out] at ho; have n0_ := Aside0.mk (blk_grown (grw BK250.out) hg (Kd.R_ne HO_5.out BK250.out (by decide))); have n1_ := Aside0.mk (blk_grown (grw BK251.out) hg (Kd.R_ne HO_5.out BK251.out (by decide))); have n2_ := Aside0.mk (blk_grown (grw BK268.out) hg (Kd.R_ne HO_5.out BK268.out (by decide))); have n3_ := Aside0.mk (blk_grown (grw BK274.out) hg (Kd.R_ne HO_5.out BK274.out (by decide))); have n4_ := Aside0.mk (hb); have n5_ := Aside0.mk (ho); clear BK250; clear BK251; clear BK268; clear BK274; clear HB; clear HO_5; have BK250 := n0_; have BK251 := n1_; have BK268 := n2_; have BK274 := n3_; have HB := n4_; have HO291 := n5_; clear n0_ n1_ n2_ n3_ n4_ n5_; clear ho hb hg hat))
            go_roundg k5
            case measure => have := HJ2.out; have := HJ14.out; have := HJ21.out; have := HJ36.out; have := HK5.out; omega
            case rel => exact ⟨(y289), (wrap64 (x8_5 + 1)), (by first | rfl | (simp; done) | (simp [*]; done)), H', ⟨by have := HJ2.out; have := HJ14.out; have := HJ21.out; have := HJ36.out; have := HK5.out; omega⟩, ⟨by (with_reducible repeat (first | apply Kd.R_alloc | apply Kd.R_drewN | apply Kd.R_drew)); exact HO291.out⟩, ⟨grw BK250.out⟩, ⟨grw BK251.out⟩, ⟨by repeat (first | (with_reducible first | exact HB.out | apply below_alloc | apply pw_below_drewN | apply below_drew1 | refine below_set ?_ GE250.out | refine below_set ?_ GE251.out | refine below_set ?_ GE268.out | refine below_set ?_ GE274.out) | exact HB.out)⟩⟩
           rw [if_pos c62] at H
           have c62b0 : (t275.toList == t276.toList) = true := beq_iff_eq.mpr c62
           have c62b1 : (t275.toList != t276.toList) = false := bne_eq_false_iff_eq.mpr c62
           clear c62
           replace H := Option.bind_eq_some_iff.mp H
           obtain ⟨t277, A630, H⟩ := H
           replace H : (if t277 = true then ((semblanceref08_Same.f k5 ((rd_T99 l0_3 x8_5).f4) ((rd_T99 l1_3 t269).f4)).bind fun t278 => (if t278 = true then ((semblanceref09_All.f k5 ((rd_T99 l0_3 x8_5).f5) ((rd_T99 l1_3 t269).f5)).bind fun t279 => (if t279 = true then (semblanceref53_Lines.l1 k5 x5_5 (wrap64 (x8_5 + 1)) a0_0 l0_1 l0_2 l0_3 a1_0 l1_1 l1_2 l1_3) else (if 2 + ((rd_T99 l0_3 x8_5).f0).size ≤ 9223372036854775807 then (if x5_5.length < 8796093022208 then (semblanceref53_Lines.l1 k5 (x5_5 ++ [(⟨#[126, 32]⟩ : ByteArray) ++ ((rd_T99 l0_3 x8_5).f0)]) (wrap64 (x8_5 + 1)) a0_0 l0_1 l0_2 l0_3 a1_0 l1_1 l1_2 l1_3) else (none)) else (none)))) else (if 2 + ((rd_T99 l0_3 x8_5).f0).size ≤ 9223372036854775807 then (if x5_5.length < 8796093022208 then (semblanceref53_Lines.l1 k5 (x5_5 ++ [(⟨#[126, 32]⟩ : ByteArray) ++ ((rd_T99 l0_3 x8_5).f0)]) (wrap64 (x8_5 + 1)) a0_0 l0_1 l0_2 l0_3 a1_0 l1_1 l1_2 l1_3) else (none)) else (none)))) else (if 2 + ((rd_T99 l0_3 x8_5).f0).size ≤ 9223372036854775807 then (if x5_5.length < 8796093022208 then (semblanceref53_Lines.l1 k5 (x5_5 ++ [(⟨#[126, 32]⟩ : ByteArray) ++ ((rd_T99 l0_3 x8_5).f0)]) (wrap64 (x8_5 + 1)) a0_0 l0_1 l0_2 l0_3 a1_0 l1_1 l1_2 l1_3) else (none)) else (none))) = some r := H
           have A63 := Aside0.mk A630
           clear A630
           by_cases c64 : t277 = true
           rotate_left
           ·replace c64 := Bool.eq_false_iff.mpr c64
            subst c64
            have H1 : (if 2 + ((rd_T99 l0_3 x8_5).f0).size ≤ 9223372036854775807 then (if x5_5.length < 8796093022208 then (semblanceref53_Lines.l1 k5 (x5_5 ++ [(⟨#[126, 32]⟩ : ByteArray) ++ ((rd_T99 l0_3 x8_5).f0)]) (wrap64 (x8_5 + 1)) a0_0 l0_1 l0_2 l0_3 a1_0 l1_1 l1_2 l1_3) else (none)) else (none)) = some r := by rw [if_neg (show ¬ (false = true) by decide)] at H; exact H
            clear H
            have H := H1
            clear H1
            by_cases c139 : 2 + ((rd_T99 l0_3 x8_5).f0).size ≤ 9223372036854775807
            rotate_left
            ·rw [if_neg c139] at H
             exact absurd H (by simp)
            rw [if_pos c139] at H
            have c139b0 := eq_true c139
            have c139b1 : decide (2 + ((rd_T99 l0_3 x8_5).f0).size ≤ 9223372036854775807) = true := decide_eq_true c139
            try have c139b2 : (9223372036854775807 < 2 + ((rd_T99 l0_3 x8_5).f0).size) = False := eq_false (Nat.not_lt.2 c139)
            by_cases c140 : x5_5.length < 8796093022208
            rotate_left
            ·rw [if_neg c140] at H
             exact absurd H (by simp)
            rw [if_pos c140] at H
            have LMc140 := Aside0.mk c140
            clear c140
            obtain ⟨y286, hy286⟩ : ∃ y_ : List ByteArray, y_ = (x5_5 ++ [(⟨#[126, 32]⟩ : ByteArray) ++ ((rd_T99 l0_3 x8_5).f0)]) := ⟨_, rfl⟩
            replace H : (semblanceref53_Lines.l1 k5 y286 (wrap64 (x8_5 + 1)) a0_0 l0_1 l0_2 l0_3 a1_0 l1_1 l1_2 l1_3) = some r := by first | (rw [hy286]; with_reducible exact H) | (have H2_ := (Option.bind_some _ _).symm.trans H; rw [hy286]; with_reducible exact H2_) | (have H2_ := (Option.bind_some _ _).symm.trans H; with_reducible exact H2_) | with_reducible exact H | (rw [hy286]; exact H) | exact H
            have Ny286 := Aside0.mk hy286
            clear hy286
            have H' := Aside0.mk H
            clear H
            have hnb141 := NB250_251.out
            have hnc141 := NB251_250.out
            refine pure_ (i := 12) (N := some 105) (v := ?_) (a' := ?_) bw23_36 rfl rfl (any_of HT_.out (by kernel_rfl)) (fun _ _ _ h => h) (Or.inl ⟨by rfl, ?_⟩) ?_ ?_
            rotate_left
            ·intro w'
             go_simp
             with_reducible rfl
            rotate_left
            ·simp only [Act.put, sb_, s0_, s1_, i64_w, i32_w]
             rfl
            refine pure_ (i := 13) (N := some 106) (v := ?_) (a' := ?_) bw23_37 rfl rfl (any_of HT_.out (by kernel_rfl)) (fun _ _ _ h => h) (Or.inl ⟨by rfl, ?_⟩) ?_ ?_
            rotate_left
            ·intro w'
             go_simp
             with_reducible rfl
            rotate_left
            ·simp only [Act.put, sb_, s0_, s1_, i64_w, i32_w]
             rfl
            refine pure_ (i := 14) (N := some 107) (v := ?_) (a' := ?_) bw23_38 rfl rfl (any_of HT_.out (by kernel_rfl)) (fun _ _ _ h => h) (Or.inl ⟨by rfl, ?_⟩) ?_ ?_
            rotate_left
            ·intro w'
             go_simp
             with_reducible rfl
            rotate_left
            ·simp only [Act.put, sb_, s0_, s1_, i64_w, i32_w]
             rfl
            refine pure_ (i := 15) (N := some 108) (v := ?_) (a' := ?_) bw23_39 rfl rfl (any_of HT_.out (by kernel_rfl)) (fun _ _ _ h => h) (Or.inl ⟨by rfl, ?_⟩) ?_ ?_
            rotate_left
            ·intro w'
             go_simp
             with_reducible rfl
            rotate_left
            ·simp only [Act.put, sb_, s0_, s1_, i64_w, i32_w]
             rfl
            refine pure_ (i := 17) (N := some 110) (v := ?_) (a' := ?_) bw23_66 rfl rfl (any_of HT_.out (by kernel_rfl)) (fun _ _ _ h => h) (Or.inl ⟨by rfl, ?_⟩) ?_ ?_
            rotate_left
            ·intro w'
             go_simp
             with_reducible rfl
            rotate_left
            ·simp only [Act.put, sb_, s0_, s1_, i64_w, i32_w]
             rfl
            refine take_ (i := 16) (N := some 109) (v := ?_) (a' := ?_) bw23_41 rfl rfl (take_ofW HT_.out HW_.out (by kernel_rfl)) (fun _ _ _ h => h) (Or.inl ⟨by rfl, ?_⟩) hHeld ?_ ?_
            rotate_left
            ·rintro w' ⟨s0, s1, s2, s3, s4, s5, s6, s7, s8, s9, s10, s11, s12, s13, s14, s15, s16, s17, s18, s19⟩
             go_simp
             with_reducible rfl
            rotate_left
            ·simp only [Act.put, sb_, s0_, s1_, i64_w, i32_w]
             rfl
            refine take_ (i := 18) (N := some 111) (v := ?_) (a' := ?_) bw23_42 rfl rfl (take_ofW HT_.out HW_.out (by kernel_rfl)) (fun _ _ _ h => h) (Or.inl ⟨by rfl, ?_⟩) hHeld ?_ ?_
            rotate_left
            ·rintro w' ⟨s0, s1, s2, s3, s4, s5, s6, s7, s8, s9, s10, s11, s12, s13, s14, s15, s16, s17, s18, s19⟩
             go_simp
             with_reducible rfl
            rotate_left
            ·simp only [Act.put, sb_, s0_, s1_, i64_w, i32_w]
             rfl
            refine one_ (i := 19) (N := some 112) bw23_43 rfl rfl (one_of HT_.out (by kernel_rfl)) (by decide) (fun K hK => ?_)
            refine goes_ Try.func72 (by kernel_rfl) rfl #[.slice A267_3 ((rd_T99 l0_3 x8_5).f3).length c267_3, .slice A273_3 ((rd_T99 l1_3 t269).f3).length c273_3] (by rfl) rfl rfl (by (try simp only [List.map_toArray, List.map_cons, List.map_nil]); first | done | rfl | (simp only [List.length_drop, List.length_take]; rfl)) ?_
            with_reducible refine (semblanceref08_Same.calls k5 _ _ ((rd_T99 l0_3 x8_5).f3) _ _ ((rd_T99 l1_3 t269).f3) false _ ?side1 ?side2 ?side3 ?side4 A63.out).mono ?_
            (case side1 => repeat (first | exact (Kd.C_below HR267_3.out HB.out) | (with_reducible refine Kd.C_alloc ?_ _) | (with_reducible refine Kd.C_drewN ?_ _) | (with_reducible refine Kd.C_drew ?_)))
            (case side2 => exact HC267_3.out)
            (case side3 => repeat (first | exact (Kd.C_below HR273_3.out HB.out) | (with_reducible refine Kd.C_alloc ?_ _) | (with_reducible refine Kd.C_drewN ?_ _) | (with_reducible refine Kd.C_drew ?_)))
            (case side4 => exact HC273_3.out)
            rintro e w159 ⟨rfl, hb⟩
            refine ⟨_, rfl, ?_⟩
            have n0_ := Aside0.mk (Kd.R_below (by (with_reducible repeat (first | apply Kd.R_alloc | apply Kd.R_drewN | apply Kd.R_drew)); exact HO_5.out) hb)
            have n1_ := Aside0.mk (blk_below (grw BK250.out) hb)
            have n2_ := Aside0.mk (blk_below (grw BK251.out) hb)
            have n3_ := Aside0.mk (blk_below (grw BK268.out) hb)
            have n4_ := Aside0.mk (blk_below (grw BK274.out) hb)
            have n5_ := Aside0.mk (below_step (by repeat (first | (with_reducible first | exact HB.out | apply below_alloc | apply pw_below_drewN | apply below_drew1 | refine below_set ?_ GE250.out | refine below_set ?_ GE251.out | refine below_set ?_ GE268.out | refine below_set ?_ GE274.out) | exact HB.out)) hb)
            clear HO_5
            clear BK250
            clear BK251
            clear BK268
            clear BK274
            clear HB
            have HO_5 := n0_
            have BK250 := n1_
            have BK251 := n2_
            have BK268 := n3_
            have BK274 := n4_
            have HB := n5_
            clear n0_ n1_ n2_ n3_ n4_ n5_
            (try clear hb)
            (try clear hb2)
            (try clear hk)
            (try clear hi)
            refine hK.out _ _ ⟨(blk_cell BK268.out 0).trans rfl, (blk_cell BK268.out 1).trans rfl, (blk_cell BK268.out 2).trans rfl, (blk_cell BK268.out 3).trans rfl, (blk_cell BK268.out 4).trans rfl, (blk_cell BK268.out 5).trans rfl, (blk_cell BK274.out 0).trans rfl, (blk_cell BK274.out 1).trans rfl, (blk_cell BK274.out 2).trans rfl, (blk_cell BK274.out 3).trans rfl, (blk_cell BK274.out 4).trans rfl, (blk_cell BK274.out 5).trans rfl, (blk_cell BK250.out 0).trans rfl, (blk_cell BK250.out 1).trans rfl, (blk_cell BK250.out 2).trans rfl, (blk_cell BK250.out 3).trans rfl, (blk_cell BK251.out 0).trans rfl, (blk_cell BK251.out 1).trans rfl, (blk_cell BK251.out 2).trans rfl, (blk_cell BK251.out 3).trans rfl⟩ (fun hHeld => ?_)
            clear hK K
            refine norm_ (a' := ?_) ?_ ?_
            rotate_left
            ·show Act.put _ (some 112) _ = _
             simp only [Act.put, sb_, s0_, s1_, i64_w, i32_w]
             rfl
            refine pure_ (i := 20) (N := some 113) (v := ?_) (a' := ?_) bw23_44 rfl rfl (any_of HT_.out (by kernel_rfl)) (fun _ _ _ h => h) (Or.inl ⟨by rfl, ?_⟩) ?_ ?_
            rotate_left
            ·intro w'
             go_simp
             with_reducible rfl
            rotate_left
            ·simp only [Act.put, sb_, s0_, s1_, i64_w, i32_w]
             rfl
            refine pure_ (i := 21) (N := some 114) (v := ?_) (a' := ?_) bw23_45 rfl rfl (any_of HT_.out (by kernel_rfl)) (fun _ _ _ h => h) (Or.inl ⟨by rfl, ?_⟩) ?_ ?_
            rotate_left
            ·intro w'
             go_simp
             with_reducible rfl
            rotate_left
            ·simp only [Act.put, sb_, s0_, s1_, i64_w, i32_w]
             rfl
            refine pure_ (i := 22) (N := some 115) (v := ?_) (a' := ?_) bw23_46 rfl rfl (any_of HT_.out (by kernel_rfl)) (fun _ _ _ h => h) (Or.inl ⟨by rfl, ?_⟩) ?_ ?_
            rotate_left
            ·intro w'
             go_simp
             with_reducible rfl
            rotate_left
            ·simp only [Act.put, sb_, s0_, s1_, i64_w, i32_w]
             rfl
            refine pure_ (i := 23) (N := some 116) (v := undef) (a' := ?_) bw23_47 rfl rfl (any_of HT_.out (by kernel_rfl)) (fun _ _ _ h => h) (Or.inr ⟨by rfl, rfl⟩) ?_ ?_
            rotate_left
            ·simp only [Act.put, sb_, s0_, s1_, i64_w, i32_w]
             rfl
            refine pure_ (i := 24) (N := some 117) (v := undef) (a' := ?_) bw23_48 rfl rfl (any_of HT_.out (by kernel_rfl)) (fun _ _ _ h => h) (Or.inr ⟨by rfl, rfl⟩) ?_ ?_
            rotate_left
            ·simp only [Act.put, sb_, s0_, s1_, i64_w, i32_w]
             rfl
            refine pure_ (i := 25) (N := some 118) (v := undef) (a' := ?_) bw23_49 rfl rfl (any_of HT_.out (by kernel_rfl)) (fun _ _ _ h => h) (Or.inr ⟨by rfl, rfl⟩) ?_ ?_
            rotate_left
            ·simp only [Act.put, sb_, s0_, s1_, i64_w, i32_w]
             rfl
            refine pure_ (i := 26) (N := some 119) (v := undef) (a' := ?_) bw23_50 rfl rfl (any_of HT_.out (by kernel_rfl)) (fun _ _ _ h => h) (Or.inr ⟨by rfl, rfl⟩) ?_ ?_
            rotate_left
            ·simp only [Act.put, sb_, s0_, s1_, i64_w, i32_w]
             rfl
            refine pure_ (i := 27) (N := some 120) (v := undef) (a' := ?_) bw23_51 rfl rfl (any_of HT_.out (by kernel_rfl)) (fun _ _ _ h => h) (Or.inr ⟨by rfl, rfl⟩) ?_ ?_
            rotate_left
            ·simp only [Act.put, sb_, s0_, s1_, i64_w, i32_w]
             rfl
            refine pure_ (i := 28) (N := some 121) (v := undef) (a' := ?_) bw23_52 rfl rfl (any_of HT_.out (by kernel_rfl)) (fun _ _ _ h => h) (Or.inr ⟨by rfl, rfl⟩) ?_ ?_
            rotate_left
            ·simp only [Act.put, sb_, s0_, s1_, i64_w, i32_w]
             rfl
            refine pure_ (i := 29) (N := some 122) (v := ?_) (a' := ?_) bw23_53 rfl rfl (any_of HT_.out (by kernel_rfl)) (fun _ _ _ h => h) (Or.inl ⟨by rfl, ?_⟩) ?_ ?_
            rotate_left
            ·intro w'
             go_simp
             with_reducible rfl
            rotate_left
            ·simp only [Act.put, sb_, s0_, s1_, i64_w, i32_w]
             rfl
            refine pure_ (i := 30) (N := some 123) (v := ?_) (a' := ?_) bw23_54 rfl rfl (any_of HT_.out (by kernel_rfl)) (fun _ _ _ h => h) (Or.inl ⟨by rfl, ?_⟩) ?_ ?_
            rotate_left
            ·intro w'
             go_simp
             with_reducible rfl
            rotate_left
            ·simp only [Act.put, sb_, s0_, s1_, i64_w, i32_w]
             rfl
            refine pure_ (i := 31) (N := some 124) (v := undef) (a' := ?_) bw23_55 rfl rfl (any_of HT_.out (by kernel_rfl)) (fun _ _ _ h => h) (Or.inr ⟨by rfl, rfl⟩) ?_ ?_
            rotate_left
            ·simp only [Act.put, sb_, s0_, s1_, i64_w, i32_w]
             rfl
            refine pure_ (i := 32) (N := some 125) (v := undef) (a' := ?_) bw23_56 rfl rfl (any_of HT_.out (by kernel_rfl)) (fun _ _ _ h => h) (Or.inr ⟨by rfl, rfl⟩) ?_ ?_
            rotate_left
            ·simp only [Act.put, sb_, s0_, s1_, i64_w, i32_w]
             rfl
            refine pure_ (i := 33) (N := some 126) (v := undef) (a' := ?_) bw23_57 rfl rfl (any_of HT_.out (by kernel_rfl)) (fun _ _ _ h => h) (Or.inr ⟨by rfl, rfl⟩) ?_ ?_
            rotate_left
            ·simp only [Act.put, sb_, s0_, s1_, i64_w, i32_w]
             rfl
            refine pure_ (i := 34) (N := some 127) (v := undef) (a' := ?_) bw23_58 rfl rfl (any_of HT_.out (by kernel_rfl)) (fun _ _ _ h => h) (Or.inr ⟨by rfl, rfl⟩) ?_ ?_
            rotate_left
            ·simp only [Act.put, sb_, s0_, s1_, i64_w, i32_w]
             rfl
            refine pure_ (i := 35) (N := some 128) (v := undef) (a' := ?_) bw23_59 rfl rfl (any_of HT_.out (by kernel_rfl)) (fun _ _ _ h => h) (Or.inr ⟨by rfl, rfl⟩) ?_ ?_
            rotate_left
            ·simp only [Act.put, sb_, s0_, s1_, i64_w, i32_w]
             rfl
            refine pure_ (i := 36) (N := some 129) (v := undef) (a' := ?_) bw23_60 rfl rfl (any_of HT_.out (by kernel_rfl)) (fun _ _ _ h => h) (Or.inr ⟨by rfl, rfl⟩) ?_ ?_
            rotate_left
            ·simp only [Act.put, sb_, s0_, s1_, i64_w, i32_w]
             rfl
            refine pure_ (i := 37) (N := some 130) (v := ?_) (a' := ?_) bw23_61 rfl rfl (any_of HT_.out (by kernel_rfl)) (fun _ _ _ h => h) (Or.inl ⟨by rfl, ?_⟩) ?_ ?_
            rotate_left
            ·intro w'
             go_simp
             with_reducible rfl
            rotate_left
            ·simp only [Act.put, sb_, s0_, s1_, i64_w, i32_w]
             rfl
            refine done_ (done_of HT_.out (by kernel_rfl)) ?_
            obtain ⟨hcz160_0, hcz160_1, hcz160_2, hcz160_3, hcz160_4, hcz160_5⟩ := cz6_ BK268.out
            obtain ⟨hfz160_0, hfz160_1, hfz160_2, hfz160_3, hfz160_4, hfz160_5⟩ := cf6_ BK268.out
            try go_wp2_with (first | ((with_reducible refine gate_builtin (b := .append) (xs := #[.tmp 131, .tmp 135]) rfl ?_); at_builtin; refine Kd.R_append Kd.string (w0 := w) w.heap.size rfl (.tmp 131) (.tmp 135) 55 9 (.string ⟨#[]⟩) 16 rfl Try.underlying55 info9 rfl (by decide) (by omega) u5 x5_5 ((⟨#[126, 32]⟩ : ByteArray) ++ ((rd_T99 l0_3 x8_5).f0)) [.string ((⟨#[126, 32]⟩ : ByteArray) ++ ((rd_T99 l0_3 x8_5).f0))] (fun _ => True) (fun _ => False) rfl rfl ?aP (fun _ hk => hk.elim) ?aF ?aO ?aB ?aS ?aL ?_; (case aP => exact rfl); (case aB => exact (by repeat (first | (with_reducible first | exact HB.out | apply below_alloc | apply pw_below_drewN | apply below_drew1 | refine below_set ?_ GE250.out | refine below_set ?_ GE251.out | refine below_set ?_ GE268.out | refine below_set ?_ GE274.out) | exact HB.out))); (case aF => exact (fun _ _ => trivial)); (case aO => exact (by (with_reducible repeat (first | apply Kd.R_alloc | apply Kd.R_drewN | apply Kd.R_drew)); exact HO_5.out)); (case aS => exact (below_size (by repeat (first | (with_reducible first | exact HB.out | apply below_alloc | apply pw_below_drewN | apply below_drew1 | refine below_set ?_ GE250.out | refine below_set ?_ GE251.out | refine below_set ?_ GE268.out | refine below_set ?_ GE274.out) | exact HB.out)))); (case aL => have := LMc140.out; omega); intro v287 w161 ho hb hg hat; rw [← Ny286.out] at ho; have n0_ := Aside0.mk (blk_grown (grw BK250.out) hg (Kd.R_ne HO_5.out BK250.out (by decide))); have n1_ := Aside0.mk (blk_grown (grw BK251.out) hg (Kd.R_ne HO_5.out BK251.out (by decide))); have n2_ := Aside0.mk (blk_grown (grw BK268.out) hg (Kd.R_ne HO_5.out BK268.out (by decide))); have n3_ := Aside0.mk (blk_grown (grw BK274.out) hg (Kd.R_ne HO_5.out BK274.out (by decide))); have n4_ := Aside0.mk (hb); have n5_ := Aside0.mk (ho); clear BK250; clear BK251; clear BK268; clear BK274; clear HB; clear HO_5; have BK250 := n0_; have BK251 := n1_; have BK268 := n2_; have BK274 := n3_; have HB := n4_; have HO288 := n5_; clear n0_ n1_ n2_ n3_ n4_ n5_; clear ho hb hg hat))
            go_roundg k5
            case measure => have := HJ2.out; have := HJ14.out; have := HJ21.out; have := HJ36.out; have := HK5.out; omega
            case rel => exact ⟨(y286), (wrap64 (x8_5 + 1)), (by first | rfl | (simp; done) | (simp [*]; done)), H', ⟨by have := HJ2.out; have := HJ14.out; have := HJ21.out; have := HJ36.out; have := HK5.out; omega⟩, ⟨by (with_reducible repeat (first | apply Kd.R_alloc | apply Kd.R_drewN | apply Kd.R_drew)); exact HO288.out⟩, ⟨grw BK250.out⟩, ⟨grw BK251.out⟩, ⟨by repeat (first | (with_reducible first | exact HB.out | apply below_alloc | apply pw_below_drewN | apply below_drew1 | refine below_set ?_ GE250.out | refine below_set ?_ GE251.out | refine below_set ?_ GE268.out | refine below_set ?_ GE274.out) | exact HB.out)⟩⟩
           subst c64
           have H1 : ((semblanceref08_Same.f k5 ((rd_T99 l0_3 x8_5).f4) ((rd_T99 l1_3 t269).f4)).bind fun t278 => (if t278 = true then ((semblanceref09_All.f k5 ((rd_T99 l0_3 x8_5).f5) ((rd_T99 l1_3 t269).f5)).bind fun t279 => (if t279 = true then (semblanceref53_Lines.l1 k5 x5_5 (wrap64 (x8_5 + 1)) a0_0 l0_1 l0_2 l0_3 a1_0 l1_1 l1_2 l1_3) else (if 2 + ((rd_T99 l0_3 x8_5).f0).size ≤ 9223372036854775807 then (if x5_5.length < 8796093022208 then (semblanceref53_Lines.l1 k5 (x5_5 ++ [(⟨#[126, 32]⟩ : ByteArray) ++ ((rd_T99 l0_3 x8_5).f0)]) (wrap64 (x8_5 + 1)) a0_0 l0_1 l0_2 l0_3 a1_0 l1_1 l1_2 l1_3) else (none)) else (none)))) else (if 2 + ((rd_T99 l0_3 x8_5).f0).size ≤ 9223372036854775807 then (if x5_5.length < 8796093022208 then (semblanceref53_Lines.l1 k5 (x5_5 ++ [(⟨#[126, 32]⟩ : ByteArray) ++ ((rd_T99 l0_3 x8_5).f0)]) (wrap64 (x8_5 + 1)) a0_0 l0_1 l0_2 l0_3 a1_0 l1_1 l1_2 l1_3) else (none)) else (none)))) = some r := by rw [if_pos rfl] at H; exact H
           clear H
           have H := H1
           clear H1
           replace H := Option.bind_eq_some_iff.mp H
           obtain ⟨t278, A650, H⟩ := H
           replace H : (if t278 = true then ((semblanceref09_All.f k5 ((rd_T99 l0_3 x8_5).f5) ((rd_T99 l1_3 t269).f5)).bind fun t279 => (if t279 = true then (semblanceref53_Lines.l1 k5 x5_5 (wrap64 (x8_5 + 1)) a0_0 l0_1 l0_2 l0_3 a1_0 l1_1 l1_2 l1_3) else (if 2 + ((rd_T99 l0_3 x8_5).f0).size ≤ 9223372036854775807 then (if x5_5.length < 8796093022208 then (semblanceref53_Lines.l1 k5 (x5_5 ++ [(⟨#[126, 32]⟩ : ByteArray) ++ ((rd_T99 l0_3 x8_5).f0)]) (wrap64 (x8_5 + 1)) a0_0 l0_1 l0_2 l0_3 a1_0 l1_1 l1_2 l1_3) else (none)) else (none)))) else (if 2 + ((rd_T99 l0_3 x8_5).f0).size ≤ 9223372036854775807 then (if x5_5.length < 8796093022208 then (semblanceref53_Lines.l1 k5 (x5_5 ++ [(⟨#[126, 32]⟩ : ByteArray) ++ ((rd_T99 l0_3 x8_5).f0)]) (wrap64 (x8_5 + 1)) a0_0 l0_1 l0_2 l0_3 a1_0 l1_1 l1_2 l1_3) else (none)) else (none))) = some r := H
           have A65 := Aside0.mk A650
           clear A650
           by_cases c66 : t278 = true
           rotate_left
           ·replace c66 := Bool.eq_false_iff.mpr c66
            subst c66
            have H1 : (if 2 + ((rd_T99 l0_3 x8_5).f0).size ≤ 9223372036854775807 then (if x5_5.length < 8796093022208 then (semblanceref53_Lines.l1 k5 (x5_5 ++ [(⟨#[126, 32]⟩ : ByteArray) ++ ((rd_T99 l0_3 x8_5).f0)]) (wrap64 (x8_5 + 1)) a0_0 l0_1 l0_2 l0_3 a1_0 l1_1 l1_2 l1_3) else (none)) else (none)) = some r := by rw [if_neg (show ¬ (false = true) by decide)] at H; exact H
            clear H
            have H := H1
            clear H1
            by_cases c115 : 2 + ((rd_T99 l0_3 x8_5).f0).size ≤ 9223372036854775807
            rotate_left
            ·rw [if_neg c115] at H
             exact absurd H (by simp)
            rw [if_pos c115] at H
            have c115b0 := eq_true c115
            have c115b1 : decide (2 + ((rd_T99 l0_3 x8_5).f0).size ≤ 9223372036854775807) = true := decide_eq_true c115
            try have c115b2 : (9223372036854775807 < 2 + ((rd_T99 l0_3 x8_5).f0).size) = False := eq_false (Nat.not_lt.2 c115)
            by_cases c116 : x5_5.length < 8796093022208
            rotate_left
            ·rw [if_neg c116] at H
             exact absurd H (by simp)
            rw [if_pos c116] at H
            have LMc116 := Aside0.mk c116
            clear c116
            obtain ⟨y283, hy283⟩ : ∃ y_ : List ByteArray, y_ = (x5_5 ++ [(⟨#[126, 32]⟩ : ByteArray) ++ ((rd_T99 l0_3 x8_5).f0)]) := ⟨_, rfl⟩
            replace H : (semblanceref53_Lines.l1 k5 y283 (wrap64 (x8_5 + 1)) a0_0 l0_1 l0_2 l0_3 a1_0 l1_1 l1_2 l1_3) = some r := by first | (rw [hy283]; with_reducible exact H) | (have H2_ := (Option.bind_some _ _).symm.trans H; rw [hy283]; with_reducible exact H2_) | (have H2_ := (Option.bind_some _ _).symm.trans H; with_reducible exact H2_) | with_reducible exact H | (rw [hy283]; exact H) | exact H
            have Ny283 := Aside0.mk hy283
            clear hy283
            have H' := Aside0.mk H
            clear H
            have hnb117 := NB250_251.out
            have hnc117 := NB251_250.out
            refine pure_ (i := 12) (N := some 105) (v := ?_) (a' := ?_) bw23_36 rfl rfl (any_of HT_.out (by kernel_rfl)) (fun _ _ _ h => h) (Or.inl ⟨by rfl, ?_⟩) ?_ ?_
            rotate_left
            ·intro w'
             go_simp
             with_reducible rfl
            rotate_left
            ·simp only [Act.put, sb_, s0_, s1_, i64_w, i32_w]
             rfl
            refine pure_ (i := 13) (N := some 106) (v := ?_) (a' := ?_) bw23_37 rfl rfl (any_of HT_.out (by kernel_rfl)) (fun _ _ _ h => h) (Or.inl ⟨by rfl, ?_⟩) ?_ ?_
            rotate_left
            ·intro w'
             go_simp
             with_reducible rfl
            rotate_left
            ·simp only [Act.put, sb_, s0_, s1_, i64_w, i32_w]
             rfl
            refine pure_ (i := 14) (N := some 107) (v := ?_) (a' := ?_) bw23_38 rfl rfl (any_of HT_.out (by kernel_rfl)) (fun _ _ _ h => h) (Or.inl ⟨by rfl, ?_⟩) ?_ ?_
            rotate_left
            ·intro w'
             go_simp
             with_reducible rfl
            rotate_left
            ·simp only [Act.put, sb_, s0_, s1_, i64_w, i32_w]
             rfl
            refine pure_ (i := 15) (N := some 108) (v := ?_) (a' := ?_) bw23_39 rfl rfl (any_of HT_.out (by kernel_rfl)) (fun _ _ _ h => h) (Or.inl ⟨by rfl, ?_⟩) ?_ ?_
            rotate_left
            ·intro w'
             go_simp
             with_reducible rfl
            rotate_left
            ·simp only [Act.put, sb_, s0_, s1_, i64_w, i32_w]
             rfl
            refine pure_ (i := 17) (N := some 110) (v := ?_) (a' := ?_) bw23_66 rfl rfl (any_of HT_.out (by kernel_rfl)) (fun _ _ _ h => h) (Or.inl ⟨by rfl, ?_⟩) ?_ ?_
            rotate_left
            ·intro w'
             go_simp
             with_reducible rfl
            rotate_left
            ·simp only [Act.put, sb_, s0_, s1_, i64_w, i32_w]
             rfl
            refine take_ (i := 16) (N := some 109) (v := ?_) (a' := ?_) bw23_41 rfl rfl (take_ofW HT_.out HW_.out (by kernel_rfl)) (fun _ _ _ h => h) (Or.inl ⟨by rfl, ?_⟩) hHeld ?_ ?_
            rotate_left
            ·rintro w' ⟨s0, s1, s2, s3, s4, s5, s6, s7, s8, s9, s10, s11, s12, s13, s14, s15, s16, s17, s18, s19⟩
             go_simp
             with_reducible rfl
            rotate_left
            ·simp only [Act.put, sb_, s0_, s1_, i64_w, i32_w]
             rfl
            refine take_ (i := 18) (N := some 111) (v := ?_) (a' := ?_) bw23_42 rfl rfl (take_ofW HT_.out HW_.out (by kernel_rfl)) (fun _ _ _ h => h) (Or.inl ⟨by rfl, ?_⟩) hHeld ?_ ?_
            rotate_left
            ·rintro w' ⟨s0, s1, s2, s3, s4, s5, s6, s7, s8, s9, s10, s11, s12, s13, s14, s15, s16, s17, s18, s19⟩
             go_simp
             with_reducible rfl
            rotate_left
            ·simp only [Act.put, sb_, s0_, s1_, i64_w, i32_w]
             rfl
            refine one_ (i := 19) (N := some 112) bw23_43 rfl rfl (one_of HT_.out (by kernel_rfl)) (by decide) (fun K hK => ?_)
            refine goes_ Try.func72 (by kernel_rfl) rfl #[.slice A267_3 ((rd_T99 l0_3 x8_5).f3).length c267_3, .slice A273_3 ((rd_T99 l1_3 t269).f3).length c273_3] (by rfl) rfl rfl (by (try simp only [List.map_toArray, List.map_cons, List.map_nil]); first | done | rfl | (simp only [List.length_drop, List.length_take]; rfl)) ?_
            with_reducible refine (semblanceref08_Same.calls k5 _ _ ((rd_T99 l0_3 x8_5).f3) _ _ ((rd_T99 l1_3 t269).f3) true _ ?side1 ?side2 ?side3 ?side4 A63.out).mono ?_
            (case side1 => repeat (first | exact (Kd.C_below HR267_3.out HB.out) | (with_reducible refine Kd.C_alloc ?_ _) | (with_reducible refine Kd.C_drewN ?_ _) | (with_reducible refine Kd.C_drew ?_)))
            (case side2 => exact HC267_3.out)
            (case side3 => repeat (first | exact (Kd.C_below HR273_3.out HB.out) | (with_reducible refine Kd.C_alloc ?_ _) | (with_reducible refine Kd.C_drewN ?_ _) | (with_reducible refine Kd.C_drew ?_)))
            (case side4 => exact HC273_3.out)
            rintro e w135 ⟨rfl, hb⟩
            refine ⟨_, rfl, ?_⟩
            have n0_ := Aside0.mk (Kd.R_below (by (with_reducible repeat (first | apply Kd.R_alloc | apply Kd.R_drewN | apply Kd.R_drew)); exact HO_5.out) hb)
            have n1_ := Aside0.mk (blk_below (grw BK250.out) hb)
            have n2_ := Aside0.mk (blk_below (grw BK251.out) hb)
            have n3_ := Aside0.mk (blk_below (grw BK268.out) hb)
            have n4_ := Aside0.mk (blk_below (grw BK274.out) hb)
            have n5_ := Aside0.mk (below_step (by repeat (first | (with_reducible first | exact HB.out | apply below_alloc | apply pw_below_drewN | apply below_drew1 | refine below_set ?_ GE250.out | refine below_set ?_ GE251.out | refine below_set ?_ GE268.out | refine below_set ?_ GE274.out) | exact HB.out)) hb)
            clear HO_5
            clear BK250
            clear BK251
            clear BK268
            clear BK274
            clear HB
            have HO_5 := n0_
            have BK250 := n1_
            have BK251 := n2_
            have BK268 := n3_
            have BK274 := n4_
            have HB := n5_
            clear n0_ n1_ n2_ n3_ n4_ n5_
            (try clear hb)
            (try clear hb2)
            (try clear hk)
            (try clear hi)
            refine hK.out _ _ ⟨(blk_cell BK268.out 0).trans rfl, (blk_cell BK268.out 1).trans rfl, (blk_cell BK268.out 2).trans rfl, (blk_cell BK268.out 3).trans rfl, (blk_cell BK268.out 4).trans rfl, (blk_cell BK268.out 5).trans rfl, (blk_cell BK274.out 0).trans rfl, (blk_cell BK274.out 1).trans rfl, (blk_cell BK274.out 2).trans rfl, (blk_cell BK274.out 3).trans rfl, (blk_cell BK274.out 4).trans rfl, (blk_cell BK274.out 5).trans rfl, (blk_cell BK250.out 0).trans rfl, (blk_cell BK250.out 1).trans rfl, (blk_cell BK250.out 2).trans rfl, (blk_cell BK250.out 3).trans rfl, (blk_cell BK251.out 0).trans rfl, (blk_cell BK251.out 1).trans rfl, (blk_cell BK251.out 2).trans rfl, (blk_cell BK251.out 3).trans rfl⟩ (fun hHeld => ?_)
            clear hK K
            refine norm_ (a' := ?_) ?_ ?_
            rotate_left
            ·show Act.put _ (some 112) _ = _
             simp only [Act.put, sb_, s0_, s1_, i64_w, i32_w]
             rfl
            refine pure_ (i := 20) (N := some 113) (v := ?_) (a' := ?_) bw23_44 rfl rfl (any_of HT_.out (by kernel_rfl)) (fun _ _ _ h => h) (Or.inl ⟨by rfl, ?_⟩) ?_ ?_
            rotate_left
            ·intro w'
             go_simp
             with_reducible rfl
            rotate_left
            ·simp only [Act.put, sb_, s0_, s1_, i64_w, i32_w]
             rfl
            refine pure_ (i := 21) (N := some 114) (v := ?_) (a' := ?_) bw23_45 rfl rfl (any_of HT_.out (by kernel_rfl)) (fun _ _ _ h => h) (Or.inl ⟨by rfl, ?_⟩) ?_ ?_
            rotate_left
            ·intro w'
             go_simp
             with_reducible rfl
            rotate_left
            ·simp only [Act.put, sb_, s0_, s1_, i64_w, i32_w]
             rfl
            refine pure_ (i := 22) (N := some 115) (v := ?_) (a' := ?_) bw23_46 rfl rfl (any_of HT_.out (by kernel_rfl)) (fun _ _ _ h => h) (Or.inl ⟨by rfl, ?_⟩) ?_ ?_
            rotate_left
            ·intro w'
             go_simp
             with_reducible rfl
            rotate_left
            ·simp only [Act.put, sb_, s0_, s1_, i64_w, i32_w]
             rfl
            refine pure_ (i := 23) (N := some 116) (v := ?_) (a' := ?_) bw23_47 rfl rfl (any_of HT_.out (by kernel_rfl)) (fun _ _ _ h => h) (Or.inl ⟨by rfl, ?_⟩) ?_ ?_
            rotate_left
            ·intro w'
             go_simp
             with_reducible rfl
            rotate_left
            ·simp only [Act.put, sb_, s0_, s1_, i64_w, i32_w]
             rfl
            refine pure_ (i := 25) (N := some 118) (v := ?_) (a' := ?_) bw23_67 rfl rfl (any_of HT_.out (by kernel_rfl)) (fun _ _ _ h => h) (Or.inl ⟨by rfl, ?_⟩) ?_ ?_
            rotate_left
            ·intro w'
             go_simp
             with_reducible rfl
            rotate_left
            ·simp only [Act.put, sb_, s0_, s1_, i64_w, i32_w]
             rfl
            refine take_ (i := 24) (N := some 117) (v := ?_) (a' := ?_) bw23_49 rfl rfl (take_ofW HT_.out HW_.out (by kernel_rfl)) (fun _ _ _ h => h) (Or.inl ⟨by rfl, ?_⟩) hHeld ?_ ?_
            rotate_left
            ·rintro w' ⟨s0, s1, s2, s3, s4, s5, s6, s7, s8, s9, s10, s11, s12, s13, s14, s15, s16, s17, s18, s19⟩
             go_simp
             with_reducible rfl
            rotate_left
            ·simp only [Act.put, sb_, s0_, s1_, i64_w, i32_w]
             rfl
            refine take_ (i := 26) (N := some 119) (v := ?_) (a' := ?_) bw23_50 rfl rfl (take_ofW HT_.out HW_.out (by kernel_rfl)) (fun _ _ _ h => h) (Or.inl ⟨by rfl, ?_⟩) hHeld ?_ ?_
            rotate_left
            ·rintro w' ⟨s0, s1, s2, s3, s4, s5, s6, s7, s8, s9, s10, s11, s12, s13, s14, s15, s16, s17, s18, s19⟩
             go_simp
             with_reducible rfl
            rotate_left
            ·simp only [Act.put, sb_, s0_, s1_, i64_w, i32_w]
             rfl
            refine one_ (i := 27) (N := some 120) bw23_51 rfl rfl (one_of HT_.out (by kernel_rfl)) (by decide) (fun K hK => ?_)
            refine goes_ Try.func72 (by kernel_rfl) rfl #[.slice A267_4 ((rd_T99 l0_3 x8_5).f4).length c267_4, .slice A273_4 ((rd_T99 l1_3 t269).f4).length c273_4] (by rfl) rfl rfl (by (try simp only [List.map_toArray, List.map_cons, List.map_nil]); first | done | rfl | (simp only [List.length_drop, List.length_take]; rfl)) ?_
            with_reducible refine (semblanceref08_Same.calls k5 _ _ ((rd_T99 l0_3 x8_5).f4) _ _ ((rd_T99 l1_3 t269).f4) false _ ?side1 ?side2 ?side3 ?side4 A65.out).mono ?_
            (case side1 => repeat (first | exact (Kd.C_below HR267_4.out HB.out) | (with_reducible refine Kd.C_alloc ?_ _) | (with_reducible refine Kd.C_drewN ?_ _) | (with_reducible refine Kd.C_drew ?_)))
            (case side2 => exact HC267_4.out)
            (case side3 => repeat (first | exact (Kd.C_below HR273_4.out HB.out) | (with_reducible refine Kd.C_alloc ?_ _) | (with_reducible refine Kd.C_drewN ?_ _) | (with_reducible refine Kd.C_drew ?_)))
            (case side4 => exact HC273_4.out)
            rintro e w136 ⟨rfl, hb⟩
            refine ⟨_, rfl, ?_⟩
            have n0_ := Aside0.mk (Kd.R_below (by (with_reducible repeat (first | apply Kd.R_alloc | apply Kd.R_drewN | apply Kd.R_drew)); exact HO_5.out) hb)
            have n1_ := Aside0.mk (blk_below (grw BK250.out) hb)
            have n2_ := Aside0.mk (blk_below (grw BK251.out) hb)
            have n3_ := Aside0.mk (blk_below (grw BK268.out) hb)
            have n4_ := Aside0.mk (blk_below (grw BK274.out) hb)
            have n5_ := Aside0.mk (below_step (by repeat (first | (with_reducible first | exact HB.out | apply below_alloc | apply pw_below_drewN | apply below_drew1 | refine below_set ?_ GE250.out | refine below_set ?_ GE251.out | refine below_set ?_ GE268.out | refine below_set ?_ GE274.out) | exact HB.out)) hb)
            clear HO_5
            clear BK250
            clear BK251
            clear BK268
            clear BK274
            clear HB
            have HO_5 := n0_
            have BK250 := n1_
            have BK251 := n2_
            have BK268 := n3_
            have BK274 := n4_
            have HB := n5_
            clear n0_ n1_ n2_ n3_ n4_ n5_
            (try clear hb)
            (try clear hb2)
            (try clear hk)
            (try clear hi)
            refine hK.out _ _ ⟨(blk_cell BK268.out 0).trans rfl, (blk_cell BK268.out 1).trans rfl, (blk_cell BK268.out 2).trans rfl, (blk_cell BK268.out 3).trans rfl, (blk_cell BK268.out 4).trans rfl, (blk_cell BK268.out 5).trans rfl, (blk_cell BK274.out 0).trans rfl, (blk_cell BK274.out 1).trans rfl, (blk_cell BK274.out 2).trans rfl, (blk_cell BK274.out 3).trans rfl, (blk_cell BK274.out 4).trans rfl, (blk_cell BK274.out 5).trans rfl, (blk_cell BK250.out 0).trans rfl, (blk_cell BK250.out 1).trans rfl, (blk_cell BK250.out 2).trans rfl, (blk_cell BK250.out 3).trans rfl, (blk_cell BK251.out 0).trans rfl, (blk_cell BK251.out 1).trans rfl, (blk_cell BK251.out 2).trans rfl, (blk_cell BK251.out 3).trans rfl⟩ (fun hHeld => ?_)
            clear hK K
            refine norm_ (a' := ?_) ?_ ?_
            rotate_left
            ·show Act.put _ (some 120) _ = _
             simp only [Act.put, sb_, s0_, s1_, i64_w, i32_w]
             rfl
            refine pure_ (i := 28) (N := some 121) (v := ?_) (a' := ?_) bw23_52 rfl rfl (any_of HT_.out (by kernel_rfl)) (fun _ _ _ h => h) (Or.inl ⟨by rfl, ?_⟩) ?_ ?_
            rotate_left
            ·intro w'
             go_simp
             with_reducible rfl
            rotate_left
            ·simp only [Act.put, sb_, s0_, s1_, i64_w, i32_w]
             rfl
            refine pure_ (i := 29) (N := some 122) (v := ?_) (a' := ?_) bw23_53 rfl rfl (any_of HT_.out (by kernel_rfl)) (fun _ _ _ h => h) (Or.inl ⟨by rfl, ?_⟩) ?_ ?_
            rotate_left
            ·intro w'
             go_simp
             with_reducible rfl
            rotate_left
            ·simp only [Act.put, sb_, s0_, s1_, i64_w, i32_w]
             rfl
            refine pure_ (i := 30) (N := some 123) (v := ?_) (a' := ?_) bw23_54 rfl rfl (any_of HT_.out (by kernel_rfl)) (fun _ _ _ h => h) (Or.inl ⟨by rfl, ?_⟩) ?_ ?_
            rotate_left
            ·intro w'
             go_simp
             with_reducible rfl
            rotate_left
            ·simp only [Act.put, sb_, s0_, s1_, i64_w, i32_w]
             rfl
            refine pure_ (i := 31) (N := some 124) (v := undef) (a' := ?_) bw23_55 rfl rfl (any_of HT_.out (by kernel_rfl)) (fun _ _ _ h => h) (Or.inr ⟨by rfl, rfl⟩) ?_ ?_
            rotate_left
            ·simp only [Act.put, sb_, s0_, s1_, i64_w, i32_w]
             rfl
            refine pure_ (i := 32) (N := some 125) (v := undef) (a' := ?_) bw23_56 rfl rfl (any_of HT_.out (by kernel_rfl)) (fun _ _ _ h => h) (Or.inr ⟨by rfl, rfl⟩) ?_ ?_
            rotate_left
            ·simp only [Act.put, sb_, s0_, s1_, i64_w, i32_w]
             rfl
            refine pure_ (i := 33) (N := some 126) (v := undef) (a' := ?_) bw23_57 rfl rfl (any_of HT_.out (by kernel_rfl)) (fun _ _ _ h => h) (Or.inr ⟨by rfl, rfl⟩) ?_ ?_
            rotate_left
            ·simp only [Act.put, sb_, s0_, s1_, i64_w, i32_w]
             rfl
            refine pure_ (i := 34) (N := some 127) (v := undef) (a' := ?_) bw23_58 rfl rfl (any_of HT_.out (by kernel_rfl)) (fun _ _ _ h => h) (Or.inr ⟨by rfl, rfl⟩) ?_ ?_
            rotate_left
            ·simp only [Act.put, sb_, s0_, s1_, i64_w, i32_w]
             rfl
            refine pure_ (i := 35) (N := some 128) (v := undef) (a' := ?_) bw23_59 rfl rfl (any_of HT_.out (by kernel_rfl)) (fun _ _ _ h => h) (Or.inr ⟨by rfl, rfl⟩) ?_ ?_
            rotate_left
            ·simp only [Act.put, sb_, s0_, s1_, i64_w, i32_w]
             rfl
            refine pure_ (i := 36) (N := some 129) (v := undef) (a' := ?_) bw23_60 rfl rfl (any_of HT_.out (by kernel_rfl)) (fun _ _ _ h => h) (Or.inr ⟨by rfl, rfl⟩) ?_ ?_
            rotate_left
            ·simp only [Act.put, sb_, s0_, s1_, i64_w, i32_w]
             rfl
            refine pure_ (i := 37) (N := some 130) (v := ?_) (a' := ?_) bw23_61 rfl rfl (any_of HT_.out (by kernel_rfl)) (fun _ _ _ h => h) (Or.inl ⟨by rfl, ?_⟩) ?_ ?_
            rotate_left
            ·intro w'
             go_simp
             with_reducible rfl
            rotate_left
            ·simp only [Act.put, sb_, s0_, s1_, i64_w, i32_w]
             rfl
            refine done_ (done_of HT_.out (by kernel_rfl)) ?_
            obtain ⟨hcz137_0, hcz137_1, hcz137_2, hcz137_3, hcz137_4, hcz137_5⟩ := cz6_ BK268.out
            obtain ⟨hfz137_0, hfz137_1, hfz137_2, hfz137_3, hfz137_4, hfz137_5⟩ := cf6_ BK268.out
            try go_wp2_with (first | ((with_reducible refine gate_builtin (b := .append) (xs := #[.tmp 131, .tmp 135]) rfl ?_); at_builtin; refine Kd.R_append Kd.string (w0 := w) w.heap.size rfl (.tmp 131) (.tmp 135) 55 9 (.string ⟨#[]⟩) 16 rfl Try.underlying55 info9 rfl (by decide) (by omega) u5 x5_5 ((⟨#[126, 32]⟩ : ByteArray) ++ ((rd_T99 l0_3 x8_5).f0)) [.string ((⟨#[126, 32]⟩ : ByteArray) ++ ((rd_T99 l0_3 x8_5).f0))] (fun _ => True) (fun _ => False) rfl rfl ?aP (fun _ hk => hk.elim) ?aF ?aO ?aB ?aS ?aL ?_; (case aP => exact rfl); (case aB => exact (by repeat (first | (with_reducible first | exact HB.out | apply below_alloc | apply pw_below_drewN | apply below_drew1 | refine below_set ?_ GE250.out | refine below_set ?_ GE251.out | refine below_set ?_ GE268.out | refine below_set ?_ GE274.out) | exact HB.out))); (case aF => exact (fun _ _ => trivial)); (case aO => exact (by (with_reducible repeat (first | apply Kd.R_alloc | apply Kd.R_drewN | apply Kd.R_drew)); exact HO_5.out)); (case aS => exact (below_size (by repeat (first | (with_reducible first | exact HB.out | apply below_alloc | apply pw_below_drewN | apply below_drew1 | refine below_set ?_ GE250.out | refine below_set ?_ GE251.out | refine below_set ?_ GE268.out | refine below_set ?_ GE274.out) | exact HB.out)))); (case aL => have := LMc116.out; omega); intro v284 w138 ho hb hg hat; rw [← Ny283.out] at ho; have n0_ := Aside0.mk (blk_grown (grw BK250.out) hg (Kd.R_ne HO_5.out BK250.out (by decide))); have n1_ := Aside0.mk (blk_grown (grw BK251.out) hg (Kd.R_ne HO_5.out BK251.out (by decide))); have n2_ := Aside0.mk (blk_grown (grw BK268.out) hg (Kd.R_ne HO_5.out BK268.out (by decide))); have n3_ := Aside0.mk (blk_grown (grw BK274.out) hg (Kd.R_ne HO_5.out BK274.out (by decide))); have n4_ := Aside0.mk (hb); have n5_ := Aside0.mk (ho); clear BK250; clear BK251; clear BK268; clear BK274; clear HB; clear HO_5; have BK250 := n0_; have BK251 := n1_; have BK268 := n2_; have BK274 := n3_; have HB := n4_; have HO285 := n5_; clear n0_ n1_ n2_ n3_ n4_ n5_; clear ho hb hg hat))
            go_roundg k5
            case measure => have := HJ2.out; have := HJ14.out; have := HJ21.out; have := HJ36.out; have := HK5.out; omega
            case rel => exact ⟨(y283), (wrap64 (x8_5 + 1)), (by first | rfl | (simp; done) | (simp [*]; done)), H', ⟨by have := HJ2.out; have := HJ14.out; have := HJ21.out; have := HJ36.out; have := HK5.out; omega⟩, ⟨by (with_reducible repeat (first | apply Kd.R_alloc | apply Kd.R_drewN | apply Kd.R_drew)); exact HO285.out⟩, ⟨grw BK250.out⟩, ⟨grw BK251.out⟩, ⟨by repeat (first | (with_reducible first | exact HB.out | apply below_alloc | apply pw_below_drewN | apply below_drew1 | refine below_set ?_ GE250.out | refine below_set ?_ GE251.out | refine below_set ?_ GE268.out | refine below_set ?_ GE274.out) | exact HB.out)⟩⟩
           subst c66
           have H1 : ((semblanceref09_All.f k5 ((rd_T99 l0_3 x8_5).f5) ((rd_T99 l1_3 t269).f5)).bind fun t279 => (if t279 = true then (semblanceref53_Lines.l1 k5 x5_5 (wrap64 (x8_5 + 1)) a0_0 l0_1 l0_2 l0_3 a1_0 l1_1 l1_2 l1_3) else (if 2 + ((rd_T99 l0_3 x8_5).f0).size ≤ 9223372036854775807 then (if x5_5.length < 8796093022208 then (semblanceref53_Lines.l1 k5 (x5_5 ++ [(⟨#[126, 32]⟩ : ByteArray) ++ ((rd_T99 l0_3 x8_5).f0)]) (wrap64 (x8_5 + 1)) a0_0 l0_1 l0_2 l0_3 a1_0 l1_1 l1_2 l1_3) else (none)) else (none)))) = some r := by rw [if_pos rfl] at H; exact H
           clear H
           have H := H1
           clear H1
           replace H := Option.bind_eq_some_iff.mp H
           obtain ⟨t279, A670, H⟩ := H
           replace H : (if t279 = true then (semblanceref53_Lines.l1 k5 x5_5 (wrap64 (x8_5 + 1)) a0_0 l0_1 l0_2 l0_3 a1_0 l1_1 l1_2 l1_3) else (if 2 + ((rd_T99 l0_3 x8_5).f0).size ≤ 9223372036854775807 then (if x5_5.length < 8796093022208 then (semblanceref53_Lines.l1 k5 (x5_5 ++ [(⟨#[126, 32]⟩ : ByteArray) ++ ((rd_T99 l0_3 x8_5).f0)]) (wrap64 (x8_5 + 1)) a0_0 l0_1 l0_2 l0_3 a1_0 l1_1 l1_2 l1_3) else (none)) else (none))) = some r := H
           have A67 := Aside0.mk A670
           clear A670
           by_cases c68 : t279 = true
           ·subst c68
            have H1 : (semblanceref53_Lines.l1 k5 x5_5 (wrap64 (x8_5 + 1)) a0_0 l0_1 l0_2 l0_3 a1_0 l1_1 l1_2 l1_3) = some r := by rw [if_pos rfl] at H; exact H
            clear H
            have H := H1
            clear H1
            have H' := Aside0.mk H
            clear H
            have hnb69 := NB250_251.out
            have hnc69 := NB251_250.out
            refine pure_ (i := 12) (N := some 105) (v := ?_) (a' := ?_) bw23_36 rfl rfl (any_of HT_.out (by kernel_rfl)) (fun _ _ _ h => h) (Or.inl ⟨by rfl, ?_⟩) ?_ ?_
            rotate_left
            ·intro w'
             go_simp
             with_reducible rfl
            rotate_left
            ·simp only [Act.put, sb_, s0_, s1_, i64_w, i32_w]
             rfl
            refine pure_ (i := 13) (N := some 106) (v := ?_) (a' := ?_) bw23_37 rfl rfl (any_of HT_.out (by kernel_rfl)) (fun _ _ _ h => h) (Or.inl ⟨by rfl, ?_⟩) ?_ ?_
            rotate_left
            ·intro w'
             go_simp
             with_reducible rfl
            rotate_left
            ·simp only [Act.put, sb_, s0_, s1_, i64_w, i32_w]
             rfl
            refine pure_ (i := 14) (N := some 107) (v := ?_) (a' := ?_) bw23_38 rfl rfl (any_of HT_.out (by kernel_rfl)) (fun _ _ _ h => h) (Or.inl ⟨by rfl, ?_⟩) ?_ ?_
            rotate_left
            ·intro w'
             go_simp
             with_reducible rfl
            rotate_left
            ·simp only [Act.put, sb_, s0_, s1_, i64_w, i32_w]
             rfl
            refine pure_ (i := 15) (N := some 108) (v := ?_) (a' := ?_) bw23_39 rfl rfl (any_of HT_.out (by kernel_rfl)) (fun _ _ _ h => h) (Or.inl ⟨by rfl, ?_⟩) ?_ ?_
            rotate_left
            ·intro w'
             go_simp
             with_reducible rfl
            rotate_left
            ·simp only [Act.put, sb_, s0_, s1_, i64_w, i32_w]
             rfl
            refine pure_ (i := 17) (N := some 110) (v := ?_) (a' := ?_) bw23_66 rfl rfl (any_of HT_.out (by kernel_rfl)) (fun _ _ _ h => h) (Or.inl ⟨by rfl, ?_⟩) ?_ ?_
            rotate_left
            ·intro w'
             go_simp
             with_reducible rfl
            rotate_left
            ·simp only [Act.put, sb_, s0_, s1_, i64_w, i32_w]
             rfl
            refine take_ (i := 16) (N := some 109) (v := ?_) (a' := ?_) bw23_41 rfl rfl (take_ofW HT_.out HW_.out (by kernel_rfl)) (fun _ _ _ h => h) (Or.inl ⟨by rfl, ?_⟩) hHeld ?_ ?_
            rotate_left
            ·rintro w' ⟨s0, s1, s2, s3, s4, s5, s6, s7, s8, s9, s10, s11, s12, s13, s14, s15, s16, s17, s18, s19⟩
             go_simp
             with_reducible rfl
            rotate_left
            ·simp only [Act.put, sb_, s0_, s1_, i64_w, i32_w]
             rfl
            refine take_ (i := 18) (N := some 111) (v := ?_) (a' := ?_) bw23_42 rfl rfl (take_ofW HT_.out HW_.out (by kernel_rfl)) (fun _ _ _ h => h) (Or.inl ⟨by rfl, ?_⟩) hHeld ?_ ?_
            rotate_left
            ·rintro w' ⟨s0, s1, s2, s3, s4, s5, s6, s7, s8, s9, s10, s11, s12, s13, s14, s15, s16, s17, s18, s19⟩
             go_simp
             with_reducible rfl
            rotate_left
            ·simp only [Act.put, sb_, s0_, s1_, i64_w, i32_w]
             rfl
            refine one_ (i := 19) (N := some 112) bw23_43 rfl rfl (one_of HT_.out (by kernel_rfl)) (by decide) (fun K hK => ?_)
            refine goes_ Try.func72 (by kernel_rfl) rfl #[.slice A267_3 ((rd_T99 l0_3 x8_5).f3).length c267_3, .slice A273_3 ((rd_T99 l1_3 t269).f3).length c273_3] (by rfl) rfl rfl (by (try simp only [List.map_toArray, List.map_cons, List.map_nil]); first | done | rfl | (simp only [List.length_drop, List.length_take]; rfl)) ?_
            with_reducible refine (semblanceref08_Same.calls k5 _ _ ((rd_T99 l0_3 x8_5).f3) _ _ ((rd_T99 l1_3 t269).f3) true _ ?side1 ?side2 ?side3 ?side4 A63.out).mono ?_
            (case side1 => repeat (first | exact (Kd.C_below HR267_3.out HB.out) | (with_reducible refine Kd.C_alloc ?_ _) | (with_reducible refine Kd.C_drewN ?_ _) | (with_reducible refine Kd.C_drew ?_)))
            (case side2 => exact HC267_3.out)
            (case side3 => repeat (first | exact (Kd.C_below HR273_3.out HB.out) | (with_reducible refine Kd.C_alloc ?_ _) | (with_reducible refine Kd.C_drewN ?_ _) | (with_reducible refine Kd.C_drew ?_)))
            (case side4 => exact HC273_3.out)
            rintro e w87 ⟨rfl, hb⟩
            refine ⟨_, rfl, ?_⟩
            have n0_ := Aside0.mk (Kd.R_below (by (with_reducible repeat (first | apply Kd.R_alloc | apply Kd.R_drewN | apply Kd.R_drew)); exact HO_5.out) hb)
            have n1_ := Aside0.mk (blk_below (grw BK250.out) hb)
            have n2_ := Aside0.mk (blk_below (grw BK251.out) hb)
            have n3_ := Aside0.mk (blk_below (grw BK268.out) hb)
            have n4_ := Aside0.mk (blk_below (grw BK274.out) hb)
            have n5_ := Aside0.mk (below_step (by repeat (first | (with_reducible first | exact HB.out | apply below_alloc | apply pw_below_drewN | apply below_drew1 | refine below_set ?_ GE250.out | refine below_set ?_ GE251.out | refine below_set ?_ GE268.out | refine below_set ?_ GE274.out) | exact HB.out)) hb)
            clear HO_5
            clear BK250
            clear BK251
            clear BK268
            clear BK274
            clear HB
            have HO_5 := n0_
            have BK250 := n1_
            have BK251 := n2_
            have BK268 := n3_
            have BK274 := n4_
            have HB := n5_
            clear n0_ n1_ n2_ n3_ n4_ n5_
            (try clear hb)
            (try clear hb2)
            (try clear hk)
            (try clear hi)
            refine hK.out _ _ ⟨(blk_cell BK268.out 0).trans rfl, (blk_cell BK268.out 1).trans rfl, (blk_cell BK268.out 2).trans rfl, (blk_cell BK268.out 3).trans rfl, (blk_cell BK268.out 4).trans rfl, (blk_cell BK268.out 5).trans rfl, (blk_cell BK274.out 0).trans rfl, (blk_cell BK274.out 1).trans rfl, (blk_cell BK274.out 2).trans rfl, (blk_cell BK274.out 3).trans rfl, (blk_cell BK274.out 4).trans rfl, (blk_cell BK274.out 5).trans rfl, (blk_cell BK250.out 0).trans rfl, (blk_cell BK250.out 1).trans rfl, (blk_cell BK250.out 2).trans rfl, (blk_cell BK250.out 3).trans rfl, (blk_cell BK251.out 0).trans rfl, (blk_cell BK251.out 1).trans rfl, (blk_cell BK251.out 2).trans rfl, (blk_cell BK251.out 3).trans rfl⟩ (fun hHeld => ?_)
            clear hK K
            refine norm_ (a' := ?_) ?_ ?_
            rotate_left
            ·show Act.put _ (some 112) _ = _
             simp only [Act.put, sb_, s0_, s1_, i64_w, i32_w]
             rfl
            refine pure_ (i := 20) (N := some 113) (v := ?_) (a' := ?_) bw23_44 rfl rfl (any_of HT_.out (by kernel_rfl)) (fun _ _ _ h => h) (Or.inl ⟨by rfl, ?_⟩) ?_ ?_
            rotate_left
            ·intro w'
             go_simp
             with_reducible rfl
            rotate_left
            ·simp only [Act.put, sb_, s0_, s1_, i64_w, i32_w]
             rfl
            refine pure_ (i := 21) (N := some 114) (v := ?_) (a' := ?_) bw23_45 rfl rfl (any_of HT_.out (by kernel_rfl)) (fun _ _ _ h => h) (Or.inl ⟨by rfl, ?_⟩) ?_ ?_
            rotate_left
            ·intro w'
             go_simp
             with_reducible rfl
            rotate_left
            ·simp only [Act.put, sb_, s0_, s1_, i64_w, i32_w]
             rfl
            refine pure_ (i := 22) (N := some 115) (v := ?_) (a' := ?_) bw23_46 rfl rfl (any_of HT_.out (by kernel_rfl)) (fun _ _ _ h => h) (Or.inl ⟨by rfl, ?_⟩) ?_ ?_
            rotate_left
            ·intro w'
             go_simp
             with_reducible rfl
            rotate_left
            ·simp only [Act.put, sb_, s0_, s1_, i64_w, i32_w]
             rfl
            refine pure_ (i := 23) (N := some 116) (v := ?_) (a' := ?_) bw23_47 rfl rfl (any_of HT_.out (by kernel_rfl)) (fun _ _ _ h => h) (Or.inl ⟨by rfl, ?_⟩) ?_ ?_
            rotate_left
            ·intro w'
             go_simp
             with_reducible rfl
            rotate_left
            ·simp only [Act.put, sb_, s0_, s1_, i64_w, i32_w]
             rfl
            refine pure_ (i := 25) (N := some 118) (v := ?_) (a' := ?_) bw23_67 rfl rfl (any_of HT_.out (by kernel_rfl)) (fun _ _ _ h => h) (Or.inl ⟨by rfl, ?_⟩) ?_ ?_
            rotate_left
            ·intro w'
             go_simp
             with_reducible rfl
            rotate_left
            ·simp only [Act.put, sb_, s0_, s1_, i64_w, i32_w]
             rfl
            refine take_ (i := 24) (N := some 117) (v := ?_) (a' := ?_) bw23_49 rfl rfl (take_ofW HT_.out HW_.out (by kernel_rfl)) (fun _ _ _ h => h) (Or.inl ⟨by rfl, ?_⟩) hHeld ?_ ?_
            rotate_left
            ·rintro w' ⟨s0, s1, s2, s3, s4, s5, s6, s7, s8, s9, s10, s11, s12, s13, s14, s15, s16, s17, s18, s19⟩
             go_simp
             with_reducible rfl
            rotate_left
            ·simp only [Act.put, sb_, s0_, s1_, i64_w, i32_w]
             rfl
            refine take_ (i := 26) (N := some 119) (v := ?_) (a' := ?_) bw23_50 rfl rfl (take_ofW HT_.out HW_.out (by kernel_rfl)) (fun _ _ _ h => h) (Or.inl ⟨by rfl, ?_⟩) hHeld ?_ ?_
            rotate_left
            ·rintro w' ⟨s0, s1, s2, s3, s4, s5, s6, s7, s8, s9, s10, s11, s12, s13, s14, s15, s16, s17, s18, s19⟩
             go_simp
             with_reducible rfl
            rotate_left
            ·simp only [Act.put, sb_, s0_, s1_, i64_w, i32_w]
             rfl
            refine one_ (i := 27) (N := some 120) bw23_51 rfl rfl (one_of HT_.out (by kernel_rfl)) (by decide) (fun K hK => ?_)
            refine goes_ Try.func72 (by kernel_rfl) rfl #[.slice A267_4 ((rd_T99 l0_3 x8_5).f4).length c267_4, .slice A273_4 ((rd_T99 l1_3 t269).f4).length c273_4] (by rfl) rfl rfl (by (try simp only [List.map_toArray, List.map_cons, List.map_nil]); first | done | rfl | (simp only [List.length_drop, List.length_take]; rfl)) ?_
            with_reducible refine (semblanceref08_Same.calls k5 _ _ ((rd_T99 l0_3 x8_5).f4) _ _ ((rd_T99 l1_3 t269).f4) true _ ?side1 ?side2 ?side3 ?side4 A65.out).mono ?_
            (case side1 => repeat (first | exact (Kd.C_below HR267_4.out HB.out) | (with_reducible refine Kd.C_alloc ?_ _) | (with_reducible refine Kd.C_drewN ?_ _) | (with_reducible refine Kd.C_drew ?_)))
            (case side2 => exact HC267_4.out)
            (case side3 => repeat (first | exact (Kd.C_below HR273_4.out HB.out) | (with_reducible refine Kd.C_alloc ?_ _) | (with_reducible refine Kd.C_drewN ?_ _) | (with_reducible refine Kd.C_drew ?_)))
            (case side4 => exact HC273_4.out)
            rintro e w88 ⟨rfl, hb⟩
            refine ⟨_, rfl, ?_⟩
            have n0_ := Aside0.mk (Kd.R_below (by (with_reducible repeat (first | apply Kd.R_alloc | apply Kd.R_drewN | apply Kd.R_drew)); exact HO_5.out) hb)
            have n1_ := Aside0.mk (blk_below (grw BK250.out) hb)
            have n2_ := Aside0.mk (blk_below (grw BK251.out) hb)
            have n3_ := Aside0.mk (blk_below (grw BK268.out) hb)
            have n4_ := Aside0.mk (blk_below (grw BK274.out) hb)
            have n5_ := Aside0.mk (below_step (by repeat (first | (with_reducible first | exact HB.out | apply below_alloc | apply pw_below_drewN | apply below_drew1 | refine below_set ?_ GE250.out | refine below_set ?_ GE251.out | refine below_set ?_ GE268.out | refine below_set ?_ GE274.out) | exact HB.out)) hb)
            clear HO_5
            clear BK250
            clear BK251
            clear BK268
            clear BK274
            clear HB
            have HO_5 := n0_
            have BK250 := n1_
            have BK251 := n2_
            have BK268 := n3_
            have BK274 := n4_
            have HB := n5_
            clear n0_ n1_ n2_ n3_ n4_ n5_
            (try clear hb)
            (try clear hb2)
            (try clear hk)
            (try clear hi)
            refine hK.out _ _ ⟨(blk_cell BK268.out 0).trans rfl, (blk_cell BK268.out 1).trans rfl, (blk_cell BK268.out 2).trans rfl, (blk_cell BK268.out 3).trans rfl, (blk_cell BK268.out 4).trans rfl, (blk_cell BK268.out 5).trans rfl, (blk_cell BK274.out 0).trans rfl, (blk_cell BK274.out 1).trans rfl, (blk_cell BK274.out 2).trans rfl, (blk_cell BK274.out 3).trans rfl, (blk_cell BK274.out 4).trans rfl, (blk_cell BK274.out 5).trans rfl, (blk_cell BK250.out 0).trans rfl, (blk_cell BK250.out 1).trans rfl, (blk_cell BK250.out 2).trans rfl, (blk_cell BK250.out 3).trans rfl, (blk_cell BK251.out 0).trans rfl, (blk_cell BK251.out 1).trans rfl, (blk_cell BK251.out 2).trans rfl, (blk_cell BK251.out 3).trans rfl⟩ (fun hHeld => ?_)
            clear hK K
            refine norm_ (a' := ?_) ?_ ?_
            rotate_left
            ·show Act.put _ (some 120) _ = _
             simp only [Act.put, sb_, s0_, s1_, i64_w, i32_w]
             rfl
            refine pure_ (i := 28) (N := some 121) (v := ?_) (a' := ?_) bw23_52 rfl rfl (any_of HT_.out (by kernel_rfl)) (fun _ _ _ h => h) (Or.inl ⟨by rfl, ?_⟩) ?_ ?_
            rotate_left
            ·intro w'
             go_simp
             with_reducible rfl
            rotate_left
            ·simp only [Act.put, sb_, s0_, s1_, i64_w, i32_w]
             rfl
            refine pure_ (i := 29) (N := some 122) (v := ?_) (a' := ?_) bw23_53 rfl rfl (any_of HT_.out (by kernel_rfl)) (fun _ _ _ h => h) (Or.inl ⟨by rfl, ?_⟩) ?_ ?_
            rotate_left
            ·intro w'
             go_simp
             with_reducible rfl
            rotate_left
            ·simp only [Act.put, sb_, s0_, s1_, i64_w, i32_w]
             rfl
            refine pure_ (i := 30) (N := some 123) (v := ?_) (a' := ?_) bw23_54 rfl rfl (any_of HT_.out (by kernel_rfl)) (fun _ _ _ h => h) (Or.inl ⟨by rfl, ?_⟩) ?_ ?_
            rotate_left
            ·intro w'
             go_simp
             with_reducible rfl
            rotate_left
            ·simp only [Act.put, sb_, s0_, s1_, i64_w, i32_w]
             rfl
            refine pure_ (i := 31) (N := some 124) (v := ?_) (a' := ?_) bw23_55 rfl rfl (any_of HT_.out (by kernel_rfl)) (fun _ _ _ h => h) (Or.inl ⟨by rfl, ?_⟩) ?_ ?_
            rotate_left
            ·intro w'
             go_simp
             with_reducible rfl
            rotate_left
            ·simp only [Act.put, sb_, s0_, s1_, i64_w, i32_w]
             rfl
            refine pure_ (i := 33) (N := some 126) (v := ?_) (a' := ?_) bw23_68 rfl rfl (any_of HT_.out (by kernel_rfl)) (fun _ _ _ h => h) (Or.inl ⟨by rfl, ?_⟩) ?_ ?_
            rotate_left
            ·intro w'
             go_simp
             with_reducible rfl
            rotate_left
            ·simp only [Act.put, sb_, s0_, s1_, i64_w, i32_w]
             rfl
            refine take_ (i := 32) (N := some 125) (v := ?_) (a' := ?_) bw23_57 rfl rfl (take_ofW HT_.out HW_.out (by kernel_rfl)) (fun _ _ _ h => h) (Or.inl ⟨by rfl, ?_⟩) hHeld ?_ ?_
            rotate_left
            ·rintro w' ⟨s0, s1, s2, s3, s4, s5, s6, s7, s8, s9, s10, s11, s12, s13, s14, s15, s16, s17, s18, s19⟩
             go_simp
             with_reducible rfl
            rotate_left
            ·simp only [Act.put, sb_, s0_, s1_, i64_w, i32_w]
             rfl
            refine take_ (i := 34) (N := some 127) (v := ?_) (a' := ?_) bw23_58 rfl rfl (take_ofW HT_.out HW_.out (by kernel_rfl)) (fun _ _ _ h => h) (Or.inl ⟨by rfl, ?_⟩) hHeld ?_ ?_
            rotate_left
            ·rintro w' ⟨s0, s1, s2, s3, s4, s5, s6, s7, s8, s9, s10, s11, s12, s13, s14, s15, s16, s17, s18, s19⟩
             go_simp
             with_reducible rfl
            rotate_left
            ·simp only [Act.put, sb_, s0_, s1_, i64_w, i32_w]
             rfl
            refine one_ (i := 35) (N := some 128) bw23_59 rfl rfl (one_of HT_.out (by kernel_rfl)) (by decide) (fun K hK => ?_)
            refine goes_ Try.func73 (by kernel_rfl) rfl #[.slice A267_5 ((rd_T99 l0_3 x8_5).f5).length c267_5, .slice A273_5 ((rd_T99 l1_3 t269).f5).length c273_5] (by rfl) rfl rfl (by (try simp only [List.map_toArray, List.map_cons, List.map_nil]); first | done | rfl | (simp only [List.length_drop, List.length_take]; rfl)) ?_
            with_reducible refine (semblanceref09_All.calls k5 _ _ ((rd_T99 l0_3 x8_5).f5) _ _ ((rd_T99 l1_3 t269).f5) true _ ?side1 ?side2 ?side3 ?side4 A67.out).mono ?_
            (case side1 => repeat (first | exact (Kd.C_below HR267_5.out HB.out) | (with_reducible refine Kd.C_alloc ?_ _) | (with_reducible refine Kd.C_drewN ?_ _) | (with_reducible refine Kd.C_drew ?_)))
            (case side2 => exact HC267_5.out)
            (case side3 => repeat (first | exact (Kd.C_below HR273_5.out HB.out) | (with_reducible refine Kd.C_alloc ?_ _) | (with_reducible refine Kd.C_drewN ?_ _) | (with_reducible refine Kd.C_drew ?_)))
            (case side4 => exact HC273_5.out)
            rintro e w89 ⟨rfl, hb⟩
            refine ⟨_, rfl, ?_⟩
            have n0_ := Aside0.mk (Kd.R_below (by (with_reducible repeat (first | apply Kd.R_alloc | apply Kd.R_drewN | apply Kd.R_drew)); exact HO_5.out) hb)
            have n1_ := Aside0.mk (blk_below (grw BK250.out) hb)
            have n2_ := Aside0.mk (blk_below (grw BK251.out) hb)
            have n3_ := Aside0.mk (blk_below (grw BK268.out) hb)
            have n4_ := Aside0.mk (blk_below (grw BK274.out) hb)
            have n5_ := Aside0.mk (below_step (by repeat (first | (with_reducible first | exact HB.out | apply below_alloc | apply pw_below_drewN | apply below_drew1 | refine below_set ?_ GE250.out | refine below_set ?_ GE251.out | refine below_set ?_ GE268.out | refine below_set ?_ GE274.out) | exact HB.out)) hb)
            clear HO_5
            clear BK250
            clear BK251
            clear BK268
            clear BK274
            clear HB
            have HO_5 := n0_
            have BK250 := n1_
            have BK251 := n2_
            have BK268 := n3_
            have BK274 := n4_
            have HB := n5_
            clear n0_ n1_ n2_ n3_ n4_ n5_
            (try clear hb)
            (try clear hb2)
            (try clear hk)
            (try clear hi)
            refine hK.out _ _ ⟨(blk_cell BK268.out 0).trans rfl, (blk_cell BK268.out 1).trans rfl, (blk_cell BK268.out 2).trans rfl, (blk_cell BK268.out 3).trans rfl, (blk_cell BK268.out 4).trans rfl, (blk_cell BK268.out 5).trans rfl, (blk_cell BK274.out 0).trans rfl, (blk_cell BK274.out 1).trans rfl, (blk_cell BK274.out 2).trans rfl, (blk_cell BK274.out 3).trans rfl, (blk_cell BK274.out 4).trans rfl, (blk_cell BK274.out 5).trans rfl, (blk_cell BK250.out 0).trans rfl, (blk_cell BK250.out 1).trans rfl, (blk_cell BK250.out 2).trans rfl, (blk_cell BK250.out 3).trans rfl, (blk_cell BK251.out 0).trans rfl, (blk_cell BK251.out 1).trans rfl, (blk_cell BK251.out 2).trans rfl, (blk_cell BK251.out 3).trans rfl⟩ (fun hHeld => ?_)
            clear hK K
            refine norm_ (a' := ?_) ?_ ?_
            rotate_left
            ·show Act.put _ (some 128) _ = _
             simp only [Act.put, sb_, s0_, s1_, i64_w, i32_w]
             rfl
            refine pure_ (i := 36) (N := some 129) (v := ?_) (a' := ?_) bw23_60 rfl rfl (any_of HT_.out (by kernel_rfl)) (fun _ _ _ h => h) (Or.inl ⟨by rfl, ?_⟩) ?_ ?_
            rotate_left
            ·intro w'
             go_simp
             with_reducible rfl
            rotate_left
            ·simp only [Act.put, sb_, s0_, s1_, i64_w, i32_w]
             rfl
            refine pure_ (i := 37) (N := some 130) (v := ?_) (a' := ?_) bw23_61 rfl rfl (any_of HT_.out (by kernel_rfl)) (fun _ _ _ h => h) (Or.inl ⟨by rfl, ?_⟩) ?_ ?_
            rotate_left
            ·intro w'
             go_simp
             with_reducible rfl
            rotate_left
            ·simp only [Act.put, sb_, s0_, s1_, i64_w, i32_w]
             rfl
            refine done_ (done_of HT_.out (by kernel_rfl)) ?_
            try go_wp2
            go_roundg k5
            case measure => have := HJ2.out; have := HJ14.out; have := HJ21.out; have := HJ36.out; have := HK5.out; omega
            case rel => exact ⟨(x5_5), (wrap64 (x8_5 + 1)), (by first | rfl | (simp; done) | (simp [*]; done)), H', ⟨by have := HJ2.out; have := HJ14.out; have := HJ21.out; have := HJ36.out; have := HK5.out; omega⟩, ⟨by (with_reducible repeat (first | apply Kd.R_alloc | apply Kd.R_drewN | apply Kd.R_drew)); exact HO_5.out⟩, ⟨grw BK250.out⟩, ⟨grw BK251.out⟩, ⟨by repeat (first | (with_reducible first | exact HB.out | apply below_alloc | apply pw_below_drewN | apply below_drew1 | refine below_set ?_ GE250.out | refine below_set ?_ GE251.out | refine below_set ?_ GE268.out | refine below_set ?_ GE274.out) | exact HB.out)⟩⟩
           replace c68 := Bool.eq_false_iff.mpr c68
           subst c68
           have H1 : (if 2 + ((rd_T99 l0_3 x8_5).f0).size ≤ 9223372036854775807 then (if x5_5.length < 8796093022208 then (semblanceref53_Lines.l1 k5 (x5_5 ++ [(⟨#[126, 32]⟩ : ByteArray) ++ ((rd_T99 l0_3 x8_5).f0)]) (wrap64 (x8_5 + 1)) a0_0 l0_1 l0_2 l0_3 a1_0 l1_1 l1_2 l1_3) else (none)) else (none)) = some r := by rw [if_neg (show ¬ (false = true) by decide)] at H; exact H
           clear H
           have H := H1
           clear H1
           by_cases c90 : 2 + ((rd_T99 l0_3 x8_5).f0).size ≤ 9223372036854775807
           rotate_left
           ·rw [if_neg c90] at H
            exact absurd H (by simp)
           rw [if_pos c90] at H
           have c90b0 := eq_true c90
           have c90b1 : decide (2 + ((rd_T99 l0_3 x8_5).f0).size ≤ 9223372036854775807) = true := decide_eq_true c90
           try have c90b2 : (9223372036854775807 < 2 + ((rd_T99 l0_3 x8_5).f0).size) = False := eq_false (Nat.not_lt.2 c90)
           by_cases c91 : x5_5.length < 8796093022208
           rotate_left
           ·rw [if_neg c91] at H
            exact absurd H (by simp)
           rw [if_pos c91] at H
           have LMc91 := Aside0.mk c91
           clear c91
           obtain ⟨y280, hy280⟩ : ∃ y_ : List ByteArray, y_ = (x5_5 ++ [(⟨#[126, 32]⟩ : ByteArray) ++ ((rd_T99 l0_3 x8_5).f0)]) := ⟨_, rfl⟩
           replace H : (semblanceref53_Lines.l1 k5 y280 (wrap64 (x8_5 + 1)) a0_0 l0_1 l0_2 l0_3 a1_0 l1_1 l1_2 l1_3) = some r := by first | (rw [hy280]; with_reducible exact H) | (have H2_ := (Option.bind_some _ _).symm.trans H; rw [hy280]; with_reducible exact H2_) | (have H2_ := (Option.bind_some _ _).symm.trans H; with_reducible exact H2_) | with_reducible exact H | (rw [hy280]; exact H) | exact H
           have Ny280 := Aside0.mk hy280
           clear hy280
           have H' := Aside0.mk H
           clear H
           have hnb92 := NB250_251.out
           have hnc92 := NB251_250.out
           refine pure_ (i := 12) (N := some 105) (v := ?_) (a' := ?_) bw23_36 rfl rfl (any_of HT_.out (by kernel_rfl)) (fun _ _ _ h => h) (Or.inl ⟨by rfl, ?_⟩) ?_ ?_
           rotate_left
           ·intro w'
            go_simp
            with_reducible rfl
           rotate_left
           ·simp only [Act.put, sb_, s0_, s1_, i64_w, i32_w]
            rfl
           refine pure_ (i := 13) (N := some 106) (v := ?_) (a' := ?_) bw23_37 rfl rfl (any_of HT_.out (by kernel_rfl)) (fun _ _ _ h => h) (Or.inl ⟨by rfl, ?_⟩) ?_ ?_
           rotate_left
           ·intro w'
            go_simp
            with_reducible rfl
           rotate_left
           ·simp only [Act.put, sb_, s0_, s1_, i64_w, i32_w]
            rfl
           refine pure_ (i := 14) (N := some 107) (v := ?_) (a' := ?_) bw23_38 rfl rfl (any_of HT_.out (by kernel_rfl)) (fun _ _ _ h => h) (Or.inl ⟨by rfl, ?_⟩) ?_ ?_
           rotate_left
           ·intro w'
            go_simp
            with_reducible rfl
           rotate_left
           ·simp only [Act.put, sb_, s0_, s1_, i64_w, i32_w]
            rfl
           refine pure_ (i := 15) (N := some 108) (v := ?_) (a' := ?_) bw23_39 rfl rfl (any_of HT_.out (by kernel_rfl)) (fun _ _ _ h => h) (Or.inl ⟨by rfl, ?_⟩) ?_ ?_
           rotate_left
           ·intro w'
            go_simp
            with_reducible rfl
           rotate_left
           ·simp only [Act.put, sb_, s0_, s1_, i64_w, i32_w]
            rfl
           refine pure_ (i := 17) (N := some 110) (v := ?_) (a' := ?_) bw23_66 rfl rfl (any_of HT_.out (by kernel_rfl)) (fun _ _ _ h => h) (Or.inl ⟨by rfl, ?_⟩) ?_ ?_
           rotate_left
           ·intro w'
            go_simp
            with_reducible rfl
           rotate_left
           ·simp only [Act.put, sb_, s0_, s1_, i64_w, i32_w]
            rfl
           refine take_ (i := 16) (N := some 109) (v := ?_) (a' := ?_) bw23_41 rfl rfl (take_ofW HT_.out HW_.out (by kernel_rfl)) (fun _ _ _ h => h) (Or.inl ⟨by rfl, ?_⟩) hHeld ?_ ?_
           rotate_left
           ·rintro w' ⟨s0, s1, s2, s3, s4, s5, s6, s7, s8, s9, s10, s11, s12, s13, s14, s15, s16, s17, s18, s19⟩
            go_simp
            with_reducible rfl
           rotate_left
           ·simp only [Act.put, sb_, s0_, s1_, i64_w, i32_w]
            rfl
           refine take_ (i := 18) (N := some 111) (v := ?_) (a' := ?_) bw23_42 rfl rfl (take_ofW HT_.out HW_.out (by kernel_rfl)) (fun _ _ _ h => h) (Or.inl ⟨by rfl, ?_⟩) hHeld ?_ ?_
           rotate_left
           ·rintro w' ⟨s0, s1, s2, s3, s4, s5, s6, s7, s8, s9, s10, s11, s12, s13, s14, s15, s16, s17, s18, s19⟩
            go_simp
            with_reducible rfl
           rotate_left
           ·simp only [Act.put, sb_, s0_, s1_, i64_w, i32_w]
            rfl
           refine one_ (i := 19) (N := some 112) bw23_43 rfl rfl (one_of HT_.out (by kernel_rfl)) (by decide) (fun K hK => ?_)
           refine goes_ Try.func72 (by kernel_rfl) rfl #[.slice A267_3 ((rd_T99 l0_3 x8_5).f3).length c267_3, .slice A273_3 ((rd_T99 l1_3 t269).f3).length c273_3] (by rfl) rfl rfl (by (try simp only [List.map_toArray, List.map_cons, List.map_nil]); first | done | rfl | (simp only [List.length_drop, List.length_take]; rfl)) ?_
           with_reducible refine (semblanceref08_Same.calls k5 _ _ ((rd_T99 l0_3 x8_5).f3) _ _ ((rd_T99 l1_3 t269).f3) true _ ?side1 ?side2 ?side3 ?side4 A63.out).mono ?_
           (case side1 => repeat (first | exact (Kd.C_below HR267_3.out HB.out) | (with_reducible refine Kd.C_alloc ?_ _) | (with_reducible refine Kd.C_drewN ?_ _) | (with_reducible refine Kd.C_drew ?_)))
           (case side2 => exact HC267_3.out)
           (case side3 => repeat (first | exact (Kd.C_below HR273_3.out HB.out) | (with_reducible refine Kd.C_alloc ?_ _) | (with_reducible refine Kd.C_drewN ?_ _) | (with_reducible refine Kd.C_drew ?_)))
           (case side4 => exact HC273_3.out)
           rintro e w110 ⟨rfl, hb⟩
           refine ⟨_, rfl, ?_⟩
           have n0_ := Aside0.mk (Kd.R_below (by (with_reducible repeat (first | apply Kd.R_alloc | apply Kd.R_drewN | apply Kd.R_drew)); exact HO_5.out) hb)
           have n1_ := Aside0.mk (blk_below (grw BK250.out) hb)
           have n2_ := Aside0.mk (blk_below (grw BK251.out) hb)
           have n3_ := Aside0.mk (blk_below (grw BK268.out) hb)
           have n4_ := Aside0.mk (blk_below (grw BK274.out) hb)
           have n5_ := Aside0.mk (below_step (by repeat (first | (with_reducible first | exact HB.out | apply below_alloc | apply pw_below_drewN | apply below_drew1 | refine below_set ?_ GE250.out | refine below_set ?_ GE251.out | refine below_set ?_ GE268.out | refine below_set ?_ GE274.out) | exact HB.out)) hb)
           clear HO_5
           clear BK250
           clear BK251
           clear BK268
           clear BK274
           clear HB
           have HO_5 := n0_
           have BK250 := n1_
           have BK251 := n2_
           have BK268 := n3_
           have BK274 := n4_
           have HB := n5_
           clear n0_ n1_ n2_ n3_ n4_ n5_
           (try clear hb)
           (try clear hb2)
           (try clear hk)
           (try clear hi)
           refine hK.out _ _ ⟨(blk_cell BK268.out 0).trans rfl, (blk_cell BK268.out 1).trans rfl, (blk_cell BK268.out 2).trans rfl, (blk_cell BK268.out 3).trans rfl, (blk_cell BK268.out 4).trans rfl, (blk_cell BK268.out 5).trans rfl, (blk_cell BK274.out 0).trans rfl, (blk_cell BK274.out 1).trans rfl, (blk_cell BK274.out 2).trans rfl, (blk_cell BK274.out 3).trans rfl, (blk_cell BK274.out 4).trans rfl, (blk_cell BK274.out 5).trans rfl, (blk_cell BK250.out 0).trans rfl, (blk_cell BK250.out 1).trans rfl, (blk_cell BK250.out 2).trans rfl, (blk_cell BK250.out 3).trans rfl, (blk_cell BK251.out 0).trans rfl, (blk_cell BK251.out 1).trans rfl, (blk_cell BK251.out 2).trans rfl, (blk_cell BK251.out 3).trans rfl⟩ (fun hHeld => ?_)
           clear hK K
           refine norm_ (a' := ?_) ?_ ?_
           rotate_left
           ·show Act.put _ (some 112) _ = _
            simp only [Act.put, sb_, s0_, s1_, i64_w, i32_w]
            rfl
           refine pure_ (i := 20) (N := some 113) (v := ?_) (a' := ?_) bw23_44 rfl rfl (any_of HT_.out (by kernel_rfl)) (fun _ _ _ h => h) (Or.inl ⟨by rfl, ?_⟩) ?_ ?_
           rotate_left
           ·intro w'
            go_simp
            with_reducible rfl
           rotate_left
           ·simp only [Act.put, sb_, s0_, s1_, i64_w, i32_w]
            rfl
           refine pure_ (i := 21) (N := some 114) (v := ?_) (a' := ?_) bw23_45 rfl rfl (any_of HT_.out (by kernel_rfl)) (fun _ _ _ h => h) (Or.inl ⟨by rfl, ?_⟩) ?_ ?_
           rotate_left
           ·intro w'
            go_simp
            with_reducible rfl
           rotate_left
           ·simp only [Act.put, sb_, s0_, s1_, i64_w, i32_w]
            rfl
           refine pure_ (i := 22) (N := some 115) (v := ?_) (a' := ?_) bw23_46 rfl rfl (any_of HT_.out (by kernel_rfl)) (fun _ _ _ h => h) (Or.inl ⟨by rfl, ?_⟩) ?_ ?_
           rotate_left
           ·intro w'
            go_simp
            with_reducible rfl
           rotate_left
           ·simp only [Act.put, sb_, s0_, s1_, i64_w, i32_w]
            rfl
           refine pure_ (i := 23) (N := some 116) (v := ?_) (a' := ?_) bw23_47 rfl rfl (any_of HT_.out (by kernel_rfl)) (fun _ _ _ h => h) (Or.inl ⟨by rfl, ?_⟩) ?_ ?_
           rotate_left
           ·intro w'
            go_simp
            with_reducible rfl
           rotate_left
           ·simp only [Act.put, sb_, s0_, s1_, i64_w, i32_w]
            rfl
           refine pure_ (i := 25) (N := some 118) (v := ?_) (a' := ?_) bw23_67 rfl rfl (any_of HT_.out (by kernel_rfl)) (fun _ _ _ h => h) (Or.inl ⟨by rfl, ?_⟩) ?_ ?_
           rotate_left
           ·intro w'
            go_simp
            with_reducible rfl
           rotate_left
           ·simp only [Act.put, sb_, s0_, s1_, i64_w, i32_w]
            rfl
           refine take_ (i := 24) (N := some 117) (v := ?_) (a' := ?_) bw23_49 rfl rfl (take_ofW HT_.out HW_.out (by kernel_rfl)) (fun _ _ _ h => h) (Or.inl ⟨by rfl, ?_⟩) hHeld ?_ ?_
           rotate_left
           ·rintro w' ⟨s0, s1, s2, s3, s4, s5, s6, s7, s8, s9, s10, s11, s12, s13, s14, s15, s16, s17, s18, s19⟩
            go_simp
            with_reducible rfl
           rotate_left
           ·simp only [Act.put, sb_, s0_, s1_, i64_w, i32_w]
            rfl
           refine take_ (i := 26) (N := some 119) (v := ?_) (a' := ?_) bw23_50 rfl rfl (take_ofW HT_.out HW_.out (by kernel_rfl)) (fun _ _ _ h => h) (Or.inl ⟨by rfl, ?_⟩) hHeld ?_ ?_
           rotate_left
           ·rintro w' ⟨s0, s1, s2, s3, s4, s5, s6, s7, s8, s9, s10, s11, s12, s13, s14, s15, s16, s17, s18, s19⟩
            go_simp
            with_reducible rfl
           rotate_left
           ·simp only [Act.put, sb_, s0_, s1_, i64_w, i32_w]
            rfl
           refine one_ (i := 27) (N := some 120) bw23_51 rfl rfl (one_of HT_.out (by kernel_rfl)) (by decide) (fun K hK => ?_)
           refine goes_ Try.func72 (by kernel_rfl) rfl #[.slice A267_4 ((rd_T99 l0_3 x8_5).f4).length c267_4, .slice A273_4 ((rd_T99 l1_3 t269).f4).length c273_4] (by rfl) rfl rfl (by (try simp only [List.map_toArray, List.map_cons, List.map_nil]); first | done | rfl | (simp only [List.length_drop, List.length_take]; rfl)) ?_
           with_reducible refine (semblanceref08_Same.calls k5 _ _ ((rd_T99 l0_3 x8_5).f4) _ _ ((rd_T99 l1_3 t269).f4) true _ ?side1 ?side2 ?side3 ?side4 A65.out).mono ?_
           (case side1 => repeat (first | exact (Kd.C_below HR267_4.out HB.out) | (with_reducible refine Kd.C_alloc ?_ _) | (with_reducible refine Kd.C_drewN ?_ _) | (with_reducible refine Kd.C_drew ?_)))
           (case side2 => exact HC267_4.out)
           (case side3 => repeat (first | exact (Kd.C_below HR273_4.out HB.out) | (with_reducible refine Kd.C_alloc ?_ _) | (with_reducible refine Kd.C_drewN ?_ _) | (with_reducible refine Kd.C_drew ?_)))
           (case side4 => exact HC273_4.out)
           rintro e w111 ⟨rfl, hb⟩
           refine ⟨_, rfl, ?_⟩
           have n0_ := Aside0.mk (Kd.R_below (by (with_reducible repeat (first | apply Kd.R_alloc | apply Kd.R_drewN | apply Kd.R_drew)); exact HO_5.out) hb)
           have n1_ := Aside0.mk (blk_below (grw BK250.out) hb)
           have n2_ := Aside0.mk (blk_below (grw BK251.out) hb)
           have n3_ := Aside0.mk (blk_below (grw BK268.out) hb)
           have n4_ := Aside0.mk (blk_below (grw BK274.out) hb)
           have n5_ := Aside0.mk (below_step (by repeat (first | (with_reducible first | exact HB.out | apply below_alloc | apply pw_below_drewN | apply below_drew1 | refine below_set ?_ GE250.out | refine below_set ?_ GE251.out | refine below_set ?_ GE268.out | refine below_set ?_ GE274.out) | exact HB.out)) hb)
           clear HO_5
           clear BK250
           clear BK251
           clear BK268
           clear BK274
           clear HB
           have HO_5 := n0_
           have BK250 := n1_
           have BK251 := n2_
           have BK268 := n3_
           have BK274 := n4_
           have HB := n5_
           clear n0_ n1_ n2_ n3_ n4_ n5_
           (try clear hb)
           (try clear hb2)
           (try clear hk)
           (try clear hi)
           refine hK.out _ _ ⟨(blk_cell BK268.out 0).trans rfl, (blk_cell BK268.out 1).trans rfl, (blk_cell BK268.out 2).trans rfl, (blk_cell BK268.out 3).trans rfl, (blk_cell BK268.out 4).trans rfl, (blk_cell BK268.out 5).trans rfl, (blk_cell BK274.out 0).trans rfl, (blk_cell BK274.out 1).trans rfl, (blk_cell BK274.out 2).trans rfl, (blk_cell BK274.out 3).trans rfl, (blk_cell BK274.out 4).trans rfl, (blk_cell BK274.out 5).trans rfl, (blk_cell BK250.out 0).trans rfl, (blk_cell BK250.out 1).trans rfl, (blk_cell BK250.out 2).trans rfl, (blk_cell BK250.out 3).trans rfl, (blk_cell BK251.out 0).trans rfl, (blk_cell BK251.out 1).trans rfl, (blk_cell BK251.out 2).trans rfl, (blk_cell BK251.out 3).trans rfl⟩ (fun hHeld => ?_)
           clear hK K
           refine norm_ (a' := ?_) ?_ ?_
           rotate_left
           ·show Act.put _ (some 120) _ = _
            simp only [Act.put, sb_, s0_, s1_, i64_w, i32_w]
            rfl
           refine pure_ (i := 28) (N := some 121) (v := ?_) (a' := ?_) bw23_52 rfl rfl (any_of HT_.out (by kernel_rfl)) (fun _ _ _ h => h) (Or.inl ⟨by rfl, ?_⟩) ?_ ?_
           rotate_left
           ·intro w'
            go_simp
            with_reducible rfl
           rotate_left
           ·simp only [Act.put, sb_, s0_, s1_, i64_w, i32_w]
            rfl
           refine pure_ (i := 29) (N := some 122) (v := ?_) (a' := ?_) bw23_53 rfl rfl (any_of HT_.out (by kernel_rfl)) (fun _ _ _ h => h) (Or.inl ⟨by rfl, ?_⟩) ?_ ?_
           rotate_left
           ·intro w'
            go_simp
            with_reducible rfl
           rotate_left
           ·simp only [Act.put, sb_, s0_, s1_, i64_w, i32_w]
            rfl
           refine pure_ (i := 30) (N := some 123) (v := ?_) (a' := ?_) bw23_54 rfl rfl (any_of HT_.out (by kernel_rfl)) (fun _ _ _ h => h) (Or.inl ⟨by rfl, ?_⟩) ?_ ?_
           rotate_left
           ·intro w'
            go_simp
            with_reducible rfl
           rotate_left
           ·simp only [Act.put, sb_, s0_, s1_, i64_w, i32_w]
            rfl
           refine pure_ (i := 31) (N := some 124) (v := ?_) (a' := ?_) bw23_55 rfl rfl (any_of HT_.out (by kernel_rfl)) (fun _ _ _ h => h) (Or.inl ⟨by rfl, ?_⟩) ?_ ?_
           rotate_left
           ·intro w'
            go_simp
            with_reducible rfl
           rotate_left
           ·simp only [Act.put, sb_, s0_, s1_, i64_w, i32_w]
            rfl
           refine pure_ (i := 33) (N := some 126) (v := ?_) (a' := ?_) bw23_68 rfl rfl (any_of HT_.out (by kernel_rfl)) (fun _ _ _ h => h) (Or.inl ⟨by rfl, ?_⟩) ?_ ?_
           rotate_left
           ·intro w'
            go_simp
            with_reducible rfl
           rotate_left
           ·simp only [Act.put, sb_, s0_, s1_, i64_w, i32_w]
            rfl
           refine take_ (i := 32) (N := some 125) (v := ?_) (a' := ?_) bw23_57 rfl rfl (take_ofW HT_.out HW_.out (by kernel_rfl)) (fun _ _ _ h => h) (Or.inl ⟨by rfl, ?_⟩) hHeld ?_ ?_
           rotate_left
           ·rintro w' ⟨s0, s1, s2, s3, s4, s5, s6, s7, s8, s9, s10, s11, s12, s13, s14, s15, s16, s17, s18, s19⟩
            go_simp
            with_reducible rfl
           rotate_left
           ·simp only [Act.put, sb_, s0_, s1_, i64_w, i32_w]
            rfl
           refine take_ (i := 34) (N := some 127) (v := ?_) (a' := ?_) bw23_58 rfl rfl (take_ofW HT_.out HW_.out (by kernel_rfl)) (fun _ _ _ h => h) (Or.inl ⟨by rfl, ?_⟩) hHeld ?_ ?_
           rotate_left
           ·rintro w' ⟨s0, s1, s2, s3, s4, s5, s6, s7, s8, s9, s10, s11, s12, s13, s14, s15, s16, s17, s18, s19⟩
            go_simp
            with_reducible rfl
           rotate_left
           ·simp only [Act.put, sb_, s0_, s1_, i64_w, i32_w]
            rfl
           refine one_ (i := 35) (N := some 128) bw23_59 rfl rfl (one_of HT_.out (by kernel_rfl)) (by decide) (fun K hK => ?_)
           refine goes_ Try.func73 (by kernel_rfl) rfl #[.slice A267_5 ((rd_T99 l0_3 x8_5).f5).length c267_5, .slice A273_5 ((rd_T99 l1_3 t269).f5).length c273_5] (by rfl) rfl rfl (by (try simp only [List.map_toArray, List.map_cons, List.map_nil]); first | done | rfl | (simp only [List.length_drop, List.length_take]; rfl)) ?_
           with_reducible refine (semblanceref09_All.calls k5 _ _ ((rd_T99 l0_3 x8_5).f5) _ _ ((rd_T99 l1_3 t269).f5) false _ ?side1 ?side2 ?side3 ?side4 A67.out).mono ?_
           (case side1 => repeat (first | exact (Kd.C_below HR267_5.out HB.out) | (with_reducible refine Kd.C_alloc ?_ _) | (with_reducible refine Kd.C_drewN ?_ _) | (with_reducible refine Kd.C_drew ?_)))
           (case side2 => exact HC267_5.out)
           (case side3 => repeat (first | exact (Kd.C_below HR273_5.out HB.out) | (with_reducible refine Kd.C_alloc ?_ _) | (with_reducible refine Kd.C_drewN ?_ _) | (with_reducible refine Kd.C_drew ?_)))
           (case side4 => exact HC273_5.out)
           rintro e w112 ⟨rfl, hb⟩
           refine ⟨_, rfl, ?_⟩
           have n0_ := Aside0.mk (Kd.R_below (by (with_reducible repeat (first | apply Kd.R_alloc | apply Kd.R_drewN | apply Kd.R_drew)); exact HO_5.out) hb)
           have n1_ := Aside0.mk (blk_below (grw BK250.out) hb)
           have n2_ := Aside0.mk (blk_below (grw BK251.out) hb)
           have n3_ := Aside0.mk (blk_below (grw BK268.out) hb)
           have n4_ := Aside0.mk (blk_below (grw BK274.out) hb)
           have n5_ := Aside0.mk (below_step (by repeat (first | (with_reducible first | exact HB.out | apply below_alloc | apply pw_below_drewN | apply below_drew1 | refine below_set ?_ GE250.out | refine below_set ?_ GE251.out | refine below_set ?_ GE268.out | refine below_set ?_ GE274.out) | exact HB.out)) hb)
           clear HO_5
           clear BK250
           clear BK251
           clear BK268
           clear BK274
           clear HB
           have HO_5 := n0_
           have BK250 := n1_
           have BK251 := n2_
           have BK268 := n3_
           have BK274 := n4_
           have HB := n5_
           clear n0_ n1_ n2_ n3_ n4_ n5_
           (try clear hb)
           (try clear hb2)
           (try clear hk)
           (try clear hi)
           refine hK.out _ _ ⟨(blk_cell BK268.out 0).trans rfl, (blk_cell BK268.out 1).trans rfl, (blk_cell BK268.out 2).trans rfl, (blk_cell BK268.out 3).trans rfl, (blk_cell BK268.out 4).trans rfl, (blk_cell BK268.out 5).trans rfl, (blk_cell BK274.out 0).trans rfl, (blk_cell BK274.out 1).trans rfl, (blk_cell BK274.out 2).trans rfl, (blk_cell BK274.out 3).trans rfl, (blk_cell BK274.out 4).trans rfl, (blk_cell BK274.out 5).trans rfl, (blk_cell BK250.out 0).trans rfl, (blk_cell BK250.out 1).trans rfl, (blk_cell BK250.out 2).trans rfl, (blk_cell BK250.out 3).trans rfl, (blk_cell BK251.out 0).trans rfl, (blk_cell BK251.out 1).trans rfl, (blk_cell BK251.out 2).trans rfl, (blk_cell BK251.out 3).trans rfl⟩ (fun hHeld => ?_)
           clear hK K
           refine norm_ (a' := ?_) ?_ ?_
           rotate_left
           ·show Act.put _ (some 128) _ = _
            simp only [Act.put, sb_, s0_, s1_, i64_w, i32_w]
            rfl
           refine pure_ (i := 36) (N := some 129) (v := ?_) (a' := ?_) bw23_60 rfl rfl (any_of HT_.out (by kernel_rfl)) (fun _ _ _ h => h) (Or.inl ⟨by rfl, ?_⟩) ?_ ?_
           rotate_left
           ·intro w'
            go_simp
            with_reducible rfl
           rotate_left
           ·simp only [Act.put, sb_, s0_, s1_, i64_w, i32_w]
            rfl
           refine pure_ (i := 37) (N := some 130) (v := ?_) (a' := ?_) bw23_61 rfl rfl (any_of HT_.out (by kernel_rfl)) (fun _ _ _ h => h) (Or.inl ⟨by rfl, ?_⟩) ?_ ?_
           rotate_left
           ·intro w'
            go_simp
            with_reducible rfl
           rotate_left
           ·simp only [Act.put, sb_, s0_, s1_, i64_w, i32_w]
            rfl
           refine done_ (done_of HT_.out (by kernel_rfl)) ?_
           obtain ⟨hcz113_0, hcz113_1, hcz113_2, hcz113_3, hcz113_4, hcz113_5⟩ := cz6_ BK268.out
           obtain ⟨hfz113_0, hfz113_1, hfz113_2, hfz113_3, hfz113_4, hfz113_5⟩ := cf6_ BK268.out
           try go_wp2_with (first | ((with_reducible refine gate_builtin (b := .append) (xs := #[.tmp 131, .tmp 135]) rfl ?_); at_builtin; refine Kd.R_append Kd.string (w0 := w) w.heap.size rfl (.tmp 131) (.tmp 135) 55 9 (.string ⟨#[]⟩) 16 rfl Try.underlying55 info9 rfl (by decide) (by omega) u5 x5_5 ((⟨#[126, 32]⟩ : ByteArray) ++ ((rd_T99 l0_3 x8_5).f0)) [.string ((⟨#[126, 32]⟩ : ByteArray) ++ ((rd_T99 l0_3 x8_5).f0))] (fun _ => True) (fun _ => False) rfl rfl ?aP (fun _ hk => hk.elim) ?aF ?aO ?aB ?aS ?aL ?_; (case aP => exact rfl); (case aB => exact (by repeat (first | (with_reducible first | exact HB.out | apply below_alloc | apply pw_below_drewN | apply below_drew1 | refine below_set ?_ GE250.out | refine below_set ?_ GE251.out | refine below_set ?_ GE268.out | refine below_set ?_ GE274.out) | exact HB.out))); (case aF => exact (fun _ _ => trivial)); (case aO => exact (by (with_reducible repeat (first | apply Kd.R_alloc | apply Kd.R_drewN | apply Kd.R_drew)); exact HO_5.out)); (case aS => exact (below_size (by repeat (first | (with_reducible first | exact HB.out | apply below_alloc | apply pw_below_drewN | apply below_drew1 | refine below_set ?_ GE250.out | refine below_set ?_ GE251.out | refine below_set ?_ GE268.out | refine below_set ?_ GE274.out) | exact HB.out)))); (case aL => have := LMc91.out; omega); intro v281 w114 ho hb hg hat; rw [← Ny280.out] at ho; have n0_ := Aside0.mk (blk_grown (grw BK250.out) hg (Kd.R_ne HO_5.out BK250.out (by decide))); have n1_ := Aside0.mk (blk_grown (grw BK251.out) hg (Kd.R_ne HO_5.out BK251.out (by decide))); have n2_ := Aside0.mk (blk_grown (grw BK268.out) hg (Kd.R_ne HO_5.out BK268.out (by decide))); have n3_ := Aside0.mk (blk_grown (grw BK274.out) hg (Kd.R_ne HO_5.out BK274.out (by decide))); have n4_ := Aside0.mk (hb); have n5_ := Aside0.mk (ho); clear BK250; clear BK251; clear BK268; clear BK274; clear HB; clear HO_5; have BK250 := n0_; have BK251 := n1_; have BK268 := n2_; have BK274 := n3_; have HB := n4_; have HO282 := n5_; clear n0_ n1_ n2_ n3_ n4_ n5_; clear ho hb hg hat))
           go_roundg k5
           case measure => have := HJ2.out; have := HJ14.out; have := HJ21.out; have := HJ36.out; have := HK5.out; omega
           case rel => exact ⟨(y280), (wrap64 (x8_5 + 1)), (by first | rfl | (simp; done) | (simp [*]; done)), H', ⟨by have := HJ2.out; have := HJ14.out; have := HJ21.out; have := HJ36.out; have := HK5.out; omega⟩, ⟨by (with_reducible repeat (first | apply Kd.R_alloc | apply Kd.R_drewN | apply Kd.R_drew)); exact HO282.out⟩, ⟨grw BK250.out⟩, ⟨grw BK251.out⟩, ⟨by repeat (first | (with_reducible first | exact HB.out | apply below_alloc | apply pw_below_drewN | apply below_drew1 | refine below_set ?_ GE250.out | refine below_set ?_ GE251.out | refine below_set ?_ GE268.out | refine below_set ?_ GE274.out) | exact HB.out)⟩⟩
end Go.Proofs.Ytjlegibfeenglaa.XF
