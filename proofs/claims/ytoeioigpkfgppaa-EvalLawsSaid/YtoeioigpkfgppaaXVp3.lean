-- written by wip/xprint.py out of the translation
import Derived.Test.YtoeioigpkfgppaaXVp0
import Derived.Test.YtoeioigpkfgppaaXVp1
import Derived.Test.YtoeioigpkfgppaaXVp2
namespace Go.Proofs.Ytoeioigpkfgppaa.XV
open Go.Proofs.Ytoeioigpkfgppaa.XGrow Go.RowKit Go.Proofs.YtoeioigpkfgppaaW.PrintWords Go.Proofs.YtoeioigpkfgppaaW.PrintLast Go.Proofs.YtoeioigpkfgppaaW.PrintMore
attribute [local go_sem] max2_int min2_int max_two min_two max_three min_three max_four min_four   -- for this text's walks alone
set_option linter.unusedVariables false
set_option linter.unusedSimpArgs false

attribute [local go_sem high] eqA47
/-! ### names_Keyword: function 116 -/
def names_Keyword.j0 : Nat → ByteArray → Bool → Option (Bool)
  | 0, _, _ => none
  | k + 1, x3, x4 => if x4 = true then (some true) else (if x3.toList = ([97, 110, 121] : List UInt8) then (some true) else (if x3.toList = ([105, 110] : List UInt8) then (some true) else (if x3.toList = ([109, 105, 110] : List UInt8) then (some true) else (if x3.toList = ([109, 97, 120] : List UInt8) then (some true) else (if x3.toList = ([110, 111, 116] : List UInt8) then (some true) else (if x3.toList = ([116, 114, 117, 101] : List UInt8) then (some true) else (if x3.toList = ([102, 97, 108, 115, 101] : List UInt8) then (some true) else (some false))))))))
def names_Keyword.f (k : Nat) (a0 : ByteArray) : Option (Bool) := if a0.toList = ([99, 104, 97, 114, 116] : List UInt8) then (names_Keyword.j0 k a0 (a0.toList == ([99, 104, 97, 114, 116] : List UInt8))) else (if a0.toList = ([101, 118, 101, 110, 116] : List UInt8) then (names_Keyword.j0 k a0 (a0.toList == ([101, 118, 101, 110, 116] : List UInt8))) else (if a0.toList = ([118, 97, 114] : List UInt8) then (names_Keyword.j0 k a0 (a0.toList == ([118, 97, 114] : List UInt8))) else (if a0.toList = ([108, 101, 97, 102] : List UInt8) then (names_Keyword.j0 k a0 (a0.toList == ([108, 101, 97, 102] : List UInt8))) else (if a0.toList = ([111, 114] : List UInt8) then (names_Keyword.j0 k a0 (a0.toList == ([111, 114] : List UInt8))) else (if a0.toList = ([97, 110, 100] : List UInt8) then (names_Keyword.j0 k a0 (a0.toList == ([97, 110, 100] : List UInt8))) else (if a0.toList = ([101, 110, 116, 101, 114] : List UInt8) then (names_Keyword.j0 k a0 (a0.toList == ([101, 110, 116, 101, 114] : List UInt8))) else (if a0.toList = ([101, 120, 105, 116] : List UInt8) then (names_Keyword.j0 k a0 (a0.toList == ([101, 120, 105, 116] : List UInt8))) else (if a0.toList = ([111, 110] : List UInt8) then (names_Keyword.j0 k a0 (a0.toList == ([111, 110] : List UInt8))) else (names_Keyword.j0 k a0 (a0.toList == ([97, 117, 116, 111] : List UInt8)))))))))))
theorem names_Keyword.mono_l : ∀ k, (∀ y0 y1, LeO (names_Keyword.j0 k y0 y1) (names_Keyword.j0 (k + 1) y0 y1))
  | 0 => fun _ _ r h => by simp [names_Keyword.j0] at h
  | k + 1 => by
    have ih0 := names_Keyword.mono_l k
    · intro y0 y1
      unfold names_Keyword.j0
      repeat' first
      | (with_reducible exact ih0 _ _)
      | (with_reducible exact LeO.refl _)
      | (with_reducible exact LeO.none _)
      | (with_reducible refine LeO.ite ?_ ?_)
      | (with_reducible refine LeO.bind ?_ (fun _ => ?_))
      | exact ih0 _ _
      | exact LeO.none _
      | refine LeO.ite ?_ ?_
      | refine LeO.bind ?_ (fun _ => ?_)
theorem names_Keyword.mono : ∀ a0 k, LeO (names_Keyword.f k a0) (names_Keyword.f (k + 1) a0) := by
  intro a0 k
  have ih0 := names_Keyword.mono_l k
  unfold names_Keyword.f
  repeat' first
      | (with_reducible exact ih0 _ _)
      | (with_reducible exact LeO.refl _)
      | (with_reducible exact LeO.none _)
      | (with_reducible refine LeO.ite ?_ ?_)
      | (with_reducible refine LeO.bind ?_ (fun _ => ?_))
      | exact ih0 _ _
      | exact LeO.none _
      | refine LeO.ite ?_ ?_
      | refine LeO.bind ?_ (fun _ => ?_)
set_option maxHeartbeats 8000000 in
set_option maxRecDepth 100000 in
theorem names_Keyword.calls (k : Nat) (a0 : ByteArray) (r : Bool) (w : World) (h : names_Keyword.f k a0 = some r) :
  Calls Try.prog 116 #[.string a0] w fun e w' => e = .returned (.bool r) ∧ Drawn0 w w' := by
 have H : (if a0.toList = ([99, 104, 97, 114, 116] : List UInt8) then (names_Keyword.j0 k a0 (a0.toList == ([99, 104, 97, 114, 116] : List UInt8))) else (if a0.toList = ([101, 118, 101, 110, 116] : List UInt8) then (names_Keyword.j0 k a0 (a0.toList == ([101, 118, 101, 110, 116] : List UInt8))) else (if a0.toList = ([118, 97, 114] : List UInt8) then (names_Keyword.j0 k a0 (a0.toList == ([118, 97, 114] : List UInt8))) else (if a0.toList = ([108, 101, 97, 102] : List UInt8) then (names_Keyword.j0 k a0 (a0.toList == ([108, 101, 97, 102] : List UInt8))) else (if a0.toList = ([111, 114] : List UInt8) then (names_Keyword.j0 k a0 (a0.toList == ([111, 114] : List UInt8))) else (if a0.toList = ([97, 110, 100] : List UInt8) then (names_Keyword.j0 k a0 (a0.toList == ([97, 110, 100] : List UInt8))) else (if a0.toList = ([101, 110, 116, 101, 114] : List UInt8) then (names_Keyword.j0 k a0 (a0.toList == ([101, 110, 116, 101, 114] : List UInt8))) else (if a0.toList = ([101, 120, 105, 116] : List UInt8) then (names_Keyword.j0 k a0 (a0.toList == ([101, 120, 105, 116] : List UInt8))) else (if a0.toList = ([111, 110] : List UInt8) then (names_Keyword.j0 k a0 (a0.toList == ([111, 110] : List UInt8))) else (names_Keyword.j0 k a0 (a0.toList == ([97, 117, 116, 111] : List UInt8)))))))))))) = some r := h
 clear h
 have HC2 := Aside0.mk H
 clear H
 go_enter Try.func116, Try.ntmps116
 go_upto_if 4 with (fail)
 go_cut [4] (fun v4 wc => ∃ (kq : Nat) (x4_1 : Bool), v4 = .bool x4_1 ∧ Aside0 (names_Keyword.j0 kq a0 x4_1 = some r) ∧ Aside0 (kq ≤ k) ∧ Drawn0 w wc)
 case first =>
  have H := HC2.out
  clear HC2
  by_cases c3 : a0.toList = ([99, 104, 97, 114, 116] : List UInt8)
  ·rw [if_pos c3] at H
   have c3b0 : (a0.toList == ([99, 104, 97, 114, 116] : List UInt8)) = true := beq_iff_eq.mpr c3
   have c3b1 : (a0.toList != ([99, 104, 97, 114, 116] : List UInt8)) = false := bne_eq_false_iff_eq.mpr c3
   clear c3
   (first | rw [c3b0] | (simp only [i64_w, i32_w]; rw [c3b0]) | skip)
   have H' := Aside0.mk H
   clear H
   go_wp2
   go_meet
   case rel => exact ⟨_, ((a0.toList == ([99, 104, 97, 114, 116] : List UInt8))), (by first | rfl | (simp; done) | (simp [*]; done)), H', ⟨by first | omega | exact Nat.le_refl _⟩, by repeat (first | exact Drawn0.refl _ | apply Drawn0.step)⟩
  rw [if_neg c3] at H
  have c3b0 : (a0.toList == ([99, 104, 97, 114, 116] : List UInt8)) = false := beq_eq_false_iff_ne.mpr c3
  have c3b1 : (a0.toList != ([99, 104, 97, 114, 116] : List UInt8)) = true := bne_iff_ne.mpr c3
  (first | rw [c3b0] | (simp only [i64_w, i32_w]; rw [c3b0]) | skip)
  by_cases c4 : a0.toList = ([101, 118, 101, 110, 116] : List UInt8)
  ·rw [if_pos c4] at H
   have c4b0 : (a0.toList == ([101, 118, 101, 110, 116] : List UInt8)) = true := beq_iff_eq.mpr c4
   have c4b1 : (a0.toList != ([101, 118, 101, 110, 116] : List UInt8)) = false := bne_eq_false_iff_eq.mpr c4
   clear c4
   have H' := Aside0.mk H
   clear H
   go_wp2
   go_meet
   case rel => exact ⟨_, ((a0.toList == ([101, 118, 101, 110, 116] : List UInt8))), (by first | rfl | (simp; done) | (simp [*]; done)), H', ⟨by first | omega | exact Nat.le_refl _⟩, by repeat (first | exact Drawn0.refl _ | apply Drawn0.step)⟩
  rw [if_neg c4] at H
  have c4b0 : (a0.toList == ([101, 118, 101, 110, 116] : List UInt8)) = false := beq_eq_false_iff_ne.mpr c4
  have c4b1 : (a0.toList != ([101, 118, 101, 110, 116] : List UInt8)) = true := bne_iff_ne.mpr c4
  by_cases c5 : a0.toList = ([118, 97, 114] : List UInt8)
  ·rw [if_pos c5] at H
   have c5b0 : (a0.toList == ([118, 97, 114] : List UInt8)) = true := beq_iff_eq.mpr c5
   have c5b1 : (a0.toList != ([118, 97, 114] : List UInt8)) = false := bne_eq_false_iff_eq.mpr c5
   clear c5
   have H' := Aside0.mk H
   clear H
   go_wp2
   go_meet
   case rel => exact ⟨_, ((a0.toList == ([118, 97, 114] : List UInt8))), (by first | rfl | (simp; done) | (simp [*]; done)), H', ⟨by first | omega | exact Nat.le_refl _⟩, by repeat (first | exact Drawn0.refl _ | apply Drawn0.step)⟩
  rw [if_neg c5] at H
  have c5b0 : (a0.toList == ([118, 97, 114] : List UInt8)) = false := beq_eq_false_iff_ne.mpr c5
  have c5b1 : (a0.toList != ([118, 97, 114] : List UInt8)) = true := bne_iff_ne.mpr c5
  by_cases c6 : a0.toList = ([108, 101, 97, 102] : List UInt8)
  ·rw [if_pos c6] at H
   have c6b0 : (a0.toList == ([108, 101, 97, 102] : List UInt8)) = true := beq_iff_eq.mpr c6
   have c6b1 : (a0.toList != ([108, 101, 97, 102] : List UInt8)) = false := bne_eq_false_iff_eq.mpr c6
   clear c6
   have H' := Aside0.mk H
   clear H
   go_wp2
   go_meet
   case rel => exact ⟨_, ((a0.toList == ([108, 101, 97, 102] : List UInt8))), (by first | rfl | (simp; done) | (simp [*]; done)), H', ⟨by first | omega | exact Nat.le_refl _⟩, by repeat (first | exact Drawn0.refl _ | apply Drawn0.step)⟩
  rw [if_neg c6] at H
  have c6b0 : (a0.toList == ([108, 101, 97, 102] : List UInt8)) = false := beq_eq_false_iff_ne.mpr c6
  have c6b1 : (a0.toList != ([108, 101, 97, 102] : List UInt8)) = true := bne_iff_ne.mpr c6
  by_cases c7 : a0.toList = ([111, 114] : List UInt8)
  ·rw [if_pos c7] at H
   have c7b0 : (a0.toList == ([111, 114] : List UInt8)) = true := beq_iff_eq.mpr c7
   have c7b1 : (a0.toList != ([111, 114] : List UInt8)) = false := bne_eq_false_iff_eq.mpr c7
   clear c7
   have H' := Aside0.mk H
   clear H
   go_wp2
   go_meet
   case rel => exact ⟨_, ((a0.toList == ([111, 114] : List UInt8))), (by first | rfl | (simp; done) | (simp [*]; done)), H', ⟨by first | omega | exact Nat.le_refl _⟩, by repeat (first | exact Drawn0.refl _ | apply Drawn0.step)⟩
  rw [if_neg c7] at H
  have c7b0 : (a0.toList == ([111, 114] : List UInt8)) = false := beq_eq_false_iff_ne.mpr c7
  have c7b1 : (a0.toList != ([111, 114] : List UInt8)) = true := bne_iff_ne.mpr c7
  by_cases c8 : a0.toList = ([97, 110, 100] : List UInt8)
  ·rw [if_pos c8] at H
   have c8b0 : (a0.toList == ([97, 110, 100] : List UInt8)) = true := beq_iff_eq.mpr c8
   have c8b1 : (a0.toList != ([97, 110, 100] : List UInt8)) = false := bne_eq_false_iff_eq.mpr c8
   clear c8
   have H' := Aside0.mk H
   clear H
   go_wp2
   go_meet
   case rel => exact ⟨_, ((a0.toList == ([97, 110, 100] : List UInt8))), (by first | rfl | (simp; done) | (simp [*]; done)), H', ⟨by first | omega | exact Nat.le_refl _⟩, by repeat (first | exact Drawn0.refl _ | apply Drawn0.step)⟩
  rw [if_neg c8] at H
  have c8b0 : (a0.toList == ([97, 110, 100] : List UInt8)) = false := beq_eq_false_iff_ne.mpr c8
  have c8b1 : (a0.toList != ([97, 110, 100] : List UInt8)) = true := bne_iff_ne.mpr c8
  by_cases c9 : a0.toList = ([101, 110, 116, 101, 114] : List UInt8)
  ·rw [if_pos c9] at H
   have c9b0 : (a0.toList == ([101, 110, 116, 101, 114] : List UInt8)) = true := beq_iff_eq.mpr c9
   have c9b1 : (a0.toList != ([101, 110, 116, 101, 114] : List UInt8)) = false := bne_eq_false_iff_eq.mpr c9
   clear c9
   have H' := Aside0.mk H
   clear H
   go_wp2
   go_meet
   case rel => exact ⟨_, ((a0.toList == ([101, 110, 116, 101, 114] : List UInt8))), (by first | rfl | (simp; done) | (simp [*]; done)), H', ⟨by first | omega | exact Nat.le_refl _⟩, by repeat (first | exact Drawn0.refl _ | apply Drawn0.step)⟩
  rw [if_neg c9] at H
  have c9b0 : (a0.toList == ([101, 110, 116, 101, 114] : List UInt8)) = false := beq_eq_false_iff_ne.mpr c9
  have c9b1 : (a0.toList != ([101, 110, 116, 101, 114] : List UInt8)) = true := bne_iff_ne.mpr c9
  by_cases c10 : a0.toList = ([101, 120, 105, 116] : List UInt8)
  ·rw [if_pos c10] at H
   have c10b0 : (a0.toList == ([101, 120, 105, 116] : List UInt8)) = true := beq_iff_eq.mpr c10
   have c10b1 : (a0.toList != ([101, 120, 105, 116] : List UInt8)) = false := bne_eq_false_iff_eq.mpr c10
   clear c10
   have H' := Aside0.mk H
   clear H
   go_wp2
   go_meet
   case rel => exact ⟨_, ((a0.toList == ([101, 120, 105, 116] : List UInt8))), (by first | rfl | (simp; done) | (simp [*]; done)), H', ⟨by first | omega | exact Nat.le_refl _⟩, by repeat (first | exact Drawn0.refl _ | apply Drawn0.step)⟩
  rw [if_neg c10] at H
  have c10b0 : (a0.toList == ([101, 120, 105, 116] : List UInt8)) = false := beq_eq_false_iff_ne.mpr c10
  have c10b1 : (a0.toList != ([101, 120, 105, 116] : List UInt8)) = true := bne_iff_ne.mpr c10
  by_cases c11 : a0.toList = ([111, 110] : List UInt8)
  rotate_left
  ·rw [if_neg c11] at H
   have c11b0 : (a0.toList == ([111, 110] : List UInt8)) = false := beq_eq_false_iff_ne.mpr c11
   have c11b1 : (a0.toList != ([111, 110] : List UInt8)) = true := bne_iff_ne.mpr c11
   have H' := Aside0.mk H
   clear H
   go_wp2
   go_meet
   case rel => exact ⟨_, ((a0.toList == ([97, 117, 116, 111] : List UInt8))), (by first | rfl | (simp; done) | (simp [*]; done)), H', ⟨by first | omega | exact Nat.le_refl _⟩, by repeat (first | exact Drawn0.refl _ | apply Drawn0.step)⟩
  rw [if_pos c11] at H
  have c11b0 : (a0.toList == ([111, 110] : List UInt8)) = true := beq_iff_eq.mpr c11
  have c11b1 : (a0.toList != ([111, 110] : List UInt8)) = false := bne_eq_false_iff_eq.mpr c11
  clear c11
  have H' := Aside0.mk H
  clear H
  go_wp2
  go_meet
  case rel => exact ⟨_, ((a0.toList == ([111, 110] : List UInt8))), (by first | rfl | (simp; done) | (simp [*]; done)), H', ⟨by first | omega | exact Nat.le_refl _⟩, by repeat (first | exact Drawn0.refl _ | apply Drawn0.step)⟩
 case rest =>
  clear HC2
  try clear c1
  try clear p2
  try clear c3
  try clear c3b0
  try clear c3b1
  try clear c4
  try clear c4b0
  try clear c4b1
  try clear c5
  try clear c5b0
  try clear c5b1
  try clear c6
  try clear c6b0
  try clear c6b1
  try clear c7
  try clear c7b0
  try clear c7b1
  try clear c8
  try clear c8b0
  try clear c8b1
  try clear c9
  try clear c9b0
  try clear c9b1
  try clear c10
  try clear c10b0
  try clear c10b1
  try clear c11
  try clear c11b0
  try clear c11b1
  obtain ⟨kq, x4_1, rfl, HA, HJ1, ⟨mc1, rfl⟩⟩ := hcut
  cases kq with
  | zero => exact absurd HA.out (by simp [names_Keyword.j0])
  | succ kj1 =>
   have H := HA.out
   clear HA
   simp only [names_Keyword.j0] at H
   by_cases c12 : x4_1 = true
   ·subst c12
    have H1 : (some true) = some r := by rw [if_pos rfl] at H; exact H
    clear H
    have H := H1
    clear H1
    obtain rfl := Option.some.inj H
    go_wp2
    go_ret
    exact ⟨by first | rfl | (simp; done) | (simp [*]; done), by repeat (first | exact Drawn0.refl _ | apply Drawn0.step)⟩
   replace c12 := Bool.eq_false_iff.mpr c12
   subst c12
   have H1 : (if a0.toList = ([97, 110, 121] : List UInt8) then (some true) else (if a0.toList = ([105, 110] : List UInt8) then (some true) else (if a0.toList = ([109, 105, 110] : List UInt8) then (some true) else (if a0.toList = ([109, 97, 120] : List UInt8) then (some true) else (if a0.toList = ([110, 111, 116] : List UInt8) then (some true) else (if a0.toList = ([116, 114, 117, 101] : List UInt8) then (some true) else (if a0.toList = ([102, 97, 108, 115, 101] : List UInt8) then (some true) else (some false)))))))) = some r := by rw [if_neg (show ¬ (false = true) by decide)] at H; exact H
   clear H
   have H := H1
   clear H1
   by_cases c13 : a0.toList = ([97, 110, 121] : List UInt8)
   ·rw [if_pos c13] at H
    have c13b0 : (a0.toList == ([97, 110, 121] : List UInt8)) = true := beq_iff_eq.mpr c13
    have c13b1 : (a0.toList != ([97, 110, 121] : List UInt8)) = false := bne_eq_false_iff_eq.mpr c13
    clear c13
    obtain rfl := Option.some.inj H
    go_wp2
    go_ret
    exact ⟨by first | rfl | (simp; done) | (simp [*]; done), by repeat (first | exact Drawn0.refl _ | apply Drawn0.step)⟩
   rw [if_neg c13] at H
   have c13b0 : (a0.toList == ([97, 110, 121] : List UInt8)) = false := beq_eq_false_iff_ne.mpr c13
   have c13b1 : (a0.toList != ([97, 110, 121] : List UInt8)) = true := bne_iff_ne.mpr c13
   by_cases c14 : a0.toList = ([105, 110] : List UInt8)
   ·rw [if_pos c14] at H
    have c14b0 : (a0.toList == ([105, 110] : List UInt8)) = true := beq_iff_eq.mpr c14
    have c14b1 : (a0.toList != ([105, 110] : List UInt8)) = false := bne_eq_false_iff_eq.mpr c14
    clear c14
    obtain rfl := Option.some.inj H
    go_wp2
    go_ret
    exact ⟨by first | rfl | (simp; done) | (simp [*]; done), by repeat (first | exact Drawn0.refl _ | apply Drawn0.step)⟩
   rw [if_neg c14] at H
   have c14b0 : (a0.toList == ([105, 110] : List UInt8)) = false := beq_eq_false_iff_ne.mpr c14
   have c14b1 : (a0.toList != ([105, 110] : List UInt8)) = true := bne_iff_ne.mpr c14
   by_cases c15 : a0.toList = ([109, 105, 110] : List UInt8)
   ·rw [if_pos c15] at H
    have c15b0 : (a0.toList == ([109, 105, 110] : List UInt8)) = true := beq_iff_eq.mpr c15
    have c15b1 : (a0.toList != ([109, 105, 110] : List UInt8)) = false := bne_eq_false_iff_eq.mpr c15
    clear c15
    obtain rfl := Option.some.inj H
    go_wp2
    go_ret
    exact ⟨by first | rfl | (simp; done) | (simp [*]; done), by repeat (first | exact Drawn0.refl _ | apply Drawn0.step)⟩
   rw [if_neg c15] at H
   have c15b0 : (a0.toList == ([109, 105, 110] : List UInt8)) = false := beq_eq_false_iff_ne.mpr c15
   have c15b1 : (a0.toList != ([109, 105, 110] : List UInt8)) = true := bne_iff_ne.mpr c15
   by_cases c16 : a0.toList = ([109, 97, 120] : List UInt8)
   ·rw [if_pos c16] at H
    have c16b0 : (a0.toList == ([109, 97, 120] : List UInt8)) = true := beq_iff_eq.mpr c16
    have c16b1 : (a0.toList != ([109, 97, 120] : List UInt8)) = false := bne_eq_false_iff_eq.mpr c16
    clear c16
    obtain rfl := Option.some.inj H
    go_wp2
    go_ret
    exact ⟨by first | rfl | (simp; done) | (simp [*]; done), by repeat (first | exact Drawn0.refl _ | apply Drawn0.step)⟩
   rw [if_neg c16] at H
   have c16b0 : (a0.toList == ([109, 97, 120] : List UInt8)) = false := beq_eq_false_iff_ne.mpr c16
   have c16b1 : (a0.toList != ([109, 97, 120] : List UInt8)) = true := bne_iff_ne.mpr c16
   by_cases c17 : a0.toList = ([110, 111, 116] : List UInt8)
   ·rw [if_pos c17] at H
    have c17b0 : (a0.toList == ([110, 111, 116] : List UInt8)) = true := beq_iff_eq.mpr c17
    have c17b1 : (a0.toList != ([110, 111, 116] : List UInt8)) = false := bne_eq_false_iff_eq.mpr c17
    clear c17
    obtain rfl := Option.some.inj H
    go_wp2
    go_ret
    exact ⟨by first | rfl | (simp; done) | (simp [*]; done), by repeat (first | exact Drawn0.refl _ | apply Drawn0.step)⟩
   rw [if_neg c17] at H
   have c17b0 : (a0.toList == ([110, 111, 116] : List UInt8)) = false := beq_eq_false_iff_ne.mpr c17
   have c17b1 : (a0.toList != ([110, 111, 116] : List UInt8)) = true := bne_iff_ne.mpr c17
   by_cases c18 : a0.toList = ([116, 114, 117, 101] : List UInt8)
   ·rw [if_pos c18] at H
    have c18b0 : (a0.toList == ([116, 114, 117, 101] : List UInt8)) = true := beq_iff_eq.mpr c18
    have c18b1 : (a0.toList != ([116, 114, 117, 101] : List UInt8)) = false := bne_eq_false_iff_eq.mpr c18
    clear c18
    obtain rfl := Option.some.inj H
    go_wp2
    go_ret
    exact ⟨by first | rfl | (simp; done) | (simp [*]; done), by repeat (first | exact Drawn0.refl _ | apply Drawn0.step)⟩
   rw [if_neg c18] at H
   have c18b0 : (a0.toList == ([116, 114, 117, 101] : List UInt8)) = false := beq_eq_false_iff_ne.mpr c18
   have c18b1 : (a0.toList != ([116, 114, 117, 101] : List UInt8)) = true := bne_iff_ne.mpr c18
   by_cases c19 : a0.toList = ([102, 97, 108, 115, 101] : List UInt8)
   rotate_left
   ·rw [if_neg c19] at H
    have c19b0 : (a0.toList == ([102, 97, 108, 115, 101] : List UInt8)) = false := beq_eq_false_iff_ne.mpr c19
    have c19b1 : (a0.toList != ([102, 97, 108, 115, 101] : List UInt8)) = true := bne_iff_ne.mpr c19
    obtain rfl := Option.some.inj H
    go_wp2
    go_ret
    exact ⟨by first | rfl | (simp; done) | (simp [*]; done), by repeat (first | exact Drawn0.refl _ | apply Drawn0.step)⟩

   rw [if_pos c19] at H
   have c19b0 : (a0.toList == ([102, 97, 108, 115, 101] : List UInt8)) = true := beq_iff_eq.mpr c19
   have c19b1 : (a0.toList != ([102, 97, 108, 115, 101] : List UInt8)) = false := bne_eq_false_iff_eq.mpr c19
   clear c19
   obtain rfl := Option.some.inj H
   go_wp2
   go_ret
   exact ⟨by first | rfl | (simp; done) | (simp [*]; done), by repeat (first | exact Drawn0.refl _ | apply Drawn0.step)⟩
/-! ### names_Is: function 106 -/
/-- may a byte stand at a place of a name? -/
def names_Is.ok (i c : Nat) : Bool := (decide (97 ≤ c) && decide (c ≤ 122)) || (i != 0 && ((decide (48 ≤ c) && decide (c ≤ 57)) || c == 95))
def names_Is.body (s : ByteArray) : Bool := (List.range s.size).all fun i => names_Is.ok i (bt s i).toNat
def names_Is.f (k : Nat) (a0 : ByteArray) : Option (Bool) :=
  if a0.size = 0 then some false else if 12 < a0.size then some false else (names_Keyword.f k a0).bind fun b => if b = true then some false else some (names_Is.body a0)
theorem names_Is.mono : ∀ a0 k, LeO (names_Is.f k a0) (names_Is.f (k + 1) a0) := by
  intro a0 k
  unfold names_Is.f
  repeat' first
    | exact LeO.refl _
    | refine LeO.ite ?_ ?_
    | refine LeO.bind (names_Keyword.mono a0 k) (fun _ => ?_)
theorem names_Is.bad {s : ByteArray} {i : Nat} (hi : i < s.size) (h : names_Is.ok i (bt s i).toNat = false) : names_Is.body s = false := by
  rw [Bool.eq_false_iff]
  intro hb
  have := List.all_eq_true.1 hb i (List.mem_range.2 hi)
  rw [h] at this
  cases this
theorem names_Is.good {s : ByteArray} (h : ∀ j, j < s.size → names_Is.ok j (bt s j).toNat = true) : names_Is.body s = true :=
  List.all_eq_true.2 fun j hj => h j (List.mem_range.1 hj)
theorem names_Is.below_iter {w : World} (m : Nat) (s : ByteArray) (p : Nat) : Below w.heap.size w ((w.drewN m).iter s p) := (pw_below_drewN (Below.refl _ w) m).alloc (Nat.le_refl _) _
set_option maxHeartbeats 2000000 in
set_option maxRecDepth 100000 in
theorem names_Is.calls (k : Nat) (a0 : ByteArray) (r : Bool) (w : World) (h : names_Is.f k a0 = some r) :
    Calls Try.prog 106 #[.string a0] w fun e w' => e = .returned (.bool r) ∧ Below w.heap.size w w' := by
  unfold names_Is.f at h
  have hlen := Go.Proofs.Ytoeioigpkfgppaa.XBytes.tl_length a0
  by_cases h0 : a0.size = 0
  · rw [if_pos h0] at h
    have H := Option.some.inj h
    subst H
    have e0 : a0.toList = [] := List.length_eq_zero_iff.1 (hlen.trans h0)
    clear h hlen
    go_enter Try.func106, Try.ntmps106
    go_wp2
    go_ret
    exact ⟨rfl, Below.refl _ _⟩
  · rw [if_neg h0] at h
    have e0 : a0.toList.isEmpty = false := by
      cases hl : a0.toList with
      | nil => rw [hl] at hlen; exact absurd hlen.symm h0
      | cons => rfl
    have e1 : ¬ (a0.toList = []) := fun e => by rw [e] at e0; cases e0
    clear hlen
    by_cases h12 : 12 < a0.size
    · rw [if_pos h12] at h
      have H := Option.some.inj h
      subst H
      have h12' : decide ((12 : Int) < (a0.size : Int)) = true := decide_eq_true (by omega)
      clear h
      go_enter Try.func106, Try.ntmps106
      go_wp2
      go_ret
      exact ⟨rfl, Below.refl _ _⟩
    · rw [if_neg h12] at h
      have h12' : decide ((12 : Int) < (a0.size : Int)) = false := decide_eq_false (by omega)
      cases hk : names_Keyword.f k a0 with
      | none => rw [hk] at h; cases h
      | some b =>
        rw [hk, Option.bind_some] at h
        have HK := Aside0.mk hk
        clear hk
        cases b with
        | true =>
          have H := Option.some.inj h
          subst H
          clear h
          go_enter Try.func106, Try.ntmps106
          go_wp2_with (go_at_call 116; refine (names_Keyword.calls k a0 true _ HK.out).mono ?_; rintro e w' ⟨rfl, hd⟩)
          go_ret
          exact ⟨rfl, hd.below⟩
        | false =>
          have H := Option.some.inj h
          have HH := Aside0.mk H
          clear h H
          go_enter Try.func106, Try.ntmps106
          go_wp2_with (go_at_call 116; refine (names_Keyword.calls k a0 false _ HK.out).mono ?_; rintro e w' ⟨rfl, ⟨m, rfl⟩⟩)
          go_loopg [] a0.size (fun kq wr => ∃ pos : Nat, Aside0 (pos ≤ a0.size) ∧ Aside0 (a0.size - pos = kq) ∧ wr = (w.drewN m).iter a0 pos ∧ Aside0 (∀ j : Nat, j < pos → names_Is.ok j (bt a0 j).toNat = true))
          case atStart => exact ⟨0, ⟨Nat.zero_le _⟩, ⟨rfl⟩, rfl, ⟨fun j hj => absurd hj (Nat.not_lt_zero _)⟩⟩
          case round =>
            obtain ⟨pos, HP, HK, rfl, HG⟩ := hrel
            by_cases hp : pos < a0.size
            · have hbt : (bt a0 (pos : Int)).toNat = (a0[pos]'hp).toNat := by simp [bt, hp]
              have HBT := Aside0.mk hbt
              clear hbt
              by_cases hasc : (a0[pos]'hp).toNat < 128
              · have hnx : ∀ ty, (Instr.next (.pointer (some ⟨w.heap.size, 0, none⟩)) true ty).run Try.prog ((w.drewN m).iter a0 pos) = _ := fun ty => run_next_ascii (w.drewN m) a0 pos ty hp hasc
                generalize (a0[pos]'hp).toNat = c at hnx HBT hasc
                by_cases hL : 97 ≤ c ∧ c ≤ 122
                · obtain ⟨l1, l2⟩ := hL
                  have g1 : decide ((97 : Int) ≤ (c : Int)) = true := decide_eq_true (by omega)
                  have g2 : decide ((c : Int) ≤ 122) = true := decide_eq_true (by omega)
                  go_wp2
                  go_roundg (a0.size - (pos + 1))
                  case measure => have := HK.out; omega
                  case rel =>
                    refine ⟨pos + 1, ⟨by omega⟩, ⟨rfl⟩, rfl, ⟨fun j hj => ?_⟩⟩
                    by_cases e : j = pos
                    · rw [e, HBT.out]; unfold names_Is.ok; first | (simp; done) | (simp; omega)
                    · exact HG.out j (by omega)
                · skip
                  by_cases r0 : c ≤ 47
                  · by_cases hz : pos = 0
                    · have g1 : decide ((97 : Int) ≤ (c : Int)) = false := decide_eq_false (by omega)
                      have g2 : decide ((c : Int) ≤ 122) = true := decide_eq_true (by omega)
                      have g3 : decide ((48 : Int) ≤ (c : Int)) = false := decide_eq_false (by omega)
                      have g4 : decide ((c : Int) ≤ 57) = true := decide_eq_true (by omega)
                      have g5 : ((c : Int) == 95) = false := beq_eq_false_iff_ne.mpr (by omega)
                      have g6 : ((pos : Int) == 0) = true := beq_iff_eq.mpr (by omega)
                      have HZ := Aside0.mk hz
                      clear hz
                      go_wp2
                      go_ret
                      refine ⟨?_, names_Is.below_iter m a0 _⟩
                      rw [← HH.out, names_Is.bad hp (by have hz := HZ.out; rw [HBT.out]; unfold names_Is.ok; first | (simp; done) | (simp; omega))]
                      rfl
                    · have g1 : decide ((97 : Int) ≤ (c : Int)) = false := decide_eq_false (by omega)
                      have g2 : decide ((c : Int) ≤ 122) = true := decide_eq_true (by omega)
                      have g3 : decide ((48 : Int) ≤ (c : Int)) = false := decide_eq_false (by omega)
                      have g4 : decide ((c : Int) ≤ 57) = true := decide_eq_true (by omega)
                      have g5 : ((c : Int) == 95) = false := beq_eq_false_iff_ne.mpr (by omega)
                      have g6 : ((pos : Int) == 0) = false := beq_eq_false_iff_ne.mpr (by omega)
                      go_wp2
                      go_ret
                      refine ⟨?_, names_Is.below_iter m a0 _⟩
                      rw [← HH.out, names_Is.bad hp (by rw [HBT.out]; unfold names_Is.ok; first | (simp; done) | (simp; omega))]
                      rfl
                  · skip
                    by_cases r1 : c ≤ 57
                    · by_cases hz : pos = 0
                      · have g1 : decide ((97 : Int) ≤ (c : Int)) = false := decide_eq_false (by omega)
                        have g2 : decide ((c : Int) ≤ 122) = true := decide_eq_true (by omega)
                        have g3 : decide ((48 : Int) ≤ (c : Int)) = true := decide_eq_true (by omega)
                        have g4 : decide ((c : Int) ≤ 57) = true := decide_eq_true (by omega)
                        have g5 : ((c : Int) == 95) = false := beq_eq_false_iff_ne.mpr (by omega)
                        have g6 : ((pos : Int) == 0) = true := beq_iff_eq.mpr (by omega)
                        have HZ := Aside0.mk hz
                        clear hz
                        go_wp2
                        go_ret
                        refine ⟨?_, names_Is.below_iter m a0 _⟩
                        rw [← HH.out, names_Is.bad hp (by have hz := HZ.out; rw [HBT.out]; unfold names_Is.ok; first | (simp; done) | (simp; omega))]
                        rfl
                      · have g1 : decide ((97 : Int) ≤ (c : Int)) = false := decide_eq_false (by omega)
                        have g2 : decide ((c : Int) ≤ 122) = true := decide_eq_true (by omega)
                        have g3 : decide ((48 : Int) ≤ (c : Int)) = true := decide_eq_true (by omega)
                        have g4 : decide ((c : Int) ≤ 57) = true := decide_eq_true (by omega)
                        have g5 : ((c : Int) == 95) = false := beq_eq_false_iff_ne.mpr (by omega)
                        have g6 : ((pos : Int) == 0) = false := beq_eq_false_iff_ne.mpr (by omega)
                        go_wp2
                        go_roundg (a0.size - (pos + 1))
                        case measure => have := HK.out; omega
                        case rel =>
                          refine ⟨pos + 1, ⟨by omega⟩, ⟨rfl⟩, rfl, ⟨fun j hj => ?_⟩⟩
                          by_cases e : j = pos
                          · rw [e, HBT.out]; unfold names_Is.ok; first | (simp; done) | (simp; omega)
                          · exact HG.out j (by omega)
                    · skip
                      by_cases r2 : c ≤ 94
                      · by_cases hz : pos = 0
                        · have g1 : decide ((97 : Int) ≤ (c : Int)) = false := decide_eq_false (by omega)
                          have g2 : decide ((c : Int) ≤ 122) = true := decide_eq_true (by omega)
                          have g3 : decide ((48 : Int) ≤ (c : Int)) = true := decide_eq_true (by omega)
                          have g4 : decide ((c : Int) ≤ 57) = false := decide_eq_false (by omega)
                          have g5 : ((c : Int) == 95) = false := beq_eq_false_iff_ne.mpr (by omega)
                          have g6 : ((pos : Int) == 0) = true := beq_iff_eq.mpr (by omega)
                          have HZ := Aside0.mk hz
                          clear hz
                          go_wp2
                          go_ret
                          refine ⟨?_, names_Is.below_iter m a0 _⟩
                          rw [← HH.out, names_Is.bad hp (by have hz := HZ.out; rw [HBT.out]; unfold names_Is.ok; first | (simp; done) | (simp; omega))]
                          rfl
                        · have g1 : decide ((97 : Int) ≤ (c : Int)) = false := decide_eq_false (by omega)
                          have g2 : decide ((c : Int) ≤ 122) = true := decide_eq_true (by omega)
                          have g3 : decide ((48 : Int) ≤ (c : Int)) = true := decide_eq_true (by omega)
                          have g4 : decide ((c : Int) ≤ 57) = false := decide_eq_false (by omega)
                          have g5 : ((c : Int) == 95) = false := beq_eq_false_iff_ne.mpr (by omega)
                          have g6 : ((pos : Int) == 0) = false := beq_eq_false_iff_ne.mpr (by omega)
                          go_wp2
                          go_ret
                          refine ⟨?_, names_Is.below_iter m a0 _⟩
                          rw [← HH.out, names_Is.bad hp (by rw [HBT.out]; unfold names_Is.ok; first | (simp; done) | (simp; omega))]
                          rfl
                      · skip
                        by_cases r3 : c ≤ 95
                        · obtain rfl : c = 95 := by omega
                          by_cases hz : pos = 0
                          · have g1 : decide ((97 : Int) ≤ (95 : Int)) = false := decide_eq_false (by omega)
                            have g2 : decide ((95 : Int) ≤ 122) = true := decide_eq_true (by omega)
                            have g3 : decide ((48 : Int) ≤ (95 : Int)) = true := decide_eq_true (by omega)
                            have g4 : decide ((95 : Int) ≤ 57) = false := decide_eq_false (by omega)
                            have g5 : ((95 : Int) == 95) = true := beq_iff_eq.mpr (by omega)
                            have g6 : ((pos : Int) == 0) = true := beq_iff_eq.mpr (by omega)
                            have HZ := Aside0.mk hz
                            clear hz
                            go_wp2
                            go_ret
                            refine ⟨?_, names_Is.below_iter m a0 _⟩
                            rw [← HH.out, names_Is.bad hp (by have hz := HZ.out; rw [HBT.out]; unfold names_Is.ok; first | (simp; done) | (simp; omega))]
                            rfl
                          · have g1 : decide ((97 : Int) ≤ (95 : Int)) = false := decide_eq_false (by omega)
                            have g2 : decide ((95 : Int) ≤ 122) = true := decide_eq_true (by omega)
                            have g3 : decide ((48 : Int) ≤ (95 : Int)) = true := decide_eq_true (by omega)
                            have g4 : decide ((95 : Int) ≤ 57) = false := decide_eq_false (by omega)
                            have g5 : ((95 : Int) == 95) = true := beq_iff_eq.mpr (by omega)
                            have g6 : ((pos : Int) == 0) = false := beq_eq_false_iff_ne.mpr (by omega)
                            go_wp2
                            go_roundg (a0.size - (pos + 1))
                            case measure => have := HK.out; omega
                            case rel =>
                              refine ⟨pos + 1, ⟨by omega⟩, ⟨rfl⟩, rfl, ⟨fun j hj => ?_⟩⟩
                              by_cases e : j = pos
                              · rw [e, HBT.out]; unfold names_Is.ok; first | (simp; done) | (simp; omega)
                              · exact HG.out j (by omega)
                        · skip
                          by_cases r4 : c ≤ 96
                          · obtain rfl : c = 96 := by omega
                            by_cases hz : pos = 0
                            · have g1 : decide ((97 : Int) ≤ (96 : Int)) = false := decide_eq_false (by omega)
                              have g2 : decide ((96 : Int) ≤ 122) = true := decide_eq_true (by omega)
                              have g3 : decide ((48 : Int) ≤ (96 : Int)) = true := decide_eq_true (by omega)
                              have g4 : decide ((96 : Int) ≤ 57) = false := decide_eq_false (by omega)
                              have g5 : ((96 : Int) == 95) = false := beq_eq_false_iff_ne.mpr (by omega)
                              have g6 : ((pos : Int) == 0) = true := beq_iff_eq.mpr (by omega)
                              have HZ := Aside0.mk hz
                              clear hz
                              go_wp2
                              go_ret
                              refine ⟨?_, names_Is.below_iter m a0 _⟩
                              rw [← HH.out, names_Is.bad hp (by have hz := HZ.out; rw [HBT.out]; unfold names_Is.ok; first | (simp; done) | (simp; omega))]
                              rfl
                            · have g1 : decide ((97 : Int) ≤ (96 : Int)) = false := decide_eq_false (by omega)
                              have g2 : decide ((96 : Int) ≤ 122) = true := decide_eq_true (by omega)
                              have g3 : decide ((48 : Int) ≤ (96 : Int)) = true := decide_eq_true (by omega)
                              have g4 : decide ((96 : Int) ≤ 57) = false := decide_eq_false (by omega)
                              have g5 : ((96 : Int) == 95) = false := beq_eq_false_iff_ne.mpr (by omega)
                              have g6 : ((pos : Int) == 0) = false := beq_eq_false_iff_ne.mpr (by omega)
                              go_wp2
                              go_ret
                              refine ⟨?_, names_Is.below_iter m a0 _⟩
                              rw [← HH.out, names_Is.bad hp (by rw [HBT.out]; unfold names_Is.ok; first | (simp; done) | (simp; omega))]
                              rfl
                          · skip
                            by_cases hz : pos = 0
                            · have g1 : decide ((97 : Int) ≤ (c : Int)) = true := decide_eq_true (by omega)
                              have g2 : decide ((c : Int) ≤ 122) = false := decide_eq_false (by omega)
                              have g3 : decide ((48 : Int) ≤ (c : Int)) = true := decide_eq_true (by omega)
                              have g4 : decide ((c : Int) ≤ 57) = false := decide_eq_false (by omega)
                              have g5 : ((c : Int) == 95) = false := beq_eq_false_iff_ne.mpr (by omega)
                              have g6 : ((pos : Int) == 0) = true := beq_iff_eq.mpr (by omega)
                              have HZ := Aside0.mk hz
                              clear hz
                              go_wp2
                              go_ret
                              refine ⟨?_, names_Is.below_iter m a0 _⟩
                              rw [← HH.out, names_Is.bad hp (by have hz := HZ.out; rw [HBT.out]; unfold names_Is.ok; first | (simp; done) | (simp; omega))]
                              rfl
                            · have g1 : decide ((97 : Int) ≤ (c : Int)) = true := decide_eq_true (by omega)
                              have g2 : decide ((c : Int) ≤ 122) = false := decide_eq_false (by omega)
                              have g3 : decide ((48 : Int) ≤ (c : Int)) = true := decide_eq_true (by omega)
                              have g4 : decide ((c : Int) ≤ 57) = false := decide_eq_false (by omega)
                              have g5 : ((c : Int) == 95) = false := beq_eq_false_iff_ne.mpr (by omega)
                              have g6 : ((pos : Int) == 0) = false := beq_eq_false_iff_ne.mpr (by omega)
                              go_wp2
                              go_ret
                              refine ⟨?_, names_Is.below_iter m a0 _⟩
                              rw [← HH.out, names_Is.bad hp (by rw [HBT.out]; unfold names_Is.ok; first | (simp; done) | (simp; omega))]
                              rfl
              · have hnx : ∀ ty, (Instr.next (.pointer (some ⟨w.heap.size, 0, none⟩)) true ty).run Try.prog ((w.drewN m).iter a0 pos) = _ := fun ty => run_next_any (w.drewN m) a0 pos ty hp
                obtain ⟨hd1, -⟩ := decode_high a0 pos hp (by omega)
                generalize (Utf8.decode a0 pos).1 = c at hnx hd1
                generalize (Utf8.decode a0 pos).2 = c2 at hnx
                generalize (a0[pos]'hp).toNat = cb at HBT hasc
                by_cases hz : pos = 0
                · have g1 : decide ((97 : Int) ≤ (c : Int)) = true := decide_eq_true (by omega)
                  have g2 : decide ((c : Int) ≤ 122) = false := decide_eq_false (by omega)
                  have g3 : decide ((48 : Int) ≤ (c : Int)) = true := decide_eq_true (by omega)
                  have g4 : decide ((c : Int) ≤ 57) = false := decide_eq_false (by omega)
                  have g5 : ((c : Int) == 95) = false := beq_eq_false_iff_ne.mpr (by omega)
                  have g6 : ((pos : Int) == 0) = true := beq_iff_eq.mpr (by omega)
                  have HZ := Aside0.mk hz
                  clear hz
                  go_wp2
                  go_ret
                  refine ⟨?_, names_Is.below_iter m a0 _⟩
                  rw [← HH.out, names_Is.bad hp (by have hz := HZ.out; rw [HBT.out]; unfold names_Is.ok; first | (simp; done) | (simp; omega))]
                  rfl
                · have g1 : decide ((97 : Int) ≤ (c : Int)) = true := decide_eq_true (by omega)
                  have g2 : decide ((c : Int) ≤ 122) = false := decide_eq_false (by omega)
                  have g3 : decide ((48 : Int) ≤ (c : Int)) = true := decide_eq_true (by omega)
                  have g4 : decide ((c : Int) ≤ 57) = false := decide_eq_false (by omega)
                  have g5 : ((c : Int) == 95) = false := beq_eq_false_iff_ne.mpr (by omega)
                  have g6 : ((pos : Int) == 0) = false := beq_eq_false_iff_ne.mpr (by omega)
                  go_wp2
                  go_ret
                  refine ⟨?_, names_Is.below_iter m a0 _⟩
                  rw [← HH.out, names_Is.bad hp (by rw [HBT.out]; unfold names_Is.ok; first | (simp; done) | (simp; omega))]
                  rfl
            · have hnx : ∀ ty, (Instr.next (.pointer (some ⟨w.heap.size, 0, none⟩)) true ty).run Try.prog ((w.drewN m).iter a0 pos) = _ := fun ty => run_next_end (w.drewN m) a0 pos ty hp
              go_wp2
              go_ret
              refine ⟨?_, names_Is.below_iter m a0 _⟩
              rw [← HH.out, names_Is.good (fun j hj => HG.out j (by omega))]
              rfl


/-! ### term_may: function 88 -/
def term_may.f (k : Nat) (a0_0 : Int) (a0_1 : Int) (a0_2 : ByteArray) : Option (Bool) := if a0_0 = 1 then (if a0_1 ≥ 0 then (if a0_1 ≤ 1000000 then (some (a0_2.toList == ([] : List UInt8))) else (some false)) else (some false)) else (if a0_0 = 2 then (if a0_1 = 0 then ((names_Is.f k a0_2).bind fun t111 => (some t111)) else (some false)) else (if a0_0 = 11 then (if a0_1 = 0 then ((names_Is.f k a0_2).bind fun t112 => (some t112)) else (some false)) else (some (a0_1 == 0 && (a0_2.toList == ([] : List UInt8))))))
theorem term_may.mono : ∀ a0 a1 a2 k, LeO (term_may.f k a0 a1 a2) (term_may.f (k + 1) a0 a1 a2) := by
  intro a0 a1 a2 k
  unfold term_may.f
  repeat' first
      | (with_reducible exact names_Is.mono _ _)
      | (with_reducible exact LeO.refl _)
      | (with_reducible exact LeO.none _)
      | (with_reducible refine LeO.ite ?_ ?_)
      | (with_reducible refine LeO.bind ?_ (fun _ => ?_))
      | exact names_Is.mono _ _
      | exact LeO.none _
      | refine LeO.ite ?_ ?_
      | refine LeO.bind ?_ (fun _ => ?_)
theorem bz5_ {W W2 w : World} (_ : Below W.heap.size W W2) (h : Below w.heap.size w W) : Below w.heap.size w W := h
set_option maxHeartbeats 8000000 in
set_option maxRecDepth 100000 in
theorem term_may.calls (k : Nat) (a0_0 : Int) (a0_1 : Int) (a0_2 : ByteArray) (r : Bool) (w : World) (h : term_may.f k a0_0 a0_1 a0_2 = some r) :
  Calls Try.prog 88 #[.agg #[.int .i64 a0_0, .int .i64 a0_1, .string a0_2]] w fun e w' => e = .returned (.bool r) ∧ Below w.heap.size w w' := by
 have hu47 := Try.underlying47
 have HB := Aside0.mk (Below.refl w.heap.size w)
 have H : (if a0_0 = 1 then (if a0_1 ≥ 0 then (if a0_1 ≤ 1000000 then (some (a0_2.toList == ([] : List UInt8))) else (some false)) else (some false)) else (if a0_0 = 2 then (if a0_1 = 0 then ((names_Is.f k a0_2).bind fun t111 => (some t111)) else (some false)) else (if a0_0 = 11 then (if a0_1 = 0 then ((names_Is.f k a0_2).bind fun t112 => (some t112)) else (some false)) else (some (a0_1 == 0 && (a0_2.toList == ([] : List UInt8))))))) = some r := h
 clear h
 by_cases c2 : a0_0 = 1
 ·rw [if_pos c2] at H
  have c2b0 : (a0_0 == 1) = true := beq_iff_eq.mpr c2
  have c2b1 : (a0_0 != 1) = false := bne_eq_false_iff_eq.mpr c2
  clear c2
  by_cases c3 : a0_1 ≥ 0
  rotate_left
  ·rw [if_neg c3] at H
   have c3b0 : decide (0 ≤ a0_1) = false := decide_eq_false c3
   clear c3
   obtain rfl := Option.some.inj H
   go_enter Try.func88, Try.ntmps88
   go_wp2_with (first | ((with_reducible refine gate_dst (N := 1) rfl ?_); refine box_event ?hg (N := 1) ?hd (cs := #[.int .i64 a0_0, .int .i64 a0_1, .string a0_2]) (t := 47) ?hr ?_; (case hd => rfl); (case hg => rfl); (case hr => first | (go_simp; done) | (go_simp; rfl)); intro gb110 hg w9 hbox hb; have hB_ := bz5_ hb (brw HB.out); have n0_ := Aside0.mk (below_step hB_ hb); have n1_ := Aside0.mk (hbox); have n2_ := Aside0.mk ((by rw [hg]; exact (below_size hB_) : w.heap.size ≤ gb110)); have n3_ := Aside0.mk ((by rw [hg]; exact (below_size hB_) : w.heap.size ≤ gb110)); clear HB; have HB := n0_; have BK110 := n1_; have GW110 := n2_; have GE110 := n3_; clear n0_ n1_ n2_ n3_; clear hb hbox hg; obtain ⟨hcz10_0, hcz10_1, hcz10_2⟩ := cz3_ BK110.out; obtain ⟨hfz10_0, hfz10_1, hfz10_2⟩ := cf3_ BK110.out))
   go_ret
   exact ⟨by first | rfl | (simp [errW_none, errW_some] <;> rfl) | (simp [*, errW_none, errW_some] <;> rfl), by repeat (first | (with_reducible first | exact HB.out | apply below_alloc | apply pw_below_drewN | apply below_drew1 | refine below_set ?_ GE110.out) | exact HB.out)⟩
  rw [if_pos c3] at H
  have c3b0 : decide (0 ≤ a0_1) = true := decide_eq_true c3
  clear c3
  by_cases c4 : a0_1 ≤ 1000000
  ·rw [if_pos c4] at H
   have c4b0 : decide (a0_1 ≤ 1000000) = true := decide_eq_true c4
   clear c4
   obtain rfl := Option.some.inj H
   go_enter Try.func88, Try.ntmps88
   go_wp2_with (first | ((with_reducible refine gate_dst (N := 1) rfl ?_); refine box_event ?hg (N := 1) ?hd (cs := #[.int .i64 a0_0, .int .i64 a0_1, .string a0_2]) (t := 47) ?hr ?_; (case hd => rfl); (case hg => rfl); (case hr => first | (go_simp; done) | (go_simp; rfl)); intro gb110 hg w5 hbox hb; have hB_ := bz5_ hb (brw HB.out); have n0_ := Aside0.mk (below_step hB_ hb); have n1_ := Aside0.mk (hbox); have n2_ := Aside0.mk ((by rw [hg]; exact (below_size hB_) : w.heap.size ≤ gb110)); have n3_ := Aside0.mk ((by rw [hg]; exact (below_size hB_) : w.heap.size ≤ gb110)); clear HB; have HB := n0_; have BK110 := n1_; have GW110 := n2_; have GE110 := n3_; clear n0_ n1_ n2_ n3_; clear hb hbox hg; obtain ⟨hcz6_0, hcz6_1, hcz6_2⟩ := cz3_ BK110.out; obtain ⟨hfz6_0, hfz6_1, hfz6_2⟩ := cf3_ BK110.out))
   go_ret
   exact ⟨by first | rfl | (simp [errW_none, errW_some] <;> rfl) | (simp [*, errW_none, errW_some] <;> rfl), by repeat (first | (with_reducible first | exact HB.out | apply below_alloc | apply pw_below_drewN | apply below_drew1 | refine below_set ?_ GE110.out) | exact HB.out)⟩
  rw [if_neg c4] at H
  have c4b0 : decide (a0_1 ≤ 1000000) = false := decide_eq_false c4
  clear c4
  obtain rfl := Option.some.inj H
  go_enter Try.func88, Try.ntmps88
  go_wp2_with (first | ((with_reducible refine gate_dst (N := 1) rfl ?_); refine box_event ?hg (N := 1) ?hd (cs := #[.int .i64 a0_0, .int .i64 a0_1, .string a0_2]) (t := 47) ?hr ?_; (case hd => rfl); (case hg => rfl); (case hr => first | (go_simp; done) | (go_simp; rfl)); intro gb110 hg w7 hbox hb; have hB_ := bz5_ hb (brw HB.out); have n0_ := Aside0.mk (below_step hB_ hb); have n1_ := Aside0.mk (hbox); have n2_ := Aside0.mk ((by rw [hg]; exact (below_size hB_) : w.heap.size ≤ gb110)); have n3_ := Aside0.mk ((by rw [hg]; exact (below_size hB_) : w.heap.size ≤ gb110)); clear HB; have HB := n0_; have BK110 := n1_; have GW110 := n2_; have GE110 := n3_; clear n0_ n1_ n2_ n3_; clear hb hbox hg; obtain ⟨hcz8_0, hcz8_1, hcz8_2⟩ := cz3_ BK110.out; obtain ⟨hfz8_0, hfz8_1, hfz8_2⟩ := cf3_ BK110.out))
  go_ret
  exact ⟨by first | rfl | (simp [errW_none, errW_some] <;> rfl) | (simp [*, errW_none, errW_some] <;> rfl), by repeat (first | (with_reducible first | exact HB.out | apply below_alloc | apply pw_below_drewN | apply below_drew1 | refine below_set ?_ GE110.out) | exact HB.out)⟩
 rw [if_neg c2] at H
 have c2b0 : (a0_0 == 1) = false := beq_eq_false_iff_ne.mpr c2
 have c2b1 : (a0_0 != 1) = true := bne_iff_ne.mpr c2
 by_cases c11 : a0_0 = 2
 ·rw [if_pos c11] at H
  have c11b0 : (a0_0 == 2) = true := beq_iff_eq.mpr c11
  have c11b1 : (a0_0 != 2) = false := bne_eq_false_iff_eq.mpr c11
  clear c11
  by_cases c12 : a0_1 = 0
  rotate_left
  ·rw [if_neg c12] at H
   have c12b0 : (a0_1 == 0) = false := beq_eq_false_iff_ne.mpr c12
   have c12b1 : (a0_1 != 0) = true := bne_iff_ne.mpr c12
   obtain rfl := Option.some.inj H
   go_enter Try.func88, Try.ntmps88
   go_wp2_with (first | ((with_reducible refine gate_dst (N := 1) rfl ?_); refine box_event ?hg (N := 1) ?hd (cs := #[.int .i64 a0_0, .int .i64 a0_1, .string a0_2]) (t := 47) ?hr ?_; (case hd => rfl); (case hg => rfl); (case hr => first | (go_simp; done) | (go_simp; rfl)); intro gb110 hg w17 hbox hb; have hB_ := bz5_ hb (brw HB.out); have n0_ := Aside0.mk (below_step hB_ hb); have n1_ := Aside0.mk (hbox); have n2_ := Aside0.mk ((by rw [hg]; exact (below_size hB_) : w.heap.size ≤ gb110)); have n3_ := Aside0.mk ((by rw [hg]; exact (below_size hB_) : w.heap.size ≤ gb110)); clear HB; have HB := n0_; have BK110 := n1_; have GW110 := n2_; have GE110 := n3_; clear n0_ n1_ n2_ n3_; clear hb hbox hg; obtain ⟨hcz18_0, hcz18_1, hcz18_2⟩ := cz3_ BK110.out; obtain ⟨hfz18_0, hfz18_1, hfz18_2⟩ := cf3_ BK110.out))
   go_ret
   exact ⟨by first | rfl | (simp [errW_none, errW_some] <;> rfl) | (simp [*, errW_none, errW_some] <;> rfl), by repeat (first | (with_reducible first | exact HB.out | apply below_alloc | apply pw_below_drewN | apply below_drew1 | refine below_set ?_ GE110.out) | exact HB.out)⟩
  rw [if_pos c12] at H
  have c12b0 : (a0_1 == 0) = true := beq_iff_eq.mpr c12
  have c12b1 : (a0_1 != 0) = false := bne_eq_false_iff_eq.mpr c12
  clear c12
  replace H := Option.bind_eq_some_iff.mp H
  obtain ⟨t111, A130, H⟩ := H
  replace H : (some t111) = some r := H
  have A13 := Aside0.mk A130
  clear A130
  obtain rfl := Option.some.inj H
  go_enter Try.func88, Try.ntmps88
  go_wp2_with (first | ((with_reducible refine gate_dst (N := 1) rfl ?_); refine box_event ?hg (N := 1) ?hd (cs := #[.int .i64 a0_0, .int .i64 a0_1, .string a0_2]) (t := 47) ?hr ?_; (case hd => rfl); (case hg => rfl); (case hr => first | (go_simp; done) | (go_simp; rfl)); intro gb110 hg w14 hbox hb; have hB_ := bz5_ hb (brw HB.out); have n0_ := Aside0.mk (below_step hB_ hb); have n1_ := Aside0.mk (hbox); have n2_ := Aside0.mk ((by rw [hg]; exact (below_size hB_) : w.heap.size ≤ gb110)); have n3_ := Aside0.mk ((by rw [hg]; exact (below_size hB_) : w.heap.size ≤ gb110)); clear HB; have HB := n0_; have BK110 := n1_; have GW110 := n2_; have GE110 := n3_; clear n0_ n1_ n2_ n3_; clear hb hbox hg; obtain ⟨hcz15_0, hcz15_1, hcz15_2⟩ := cz3_ BK110.out; obtain ⟨hfz15_0, hfz15_1, hfz15_2⟩ := cf3_ BK110.out) | (go_at_call 106; (with_reducible refine (names_Is.calls k a0_2 t111 _ A13.out).mono ?_); rintro e w16 ⟨rfl, hb⟩; have n0_ := Aside0.mk (blk_below (grw BK110.out) hb); have n1_ := Aside0.mk (below_step (by repeat (first | (with_reducible first | exact HB.out | apply below_alloc | apply pw_below_drewN | apply below_drew1 | refine below_set ?_ GE110.out) | exact HB.out)) hb); clear BK110; clear HB; have BK110 := n0_; have HB := n1_; clear n0_ n1_; (try clear hb); (try clear hb2); (try clear hk); (try clear hi)))
  go_ret
  exact ⟨by first | rfl | (simp [errW_none, errW_some] <;> rfl) | (simp [*, errW_none, errW_some] <;> rfl), by repeat (first | (with_reducible first | exact HB.out | apply below_alloc | apply pw_below_drewN | apply below_drew1 | refine below_set ?_ GE110.out) | exact HB.out)⟩
 rw [if_neg c11] at H
 have c11b0 : (a0_0 == 2) = false := beq_eq_false_iff_ne.mpr c11
 have c11b1 : (a0_0 != 2) = true := bne_iff_ne.mpr c11
 by_cases c19 : a0_0 = 11
 rotate_left
 ·rw [if_neg c19] at H
  have c19b0 : (a0_0 == 11) = false := beq_eq_false_iff_ne.mpr c19
  have c19b1 : (a0_0 != 11) = true := bne_iff_ne.mpr c19
  obtain rfl := Option.some.inj H
  go_enter Try.func88, Try.ntmps88
  go_wp2_with (first | ((with_reducible refine gate_dst (N := 1) rfl ?_); refine box_event ?hg (N := 1) ?hd (cs := #[.int .i64 a0_0, .int .i64 a0_1, .string a0_2]) (t := 47) ?hr ?_; (case hd => rfl); (case hg => rfl); (case hr => first | (go_simp; done) | (go_simp; rfl)); intro gb110 hg w27 hbox hb; have hB_ := bz5_ hb (brw HB.out); have n0_ := Aside0.mk (below_step hB_ hb); have n1_ := Aside0.mk (hbox); have n2_ := Aside0.mk ((by rw [hg]; exact (below_size hB_) : w.heap.size ≤ gb110)); have n3_ := Aside0.mk ((by rw [hg]; exact (below_size hB_) : w.heap.size ≤ gb110)); clear HB; have HB := n0_; have BK110 := n1_; have GW110 := n2_; have GE110 := n3_; clear n0_ n1_ n2_ n3_; clear hb hbox hg; obtain ⟨hcz28_0, hcz28_1, hcz28_2⟩ := cz3_ BK110.out; obtain ⟨hfz28_0, hfz28_1, hfz28_2⟩ := cf3_ BK110.out))
  go_ret
  exact ⟨by first | rfl | (simp [errW_none, errW_some] <;> rfl) | (simp [*, errW_none, errW_some] <;> rfl), by repeat (first | (with_reducible first | exact HB.out | apply below_alloc | apply pw_below_drewN | apply below_drew1 | refine below_set ?_ GE110.out) | exact HB.out)⟩

 rw [if_pos c19] at H
 have c19b0 : (a0_0 == 11) = true := beq_iff_eq.mpr c19
 have c19b1 : (a0_0 != 11) = false := bne_eq_false_iff_eq.mpr c19
 clear c19
 by_cases c20 : a0_1 = 0
 rotate_left
 ·rw [if_neg c20] at H
  have c20b0 : (a0_1 == 0) = false := beq_eq_false_iff_ne.mpr c20
  have c20b1 : (a0_1 != 0) = true := bne_iff_ne.mpr c20
  obtain rfl := Option.some.inj H
  go_enter Try.func88, Try.ntmps88
  go_wp2_with (first | ((with_reducible refine gate_dst (N := 1) rfl ?_); refine box_event ?hg (N := 1) ?hd (cs := #[.int .i64 a0_0, .int .i64 a0_1, .string a0_2]) (t := 47) ?hr ?_; (case hd => rfl); (case hg => rfl); (case hr => first | (go_simp; done) | (go_simp; rfl)); intro gb110 hg w25 hbox hb; have hB_ := bz5_ hb (brw HB.out); have n0_ := Aside0.mk (below_step hB_ hb); have n1_ := Aside0.mk (hbox); have n2_ := Aside0.mk ((by rw [hg]; exact (below_size hB_) : w.heap.size ≤ gb110)); have n3_ := Aside0.mk ((by rw [hg]; exact (below_size hB_) : w.heap.size ≤ gb110)); clear HB; have HB := n0_; have BK110 := n1_; have GW110 := n2_; have GE110 := n3_; clear n0_ n1_ n2_ n3_; clear hb hbox hg; obtain ⟨hcz26_0, hcz26_1, hcz26_2⟩ := cz3_ BK110.out; obtain ⟨hfz26_0, hfz26_1, hfz26_2⟩ := cf3_ BK110.out))
  go_ret
  exact ⟨by first | rfl | (simp [errW_none, errW_some] <;> rfl) | (simp [*, errW_none, errW_some] <;> rfl), by repeat (first | (with_reducible first | exact HB.out | apply below_alloc | apply pw_below_drewN | apply below_drew1 | refine below_set ?_ GE110.out) | exact HB.out)⟩
 rw [if_pos c20] at H
 have c20b0 : (a0_1 == 0) = true := beq_iff_eq.mpr c20
 have c20b1 : (a0_1 != 0) = false := bne_eq_false_iff_eq.mpr c20
 clear c20
 replace H := Option.bind_eq_some_iff.mp H
 obtain ⟨t112, A210, H⟩ := H
 replace H : (some t112) = some r := H
 have A21 := Aside0.mk A210
 clear A210
 obtain rfl := Option.some.inj H
 go_enter Try.func88, Try.ntmps88
 go_wp2_with (first | ((with_reducible refine gate_dst (N := 1) rfl ?_); refine box_event ?hg (N := 1) ?hd (cs := #[.int .i64 a0_0, .int .i64 a0_1, .string a0_2]) (t := 47) ?hr ?_; (case hd => rfl); (case hg => rfl); (case hr => first | (go_simp; done) | (go_simp; rfl)); intro gb110 hg w22 hbox hb; have hB_ := bz5_ hb (brw HB.out); have n0_ := Aside0.mk (below_step hB_ hb); have n1_ := Aside0.mk (hbox); have n2_ := Aside0.mk ((by rw [hg]; exact (below_size hB_) : w.heap.size ≤ gb110)); have n3_ := Aside0.mk ((by rw [hg]; exact (below_size hB_) : w.heap.size ≤ gb110)); clear HB; have HB := n0_; have BK110 := n1_; have GW110 := n2_; have GE110 := n3_; clear n0_ n1_ n2_ n3_; clear hb hbox hg; obtain ⟨hcz23_0, hcz23_1, hcz23_2⟩ := cz3_ BK110.out; obtain ⟨hfz23_0, hfz23_1, hfz23_2⟩ := cf3_ BK110.out) | (go_at_call 106; (with_reducible refine (names_Is.calls k a0_2 t112 _ A21.out).mono ?_); rintro e w24 ⟨rfl, hb⟩; have n0_ := Aside0.mk (blk_below (grw BK110.out) hb); have n1_ := Aside0.mk (below_step (by repeat (first | (with_reducible first | exact HB.out | apply below_alloc | apply pw_below_drewN | apply below_drew1 | refine below_set ?_ GE110.out) | exact HB.out)) hb); clear BK110; clear HB; have BK110 := n0_; have HB := n1_; clear n0_ n1_; (try clear hb); (try clear hb2); (try clear hk); (try clear hi)))
 go_ret
 exact ⟨by first | rfl | (simp [errW_none, errW_some] <;> rfl) | (simp [*, errW_none, errW_some] <;> rfl), by repeat (first | (with_reducible first | exact HB.out | apply below_alloc | apply pw_below_drewN | apply below_drew1 | refine below_set ?_ GE110.out) | exact HB.out)⟩
/-! ### bits_Mul32: function 122 -/
def bits_Mul32.f (a0 : Int) (a1 : Int) : Option (Int × Int) := some (((IntKind.u64.wrap ((IntKind.u64.wrap (a0)) * (IntKind.u64.wrap (a1)))) / 4294967296) % 4294967296, (IntKind.u64.wrap ((IntKind.u64.wrap (a0)) * (IntKind.u64.wrap (a1)))) % 4294967296)
set_option maxHeartbeats 8000000 in
set_option maxRecDepth 100000 in
theorem bits_Mul32.calls (a0 : Int) (a1 : Int) (r1 : Int) (r2 : Int) (w : World) (h : bits_Mul32.f a0 a1 = some (r1, r2)) :
    Calls Try.prog 122 #[.int .u32 a0, .int .u32 a1] w fun e w' => e = .returned (.tuple #[.int .u32 r1, .int .u32 r2]) ∧ Drawn0 w w' := by
  have H : (some (((IntKind.u64.wrap ((IntKind.u64.wrap (a0)) * (IntKind.u64.wrap (a1)))) / 4294967296) % 4294967296, (IntKind.u64.wrap ((IntKind.u64.wrap (a0)) * (IntKind.u64.wrap (a1)))) % 4294967296)) = some (r1, r2) := h
  clear h
  simp only [Option.some.injEq, Prod.mk.injEq] at H
  obtain ⟨rfl, rfl⟩ := H
  go_enter Try.func122, Try.ntmps122
  go_wp2
  go_ret2
  exact ⟨by first | rfl | (simp; done) | (simp [*]; done), by repeat (first | exact Drawn0.refl _ | apply Drawn0.step)⟩

/-! ### bits_Mul64: function 123 -/
def bits_Mul64.f (a0 : Int) (a1 : Int) : Option (Int × Int) := some (IntKind.u64.wrap ((IntKind.u64.wrap ((IntKind.u64.wrap ((a0 / 4294967296) * (a1 / 4294967296))) + ((IntKind.u64.wrap ((IntKind.u64.wrap ((a0 / 4294967296) * (Go.bits .and .u64 a1 4294967295))) + ((IntKind.u64.wrap ((Go.bits .and .u64 a0 4294967295) * (Go.bits .and .u64 a1 4294967295))) / 4294967296))) / 4294967296))) + ((IntKind.u64.wrap ((Go.bits .and .u64 (IntKind.u64.wrap ((IntKind.u64.wrap ((a0 / 4294967296) * (Go.bits .and .u64 a1 4294967295))) + ((IntKind.u64.wrap ((Go.bits .and .u64 a0 4294967295) * (Go.bits .and .u64 a1 4294967295))) / 4294967296))) 4294967295) + (IntKind.u64.wrap ((Go.bits .and .u64 a0 4294967295) * (a1 / 4294967296))))) / 4294967296)), IntKind.u64.wrap (a0 * a1))
set_option maxHeartbeats 8000000 in
set_option maxRecDepth 100000 in
theorem bits_Mul64.calls (a0 : Int) (a1 : Int) (r1 : Int) (r2 : Int) (w : World) (h : bits_Mul64.f a0 a1 = some (r1, r2)) :
    Calls Try.prog 123 #[.int .u64 a0, .int .u64 a1] w fun e w' => e = .returned (.tuple #[.int .u64 r1, .int .u64 r2]) ∧ Drawn0 w w' := by
  have H : (some (IntKind.u64.wrap ((IntKind.u64.wrap ((IntKind.u64.wrap ((a0 / 4294967296) * (a1 / 4294967296))) + ((IntKind.u64.wrap ((IntKind.u64.wrap ((a0 / 4294967296) * (Go.bits .and .u64 a1 4294967295))) + ((IntKind.u64.wrap ((Go.bits .and .u64 a0 4294967295) * (Go.bits .and .u64 a1 4294967295))) / 4294967296))) / 4294967296))) + ((IntKind.u64.wrap ((Go.bits .and .u64 (IntKind.u64.wrap ((IntKind.u64.wrap ((a0 / 4294967296) * (Go.bits .and .u64 a1 4294967295))) + ((IntKind.u64.wrap ((Go.bits .and .u64 a0 4294967295) * (Go.bits .and .u64 a1 4294967295))) / 4294967296))) 4294967295) + (IntKind.u64.wrap ((Go.bits .and .u64 a0 4294967295) * (a1 / 4294967296))))) / 4294967296)), IntKind.u64.wrap (a0 * a1))) = some (r1, r2) := h
  clear h
  simp only [Option.some.injEq, Prod.mk.injEq] at H
  obtain ⟨rfl, rfl⟩ := H
  go_enter Try.func123, Try.ntmps123
  go_wp2
  go_ret2
  exact ⟨by first | rfl | (simp; done) | (simp [*]; done), by repeat (first | exact Drawn0.refl _ | apply Drawn0.step)⟩

/-! ### bits_Mul: function 117 -/
def bits_Mul.f (a0 : Int) (a1 : Int) : Option (Int × Int) := (bits_Mul64.f a0 a1).bind fun bt113 => (some (bt113.1, bt113.2))
set_option maxHeartbeats 8000000 in
set_option maxRecDepth 100000 in
theorem bits_Mul.calls (a0 : Int) (a1 : Int) (r1 : Int) (r2 : Int) (w : World) (h : bits_Mul.f a0 a1 = some (r1, r2)) :
    Calls Try.prog 117 #[.int .u64 a0, .int .u64 a1] w fun e w' => e = .returned (.tuple #[.int .u64 r1, .int .u64 r2]) ∧ Drawn0 w w' := by
  have H : ((bits_Mul64.f a0 a1).bind fun bt113 => (some (bt113.1, bt113.2))) = some (r1, r2) := h
  clear h
  replace H := Option.bind_eq_some_iff.mp H
  obtain ⟨⟨t113, t114⟩, A30, H⟩ := H
  replace H : (some (t113, t114)) = some (r1, r2) := H
  have A3 := Aside0.mk A30
  clear A30
  simp only [Option.some.injEq, Prod.mk.injEq] at H
  obtain ⟨rfl, rfl⟩ := H
  go_enter Try.func117, Try.ntmps117
  go_wp2_with (first | ((with_reducible refine gate_callee (f := 123) rfl ?_); refine goesL_ (some 25) rfl rfl Try.func123 (by kernel_rfl) rfl #[.int .u64 a0, .int .u64 a1] rfl (by (try simp only [List.map_toArray, List.map_cons, List.map_nil]); first | done | rfl | (simp only [List.length_drop, List.length_take]; rfl)) ?_; (with_reducible refine (bits_Mul64.calls a0 a1 t113 t114 _ A3.out).mono ?_); rintro e w' ⟨rfl, ⟨nd, rfl⟩⟩; refine ⟨_, rfl, ?_⟩))
  go_ret2
  exact ⟨by first | rfl | (simp; done) | (simp [*]; done), by repeat (first | exact Drawn0.refl _ | apply Drawn0.step)⟩

/-! ### slices_Repeat_int_int: function 109 -/
-- USES math/bits.Mul
/-- so many zeros, as they lie -/
def Repeat_int.zeros (n : Nat) : List Value := List.replicate n (.int .i64 0)
theorem Repeat_int.made (n : Nat) : madeCells #[.int .i64 0] n = (Repeat_int.zeros n).toArray := by
  apply Array.ext
  · simp [Repeat_int.zeros, size_madeCells]
  · intro i h1 h2
    simp [Repeat_int.zeros, madeCells, Nat.mod_one]
theorem Repeat_int.spliced (n off m : Nat) (h : off + m ≤ n) : splice (Repeat_int.zeros n) off (Repeat_int.zeros m) = Repeat_int.zeros n := by
  unfold splice Repeat_int.zeros
  rw [List.length_replicate]
  apply List.ext_getElem
  · simp; omega
  · intro i h1 h2
    simp only [List.getElem_replicate]
    by_cases hi : i < off
    · rw [List.getElem_append_left (by simp; omega)]; simp
    · rw [List.getElem_append_right (by simp; omega)]
      by_cases hj : i < off + m
      · rw [List.getElem_append_left (by simp; omega)]; simp
      · rw [List.getElem_append_right (by simp; omega)]; simp
theorem Repeat_int.mul : ∀ n : Nat, n ≤ 40 → bits_Mul.f 1 (n : Int) = some (0, (n : Int)) := by
  have h : ∀ n : Fin 41, bits_Mul.f 1 ((n.val : Nat) : Int) = some (0, ((n.val : Nat) : Int)) := by decide +kernel
  intro n hn
  exact h ⟨n, by omega⟩
theorem Repeat_int.cell {W : World} {g n : Nat} (h : W.heap[g]? = some (.cells (Repeat_int.zeros n).toArray 3 (0, 0))) (j : Nat) (hj : j < n) : W.cell? ⟨g, j, none⟩ = some (.int .i64 0) := by
  simp [World.cell?, h, Repeat_int.zeros, hj]
theorem Repeat_int.setRow_same {W : World} {g : Nat} {cs : Array Value} {t : TypeId} (h : W.heap[g]? = some (.cells cs t (0, 0))) : W.setRow g cs = W := by
  unfold World.setRow
  congr 1
  apply Array.ext
  · simp
  · intro i h1 h2
    rw [Array.getElem_modify]
    split
    · rename_i e
      subst e
      have : W.heap[g] = .cells cs t (0, 0) := by
        rw [Array.getElem?_eq_getElem h2] at h
        exact Option.some.inj h
      rw [this]
    · rfl
theorem Repeat_int.copied (W : World) (g n p : Nat) (hp : p ≤ n) (h : W.heap[g]? = some (.cells (Repeat_int.zeros n).toArray 3 (0, 0))) (hs1 : (Try.prog.info? 3).map (·.size) = some 1) :
    Sem.run Try.prog (Builtin.copy_ #[45, 45] 3 #[.slice (some ⟨g, p, none⟩) (n - p) (n - p), .slice (some ⟨g, 0, none⟩) p n]) W = .ok (.int .i64 ((Nat.min p (n - p) : Nat) : Int)) W := by
  have hk : Nat.min p (n - p) ≤ p := Nat.min_le_left _ _
  have hk2 : Nat.min p (n - p) ≤ n - p := Nat.min_le_right _ _
  generalize hkk : Nat.min p (n - p) = k at *
  have hr := run_copy_row (P := Try.prog) W 45 45 3 3 g p (n - p) (n - p) ⟨g, 0, none⟩ p n (Repeat_int.zeros n).toArray 3 (Repeat_int.zeros k) Try.underlying45 hs1 h (by simp [Repeat_int.zeros, hkk])
    (fun j v hj => by
      have hjk : j < k := by have := (List.getElem?_eq_some_iff.1 hj).1; simpa [Repeat_int.zeros] using this
      have hv : v = .int .i64 0 := by
        have := (List.getElem?_eq_some_iff.1 hj).2; simp [Repeat_int.zeros] at this; exact this.symm
      rw [Addr.add_lit, Nat.zero_add, Repeat_int.cell h j (by omega), hv])
    (by simp [Repeat_int.zeros]; omega) (fun v hv => by simp [Repeat_int.zeros] at hv; rw [hv.2]; rfl)
  rw [hr]
  have hsp : ((Repeat_int.zeros n).toArray.toList.take p ++ Repeat_int.zeros k ++ (Repeat_int.zeros n).toArray.toList.drop (p + (Repeat_int.zeros k).length)).toArray = (Repeat_int.zeros n).toArray := by
    have := Repeat_int.spliced n p k (by omega)
    unfold splice at this
    simp only [List.append_assoc]
    rw [this]
  rw [hsp, Repeat_int.setRow_same h]
  simp [Repeat_int.zeros, goInt]
set_option maxHeartbeats 2000000 in
set_option maxRecDepth 100000 in
theorem Repeat_int.calls (a : Addr) (c n : Nat) (w : World) (h1 : 1 ≤ n) (hn : n ≤ 40) (hc : w.cell? a = some (.int .i64 0)) :
    Calls Try.prog 109 #[.slice (some a) 1 c, .int .i64 (n : Int)] w fun e w' => ∃ g, e = .returned (.slice (some ⟨g, 0, none⟩) n n) ∧ w.heap.size ≤ g ∧ w'.heap[g]? = some (.cells (Repeat_int.zeros n).toArray 3 (0, 0)) ∧ Below w.heap.size w w' := by
  have hmk := print_make (P := Try.prog) 45 3 .i64 8 Try.underlying45 info3 (by omega) n (by omega)
  rw [Repeat_int.made] at hmk
  have HM := Aside0.mk (Repeat_int.mul n hn)
  generalize hz : (Repeat_int.zeros n).toArray = zs at hmk
  have HZ := Aside0.mk hz
  clear hz
  go_enter Try.func109, Try.ntmps109
  have hs1 : (Try.prog.info? 3).map (·.size) = some 1 := by kernel_rfl
  go_wp2_with (first | (go_at_call 117; refine (bits_Mul.calls 1 (n : Int) 0 (n : Int) _ HM.out).mono ?_; rintro e w' ⟨rfl, ⟨m, rfl⟩⟩) | (with_reducible refine wpList_copy_splice rfl (.tmp 31) (.tmp 32) 45 45 rfl 3 Try.underlying45 hs1 _ _ _ _ _ _ rfl rfl w.heap.size 0 (Repeat_int.zeros n) 3 ?hg [.int .i64 0] ?hn ?hpos ?hfit ?h1 w.heap.size w ?hb (Nat.le_refl _) ?h))
  case hg => rw [← HZ.out]; exact heap_alloc_new _ _
  case hn => simp [Nat.min_eq_left h1]
  case hpos =>
    intro j v hj
    match j, hj with
    | 0, hj => simp at hj; subst hj; rw [Addr.add_zero']; exact pw_cell_below ((pw_below_drewN (Below.refl _ _) m).alloc (Nat.le_refl _) _) hc
  case hfit => simp [Repeat_int.zeros]; omega
  case h1 => intro v hv; simp at hv; subst hv; rfl
  case hb => exact (pw_below_drewN (Below.refl _ _) m).alloc (Nat.le_refl _) _
  case h =>
    intro W1 hh1 hB1
    have hg1 : Aside0 (W1.heap[w.heap.size]? = some (.cells (Repeat_int.zeros n).toArray 3 (0, 0))) := by
      have := hh1.out
      rw [show ([.int .i64 0] : List Value) = Repeat_int.zeros 1 from rfl, Repeat_int.spliced n 0 1 (by omega)] at this
      exact ⟨this⟩
    have HB1 := Aside0.mk hB1
    have HN := Aside0.mk hn
    have H1 := Aside0.mk h1
    clear hh1 hB1 HM hs1
    go_wp2_with fail
    go_loopg [8] (n - 1) (fun kq v8 wr => ∃ p : Nat, v8 = .int .i64 (p : Int) ∧ Aside0 (n - p = kq) ∧ Aside0 (1 ≤ p ∧ p ≤ n) ∧ Aside0 (wr.heap[w.heap.size]? = some (.cells (Repeat_int.zeros n).toArray 3 (0, 0))) ∧ Aside0 (Below w.heap.size w wr))
    case atStart => exact ⟨1, rfl, ⟨rfl⟩, ⟨Nat.le_refl _, h1⟩, hg1, HB1⟩
    case round =>
      clear hg1 HB1
      obtain ⟨p, rfl, HK, HP, HG, HB⟩ := hrel
      have hp1 := HP.out.1
      have hp2 := HP.out.2
      by_cases hlt : p < n
      · have hlt' : decide ((p : Int) < (n : Int)) = true := decide_eq_true (by omega)
        have hcp : Sem.run Try.prog (Builtin.copy_ #[45, 45] 3 #[.slice (some ⟨w.heap.size, p, none⟩) (n - p) (n - p), .slice (some ⟨w.heap.size, 0, none⟩) p n]) wr.drew = _ := Repeat_int.copied wr.drew w.heap.size n p hp2 HG.out (by kernel_rfl)
        have hnp : ¬ (n = p) := by omega
        have hk1 : 1 ≤ Nat.min p (n - p) := by show 1 ≤ min p (n - p); omega
        have hk2 : p + Nat.min p (n - p) ≤ n := by show p + min p (n - p) ≤ n; omega
        generalize Nat.min p (n - p) = k at hcp hk1 hk2
        go_wp2_with fail
        go_region
        all_goals
          go_wp2
          go_roundg (n - (p + k))
          case measure => have := HK.out; omega
          case rel => exact ⟨p + k, by go_num, ⟨rfl⟩, ⟨by omega, by omega⟩, HG, ⟨below_drew HB.out⟩⟩
      · have hlt' : decide ((p : Int) < (n : Int)) = false := decide_eq_false (by omega)
        go_wp2
        go_ret
        exact ⟨_, rfl, Nat.le_refl _, HZ.out ▸ HG.out, HB.out⟩


/-! ### term_Below: function 110 -/
def term_Below.l0 : Nat → List (S47) → Int → List Int → Int → Option (List Int)
  | 0, _, _, _, _ => none
  | k + 1, x0, x1, x5, x6 => if 0 ≤ x1 then (if x1 < (x0.length : Int) then ((term_Arity.f k ((rd_T47 x0 x1).f0)).bind fun t117 => (if (x5.length : Int) < t117 then (if x5.length < 17592186044416 then ((term_End.f k x0 x6).bind fun t121 => (term_Below.l0 k x0 x1 (x5 ++ [x6]) t121)) else (none)) else (some x5))) else (none)) else (none)
def term_Below.f (k : Nat) (l0 : List (S47)) (a1 : Int) : Option (List Int) := (term_End.f k l0 a1).bind fun t115 => (if t115 < 0 then (some ([] : List Int)) else (term_Below.l0 k l0 a1 ([] : List Int) (wrap64 (a1 + 1))))
theorem term_Below.mono_l : ∀ k, (∀ y0 y1 y2 y3, LeO (term_Below.l0 k y0 y1 y2 y3) (term_Below.l0 (k + 1) y0 y1 y2 y3))
  | 0 => fun _ _ _ _ r h => by simp [term_Below.l0] at h
  | k + 1 => by
    have ih0 := term_Below.mono_l k
    · intro y0 y1 y2 y3
      unfold term_Below.l0
      repeat' first
      | (with_reducible exact ih0 _ _ _ _)
      | (with_reducible exact term_Arity.mono _ _)
      | (with_reducible exact term_End.mono _ _ _)
      | (with_reducible exact LeO.refl _)
      | (with_reducible exact LeO.none _)
      | (with_reducible refine LeO.ite ?_ ?_)
      | (with_reducible refine LeO.bind ?_ (fun _ => ?_))
      | exact ih0 _ _ _ _
      | exact term_Arity.mono _ _
      | exact term_End.mono _ _ _
      | exact LeO.none _
      | refine LeO.ite ?_ ?_
      | refine LeO.bind ?_ (fun _ => ?_)
theorem term_Below.mono : ∀ a0 a1 k, LeO (term_Below.f k a0 a1) (term_Below.f (k + 1) a0 a1) := by
  intro a0 a1 k
  have ih0 := term_Below.mono_l k
  unfold term_Below.f
  repeat' first
      | (with_reducible exact ih0 _ _ _ _)
      | (with_reducible exact term_Arity.mono _ _)
      | (with_reducible exact term_End.mono _ _ _)
      | (with_reducible exact LeO.refl _)
      | (with_reducible exact LeO.none _)
      | (with_reducible refine LeO.ite ?_ ?_)
      | (with_reducible refine LeO.bind ?_ (fun _ => ?_))
      | exact ih0 _ _ _ _
      | exact term_Arity.mono _ _
      | exact term_End.mono _ _ _
      | exact LeO.none _
      | refine LeO.ite ?_ ?_
      | refine LeO.bind ?_ (fun _ => ?_)
theorem hc6_ {w W : World} {a : Addr} {v : Value} (hb : Below w.heap.size w W) (h : w.cell? a = some v) : W.cell? a = some v := (hb.cell (World.block_lt_of_cell? w _ h)).trans h
set_option maxHeartbeats 8000000 in
set_option maxRecDepth 100000 in
theorem term_Below.calls (k : Nat) (A0 : Option Addr) (c0 : Nat) (l0 : List (S47)) (a1 : Int) (r : List Int) (w : World) (hr0 : Kd.C k47 w A0 l0.length l0) (hc0 : l0.length ≤ c0) (h : term_Below.f k l0 a1 = some r) :
  Calls Try.prog 110 #[.slice A0 l0.length c0, .int .i64 a1] w fun e w' => ∃ v0_ : Value, e = .returned (v0_) ∧ Kd.R (Kd.int .i64) 3 w' w.heap.size (fun _ => True) v0_ r ∧ Below w.heap.size w w' := by
 have HR0 := Aside0.mk hr0
 have HC0 := Aside0.mk hc0
 clear hr0 hc0
 have HB := Aside0.mk (Below.refl w.heap.size w)
 have H : ((term_End.f k l0 a1).bind fun t115 => (if t115 < 0 then (some ([] : List Int)) else (term_Below.l0 k l0 a1 ([] : List Int) (wrap64 (a1 + 1))))) = some r := h
 clear h
 replace H := Option.bind_eq_some_iff.mp H
 obtain ⟨t115, A30, H⟩ := H
 replace H : (if t115 < 0 then (some ([] : List Int)) else (term_Below.l0 k l0 a1 ([] : List Int) (wrap64 (a1 + 1)))) = some r := H
 have A3 := Aside0.mk A30
 clear A30
 by_cases c4 : t115 < 0
 ·rw [if_pos c4] at H
  have c4b0 : decide (t115 < 0) = true := decide_eq_true c4
  clear c4
  obtain rfl := Option.some.inj H
  go_enter Try.func110, Try.ntmps110
  go_wp2_with (first | ((with_reducible refine gate_callee (f := 104) rfl ?_); refine goesL_ (some 9) rfl rfl Try.func104 (by kernel_rfl) rfl #[.slice A0 l0.length c0, .int .i64 a1] rfl (by (try simp only [List.map_toArray, List.map_cons, List.map_nil]); first | done | rfl | (simp only [List.length_drop, List.length_take]; rfl)) ?_; (with_reducible refine (term_End.calls k _ _ l0 a1 t115 _ ?side1 ?side2 A3.out).mono ?_); (case side1 => repeat (first | exact HR0.out | (with_reducible refine Kd.C_alloc ?_ _) | (with_reducible refine Kd.C_drewN ?_ _) | (with_reducible refine Kd.C_drew ?_))); (case side2 => exact HC0.out); rintro e w' ⟨rfl, ⟨nd, rfl⟩⟩; refine ⟨_, rfl, ?_⟩))
  go_ret
  exact ⟨_, by first | rfl | (simp [errW_none, errW_some] <;> rfl) | (simp [*, errW_none, errW_some] <;> rfl), by first | exact Kd.R_nil _ _ _ _ _ | exact Kd.N_nil _ _ _ _ _ | exact Kd.V_nil _ _ _ _ _ | exact Kd.Q_nil _ _ _ _ _ | exact Kd.S_nil _ _ _ _ _, by repeat (first | (with_reducible first | exact HB.out | apply below_alloc | apply pw_below_drewN | apply below_drew1) | exact HB.out)⟩
 rw [if_neg c4] at H
 have c4b0 : decide (t115 < 0) = false := decide_eq_false c4
 clear c4
 have H' := Aside0.mk H
 clear H
 go_enter Try.func110, Try.ntmps110
 go_wp2_with (first | ((with_reducible refine gate_callee (f := 104) rfl ?_); refine goesL_ (some 9) rfl rfl Try.func104 (by kernel_rfl) rfl #[.slice A0 l0.length c0, .int .i64 a1] rfl (by (try simp only [List.map_toArray, List.map_cons, List.map_nil]); first | done | rfl | (simp only [List.length_drop, List.length_take]; rfl)) ?_; (with_reducible refine (term_End.calls k _ _ l0 a1 t115 _ ?side1 ?side2 A3.out).mono ?_); (case side1 => repeat (first | exact HR0.out | (with_reducible refine Kd.C_alloc ?_ _) | (with_reducible refine Kd.C_drewN ?_ _) | (with_reducible refine Kd.C_drew ?_))); (case side2 => exact HC0.out); rintro e w' ⟨rfl, ⟨nd, rfl⟩⟩; refine ⟨_, rfl, ?_⟩))
 go_loopg [5, 6] k (fun kq v5 v6 w' => ∃ (x5_1 : List Int) (x6_1 : Int), v6 = .int .i64 x6_1 ∧ Aside0 (term_Below.l0 kq l0 a1 x5_1 x6_1 = some r) ∧ Aside0 (kq ≤ k) ∧ Aside0 (Kd.R (Kd.int .i64) 3 w' w.heap.size (fun _ => True) v5 x5_1) ∧ Aside0 (Below w.heap.size w w'))
 case atStart => exact ⟨(([] : List Int)), (wrap64 (a1 + 1)), (by first | rfl | (simp; done) | (simp [*]; done)), H', ⟨Nat.le_refl _⟩, ⟨by first | exact Kd.R_nil _ _ _ _ _ | exact Kd.N_nil _ _ _ _ _ | exact Kd.V_nil _ _ _ _ _ | exact Kd.Q_nil _ _ _ _ _ | exact Kd.S_nil _ _ _ _ _⟩, ⟨by repeat (first | (with_reducible first | exact HB.out | apply below_alloc | apply pw_below_drewN | apply below_drew1) | exact HB.out)⟩⟩
 case round =>
  clear H'
  try clear c1
  try clear p2
  try clear c4
  try clear c4b0
  obtain ⟨x5_1, x6_1, rfl, HA, HK1, HO_5, HB⟩ := hrel
  cases gk with
  | zero => exact absurd HA.out (by simp [term_Below.l0])
  | succ k1 =>
   have H := HA.out
   clear HA
   simp only [term_Below.l0] at H
   by_cases c5 : 0 ≤ a1
   rotate_left
   ·rw [if_neg c5] at H
    exact absurd H (by simp)

   rw [if_pos c5] at H
   have c5b0 : decide (0 ≤ a1) = true := decide_eq_true c5
   clear c5
   by_cases c6 : a1 < (l0.length : Int)
   rotate_left
   ·rw [if_neg c6] at H
    exact absurd H (by simp)
   rw [if_pos c6] at H
   have c6b0 : decide (a1 < (l0.length : Int)) = true := decide_eq_true c6
   clear c6
   replace H := Option.bind_eq_some_iff.mp H
   obtain ⟨t117, A70, H⟩ := H
   replace H : (if (x5_1.length : Int) < t117 then (if x5_1.length < 17592186044416 then ((term_End.f k1 l0 x6_1).bind fun t121 => (term_Below.l0 k1 l0 a1 (x5_1 ++ [x6_1]) t121)) else (none)) else (some x5_1)) = some r := H
   have A7 := Aside0.mk A70
   clear A70
   by_cases c8 : (x5_1.length : Int) < t117
   rotate_left
   ·rw [if_neg c8] at H
    have c8b0 : decide ((x5_1.length : Int) < t117) = false := decide_eq_false c8
    clear c8
    obtain rfl := Option.some.inj H
    obtain ⟨Ao13, co13, eo13⟩ := Kd.R_slice HO_5.out
    subst eo13
    have p116 : 0 ≤ (a1 : Int) := of_decide_eq_true (by first | (with_reducible assumption) | assumption)
    have q116 : a1 < (l0.length : Int) := of_decide_eq_true (by first | (with_reducible assumption) | assumption)
    obtain ⟨ad116, e116, hx116_0, hx116_1, hx116_2⟩ := at_T47 HR0.out a1 p116 q116
    cases e116
    replace hx116_0 := hc6_ HB.out hx116_0
    replace hx116_1 := hc6_ HB.out hx116_1
    replace hx116_2 := hc6_ HB.out hx116_2
    replace p116 := eq_true p116
    replace q116 := eq_true q116
    go_wp2_with (first | ((with_reducible refine gate_callee (f := 46) rfl ?_); refine goesL_ (some 20) rfl rfl Try.func46 (by kernel_rfl) rfl #[.int .i64 ((rd_T47 l0 a1).f0)] rfl (by (try simp only [List.map_toArray, List.map_cons, List.map_nil]); first | done | rfl | (simp only [List.length_drop, List.length_take]; rfl)) ?_; (with_reducible refine (term_Arity.calls k1 ((rd_T47 l0 a1).f0) t117 _ A7.out).mono ?_); rintro e w' ⟨rfl, ⟨nd, rfl⟩⟩; refine ⟨_, rfl, ?_⟩))
    go_ret
    exact ⟨_, by first | rfl | (simp [errW_none, errW_some] <;> rfl) | (simp [*, errW_none, errW_some] <;> rfl), by (with_reducible repeat (first | apply Kd.R_alloc | apply Kd.R_drewN | apply Kd.R_drew)); exact HO_5.out, by repeat (first | (with_reducible first | exact HB.out | apply below_alloc | apply pw_below_drewN | apply below_drew1) | exact HB.out)⟩
   rw [if_pos c8] at H
   have c8b0 : decide ((x5_1.length : Int) < t117) = true := decide_eq_true c8
   clear c8
   by_cases c9 : x5_1.length < 17592186044416
   rotate_left
   ·rw [if_neg c9] at H
    exact absurd H (by simp)
   rw [if_pos c9] at H
   have LMc9 := Aside0.mk c9
   clear c9
   obtain ⟨y118, hy118⟩ : ∃ y_ : List Int, y_ = (x5_1 ++ [x6_1]) := ⟨_, rfl⟩
   replace H : ((term_End.f k1 l0 x6_1).bind fun t121 => (term_Below.l0 k1 l0 a1 y118 t121)) = some r := by first | (rw [hy118]; with_reducible exact H) | (have H2_ := (Option.bind_some _ _).symm.trans H; rw [hy118]; with_reducible exact H2_) | (have H2_ := (Option.bind_some _ _).symm.trans H; with_reducible exact H2_) | with_reducible exact H | (rw [hy118]; exact H) | exact H
   have Ny118 := Aside0.mk hy118
   clear hy118
   replace H := Option.bind_eq_some_iff.mp H
   obtain ⟨t121, A100, H⟩ := H
   replace H : (term_Below.l0 k1 l0 a1 y118 t121) = some r := H
   have A10 := Aside0.mk A100
   clear A100
   have H' := Aside0.mk H
   clear H
   obtain ⟨Ao11, co11, eo11⟩ := Kd.R_slice HO_5.out
   subst eo11
   have p116 : 0 ≤ (a1 : Int) := of_decide_eq_true (by first | (with_reducible assumption) | assumption)
   have q116 : a1 < (l0.length : Int) := of_decide_eq_true (by first | (with_reducible assumption) | assumption)
   obtain ⟨ad116, e116, hx116_0, hx116_1, hx116_2⟩ := at_T47 HR0.out a1 p116 q116
   cases e116
   replace hx116_0 := hc6_ HB.out hx116_0
   replace hx116_1 := hc6_ HB.out hx116_1
   replace hx116_2 := hc6_ HB.out hx116_2
   replace p116 := eq_true p116
   replace q116 := eq_true q116
   go_wp2_with (first | ((with_reducible refine gate_callee (f := 46) rfl ?_); refine goesL_ (some 20) rfl rfl Try.func46 (by kernel_rfl) rfl #[.int .i64 ((rd_T47 l0 a1).f0)] rfl (by (try simp only [List.map_toArray, List.map_cons, List.map_nil]); first | done | rfl | (simp only [List.length_drop, List.length_take]; rfl)) ?_; (with_reducible refine (term_Arity.calls k1 ((rd_T47 l0 a1).f0) t117 _ A7.out).mono ?_); rintro e w' ⟨rfl, ⟨nd, rfl⟩⟩; refine ⟨_, rfl, ?_⟩) | ((with_reducible refine gate_builtin (b := .append) (xs := #[.tmp 25, .tmp 27]) rfl ?_); at_builtin; refine Kd.R_append (Kd.int .i64) (w0 := w) w.heap.size rfl (.tmp 25) (.tmp 27) 45 3 (.int .i64 0) 8 rfl Try.underlying45 info3 rfl (by decide) (by omega) (.slice Ao11 x5_1.length co11) x5_1 x6_1 [.int .i64 x6_1] (fun _ => True) (fun _ => False) rfl rfl ?aP (fun _ hk => hk.elim) ?aF ?aO ?aB ?aS ?aL ?_; (case aP => exact rfl); (case aB => exact (brw HB.out)); (case aF => exact (fun _ _ => trivial)); (case aO => exact (by (with_reducible repeat (first | apply Kd.R_alloc | apply Kd.R_drewN | apply Kd.R_drew)); exact HO_5.out)); (case aS => exact (below_size (brw HB.out))); (case aL => have := LMc9.out; omega); intro v119 w12 ho hb hg hat; rw [← Ny118.out] at ho; have n0_ := Aside0.mk (hb); have n1_ := Aside0.mk (ho); clear HB; clear HO_5; have HB := n0_; have HO120 := n1_; clear n0_ n1_; clear ho hb hg hat) | ((with_reducible refine gate_callee (f := 104) rfl ?_); refine goesL_ (some 24) rfl rfl Try.func104 (by kernel_rfl) rfl #[.slice (some ad116) l0.length c0, .int .i64 x6_1] rfl (by (try simp only [List.map_toArray, List.map_cons, List.map_nil]); first | done | rfl | (simp only [List.length_drop, List.length_take]; rfl)) ?_; (with_reducible refine (term_End.calls k1 _ _ l0 x6_1 t121 _ ?side1 ?side2 A10.out).mono ?_); (case side1 => repeat (first | exact (Kd.C_below HR0.out HB.out) | (with_reducible refine Kd.C_alloc ?_ _) | (with_reducible refine Kd.C_drewN ?_ _) | (with_reducible refine Kd.C_drew ?_))); (case side2 => exact HC0.out); rintro e w' ⟨rfl, ⟨nd, rfl⟩⟩; refine ⟨_, rfl, ?_⟩))
   go_roundg k1
   case measure => have := HK1.out; omega
   case rel => exact ⟨(y118), (t121), (by first | rfl | (simp; done) | (simp [*]; done)), H', ⟨by have := HK1.out; omega⟩, ⟨by (with_reducible repeat (first | apply Kd.R_alloc | apply Kd.R_drewN | apply Kd.R_drew)); exact HO120.out⟩, ⟨by repeat (first | (with_reducible first | exact HB.out | apply below_alloc | apply pw_below_drewN | apply below_drew1) | exact HB.out)⟩⟩
end Go.Proofs.Ytoeioigpkfgppaa.XV
