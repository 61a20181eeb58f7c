-- written by wip/xprint.py out of the translation
import Derived.Test.YtfpmbognpacidaaXUp0
namespace Go.Proofs.Ytfpmbognpacidaa.XU
open Go.RowKit Go.Proofs.YtfpmbognpacidaaW.PrintWords Go.Proofs.YtfpmbognpacidaaW.PrintLast Go.Proofs.YtfpmbognpacidaaW.PrintMore
attribute [local go_sem] max2_int min2_int max_two min_two max_three min_three max_four min_four   -- for this text's walks alone
set_option linter.unusedVariables false
set_option linter.unusedSimpArgs false

/-! ### names_Keyword: function 34 -/
def names_Keyword.j0 : Nat → ByteArray → Bool → Option (Bool)
  | 0, _, _ => none
  | k + 1, x3, x4 => if x4 = true then (some true) else (if x3.toList = ([97, 110, 121] : List UInt8) then (some true) else (if x3.toList = ([105, 110] : List UInt8) then (some true) else (if x3.toList = ([109, 105, 110] : List UInt8) then (some true) else (if x3.toList = ([109, 97, 120] : List UInt8) then (some true) else (if x3.toList = ([110, 111, 116] : List UInt8) then (some true) else (if x3.toList = ([116, 114, 117, 101] : List UInt8) then (some true) else (if x3.toList = ([102, 97, 108, 115, 101] : List UInt8) then (some true) else (some false))))))))
def names_Keyword.f (k : Nat) (a0 : ByteArray) : Option (Bool) := if a0.toList = ([99, 104, 97, 114, 116] : List UInt8) then (names_Keyword.j0 k a0 (a0.toList == ([99, 104, 97, 114, 116] : List UInt8))) else (if a0.toList = ([101, 118, 101, 110, 116] : List UInt8) then (names_Keyword.j0 k a0 (a0.toList == ([101, 118, 101, 110, 116] : List UInt8))) else (if a0.toList = ([118, 97, 114] : List UInt8) then (names_Keyword.j0 k a0 (a0.toList == ([118, 97, 114] : List UInt8))) else (if a0.toList = ([108, 101, 97, 102] : List UInt8) then (names_Keyword.j0 k a0 (a0.toList == ([108, 101, 97, 102] : List UInt8))) else (if a0.toList = ([111, 114] : List UInt8) then (names_Keyword.j0 k a0 (a0.toList == ([111, 114] : List UInt8))) else (if a0.toList = ([97, 110, 100] : List UInt8) then (names_Keyword.j0 k a0 (a0.toList == ([97, 110, 100] : List UInt8))) else (if a0.toList = ([101, 110, 116, 101, 114] : List UInt8) then (names_Keyword.j0 k a0 (a0.toList == ([101, 110, 116, 101, 114] : List UInt8))) else (if a0.toList = ([101, 120, 105, 116] : List UInt8) then (names_Keyword.j0 k a0 (a0.toList == ([101, 120, 105, 116] : List UInt8))) else (if a0.toList = ([111, 110] : List UInt8) then (names_Keyword.j0 k a0 (a0.toList == ([111, 110] : List UInt8))) else (names_Keyword.j0 k a0 (a0.toList == ([97, 117, 116, 111] : List UInt8)))))))))))
theorem names_Keyword.mono_l : ∀ k, (∀ y0 y1, LeO (names_Keyword.j0 k y0 y1) (names_Keyword.j0 (k + 1) y0 y1))
  | 0 => fun _ _ r h => by simp [names_Keyword.j0] at h
  | k + 1 => by
    have ih0 := names_Keyword.mono_l k
    · intro y0 y1
      unfold names_Keyword.j0
      repeat' first
      | (with_reducible exact ih0 _ _)
      | (with_reducible exact LeO.refl _)
      | (with_reducible exact LeO.none _)
      | (with_reducible refine LeO.ite ?_ ?_)
      | (with_reducible refine LeO.bind ?_ (fun _ => ?_))
      | exact ih0 _ _
      | exact LeO.none _
      | refine LeO.ite ?_ ?_
      | refine LeO.bind ?_ (fun _ => ?_)
theorem names_Keyword.mono : ∀ a0 k, LeO (names_Keyword.f k a0) (names_Keyword.f (k + 1) a0) := by
  intro a0 k
  have ih0 := names_Keyword.mono_l k
  unfold names_Keyword.f
  repeat' first
      | (with_reducible exact ih0 _ _)
      | (with_reducible exact LeO.refl _)
      | (with_reducible exact LeO.none _)
      | (with_reducible refine LeO.ite ?_ ?_)
      | (with_reducible refine LeO.bind ?_ (fun _ => ?_))
      | exact ih0 _ _
      | exact LeO.none _
      | refine LeO.ite ?_ ?_
      | refine LeO.bind ?_ (fun _ => ?_)
set_option maxHeartbeats 8000000 in
set_option maxRecDepth 100000 in
theorem names_Keyword.calls (k : Nat) (a0 : ByteArray) (r : Bool) (w : World) (h : names_Keyword.f k a0 = some r) :
    Calls Try.prog 34 #[.string a0] w fun e w' => e = .returned (.bool r) ∧ Drawn0 w w' := by
  have H : (if a0.toList = ([99, 104, 97, 114, 116] : List UInt8) then (names_Keyword.j0 k a0 (a0.toList == ([99, 104, 97, 114, 116] : List UInt8))) else (if a0.toList = ([101, 118, 101, 110, 116] : List UInt8) then (names_Keyword.j0 k a0 (a0.toList == ([101, 118, 101, 110, 116] : List UInt8))) else (if a0.toList = ([118, 97, 114] : List UInt8) then (names_Keyword.j0 k a0 (a0.toList == ([118, 97, 114] : List UInt8))) else (if a0.toList = ([108, 101, 97, 102] : List UInt8) then (names_Keyword.j0 k a0 (a0.toList == ([108, 101, 97, 102] : List UInt8))) else (if a0.toList = ([111, 114] : List UInt8) then (names_Keyword.j0 k a0 (a0.toList == ([111, 114] : List UInt8))) else (if a0.toList = ([97, 110, 100] : List UInt8) then (names_Keyword.j0 k a0 (a0.toList == ([97, 110, 100] : List UInt8))) else (if a0.toList = ([101, 110, 116, 101, 114] : List UInt8) then (names_Keyword.j0 k a0 (a0.toList == ([101, 110, 116, 101, 114] : List UInt8))) else (if a0.toList = ([101, 120, 105, 116] : List UInt8) then (names_Keyword.j0 k a0 (a0.toList == ([101, 120, 105, 116] : List UInt8))) else (if a0.toList = ([111, 110] : List UInt8) then (names_Keyword.j0 k a0 (a0.toList == ([111, 110] : List UInt8))) else (names_Keyword.j0 k a0 (a0.toList == ([97, 117, 116, 111] : List UInt8)))))))))))) = some r := h
  clear h
  have HC2 := Aside0.mk H
  clear H
  go_enter Try.func34, Try.ntmps34
  go_upto_if 4 with (fail)
  go_cut [4] (fun v4 wc => ∃ (kq : Nat) (x4_1 : Bool), v4 = .bool x4_1 ∧ Aside0 (names_Keyword.j0 kq a0 x4_1 = some r) ∧ Aside0 (kq ≤ k) ∧ Drawn0 w wc)
  case first =>
    have H := HC2.out
    clear HC2
    by_cases c3 : a0.toList = ([99, 104, 97, 114, 116] : List UInt8)
    · rw [if_pos c3] at H
      have c3b0 : (a0.toList == ([99, 104, 97, 114, 116] : List UInt8)) = true := beq_iff_eq.mpr c3
      have c3b1 : (a0.toList != ([99, 104, 97, 114, 116] : List UInt8)) = false := bne_eq_false_iff_eq.mpr c3
      clear c3
      (first | rw [c3b0] | (simp only [i64_w, i32_w]; rw [c3b0]) | skip)
      have H' := Aside0.mk H
      clear H
      go_wp2
      go_meet
      case rel => exact ⟨_, ((a0.toList == ([99, 104, 97, 114, 116] : List UInt8))), (by first | rfl | (simp; done) | (simp [*]; done)), H', ⟨by first | omega | exact Nat.le_refl _⟩, by repeat (first | exact Drawn0.refl _ | apply Drawn0.step)⟩
    · rw [if_neg c3] at H
      have c3b0 : (a0.toList == ([99, 104, 97, 114, 116] : List UInt8)) = false := beq_eq_false_iff_ne.mpr c3
      have c3b1 : (a0.toList != ([99, 104, 97, 114, 116] : List UInt8)) = true := bne_iff_ne.mpr c3
      (first | rw [c3b0] | (simp only [i64_w, i32_w]; rw [c3b0]) | skip)
      by_cases c4 : a0.toList = ([101, 118, 101, 110, 116] : List UInt8)
      · rw [if_pos c4] at H
        have c4b0 : (a0.toList == ([101, 118, 101, 110, 116] : List UInt8)) = true := beq_iff_eq.mpr c4
        have c4b1 : (a0.toList != ([101, 118, 101, 110, 116] : List UInt8)) = false := bne_eq_false_iff_eq.mpr c4
        clear c4
        have H' := Aside0.mk H
        clear H
        go_wp2
        go_meet
        case rel => exact ⟨_, ((a0.toList == ([101, 118, 101, 110, 116] : List UInt8))), (by first | rfl | (simp; done) | (simp [*]; done)), H', ⟨by first | omega | exact Nat.le_refl _⟩, by repeat (first | exact Drawn0.refl _ | apply Drawn0.step)⟩
      · rw [if_neg c4] at H
        have c4b0 : (a0.toList == ([101, 118, 101, 110, 116] : List UInt8)) = false := beq_eq_false_iff_ne.mpr c4
        have c4b1 : (a0.toList != ([101, 118, 101, 110, 116] : List UInt8)) = true := bne_iff_ne.mpr c4
        by_cases c5 : a0.toList = ([118, 97, 114] : List UInt8)
        · rw [if_pos c5] at H
          have c5b0 : (a0.toList == ([118, 97, 114] : List UInt8)) = true := beq_iff_eq.mpr c5
          have c5b1 : (a0.toList != ([118, 97, 114] : List UInt8)) = false := bne_eq_false_iff_eq.mpr c5
          clear c5
          have H' := Aside0.mk H
          clear H
          go_wp2
          go_meet
          case rel => exact ⟨_, ((a0.toList == ([118, 97, 114] : List UInt8))), (by first | rfl | (simp; done) | (simp [*]; done)), H', ⟨by first | omega | exact Nat.le_refl _⟩, by repeat (first | exact Drawn0.refl _ | apply Drawn0.step)⟩
        · rw [if_neg c5] at H
          have c5b0 : (a0.toList == ([118, 97, 114] : List UInt8)) = false := beq_eq_false_iff_ne.mpr c5
          have c5b1 : (a0.toList != ([118, 97, 114] : List UInt8)) = true := bne_iff_ne.mpr c5
          by_cases c6 : a0.toList = ([108, 101, 97, 102] : List UInt8)
          · rw [if_pos c6] at H
            have c6b0 : (a0.toList == ([108, 101, 97, 102] : List UInt8)) = true := beq_iff_eq.mpr c6
            have c6b1 : (a0.toList != ([108, 101, 97, 102] : List UInt8)) = false := bne_eq_false_iff_eq.mpr c6
            clear c6
            have H' := Aside0.mk H
            clear H
            go_wp2
            go_meet
            case rel => exact ⟨_, ((a0.toList == ([108, 101, 97, 102] : List UInt8))), (by first | rfl | (simp; done) | (simp [*]; done)), H', ⟨by first | omega | exact Nat.le_refl _⟩, by repeat (first | exact Drawn0.refl _ | apply Drawn0.step)⟩
          · rw [if_neg c6] at H
            have c6b0 : (a0.toList == ([108, 101, 97, 102] : List UInt8)) = false := beq_eq_false_iff_ne.mpr c6
            have c6b1 : (a0.toList != ([108, 101, 97, 102] : List UInt8)) = true := bne_iff_ne.mpr c6
            by_cases c7 : a0.toList = ([111, 114] : List UInt8)
            · rw [if_pos c7] at H
              have c7b0 : (a0.toList == ([111, 114] : List UInt8)) = true := beq_iff_eq.mpr c7
              have c7b1 : (a0.toList != ([111, 114] : List UInt8)) = false := bne_eq_false_iff_eq.mpr c7
              clear c7
              have H' := Aside0.mk H
              clear H
              go_wp2
              go_meet
              case rel => exact ⟨_, ((a0.toList == ([111, 114] : List UInt8))), (by first | rfl | (simp; done) | (simp [*]; done)), H', ⟨by first | omega | exact Nat.le_refl _⟩, by repeat (first | exact Drawn0.refl _ | apply Drawn0.step)⟩
            · rw [if_neg c7] at H
              have c7b0 : (a0.toList == ([111, 114] : List UInt8)) = false := beq_eq_false_iff_ne.mpr c7
              have c7b1 : (a0.toList != ([111, 114] : List UInt8)) = true := bne_iff_ne.mpr c7
              by_cases c8 : a0.toList = ([97, 110, 100] : List UInt8)
              · rw [if_pos c8] at H
                have c8b0 : (a0.toList == ([97, 110, 100] : List UInt8)) = true := beq_iff_eq.mpr c8
                have c8b1 : (a0.toList != ([97, 110, 100] : List UInt8)) = false := bne_eq_false_iff_eq.mpr c8
                clear c8
                have H' := Aside0.mk H
                clear H
                go_wp2
                go_meet
                case rel => exact ⟨_, ((a0.toList == ([97, 110, 100] : List UInt8))), (by first | rfl | (simp; done) | (simp [*]; done)), H', ⟨by first | omega | exact Nat.le_refl _⟩, by repeat (first | exact Drawn0.refl _ | apply Drawn0.step)⟩
              · rw [if_neg c8] at H
                have c8b0 : (a0.toList == ([97, 110, 100] : List UInt8)) = false := beq_eq_false_iff_ne.mpr c8
                have c8b1 : (a0.toList != ([97, 110, 100] : List UInt8)) = true := bne_iff_ne.mpr c8
                by_cases c9 : a0.toList = ([101, 110, 116, 101, 114] : List UInt8)
                · rw [if_pos c9] at H
                  have c9b0 : (a0.toList == ([101, 110, 116, 101, 114] : List UInt8)) = true := beq_iff_eq.mpr c9
                  have c9b1 : (a0.toList != ([101, 110, 116, 101, 114] : List UInt8)) = false := bne_eq_false_iff_eq.mpr c9
                  clear c9
                  have H' := Aside0.mk H
                  clear H
                  go_wp2
                  go_meet
                  case rel => exact ⟨_, ((a0.toList == ([101, 110, 116, 101, 114] : List UInt8))), (by first | rfl | (simp; done) | (simp [*]; done)), H', ⟨by first | omega | exact Nat.le_refl _⟩, by repeat (first | exact Drawn0.refl _ | apply Drawn0.step)⟩
                · rw [if_neg c9] at H
                  have c9b0 : (a0.toList == ([101, 110, 116, 101, 114] : List UInt8)) = false := beq_eq_false_iff_ne.mpr c9
                  have c9b1 : (a0.toList != ([101, 110, 116, 101, 114] : List UInt8)) = true := bne_iff_ne.mpr c9
                  by_cases c10 : a0.toList = ([101, 120, 105, 116] : List UInt8)
                  · rw [if_pos c10] at H
                    have c10b0 : (a0.toList == ([101, 120, 105, 116] : List UInt8)) = true := beq_iff_eq.mpr c10
                    have c10b1 : (a0.toList != ([101, 120, 105, 116] : List UInt8)) = false := bne_eq_false_iff_eq.mpr c10
                    clear c10
                    have H' := Aside0.mk H
                    clear H
                    go_wp2
                    go_meet
                    case rel => exact ⟨_, ((a0.toList == ([101, 120, 105, 116] : List UInt8))), (by first | rfl | (simp; done) | (simp [*]; done)), H', ⟨by first | omega | exact Nat.le_refl _⟩, by repeat (first | exact Drawn0.refl _ | apply Drawn0.step)⟩
                  · rw [if_neg c10] at H
                    have c10b0 : (a0.toList == ([101, 120, 105, 116] : List UInt8)) = false := beq_eq_false_iff_ne.mpr c10
                    have c10b1 : (a0.toList != ([101, 120, 105, 116] : List UInt8)) = true := bne_iff_ne.mpr c10
                    by_cases c11 : a0.toList = ([111, 110] : List UInt8)
                    · rw [if_pos c11] at H
                      have c11b0 : (a0.toList == ([111, 110] : List UInt8)) = true := beq_iff_eq.mpr c11
                      have c11b1 : (a0.toList != ([111, 110] : List UInt8)) = false := bne_eq_false_iff_eq.mpr c11
                      clear c11
                      have H' := Aside0.mk H
                      clear H
                      go_wp2
                      go_meet
                      case rel => exact ⟨_, ((a0.toList == ([111, 110] : List UInt8))), (by first | rfl | (simp; done) | (simp [*]; done)), H', ⟨by first | omega | exact Nat.le_refl _⟩, by repeat (first | exact Drawn0.refl _ | apply Drawn0.step)⟩
                    · rw [if_neg c11] at H
                      have c11b0 : (a0.toList == ([111, 110] : List UInt8)) = false := beq_eq_false_iff_ne.mpr c11
                      have c11b1 : (a0.toList != ([111, 110] : List UInt8)) = true := bne_iff_ne.mpr c11
                      have H' := Aside0.mk H
                      clear H
                      go_wp2
                      go_meet
                      case rel => exact ⟨_, ((a0.toList == ([97, 117, 116, 111] : List UInt8))), (by first | rfl | (simp; done) | (simp [*]; done)), H', ⟨by first | omega | exact Nat.le_refl _⟩, by repeat (first | exact Drawn0.refl _ | apply Drawn0.step)⟩
  case rest =>
    clear HC2
    try clear c1
    try clear p2
    try clear c3
    try clear c3b0
    try clear c3b1
    try clear c4
    try clear c4b0
    try clear c4b1
    try clear c5
    try clear c5b0
    try clear c5b1
    try clear c6
    try clear c6b0
    try clear c6b1
    try clear c7
    try clear c7b0
    try clear c7b1
    try clear c8
    try clear c8b0
    try clear c8b1
    try clear c9
    try clear c9b0
    try clear c9b1
    try clear c10
    try clear c10b0
    try clear c10b1
    try clear c11
    try clear c11b0
    try clear c11b1
    obtain ⟨kq, x4_1, rfl, HA, HJ1, ⟨mc1, rfl⟩⟩ := hcut
    cases kq with
    | zero => exact absurd HA.out (by simp [names_Keyword.j0])
    | succ kj1 =>
      have H := HA.out
      clear HA
      simp only [names_Keyword.j0] at H
      by_cases c12 : x4_1 = true
      · subst c12
        have H1 : (some true) = some r := by rw [if_pos rfl] at H; exact H
        clear H
        have H := H1
        clear H1
        obtain rfl := Option.some.inj H
        go_wp2
        go_ret
        exact ⟨by first | rfl | (simp; done) | (simp [*]; done), by repeat (first | exact Drawn0.refl _ | apply Drawn0.step)⟩
      · replace c12 := Bool.eq_false_iff.mpr c12
        subst c12
        have H1 : (if a0.toList = ([97, 110, 121] : List UInt8) then (some true) else (if a0.toList = ([105, 110] : List UInt8) then (some true) else (if a0.toList = ([109, 105, 110] : List UInt8) then (some true) else (if a0.toList = ([109, 97, 120] : List UInt8) then (some true) else (if a0.toList = ([110, 111, 116] : List UInt8) then (some true) else (if a0.toList = ([116, 114, 117, 101] : List UInt8) then (some true) else (if a0.toList = ([102, 97, 108, 115, 101] : List UInt8) then (some true) else (some false)))))))) = some r := by rw [if_neg (show ¬ (false = true) by decide)] at H; exact H
        clear H
        have H := H1
        clear H1
        by_cases c13 : a0.toList = ([97, 110, 121] : List UInt8)
        · rw [if_pos c13] at H
          have c13b0 : (a0.toList == ([97, 110, 121] : List UInt8)) = true := beq_iff_eq.mpr c13
          have c13b1 : (a0.toList != ([97, 110, 121] : List UInt8)) = false := bne_eq_false_iff_eq.mpr c13
          clear c13
          obtain rfl := Option.some.inj H
          go_wp2
          go_ret
          exact ⟨by first | rfl | (simp; done) | (simp [*]; done), by repeat (first | exact Drawn0.refl _ | apply Drawn0.step)⟩
        · rw [if_neg c13] at H
          have c13b0 : (a0.toList == ([97, 110, 121] : List UInt8)) = false := beq_eq_false_iff_ne.mpr c13
          have c13b1 : (a0.toList != ([97, 110, 121] : List UInt8)) = true := bne_iff_ne.mpr c13
          by_cases c14 : a0.toList = ([105, 110] : List UInt8)
          · rw [if_pos c14] at H
            have c14b0 : (a0.toList == ([105, 110] : List UInt8)) = true := beq_iff_eq.mpr c14
            have c14b1 : (a0.toList != ([105, 110] : List UInt8)) = false := bne_eq_false_iff_eq.mpr c14
            clear c14
            obtain rfl := Option.some.inj H
            go_wp2
            go_ret
            exact ⟨by first | rfl | (simp; done) | (simp [*]; done), by repeat (first | exact Drawn0.refl _ | apply Drawn0.step)⟩
          · rw [if_neg c14] at H
            have c14b0 : (a0.toList == ([105, 110] : List UInt8)) = false := beq_eq_false_iff_ne.mpr c14
            have c14b1 : (a0.toList != ([105, 110] : List UInt8)) = true := bne_iff_ne.mpr c14
            by_cases c15 : a0.toList = ([109, 105, 110] : List UInt8)
            · rw [if_pos c15] at H
              have c15b0 : (a0.toList == ([109, 105, 110] : List UInt8)) = true := beq_iff_eq.mpr c15
              have c15b1 : (a0.toList != ([109, 105, 110] : List UInt8)) = false := bne_eq_false_iff_eq.mpr c15
              clear c15
              obtain rfl := Option.some.inj H
              go_wp2
              go_ret
              exact ⟨by first | rfl | (simp; done) | (simp [*]; done), by repeat (first | exact Drawn0.refl _ | apply Drawn0.step)⟩
            · rw [if_neg c15] at H
              have c15b0 : (a0.toList == ([109, 105, 110] : List UInt8)) = false := beq_eq_false_iff_ne.mpr c15
              have c15b1 : (a0.toList != ([109, 105, 110] : List UInt8)) = true := bne_iff_ne.mpr c15
              by_cases c16 : a0.toList = ([109, 97, 120] : List UInt8)
              · rw [if_pos c16] at H
                have c16b0 : (a0.toList == ([109, 97, 120] : List UInt8)) = true := beq_iff_eq.mpr c16
                have c16b1 : (a0.toList != ([109, 97, 120] : List UInt8)) = false := bne_eq_false_iff_eq.mpr c16
                clear c16
                obtain rfl := Option.some.inj H
                go_wp2
                go_ret
                exact ⟨by first | rfl | (simp; done) | (simp [*]; done), by repeat (first | exact Drawn0.refl _ | apply Drawn0.step)⟩
              · rw [if_neg c16] at H
                have c16b0 : (a0.toList == ([109, 97, 120] : List UInt8)) = false := beq_eq_false_iff_ne.mpr c16
                have c16b1 : (a0.toList != ([109, 97, 120] : List UInt8)) = true := bne_iff_ne.mpr c16
                by_cases c17 : a0.toList = ([110, 111, 116] : List UInt8)
                · rw [if_pos c17] at H
                  have c17b0 : (a0.toList == ([110, 111, 116] : List UInt8)) = true := beq_iff_eq.mpr c17
                  have c17b1 : (a0.toList != ([110, 111, 116] : List UInt8)) = false := bne_eq_false_iff_eq.mpr c17
                  clear c17
                  obtain rfl := Option.some.inj H
                  go_wp2
                  go_ret
                  exact ⟨by first | rfl | (simp; done) | (simp [*]; done), by repeat (first | exact Drawn0.refl _ | apply Drawn0.step)⟩
                · rw [if_neg c17] at H
                  have c17b0 : (a0.toList == ([110, 111, 116] : List UInt8)) = false := beq_eq_false_iff_ne.mpr c17
                  have c17b1 : (a0.toList != ([110, 111, 116] : List UInt8)) = true := bne_iff_ne.mpr c17
                  by_cases c18 : a0.toList = ([116, 114, 117, 101] : List UInt8)
                  · rw [if_pos c18] at H
                    have c18b0 : (a0.toList == ([116, 114, 117, 101] : List UInt8)) = true := beq_iff_eq.mpr c18
                    have c18b1 : (a0.toList != ([116, 114, 117, 101] : List UInt8)) = false := bne_eq_false_iff_eq.mpr c18
                    clear c18
                    obtain rfl := Option.some.inj H
                    go_wp2
                    go_ret
                    exact ⟨by first | rfl | (simp; done) | (simp [*]; done), by repeat (first | exact Drawn0.refl _ | apply Drawn0.step)⟩
                  · rw [if_neg c18] at H
                    have c18b0 : (a0.toList == ([116, 114, 117, 101] : List UInt8)) = false := beq_eq_false_iff_ne.mpr c18
                    have c18b1 : (a0.toList != ([116, 114, 117, 101] : List UInt8)) = true := bne_iff_ne.mpr c18
                    by_cases c19 : a0.toList = ([102, 97, 108, 115, 101] : List UInt8)
                    · rw [if_pos c19] at H
                      have c19b0 : (a0.toList == ([102, 97, 108, 115, 101] : List UInt8)) = true := beq_iff_eq.mpr c19
                      have c19b1 : (a0.toList != ([102, 97, 108, 115, 101] : List UInt8)) = false := bne_eq_false_iff_eq.mpr c19
                      clear c19
                      obtain rfl := Option.some.inj H
                      go_wp2
                      go_ret
                      exact ⟨by first | rfl | (simp; done) | (simp [*]; done), by repeat (first | exact Drawn0.refl _ | apply Drawn0.step)⟩
                    · rw [if_neg c19] at H
                      have c19b0 : (a0.toList == ([102, 97, 108, 115, 101] : List UInt8)) = false := beq_eq_false_iff_ne.mpr c19
                      have c19b1 : (a0.toList != ([102, 97, 108, 115, 101] : List UInt8)) = true := bne_iff_ne.mpr c19
                      obtain rfl := Option.some.inj H
                      go_wp2
                      go_ret
                      exact ⟨by first | rfl | (simp; done) | (simp [*]; done), by repeat (first | exact Drawn0.refl _ | apply Drawn0.step)⟩

/-! ### names_Is: function 32 -/
/-- may a byte stand at a place of a name? -/
def names_Is.ok (i c : Nat) : Bool := (decide (97 ≤ c) && decide (c ≤ 122)) || (i != 0 && ((decide (48 ≤ c) && decide (c ≤ 57)) || c == 95))
def names_Is.body (s : ByteArray) : Bool := (List.range s.size).all fun i => names_Is.ok i (bt s i).toNat
def names_Is.f (k : Nat) (a0 : ByteArray) : Option (Bool) :=
  if a0.size = 0 then some false else if 12 < a0.size then some false else (names_Keyword.f k a0).bind fun b => if b = true then some false else some (names_Is.body a0)
theorem names_Is.mono : ∀ a0 k, LeO (names_Is.f k a0) (names_Is.f (k + 1) a0) := by
  intro a0 k
  unfold names_Is.f
  repeat' first
    | exact LeO.refl _
    | refine LeO.ite ?_ ?_
    | refine LeO.bind (names_Keyword.mono a0 k) (fun _ => ?_)
theorem names_Is.bad {s : ByteArray} {i : Nat} (hi : i < s.size) (h : names_Is.ok i (bt s i).toNat = false) : names_Is.body s = false := by
  rw [Bool.eq_false_iff]
  intro hb
  have := List.all_eq_true.1 hb i (List.mem_range.2 hi)
  rw [h] at this
  cases this
theorem names_Is.good {s : ByteArray} (h : ∀ j, j < s.size → names_Is.ok j (bt s j).toNat = true) : names_Is.body s = true :=
  List.all_eq_true.2 fun j hj => h j (List.mem_range.1 hj)
theorem names_Is.below_iter {w : World} (m : Nat) (s : ByteArray) (p : Nat) : Below w.heap.size w ((w.drewN m).iter s p) := (pw_below_drewN (Below.refl _ w) m).alloc (Nat.le_refl _) _
set_option maxHeartbeats 2000000 in
set_option maxRecDepth 100000 in
theorem names_Is.calls (k : Nat) (a0 : ByteArray) (r : Bool) (w : World) (h : names_Is.f k a0 = some r) :
    Calls Try.prog 32 #[.string a0] w fun e w' => e = .returned (.bool r) ∧ Below w.heap.size w w' := by
  unfold names_Is.f at h
  have hlen := Go.Proofs.Ytfpmbognpacidaa.XBytes.tl_length a0
  by_cases h0 : a0.size = 0
  · rw [if_pos h0] at h
    have H := Option.some.inj h
    subst H
    have e0 : a0.toList = [] := List.length_eq_zero_iff.1 (hlen.trans h0)
    clear h hlen
    go_enter Try.func32, Try.ntmps32
    go_wp2
    go_ret
    exact ⟨rfl, Below.refl _ _⟩
  · rw [if_neg h0] at h
    have e0 : a0.toList.isEmpty = false := by
      cases hl : a0.toList with
      | nil => rw [hl] at hlen; exact absurd hlen.symm h0
      | cons => rfl
    have e1 : ¬ (a0.toList = []) := fun e => by rw [e] at e0; cases e0
    clear hlen
    by_cases h12 : 12 < a0.size
    · rw [if_pos h12] at h
      have H := Option.some.inj h
      subst H
      have h12' : decide ((12 : Int) < (a0.size : Int)) = true := decide_eq_true (by omega)
      clear h
      go_enter Try.func32, Try.ntmps32
      go_wp2
      go_ret
      exact ⟨rfl, Below.refl _ _⟩
    · rw [if_neg h12] at h
      have h12' : decide ((12 : Int) < (a0.size : Int)) = false := decide_eq_false (by omega)
      cases hk : names_Keyword.f k a0 with
      | none => rw [hk] at h; cases h
      | some b =>
        rw [hk, Option.bind_some] at h
        have HK := Aside0.mk hk
        clear hk
        cases b with
        | true =>
          have H := Option.some.inj h
          subst H
          clear h
          go_enter Try.func32, Try.ntmps32
          go_wp2_with (go_at_call 34; refine (names_Keyword.calls k a0 true _ HK.out).mono ?_; rintro e w' ⟨rfl, hd⟩)
          go_ret
          exact ⟨rfl, hd.below⟩
        | false =>
          have H := Option.some.inj h
          have HH := Aside0.mk H
          clear h H
          go_enter Try.func32, Try.ntmps32
          go_wp2_with (go_at_call 34; refine (names_Keyword.calls k a0 false _ HK.out).mono ?_; rintro e w' ⟨rfl, ⟨m, rfl⟩⟩)
          go_loopg [] a0.size (fun kq wr => ∃ pos : Nat, Aside0 (pos ≤ a0.size) ∧ Aside0 (a0.size - pos = kq) ∧ wr = (w.drewN m).iter a0 pos ∧ Aside0 (∀ j : Nat, j < pos → names_Is.ok j (bt a0 j).toNat = true))
          case atStart => exact ⟨0, ⟨Nat.zero_le _⟩, ⟨rfl⟩, rfl, ⟨fun j hj => absurd hj (Nat.not_lt_zero _)⟩⟩
          case round =>
            obtain ⟨pos, HP, HK, rfl, HG⟩ := hrel
            by_cases hp : pos < a0.size
            · have hbt : (bt a0 (pos : Int)).toNat = (a0[pos]'hp).toNat := by simp [bt, hp]
              have HBT := Aside0.mk hbt
              clear hbt
              by_cases hasc : (a0[pos]'hp).toNat < 128
              · have hnx : ∀ ty, (Instr.next (.pointer (some ⟨w.heap.size, 0, none⟩)) true ty).run Try.prog ((w.drewN m).iter a0 pos) = _ := fun ty => run_next_ascii (w.drewN m) a0 pos ty hp hasc
                generalize (a0[pos]'hp).toNat = c at hnx HBT hasc
                by_cases hL : 97 ≤ c ∧ c ≤ 122
                · obtain ⟨l1, l2⟩ := hL
                  have g1 : decide ((97 : Int) ≤ (c : Int)) = true := decide_eq_true (by omega)
                  have g2 : decide ((c : Int) ≤ 122) = true := decide_eq_true (by omega)
                  go_wp2
                  go_roundg (a0.size - (pos + 1))
                  case measure => have := HK.out; omega
                  case rel =>
                    refine ⟨pos + 1, ⟨by omega⟩, ⟨rfl⟩, rfl, ⟨fun j hj => ?_⟩⟩
                    by_cases e : j = pos
                    · rw [e, HBT.out]; unfold names_Is.ok; first | (simp; done) | (simp; omega)
                    · exact HG.out j (by omega)
                · skip
                  by_cases r0 : c ≤ 47
                  · by_cases hz : pos = 0
                    · have g1 : decide ((97 : Int) ≤ (c : Int)) = false := decide_eq_false (by omega)
                      have g2 : decide ((c : Int) ≤ 122) = true := decide_eq_true (by omega)
                      have g3 : decide ((48 : Int) ≤ (c : Int)) = false := decide_eq_false (by omega)
                      have g4 : decide ((c : Int) ≤ 57) = true := decide_eq_true (by omega)
                      have g5 : ((c : Int) == 95) = false := beq_eq_false_iff_ne.mpr (by omega)
                      have g6 : ((pos : Int) == 0) = true := beq_iff_eq.mpr (by omega)
                      have HZ := Aside0.mk hz
                      clear hz
                      go_wp2
                      go_ret
                      refine ⟨?_, names_Is.below_iter m a0 _⟩
                      rw [← HH.out, names_Is.bad hp (by have hz := HZ.out; rw [HBT.out]; unfold names_Is.ok; first | (simp; done) | (simp; omega))]
                      rfl
                    · have g1 : decide ((97 : Int) ≤ (c : Int)) = false := decide_eq_false (by omega)
                      have g2 : decide ((c : Int) ≤ 122) = true := decide_eq_true (by omega)
                      have g3 : decide ((48 : Int) ≤ (c : Int)) = false := decide_eq_false (by omega)
                      have g4 : decide ((c : Int) ≤ 57) = true := decide_eq_true (by omega)
                      have g5 : ((c : Int) == 95) = false := beq_eq_false_iff_ne.mpr (by omega)
                      have g6 : ((pos : Int) == 0) = false := beq_eq_false_iff_ne.mpr (by omega)
                      go_wp2
                      go_ret
                      refine ⟨?_, names_Is.below_iter m a0 _⟩
                      rw [← HH.out, names_Is.bad hp (by rw [HBT.out]; unfold names_Is.ok; first | (simp; done) | (simp; omega))]
                      rfl
                  · skip
                    by_cases r1 : c ≤ 57
                    · by_cases hz : pos = 0
                      · have g1 : decide ((97 : Int) ≤ (c : Int)) = false := decide_eq_false (by omega)
                        have g2 : decide ((c : Int) ≤ 122) = true := decide_eq_true (by omega)
                        have g3 : decide ((48 : Int) ≤ (c : Int)) = true := decide_eq_true (by omega)
                        have g4 : decide ((c : Int) ≤ 57) = true := decide_eq_true (by omega)
                        have g5 : ((c : Int) == 95) = false := beq_eq_false_iff_ne.mpr (by omega)
                        have g6 : ((pos : Int) == 0) = true := beq_iff_eq.mpr (by omega)
                        have HZ := Aside0.mk hz
                        clear hz
                        go_wp2
                        go_ret
                        refine ⟨?_, names_Is.below_iter m a0 _⟩
                        rw [← HH.out, names_Is.bad hp (by have hz := HZ.out; rw [HBT.out]; unfold names_Is.ok; first | (simp; done) | (simp; omega))]
                        rfl
                      · have g1 : decide ((97 : Int) ≤ (c : Int)) = false := decide_eq_false (by omega)
                        have g2 : decide ((c : Int) ≤ 122) = true := decide_eq_true (by omega)
                        have g3 : decide ((48 : Int) ≤ (c : Int)) = true := decide_eq_true (by omega)
                        have g4 : decide ((c : Int) ≤ 57) = true := decide_eq_true (by omega)
                        have g5 : ((c : Int) == 95) = false := beq_eq_false_iff_ne.mpr (by omega)
                        have g6 : ((pos : Int) == 0) = false := beq_eq_false_iff_ne.mpr (by omega)
                        go_wp2
                        go_roundg (a0.size - (pos + 1))
                        case measure => have := HK.out; omega
                        case rel =>
                          refine ⟨pos + 1, ⟨by omega⟩, ⟨rfl⟩, rfl, ⟨fun j hj => ?_⟩⟩
                          by_cases e : j = pos
                          · rw [e, HBT.out]; unfold names_Is.ok; first | (simp; done) | (simp; omega)
                          · exact HG.out j (by omega)
                    · skip
                      by_cases r2 : c ≤ 94
                      · by_cases hz : pos = 0
                        · have g1 : decide ((97 : Int) ≤ (c : Int)) = false := decide_eq_false (by omega)
                          have g2 : decide ((c : Int) ≤ 122) = true := decide_eq_true (by omega)
                          have g3 : decide ((48 : Int) ≤ (c : Int)) = true := decide_eq_true (by omega)
                          have g4 : decide ((c : Int) ≤ 57) = false := decide_eq_false (by omega)
                          have g5 : ((c : Int) == 95) = false := beq_eq_false_iff_ne.mpr (by omega)
                          have g6 : ((pos : Int) == 0) = true := beq_iff_eq.mpr (by omega)
                          have HZ := Aside0.mk hz
                          clear hz
                          go_wp2
                          go_ret
                          refine ⟨?_, names_Is.below_iter m a0 _⟩
                          rw [← HH.out, names_Is.bad hp (by have hz := HZ.out; rw [HBT.out]; unfold names_Is.ok; first | (simp; done) | (simp; omega))]
                          rfl
                        · have g1 : decide ((97 : Int) ≤ (c : Int)) = false := decide_eq_false (by omega)
                          have g2 : decide ((c : Int) ≤ 122) = true := decide_eq_true (by omega)
                          have g3 : decide ((48 : Int) ≤ (c : Int)) = true := decide_eq_true (by omega)
                          have g4 : decide ((c : Int) ≤ 57) = false := decide_eq_false (by omega)
                          have g5 : ((c : Int) == 95) = false := beq_eq_false_iff_ne.mpr (by omega)
                          have g6 : ((pos : Int) == 0) = false := beq_eq_false_iff_ne.mpr (by omega)
                          go_wp2
                          go_ret
                          refine ⟨?_, names_Is.below_iter m a0 _⟩
                          rw [← HH.out, names_Is.bad hp (by rw [HBT.out]; unfold names_Is.ok; first | (simp; done) | (simp; omega))]
                          rfl
                      · skip
                        by_cases r3 : c ≤ 95
                        · obtain rfl : c = 95 := by omega
                          by_cases hz : pos = 0
                          · have g1 : decide ((97 : Int) ≤ (95 : Int)) = false := decide_eq_false (by omega)
                            have g2 : decide ((95 : Int) ≤ 122) = true := decide_eq_true (by omega)
                            have g3 : decide ((48 : Int) ≤ (95 : Int)) = true := decide_eq_true (by omega)
                            have g4 : decide ((95 : Int) ≤ 57) = false := decide_eq_false (by omega)
                            have g5 : ((95 : Int) == 95) = true := beq_iff_eq.mpr (by omega)
                            have g6 : ((pos : Int) == 0) = true := beq_iff_eq.mpr (by omega)
                            have HZ := Aside0.mk hz
                            clear hz
                            go_wp2
                            go_ret
                            refine ⟨?_, names_Is.below_iter m a0 _⟩
                            rw [← HH.out, names_Is.bad hp (by have hz := HZ.out; rw [HBT.out]; unfold names_Is.ok; first | (simp; done) | (simp; omega))]
                            rfl
                          · have g1 : decide ((97 : Int) ≤ (95 : Int)) = false := decide_eq_false (by omega)
                            have g2 : decide ((95 : Int) ≤ 122) = true := decide_eq_true (by omega)
                            have g3 : decide ((48 : Int) ≤ (95 : Int)) = true := decide_eq_true (by omega)
                            have g4 : decide ((95 : Int) ≤ 57) = false := decide_eq_false (by omega)
                            have g5 : ((95 : Int) == 95) = true := beq_iff_eq.mpr (by omega)
                            have g6 : ((pos : Int) == 0) = false := beq_eq_false_iff_ne.mpr (by omega)
                            go_wp2
                            go_roundg (a0.size - (pos + 1))
                            case measure => have := HK.out; omega
                            case rel =>
                              refine ⟨pos + 1, ⟨by omega⟩, ⟨rfl⟩, rfl, ⟨fun j hj => ?_⟩⟩
                              by_cases e : j = pos
                              · rw [e, HBT.out]; unfold names_Is.ok; first | (simp; done) | (simp; omega)
                              · exact HG.out j (by omega)
                        · skip
                          by_cases r4 : c ≤ 96
                          · obtain rfl : c = 96 := by omega
                            by_cases hz : pos = 0
                            · have g1 : decide ((97 : Int) ≤ (96 : Int)) = false := decide_eq_false (by omega)
                              have g2 : decide ((96 : Int) ≤ 122) = true := decide_eq_true (by omega)
                              have g3 : decide ((48 : Int) ≤ (96 : Int)) = true := decide_eq_true (by omega)
                              have g4 : decide ((96 : Int) ≤ 57) = false := decide_eq_false (by omega)
                              have g5 : ((96 : Int) == 95) = false := beq_eq_false_iff_ne.mpr (by omega)
                              have g6 : ((pos : Int) == 0) = true := beq_iff_eq.mpr (by omega)
                              have HZ := Aside0.mk hz
                              clear hz
                              go_wp2
                              go_ret
                              refine ⟨?_, names_Is.below_iter m a0 _⟩
                              rw [← HH.out, names_Is.bad hp (by have hz := HZ.out; rw [HBT.out]; unfold names_Is.ok; first | (simp; done) | (simp; omega))]
                              rfl
                            · have g1 : decide ((97 : Int) ≤ (96 : Int)) = false := decide_eq_false (by omega)
                              have g2 : decide ((96 : Int) ≤ 122) = true := decide_eq_true (by omega)
                              have g3 : decide ((48 : Int) ≤ (96 : Int)) = true := decide_eq_true (by omega)
                              have g4 : decide ((96 : Int) ≤ 57) = false := decide_eq_false (by omega)
                              have g5 : ((96 : Int) == 95) = false := beq_eq_false_iff_ne.mpr (by omega)
                              have g6 : ((pos : Int) == 0) = false := beq_eq_false_iff_ne.mpr (by omega)
                              go_wp2
                              go_ret
                              refine ⟨?_, names_Is.below_iter m a0 _⟩
                              rw [← HH.out, names_Is.bad hp (by rw [HBT.out]; unfold names_Is.ok; first | (simp; done) | (simp; omega))]
                              rfl
                          · skip
                            by_cases hz : pos = 0
                            · have g1 : decide ((97 : Int) ≤ (c : Int)) = true := decide_eq_true (by omega)
                              have g2 : decide ((c : Int) ≤ 122) = false := decide_eq_false (by omega)
                              have g3 : decide ((48 : Int) ≤ (c : Int)) = true := decide_eq_true (by omega)
                              have g4 : decide ((c : Int) ≤ 57) = false := decide_eq_false (by omega)
                              have g5 : ((c : Int) == 95) = false := beq_eq_false_iff_ne.mpr (by omega)
                              have g6 : ((pos : Int) == 0) = true := beq_iff_eq.mpr (by omega)
                              have HZ := Aside0.mk hz
                              clear hz
                              go_wp2
                              go_ret
                              refine ⟨?_, names_Is.below_iter m a0 _⟩
                              rw [← HH.out, names_Is.bad hp (by have hz := HZ.out; rw [HBT.out]; unfold names_Is.ok; first | (simp; done) | (simp; omega))]
                              rfl
                            · have g1 : decide ((97 : Int) ≤ (c : Int)) = true := decide_eq_true (by omega)
                              have g2 : decide ((c : Int) ≤ 122) = false := decide_eq_false (by omega)
                              have g3 : decide ((48 : Int) ≤ (c : Int)) = true := decide_eq_true (by omega)
                              have g4 : decide ((c : Int) ≤ 57) = false := decide_eq_false (by omega)
                              have g5 : ((c : Int) == 95) = false := beq_eq_false_iff_ne.mpr (by omega)
                              have g6 : ((pos : Int) == 0) = false := beq_eq_false_iff_ne.mpr (by omega)
                              go_wp2
                              go_ret
                              refine ⟨?_, names_Is.below_iter m a0 _⟩
                              rw [← HH.out, names_Is.bad hp (by rw [HBT.out]; unfold names_Is.ok; first | (simp; done) | (simp; omega))]
                              rfl
              · have hnx : ∀ ty, (Instr.next (.pointer (some ⟨w.heap.size, 0, none⟩)) true ty).run Try.prog ((w.drewN m).iter a0 pos) = _ := fun ty => run_next_any (w.drewN m) a0 pos ty hp
                obtain ⟨hd1, -⟩ := decode_high a0 pos hp (by omega)
                generalize (Utf8.decode a0 pos).1 = c at hnx hd1
                generalize (Utf8.decode a0 pos).2 = c2 at hnx
                generalize (a0[pos]'hp).toNat = cb at HBT hasc
                by_cases hz : pos = 0
                · have g1 : decide ((97 : Int) ≤ (c : Int)) = true := decide_eq_true (by omega)
                  have g2 : decide ((c : Int) ≤ 122) = false := decide_eq_false (by omega)
                  have g3 : decide ((48 : Int) ≤ (c : Int)) = true := decide_eq_true (by omega)
                  have g4 : decide ((c : Int) ≤ 57) = false := decide_eq_false (by omega)
                  have g5 : ((c : Int) == 95) = false := beq_eq_false_iff_ne.mpr (by omega)
                  have g6 : ((pos : Int) == 0) = true := beq_iff_eq.mpr (by omega)
                  have HZ := Aside0.mk hz
                  clear hz
                  go_wp2
                  go_ret
                  refine ⟨?_, names_Is.below_iter m a0 _⟩
                  rw [← HH.out, names_Is.bad hp (by have hz := HZ.out; rw [HBT.out]; unfold names_Is.ok; first | (simp; done) | (simp; omega))]
                  rfl
                · have g1 : decide ((97 : Int) ≤ (c : Int)) = true := decide_eq_true (by omega)
                  have g2 : decide ((c : Int) ≤ 122) = false := decide_eq_false (by omega)
                  have g3 : decide ((48 : Int) ≤ (c : Int)) = true := decide_eq_true (by omega)
                  have g4 : decide ((c : Int) ≤ 57) = false := decide_eq_false (by omega)
                  have g5 : ((c : Int) == 95) = false := beq_eq_false_iff_ne.mpr (by omega)
                  have g6 : ((pos : Int) == 0) = false := beq_eq_false_iff_ne.mpr (by omega)
                  go_wp2
                  go_ret
                  refine ⟨?_, names_Is.below_iter m a0 _⟩
                  rw [← HH.out, names_Is.bad hp (by rw [HBT.out]; unfold names_Is.ok; first | (simp; done) | (simp; omega))]
                  rfl
            · have hnx : ∀ ty, (Instr.next (.pointer (some ⟨w.heap.size, 0, none⟩)) true ty).run Try.prog ((w.drewN m).iter a0 pos) = _ := fun ty => run_next_end (w.drewN m) a0 pos ty hp
              go_wp2
              go_ret
              refine ⟨?_, names_Is.below_iter m a0 _⟩
              rw [← HH.out, names_Is.good (fun j hj => HG.out j (by omega))]
              rfl


end Go.Proofs.Ytfpmbognpacidaa.XU
