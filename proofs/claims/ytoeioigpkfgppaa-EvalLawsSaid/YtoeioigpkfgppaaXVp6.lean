-- written by wip/xprint.py out of the translation
import Derived.Test.YtoeioigpkfgppaaXVp0
import Derived.Test.YtoeioigpkfgppaaXVp2
import Derived.Test.YtoeioigpkfgppaaXVp4
import Derived.Test.YtoeioigpkfgppaaXVp5
namespace Go.Proofs.Ytoeioigpkfgppaa.XV
open Go.Proofs.Ytoeioigpkfgppaa.XGrow Go.RowKit Go.Proofs.YtoeioigpkfgppaaW.PrintWords Go.Proofs.YtoeioigpkfgppaaW.PrintLast Go.Proofs.YtoeioigpkfgppaaW.PrintMore
attribute [local go_sem] max2_int min2_int max_two min_two max_three min_three max_four min_four   -- for this text's walks alone
set_option linter.unusedVariables false
set_option linter.unusedSimpArgs false

/-! ### eval_two: function 48 -/
mutual
def eval_two.j0 : Nat → Int → Int → Int → Bool → Option (Int)
  | 0, _, _, _, _ => none
  | k + 1, x1, x2, x7, x23 => if x23 = true then (some (mn x1 x2)) else (if x7 = 8 then (eval_two.j1 k x1 x2 x7 (x7 == 8)) else (eval_two.j1 k x1 x2 x7 (x7 == 20)))
def eval_two.j1 : Nat → Int → Int → Int → Bool → Option (Int)
  | 0, _, _, _, _ => none
  | k + 1, x1, x2, x7, x29 => if x29 = true then (some (mx x1 x2)) else (if x7 = 13 then ((eval_bit.f (x1 == x2)).bind fun t145 => (some t145)) else (if x7 = 14 then ((eval_bit.f (x1 != x2)).bind fun t146 => (some t146)) else (if x7 = 15 then ((eval_bit.f (decide (x1 < x2))).bind fun t147 => (some t147)) else (if x7 = 16 then ((eval_bit.f (decide (x1 ≤ x2))).bind fun t148 => (some t148)) else (if x7 = 17 then ((eval_bit.f (decide (x1 > x2))).bind fun t149 => (some t149)) else ((eval_bit.f (decide (x1 ≥ x2))).bind fun t150 => (some t150)))))))
end
def eval_two.f (k : Nat) (a0 : Int) (a1 : Int) (a2 : Int) : Option (Int) := if a0 = 4 then ((val_Plus.f a1 a2).bind fun t142 => (some t142)) else (if a0 = 5 then ((val_Minus.f a1 a2).bind fun t143 => (some t143)) else (if a0 = 6 then ((val_Times.f a1 a2).bind fun t144 => (some t144)) else (if a0 = 7 then (eval_two.j0 k a1 a2 a0 (a0 == 7)) else (eval_two.j0 k a1 a2 a0 (a0 == 19)))))
theorem eval_two.mono_l : ∀ k, (∀ y0 y1 y2 y3, LeO (eval_two.j0 k y0 y1 y2 y3) (eval_two.j0 (k + 1) y0 y1 y2 y3)) ∧ (∀ y0 y1 y2 y3, LeO (eval_two.j1 k y0 y1 y2 y3) (eval_two.j1 (k + 1) y0 y1 y2 y3))
  | 0 => ⟨fun _ _ _ _ r h => by simp [eval_two.j0] at h, fun _ _ _ _ r h => by simp [eval_two.j1] at h⟩
  | k + 1 => by
    obtain ⟨ih0, ih1⟩ := eval_two.mono_l k
    refine ⟨?_, ?_⟩
    · intro y0 y1 y2 y3
      unfold eval_two.j0
      repeat' first
      | (with_reducible exact ih0 _ _ _ _)
      | (with_reducible exact ih1 _ _ _ _)
      | (with_reducible exact LeO.refl _)
      | (with_reducible exact LeO.none _)
      | (with_reducible refine LeO.ite ?_ ?_)
      | (with_reducible refine LeO.bind ?_ (fun _ => ?_))
      | exact ih0 _ _ _ _
      | exact ih1 _ _ _ _
      | exact LeO.none _
      | refine LeO.ite ?_ ?_
      | refine LeO.bind ?_ (fun _ => ?_)
    · intro y0 y1 y2 y3
      unfold eval_two.j1
      repeat' first
      | (with_reducible exact ih0 _ _ _ _)
      | (with_reducible exact ih1 _ _ _ _)
      | (with_reducible exact LeO.refl _)
      | (with_reducible exact LeO.none _)
      | (with_reducible refine LeO.ite ?_ ?_)
      | (with_reducible refine LeO.bind ?_ (fun _ => ?_))
      | exact ih0 _ _ _ _
      | exact ih1 _ _ _ _
      | exact LeO.none _
      | refine LeO.ite ?_ ?_
      | refine LeO.bind ?_ (fun _ => ?_)
theorem eval_two.mono : ∀ a0 a1 a2 k, LeO (eval_two.f k a0 a1 a2) (eval_two.f (k + 1) a0 a1 a2) := by
  intro a0 a1 a2 k
  obtain ⟨ih0, ih1⟩ := eval_two.mono_l k
  unfold eval_two.f
  repeat' first
      | (with_reducible exact ih0 _ _ _ _)
      | (with_reducible exact ih1 _ _ _ _)
      | (with_reducible exact LeO.refl _)
      | (with_reducible exact LeO.none _)
      | (with_reducible refine LeO.ite ?_ ?_)
      | (with_reducible refine LeO.bind ?_ (fun _ => ?_))
      | exact ih0 _ _ _ _
      | exact ih1 _ _ _ _
      | exact LeO.none _
      | refine LeO.ite ?_ ?_
      | refine LeO.bind ?_ (fun _ => ?_)
set_option maxHeartbeats 8000000 in
set_option maxRecDepth 100000 in
theorem eval_two.calls (k : Nat) (a0 : Int) (a1 : Int) (a2 : Int) (r : Int) (w : World) (h : eval_two.f k a0 a1 a2 = some r) :
  Calls Try.prog 48 #[.int .i64 a0, .int .i64 a1, .int .i64 a2] w fun e w' => e = .returned (.int .i64 r) ∧ Below w.heap.size w w' := by
 have HB := Aside0.mk (Below.refl w.heap.size w)
 have H : (if a0 = 4 then ((val_Plus.f a1 a2).bind fun t142 => (some t142)) else (if a0 = 5 then ((val_Minus.f a1 a2).bind fun t143 => (some t143)) else (if a0 = 6 then ((val_Times.f a1 a2).bind fun t144 => (some t144)) else (if a0 = 7 then (eval_two.j0 k a1 a2 a0 (a0 == 7)) else (eval_two.j0 k a1 a2 a0 (a0 == 19)))))) = some r := h
 clear h
 by_cases c4 : a0 = 4
 ·rw [if_pos c4] at H
  have c4b0 : (a0 == 4) = true := beq_iff_eq.mpr c4
  have c4b1 : (a0 != 4) = false := bne_eq_false_iff_eq.mpr c4
  clear c4
  replace H := Option.bind_eq_some_iff.mp H
  obtain ⟨t142, A50, H⟩ := H
  replace H : (some t142) = some r := H
  have A5 := Aside0.mk A50
  clear A50
  obtain rfl := Option.some.inj H
  go_enter Try.func48, Try.ntmps48
  go_wp2_with (first | ((with_reducible refine gate_callee (f := 81) rfl ?_); refine goesL_ (some 12) rfl rfl Try.func81 (by kernel_rfl) rfl #[.int .i64 a1, .int .i64 a2] rfl (by (try simp only [List.map_toArray, List.map_cons, List.map_nil]); first | done | rfl | (simp only [List.length_drop, List.length_take]; rfl)) ?_; (with_reducible refine (val_Plus.calls a1 a2 t142 _ A5.out).mono ?_); rintro e w' ⟨rfl, ⟨nd, rfl⟩⟩; refine ⟨_, rfl, ?_⟩))
  go_ret
  exact ⟨by first | rfl | (simp [errW_none, errW_some] <;> rfl) | (simp [*, errW_none, errW_some] <;> rfl), by repeat (first | (with_reducible first | exact HB.out | apply below_alloc | apply pw_below_drewN | apply below_drew1) | exact HB.out)⟩
 rw [if_neg c4] at H
 have c4b0 : (a0 == 4) = false := beq_eq_false_iff_ne.mpr c4
 have c4b1 : (a0 != 4) = true := bne_iff_ne.mpr c4
 by_cases c6 : a0 = 5
 ·rw [if_pos c6] at H
  have c6b0 : (a0 == 5) = true := beq_iff_eq.mpr c6
  have c6b1 : (a0 != 5) = false := bne_eq_false_iff_eq.mpr c6
  clear c6
  replace H := Option.bind_eq_some_iff.mp H
  obtain ⟨t143, A70, H⟩ := H
  replace H : (some t143) = some r := H
  have A7 := Aside0.mk A70
  clear A70
  obtain rfl := Option.some.inj H
  go_enter Try.func48, Try.ntmps48
  go_wp2_with (first | ((with_reducible refine gate_callee (f := 44) rfl ?_); refine goesL_ (some 17) rfl rfl Try.func44 (by kernel_rfl) rfl #[.int .i64 a1, .int .i64 a2] rfl (by (try simp only [List.map_toArray, List.map_cons, List.map_nil]); first | done | rfl | (simp only [List.length_drop, List.length_take]; rfl)) ?_; (with_reducible refine (val_Minus.calls a1 a2 t143 _ A7.out).mono ?_); rintro e w' ⟨rfl, ⟨nd, rfl⟩⟩; refine ⟨_, rfl, ?_⟩))
  go_ret
  exact ⟨by first | rfl | (simp [errW_none, errW_some] <;> rfl) | (simp [*, errW_none, errW_some] <;> rfl), by repeat (first | (with_reducible first | exact HB.out | apply below_alloc | apply pw_below_drewN | apply below_drew1) | exact HB.out)⟩
 rw [if_neg c6] at H
 have c6b0 : (a0 == 5) = false := beq_eq_false_iff_ne.mpr c6
 have c6b1 : (a0 != 5) = true := bne_iff_ne.mpr c6
 by_cases c8 : a0 = 6
 ·rw [if_pos c8] at H
  have c8b0 : (a0 == 6) = true := beq_iff_eq.mpr c8
  have c8b1 : (a0 != 6) = false := bne_eq_false_iff_eq.mpr c8
  clear c8
  replace H := Option.bind_eq_some_iff.mp H
  obtain ⟨t144, A90, H⟩ := H
  replace H : (some t144) = some r := H
  have A9 := Aside0.mk A90
  clear A90
  obtain rfl := Option.some.inj H
  go_enter Try.func48, Try.ntmps48
  go_wp2_with (first | ((with_reducible refine gate_callee (f := 82) rfl ?_); refine goesL_ (some 22) rfl rfl Try.func82 (by kernel_rfl) rfl #[.int .i64 a1, .int .i64 a2] rfl (by (try simp only [List.map_toArray, List.map_cons, List.map_nil]); first | done | rfl | (simp only [List.length_drop, List.length_take]; rfl)) ?_; (with_reducible refine (val_Times.calls a1 a2 t144 _ A9.out).mono ?_); rintro e w' ⟨rfl, ⟨nd, rfl⟩⟩; refine ⟨_, rfl, ?_⟩))
  go_ret
  exact ⟨by first | rfl | (simp [errW_none, errW_some] <;> rfl) | (simp [*, errW_none, errW_some] <;> rfl), by repeat (first | (with_reducible first | exact HB.out | apply below_alloc | apply pw_below_drewN | apply below_drew1) | exact HB.out)⟩
 rw [if_neg c8] at H
 have c8b0 : (a0 == 6) = false := beq_eq_false_iff_ne.mpr c8
 have c8b1 : (a0 != 6) = true := bne_iff_ne.mpr c8
 have HC10 := Aside0.mk H
 clear H
 go_enter Try.func48, Try.ntmps48
 go_upto_if 23 with (fail)
 go_cut [23] (fun v23 wc => ∃ (kq : Nat) (x23_9 : Bool), v23 = .bool x23_9 ∧ Aside0 (eval_two.j0 kq a1 a2 a0 x23_9 = some r) ∧ Aside0 (kq ≤ k) ∧ Aside0 (Below w.heap.size w wc))
 case first =>
  have H := HC10.out
  clear HC10
  by_cases c11 : a0 = 7
  rotate_left
  ·rw [if_neg c11] at H
   have c11b0 : (a0 == 7) = false := beq_eq_false_iff_ne.mpr c11
   have c11b1 : (a0 != 7) = true := bne_iff_ne.mpr c11
   (first | rw [c11b0] | (simp only [i64_w, i32_w]; rw [c11b0]) | skip)
   have H' := Aside0.mk H
   clear H
   go_wp2
   go_meet
   case rel => exact ⟨_, ((a0 == 19)), (by first | rfl | (simp; done) | (simp [*]; done)), H', ⟨by first | omega | exact Nat.le_refl _⟩, ⟨by repeat (first | (with_reducible first | exact HB.out | apply below_alloc | apply pw_below_drewN | apply below_drew1) | exact HB.out)⟩⟩
  rw [if_pos c11] at H
  have c11b0 : (a0 == 7) = true := beq_iff_eq.mpr c11
  have c11b1 : (a0 != 7) = false := bne_eq_false_iff_eq.mpr c11
  clear c11
  (first | rw [c11b0] | (simp only [i64_w, i32_w]; rw [c11b0]) | skip)
  have H' := Aside0.mk H
  clear H
  go_wp2
  go_meet
  case rel => exact ⟨_, ((a0 == 7)), (by first | rfl | (simp; done) | (simp [*]; done)), H', ⟨by first | omega | exact Nat.le_refl _⟩, ⟨by repeat (first | (with_reducible first | exact HB.out | apply below_alloc | apply pw_below_drewN | apply below_drew1) | exact HB.out)⟩⟩
 case rest =>
  clear HC10
  try clear c1
  try clear p2
  try clear c4
  try clear c4b0
  try clear c4b1
  try clear c6
  try clear c6b0
  try clear c6b1
  try clear c8
  try clear c8b0
  try clear c8b1
  try clear c11
  try clear c11b0
  try clear c11b1
  obtain ⟨kq, x23_9, rfl, HA, HJ9, HB⟩ := hcut
  cases kq with
  | zero => exact absurd HA.out (by simp [eval_two.j0])
  | succ kj9 =>
   have H := HA.out
   clear HA
   simp only [eval_two.j0] at H
   by_cases c12 : x23_9 = true
   ·subst c12
    have H1 : (some (mn a1 a2)) = some r := by rw [if_pos rfl] at H; exact H
    clear H
    have H := H1
    clear H1
    obtain ⟨ji13, hji13⟩ : ∃ j_ : Int, (mn a1 a2) = j_ := ⟨_, rfl⟩
    replace H : (some ji13) = some r := by first | (rw [hji13] at H; exact H) | (simp only [hji13] at H ⊢; exact H)
    have hji13_ : (if a2 < a1 then a2 else a1) = ji13 := hji13
    obtain rfl := Option.some.inj H
    go_wp2
    go_ret
    exact ⟨by first | rfl | (simp [errW_none, errW_some] <;> rfl) | (simp only [← hji13]; first | rfl | (simp [errW_none, errW_some] <;> rfl)) | (simp [*, errW_none, errW_some] <;> rfl), by repeat (first | (with_reducible first | exact HB.out | apply below_alloc | apply pw_below_drewN | apply below_drew1) | exact HB.out)⟩
   replace c12 := Bool.eq_false_iff.mpr c12
   subst c12
   have H1 : (if a0 = 8 then (eval_two.j1 kj9 a1 a2 a0 (a0 == 8)) else (eval_two.j1 kj9 a1 a2 a0 (a0 == 20))) = some r := by rw [if_neg (show ¬ (false = true) by decide)] at H; exact H
   clear H
   have H := H1
   clear H1
   have HC14 := Aside0.mk H
   clear H
   go_upto_if 29 with (fail)
   go_cut [29] (fun v29 wc => ∃ (kq : Nat) (x29_13 : Bool), v29 = .bool x29_13 ∧ Aside0 (eval_two.j1 kq a1 a2 a0 x29_13 = some r) ∧ Aside0 (kq ≤ kj9) ∧ Aside0 (Below w.heap.size w wc))
   case first =>
    have H := HC14.out
    clear HC14
    by_cases c15 : a0 = 8
    rotate_left
    ·rw [if_neg c15] at H
     have c15b0 : (a0 == 8) = false := beq_eq_false_iff_ne.mpr c15
     have c15b1 : (a0 != 8) = true := bne_iff_ne.mpr c15
     (first | rw [c15b0] | (simp only [i64_w, i32_w]; rw [c15b0]) | skip)
     have H' := Aside0.mk H
     clear H
     go_wp2
     go_meet
     case rel => exact ⟨_, ((a0 == 20)), (by first | rfl | (simp; done) | (simp [*]; done)), H', ⟨by have := HJ9.out; first | omega | exact Nat.le_refl _⟩, ⟨by repeat (first | (with_reducible first | exact HB.out | apply below_alloc | apply pw_below_drewN | apply below_drew1) | exact HB.out)⟩⟩
    rw [if_pos c15] at H
    have c15b0 : (a0 == 8) = true := beq_iff_eq.mpr c15
    have c15b1 : (a0 != 8) = false := bne_eq_false_iff_eq.mpr c15
    clear c15
    (first | rw [c15b0] | (simp only [i64_w, i32_w]; rw [c15b0]) | skip)
    have H' := Aside0.mk H
    clear H
    go_wp2
    go_meet
    case rel => exact ⟨_, ((a0 == 8)), (by first | rfl | (simp; done) | (simp [*]; done)), H', ⟨by have := HJ9.out; first | omega | exact Nat.le_refl _⟩, ⟨by repeat (first | (with_reducible first | exact HB.out | apply below_alloc | apply pw_below_drewN | apply below_drew1) | exact HB.out)⟩⟩
   case rest =>
    clear HC14
    try clear c1
    try clear p2
    try clear c4
    try clear c4b0
    try clear c4b1
    try clear c6
    try clear c6b0
    try clear c6b1
    try clear c8
    try clear c8b0
    try clear c8b1
    try clear c11
    try clear c11b0
    try clear c11b1
    try clear c12
    try clear c15
    try clear c15b0
    try clear c15b1
    try clear p2
    obtain ⟨kq, x29_13, rfl, HA, HJ13, HB⟩ := hcut
    cases kq with
    | zero => exact absurd HA.out (by simp [eval_two.j1])
    | succ kj13 =>
     have H := HA.out
     clear HA
     simp only [eval_two.j1] at H
     by_cases c16 : x29_13 = true
     ·subst c16
      have H1 : (some (mx a1 a2)) = some r := by rw [if_pos rfl] at H; exact H
      clear H
      have H := H1
      clear H1
      obtain ⟨ji17, hji17⟩ : ∃ j_ : Int, (mx a1 a2) = j_ := ⟨_, rfl⟩
      replace H : (some ji17) = some r := by first | (rw [hji17] at H; exact H) | (simp only [hji17] at H ⊢; exact H)
      have hji17_ : (if a1 < a2 then a2 else a1) = ji17 := hji17
      obtain rfl := Option.some.inj H
      go_wp2
      go_ret
      exact ⟨by first | rfl | (simp [errW_none, errW_some] <;> rfl) | (simp only [← hji17]; first | rfl | (simp [errW_none, errW_some] <;> rfl)) | (simp [*, errW_none, errW_some] <;> rfl), by repeat (first | (with_reducible first | exact HB.out | apply below_alloc | apply pw_below_drewN | apply below_drew1) | exact HB.out)⟩
     replace c16 := Bool.eq_false_iff.mpr c16
     subst c16
     have H1 : (if a0 = 13 then ((eval_bit.f (a1 == a2)).bind fun t145 => (some t145)) else (if a0 = 14 then ((eval_bit.f (a1 != a2)).bind fun t146 => (some t146)) else (if a0 = 15 then ((eval_bit.f (decide (a1 < a2))).bind fun t147 => (some t147)) else (if a0 = 16 then ((eval_bit.f (decide (a1 ≤ a2))).bind fun t148 => (some t148)) else (if a0 = 17 then ((eval_bit.f (decide (a1 > a2))).bind fun t149 => (some t149)) else ((eval_bit.f (decide (a1 ≥ a2))).bind fun t150 => (some t150))))))) = some r := by rw [if_neg (show ¬ (false = true) by decide)] at H; exact H
     clear H
     have H := H1
     clear H1
     by_cases c18 : a0 = 13
     ·rw [if_pos c18] at H
      have c18b0 : (a0 == 13) = true := beq_iff_eq.mpr c18
      have c18b1 : (a0 != 13) = false := bne_eq_false_iff_eq.mpr c18
      clear c18
      replace H := Option.bind_eq_some_iff.mp H
      obtain ⟨t145, A190, H⟩ := H
      replace H : (some t145) = some r := H
      have A19 := Aside0.mk A190
      clear A190
      obtain rfl := Option.some.inj H
      go_wp2_with (first | ((with_reducible refine gate_callee (f := 79) rfl ?_); refine goesL_ (some 40) rfl rfl Try.func79 (by kernel_rfl) rfl #[.bool (a1 == a2)] rfl (by (try simp only [List.map_toArray, List.map_cons, List.map_nil]); first | done | rfl | (simp only [List.length_drop, List.length_take]; rfl)) ?_; (with_reducible refine (eval_bit.calls (a1 == a2) t145 _ A19.out).mono ?_); rintro e w' ⟨rfl, ⟨nd, rfl⟩⟩; refine ⟨_, rfl, ?_⟩))
      go_ret
      exact ⟨by first | rfl | (simp [errW_none, errW_some] <;> rfl) | (simp [*, errW_none, errW_some] <;> rfl), by repeat (first | (with_reducible first | exact HB.out | apply below_alloc | apply pw_below_drewN | apply below_drew1) | exact HB.out)⟩
     rw [if_neg c18] at H
     have c18b0 : (a0 == 13) = false := beq_eq_false_iff_ne.mpr c18
     have c18b1 : (a0 != 13) = true := bne_iff_ne.mpr c18
     by_cases c20 : a0 = 14
     ·rw [if_pos c20] at H
      have c20b0 : (a0 == 14) = true := beq_iff_eq.mpr c20
      have c20b1 : (a0 != 14) = false := bne_eq_false_iff_eq.mpr c20
      clear c20
      replace H := Option.bind_eq_some_iff.mp H
      obtain ⟨t146, A210, H⟩ := H
      replace H : (some t146) = some r := H
      have A21 := Aside0.mk A210
      clear A210
      obtain rfl := Option.some.inj H
      go_wp2_with (first | ((with_reducible refine gate_callee (f := 79) rfl ?_); refine goesL_ (some 46) rfl rfl Try.func79 (by kernel_rfl) rfl #[.bool (a1 != a2)] rfl (by (try simp only [List.map_toArray, List.map_cons, List.map_nil]); first | done | rfl | (simp only [List.length_drop, List.length_take]; rfl)) ?_; (with_reducible refine (eval_bit.calls (a1 != a2) t146 _ A21.out).mono ?_); rintro e w' ⟨rfl, ⟨nd, rfl⟩⟩; refine ⟨_, rfl, ?_⟩))
      go_ret
      exact ⟨by first | rfl | (simp [errW_none, errW_some] <;> rfl) | (simp [*, errW_none, errW_some] <;> rfl), by repeat (first | (with_reducible first | exact HB.out | apply below_alloc | apply pw_below_drewN | apply below_drew1) | exact HB.out)⟩
     rw [if_neg c20] at H
     have c20b0 : (a0 == 14) = false := beq_eq_false_iff_ne.mpr c20
     have c20b1 : (a0 != 14) = true := bne_iff_ne.mpr c20
     by_cases c22 : a0 = 15
     ·rw [if_pos c22] at H
      have c22b0 : (a0 == 15) = true := beq_iff_eq.mpr c22
      have c22b1 : (a0 != 15) = false := bne_eq_false_iff_eq.mpr c22
      clear c22
      replace H := Option.bind_eq_some_iff.mp H
      obtain ⟨t147, A230, H⟩ := H
      replace H : (some t147) = some r := H
      have A23 := Aside0.mk A230
      clear A230
      obtain rfl := Option.some.inj H
      go_wp2_with (first | ((with_reducible refine gate_callee (f := 79) rfl ?_); refine goesL_ (some 52) rfl rfl Try.func79 (by kernel_rfl) rfl #[.bool (decide (a1 < a2))] rfl (by (try simp only [List.map_toArray, List.map_cons, List.map_nil]); first | done | rfl | (simp only [List.length_drop, List.length_take]; rfl)) ?_; (with_reducible refine (eval_bit.calls (decide (a1 < a2)) t147 _ A23.out).mono ?_); rintro e w' ⟨rfl, ⟨nd, rfl⟩⟩; refine ⟨_, rfl, ?_⟩))
      go_ret
      exact ⟨by first | rfl | (simp [errW_none, errW_some] <;> rfl) | (simp [*, errW_none, errW_some] <;> rfl), by repeat (first | (with_reducible first | exact HB.out | apply below_alloc | apply pw_below_drewN | apply below_drew1) | exact HB.out)⟩
     rw [if_neg c22] at H
     have c22b0 : (a0 == 15) = false := beq_eq_false_iff_ne.mpr c22
     have c22b1 : (a0 != 15) = true := bne_iff_ne.mpr c22
     by_cases c24 : a0 = 16
     ·rw [if_pos c24] at H
      have c24b0 : (a0 == 16) = true := beq_iff_eq.mpr c24
      have c24b1 : (a0 != 16) = false := bne_eq_false_iff_eq.mpr c24
      clear c24
      replace H := Option.bind_eq_some_iff.mp H
      obtain ⟨t148, A250, H⟩ := H
      replace H : (some t148) = some r := H
      have A25 := Aside0.mk A250
      clear A250
      obtain rfl := Option.some.inj H
      go_wp2_with (first | ((with_reducible refine gate_callee (f := 79) rfl ?_); refine goesL_ (some 58) rfl rfl Try.func79 (by kernel_rfl) rfl #[.bool (decide (a1 ≤ a2))] rfl (by (try simp only [List.map_toArray, List.map_cons, List.map_nil]); first | done | rfl | (simp only [List.length_drop, List.length_take]; rfl)) ?_; (with_reducible refine (eval_bit.calls (decide (a1 ≤ a2)) t148 _ A25.out).mono ?_); rintro e w' ⟨rfl, ⟨nd, rfl⟩⟩; refine ⟨_, rfl, ?_⟩))
      go_ret
      exact ⟨by first | rfl | (simp [errW_none, errW_some] <;> rfl) | (simp [*, errW_none, errW_some] <;> rfl), by repeat (first | (with_reducible first | exact HB.out | apply below_alloc | apply pw_below_drewN | apply below_drew1) | exact HB.out)⟩
     rw [if_neg c24] at H
     have c24b0 : (a0 == 16) = false := beq_eq_false_iff_ne.mpr c24
     have c24b1 : (a0 != 16) = true := bne_iff_ne.mpr c24
     by_cases c26 : a0 = 17
     rotate_left
     ·rw [if_neg c26] at H
      have c26b0 : (a0 == 17) = false := beq_eq_false_iff_ne.mpr c26
      have c26b1 : (a0 != 17) = true := bne_iff_ne.mpr c26
      replace H := Option.bind_eq_some_iff.mp H
      obtain ⟨t150, A280, H⟩ := H
      replace H : (some t150) = some r := H
      have A28 := Aside0.mk A280
      clear A280
      obtain rfl := Option.some.inj H
      go_wp2_with (first | ((with_reducible refine gate_callee (f := 79) rfl ?_); refine goesL_ (some 68) rfl rfl Try.func79 (by kernel_rfl) rfl #[.bool (decide (a1 ≥ a2))] rfl (by (try simp only [List.map_toArray, List.map_cons, List.map_nil]); first | done | rfl | (simp only [List.length_drop, List.length_take]; rfl)) ?_; (with_reducible refine (eval_bit.calls (decide (a1 ≥ a2)) t150 _ A28.out).mono ?_); rintro e w' ⟨rfl, ⟨nd, rfl⟩⟩; refine ⟨_, rfl, ?_⟩))
      go_ret
      exact ⟨by first | rfl | (simp [errW_none, errW_some] <;> rfl) | (simp [*, errW_none, errW_some] <;> rfl), by repeat (first | (with_reducible first | exact HB.out | apply below_alloc | apply pw_below_drewN | apply below_drew1) | exact HB.out)⟩

     rw [if_pos c26] at H
     have c26b0 : (a0 == 17) = true := beq_iff_eq.mpr c26
     have c26b1 : (a0 != 17) = false := bne_eq_false_iff_eq.mpr c26
     clear c26
     replace H := Option.bind_eq_some_iff.mp H
     obtain ⟨t149, A270, H⟩ := H
     replace H : (some t149) = some r := H
     have A27 := Aside0.mk A270
     clear A270
     obtain rfl := Option.some.inj H
     go_wp2_with (first | ((with_reducible refine gate_callee (f := 79) rfl ?_); refine goesL_ (some 64) rfl rfl Try.func79 (by kernel_rfl) rfl #[.bool (decide (a1 > a2))] rfl (by (try simp only [List.map_toArray, List.map_cons, List.map_nil]); first | done | rfl | (simp only [List.length_drop, List.length_take]; rfl)) ?_; (with_reducible refine (eval_bit.calls (decide (a1 > a2)) t149 _ A27.out).mono ?_); rintro e w' ⟨rfl, ⟨nd, rfl⟩⟩; refine ⟨_, rfl, ?_⟩))
     go_ret
     exact ⟨by first | rfl | (simp [errW_none, errW_some] <;> rfl) | (simp [*, errW_none, errW_some] <;> rfl), by repeat (first | (with_reducible first | exact HB.out | apply below_alloc | apply pw_below_drewN | apply below_drew1) | exact HB.out)⟩
/-! ### eval_At: function 16 -/
-- USES slices.Backward[[]semblance/api.Term,semblance/api.Term]
-- USES (*semblance/eval.stack).push
-- USES (*semblance/eval.stack).pop
-- USES semblance/eval.Check
-- USES semblance/eval.leaf
-- USES semblance/eval.two
-- USES semblance/term.Arity
-- USES semblance/val.Minus
/-- the top, and what is below it -/
def eval_At.pop (s : List Int) : Option (List Int × Int) := match s.getLast? with | none => none | some x => some (s.dropLast, x)
theorem eval_At.pop_some {s s1 : List Int} {x : Int} (h : eval_At.pop s = some (s1, x)) : s = s1 ++ [x] := by
  unfold eval_At.pop at h
  cases hs : s.getLast? with
  | none => rw [hs] at h; cases h
  | some y =>
    rw [hs] at h
    simp only [Option.some.injEq, Prod.mk.injEq] at h
    obtain ⟨rfl, rfl⟩ := h
    obtain ⟨ys, rfl⟩ := List.getLast?_eq_some_iff.1 hs
    simp
/-- what a term makes of the stack -/
def eval_At.step (k : Nat) (l1_0 : List (S51)) (a1_1 a1_2 a1_3 a1_4 : Int) (l1_5 : List ByteArray) (s : List Int) (t : S47) : Option (List Int) :=
  if t.f0 = 3 then (eval_At.pop s).bind fun p => (val_Minus.f 0 p.2).bind fun y => some (p.1 ++ [y])
  else if t.f0 = 12 then (eval_At.pop s).bind fun p => some (p.1 ++ [wrap64 (1 - p.2)])
  else (term_Arity.f k t.f0).bind fun ar => if ar = 0 then (eval_leaf.f k t.f0 t.f1 t.f2 l1_0 a1_1 a1_2 a1_3 a1_4 l1_5).bind fun y => some (s ++ [y])
    else (eval_At.pop s).bind fun p => (eval_At.pop p.1).bind fun q => (eval_two.f k t.f0 p.2 q.2).bind fun y => some (q.1 ++ [y])
/-- the stack when n terms, from the last one on, are over -/
def eval_At.fold (k : Nat) (l1_0 : List (S51)) (a1_1 a1_2 a1_3 a1_4 : Int) (l1_5 : List ByteArray) (l : List (S47)) (n : Nat) : Option (List Int) := (l.reverse.take n).foldlM (eval_At.step k l1_0 a1_1 a1_2 a1_3 a1_4 l1_5) []
def eval_At.f (k : Nat) (l0 : List (S47)) (l1_0 : List (S51)) (a1_1 a1_2 a1_3 a1_4 : Int) (l1_5 : List ByteArray) : Option (Int × Int) :=
  (eval_Check.f k l0 l1_0 a1_1 a1_2 a1_3 a1_4 l1_5).bind fun e => if e = 0 then (if l0.length ≤ 1000 then (eval_At.fold k l1_0 a1_1 a1_2 a1_3 a1_4 l1_5 l0 l0.length).bind fun s => (eval_At.pop s).bind fun p => some (p.2, 0) else none) else some (0, e)
theorem eval_At.step_mono : ∀ a1 a2 a3 a4 a5 a6 s t k, LeO (eval_At.step k a1 a2 a3 a4 a5 a6 s t) (eval_At.step (k + 1) a1 a2 a3 a4 a5 a6 s t) := by
  intro a1 a2 a3 a4 a5 a6 s t k
  unfold eval_At.step
  exact LeO.ite (LeO.refl _) (LeO.ite (LeO.refl _) (LeO.bind (term_Arity.mono _ k) (fun ar => LeO.ite (LeO.bind (eval_leaf.mono _ _ _ _ _ _ _ _ _ k) (fun y => LeO.refl _)) (LeO.bind (LeO.refl _) (fun p => LeO.bind (LeO.refl _) (fun q => LeO.bind (eval_two.mono _ _ _ k) (fun y => LeO.refl _)))))))
theorem eval_At.foldM_mono {α β : Type} {f g : β → α → Option β} (h : ∀ s t, LeO (f s t) (g s t)) : ∀ (l : List α) (s : β), LeO (l.foldlM f s) (l.foldlM g s)
  | [], s => LeO.refl _
  | t :: l, s => by
    rw [List.foldlM_cons, List.foldlM_cons]
    exact LeO.bind (h s t) (fun s' => eval_At.foldM_mono h l s')
theorem eval_At.mono : ∀ a0 a1 a2 a3 a4 a5 a6 k, LeO (eval_At.f k a0 a1 a2 a3 a4 a5 a6) (eval_At.f (k + 1) a0 a1 a2 a3 a4 a5 a6) := by
  intro a0 a1 a2 a3 a4 a5 a6 k
  unfold eval_At.f eval_At.fold
  exact LeO.bind (eval_Check.mono _ _ _ _ _ _ _ k) (fun e => LeO.ite (LeO.ite (LeO.bind (eval_At.foldM_mono (fun s t => eval_At.step_mono _ _ _ _ _ _ s t k) _ _) (fun s => LeO.refl _)) (LeO.refl _)) (LeO.refl _))
theorem eval_At.fold_succ (k : Nat) (l1_0 : List (S51)) (a1_1 a1_2 a1_3 a1_4 : Int) (l1_5 : List ByteArray) (l : List (S47)) (n : Nat) (hn : n < l.length) : eval_At.fold k l1_0 a1_1 a1_2 a1_3 a1_4 l1_5 l (n + 1) = (eval_At.fold k l1_0 a1_1 a1_2 a1_3 a1_4 l1_5 l n).bind fun s => eval_At.step k l1_0 a1_1 a1_2 a1_3 a1_4 l1_5 s (l[l.length - 1 - n]'(by omega)) := by
  unfold eval_At.fold
  have hr : n < l.reverse.length := by simpa using hn
  rw [List.take_add_one, List.getElem?_eq_getElem hr, List.foldlM_append]
  simp only [Option.toList_some, List.foldlM_cons, List.foldlM_nil, List.getElem_reverse, bind_pure]
  rfl
theorem eval_At.fold_all (k : Nat) (l1_0 : List (S51)) (a1_1 a1_2 a1_3 a1_4 : Int) (l1_5 : List ByteArray) (l : List (S47)) (s : List Int) (h : eval_At.fold k l1_0 a1_1 a1_2 a1_3 a1_4 l1_5 l l.length = some s) : ∀ d n, d + n = l.length → ∃ s', eval_At.fold k l1_0 a1_1 a1_2 a1_3 a1_4 l1_5 l n = some s'
  | 0, n, e => by
    obtain rfl : n = l.length := by omega
    exact ⟨s, h⟩
  | d + 1, n, e => by
    obtain ⟨s', hs'⟩ := eval_At.fold_all k l1_0 a1_1 a1_2 a1_3 a1_4 l1_5 l s h d (n + 1) (by omega)
    rw [eval_At.fold_succ _ _ _ _ _ _ _ _ n (by omega)] at hs'
    obtain ⟨s2, h2, _⟩ := Option.bind_eq_some_iff.mp hs'
    exact ⟨s2, h2⟩
theorem eval_At.step_len (k : Nat) (l1_0 : List (S51)) (a1_1 a1_2 a1_3 a1_4 : Int) (l1_5 : List ByteArray) (s s' : List Int) (t : S47) (h : eval_At.step k l1_0 a1_1 a1_2 a1_3 a1_4 l1_5 s t = some s') : s'.length ≤ s.length + 1 := by
  have hp : ∀ {s : List Int} {p : List Int × Int}, eval_At.pop s = some p → p.1.length + 1 = s.length := fun {s p} hp => by rw [eval_At.pop_some (s1 := p.1) (x := p.2) hp]; simp
  unfold eval_At.step at h
  split at h
  · obtain ⟨p, h1, h⟩ := Option.bind_eq_some_iff.mp h
    obtain ⟨y, h2, h⟩ := Option.bind_eq_some_iff.mp h
    obtain rfl := Option.some.inj h
    have := hp h1; simp; omega
  split at h
  · obtain ⟨p, h1, h⟩ := Option.bind_eq_some_iff.mp h
    obtain rfl := Option.some.inj h
    have := hp h1; simp; omega
  obtain ⟨ar, h0, h⟩ := Option.bind_eq_some_iff.mp h
  split at h
  · obtain ⟨y, h2, h⟩ := Option.bind_eq_some_iff.mp h
    obtain rfl := Option.some.inj h
    simp
  · obtain ⟨p, h1, h⟩ := Option.bind_eq_some_iff.mp h
    obtain ⟨q, h3, h⟩ := Option.bind_eq_some_iff.mp h
    obtain ⟨y, h2, h⟩ := Option.bind_eq_some_iff.mp h
    obtain rfl := Option.some.inj h
    have := hp h1; have := hp h3; simp; omega
theorem eval_At.fold_len (k : Nat) (l1_0 : List (S51)) (a1_1 a1_2 a1_3 a1_4 : Int) (l1_5 : List ByteArray) (l : List (S47)) : ∀ n, n ≤ l.length → ∀ s, eval_At.fold k l1_0 a1_1 a1_2 a1_3 a1_4 l1_5 l n = some s → s.length ≤ n
  | 0, _, s, h => by
    simp only [eval_At.fold, List.take_zero, List.foldlM_nil] at h
    obtain rfl := Option.some.inj h
    simp
  | n + 1, hn, s, h => by
    rw [eval_At.fold_succ _ _ _ _ _ _ _ _ n (by omega)] at h
    obtain ⟨s2, h2, h3⟩ := Option.bind_eq_some_iff.mp h
    have := eval_At.fold_len k l1_0 a1_1 a1_2 a1_3 a1_4 l1_5 l n (by omega) s2 h2
    have := eval_At.step_len _ _ _ _ _ _ _ _ _ _ h3
    omega
open Go.Proofs.Ytoeioigpkfgppaa.XRange Go.Shelf in
attribute [local go_sem] Oper.semAt_some in
set_option maxHeartbeats 4000000 in
set_option maxRecDepth 100000 in
theorem eval_At.calls (k : Nat) (A0 : Option Addr) (c0 : Nat) (l0 : List (S47)) (A1_0 : Option Addr) (c1_0 : Nat) (l1_0 : List (S51)) (a1_1 : Int) (a1_2 : Int) (a1_3 : Int) (a1_4 : Int) (A1_5 : Option Addr) (c1_5 : Nat) (l1_5 : List ByteArray) (r0 : Int) (r1 : Int) (w : World) (hr0 : Kd.C k47 w A0 l0.length l0) (hc0 : l0.length ≤ c0) (hr1_0 : Kd.C k51 w A1_0 l1_0.length l1_0) (hc1_0 : l1_0.length ≤ c1_0) (hr1_5 : Kd.C Kd.string w A1_5 l1_5.length l1_5) (hc1_5 : l1_5.length ≤ c1_5) (h : eval_At.f k l0 l1_0 a1_1 a1_2 a1_3 a1_4 l1_5 = some (r0, r1)) :
    Calls Try.prog 16 #[.slice A0 l0.length c0, .agg #[.slice A1_0 l1_0.length c1_0, .int .i64 a1_1, .int .i64 a1_2, .int .i64 a1_3, .int .i64 a1_4, .slice A1_5 l1_5.length c1_5]] w fun e w' => e = .returned (.tuple #[.int .i64 r0, .int .i64 r1]) ∧ Below w.heap.size w w' := by
  unfold eval_At.f at h
  obtain ⟨e, he, h⟩ := Option.bind_eq_some_iff.mp h
  obtain ⟨we, hwe⟩ : ∃ we, we = w.alloc (.cells #[.slice A1_0 l1_0.length c1_0, .int .i64 a1_1, .int .i64 a1_2, .int .i64 a1_3, .int .i64 a1_4, .slice A1_5 l1_5.length c1_5] 36) := ⟨_, rfl⟩
  have hbe : Below w.heap.size w we := by rw [hwe]; exact (Below.refl _ _).alloc (Nat.le_refl _) _
  have hke : we.heap[w.heap.size]? = some (.cells #[.slice A1_0 l1_0.length c1_0, .int .i64 a1_1, .int .i64 a1_2, .int .i64 a1_3, .int .i64 a1_4, .slice A1_5 l1_5.length c1_5] 36 (0, 0)) := by rw [hwe]; exact heap_alloc_new w _
  have hse : we.heap.size = w.heap.size + 1 := by rw [hwe]; simp
  obtain ⟨hcz0, hcz1, hcz2, hcz3, hcz4, hcz5⟩ := cz6_ hke
  have hu36 := Try.underlying36
  have HCK := Aside0.mk (eval_Check.calls k A0 c0 l0 A1_0 c1_0 l1_0 a1_1 a1_2 a1_3 a1_4 A1_5 c1_5 l1_5 e we (Kd.C_below hr0 hbe) hc0 (Kd.C_below hr1_0 hbe) hc1_0 (Kd.C_below hr1_5 hbe) hc1_5 he)
  have HBE := Aside0.mk hbe
  have HKE := Aside0.mk hke
  have HSE := Aside0.mk hse
  have HR0 := Aside0.mk hr0
  have HR1 := Aside0.mk hr1_0
  have HR5 := Aside0.mk hr1_5
  clear hbe hke hse hr0 hr1_0 hr1_5 he
  by_cases c1 : e = 0
  · rw [if_pos c1] at h
    subst c1
    split at h
    case isFalse => cases h
    case isTrue hbig =>
    obtain ⟨s, hs, h⟩ := Option.bind_eq_some_iff.mp h
    obtain ⟨p, hp, h⟩ := Option.bind_eq_some_iff.mp h
    simp only [Option.some.injEq, Prod.mk.injEq] at h
    obtain ⟨rfl, rfl⟩ := h
    have HS := Aside0.mk hs
    have HP := Aside0.mk (eval_At.pop_some (s1 := p.1) (x := p.2) hp)
    have HBIG := Aside0.mk hbig
    clear hs hp hbig
    refine (callsIn_wide (n := 9)).1 ?_
    refine callsIn_of_wp_marks Try.func16 rfl trivial ?_ rfl
    simp only [Try.ntmps16, List.size_toArray, List.length_cons, List.length_nil, Nat.reduceAdd, Nat.reduceSub, Array.replicate_succ, Array.replicate_zero, List.push_toArray, List.append_toArray, List.nil_append, List.cons_append]
    refine wpIn_wide.2 ?_
    subst hwe
    go_wp2_with fail
    go_at_call 18
    refine HCK.out.mono ?_
    rintro e w1 ⟨rfl, hb1⟩
    have hB1 : Below w.heap.size w w1 := HBE.out.trans (hb1.mono HBE.out.size)
    have hk1 := (hb1.block w.heap.size (by have := HSE.out; omega)).trans HKE.out
    have hs1 : w.heap.size < w1.heap.size := by have := HSE.out; have := hb1.size; omega
    have HB1 := Aside0.mk hB1
    have HK1 := Aside0.mk hk1
    have HS1 := Aside0.mk hs1
    clear hB1 hk1 hs1 hb1 hcz0 hcz1 hcz2 hcz3 hcz4 hcz5 HCK
    go_wp2_with fail
    go_at_call 42
    refine (callsIn_wide.1 (eval_back.made 5 A0 c0 l0.length _)).mono ?_
    rintro e wE ⟨rfl, hwE⟩
    go_wp2_with fail
    refine (wpIn_wide (n := 9)).1 ?_
    have hBw : Below w1.heap.size w1 ((w1.alloc (.cells #[.slice none 0 0] 75)).alloc (.cells #[.slice A0 l0.length c0] 33)) := ((Below.refl _ w1).alloc (Nat.le_refl _) _).alloc (by simp) _
    have bS := (Boxed.new w1 75 (.slice none 0 0)).alloc (.cells #[.slice A0 l0.length c0] 33)
    have bL := Boxed.new (w1.alloc (.cells #[.slice none 0 0] 75)) 33 (.slice A0 l0.length c0)
    rw [World.size_alloc] at bL
    have hsz : ((w1.alloc (.cells #[.slice none 0 0] 75)).alloc (.cells #[.slice A0 l0.length c0] 33)).heap.size = w1.heap.size + 2 := by simp
    generalize (w1.alloc (.cells #[.slice none 0 0] 75)).alloc (.cells #[.slice A0 l0.length c0] 33) = We at hBw bS bL hsz ⊢
    refine act_gen (fun tm htm => ?_)
    dsimp only at htm ⊢
    obtain ⟨stk, hstk⟩ : ∃ stk : Nat → List Int, stk = fun j => (eval_At.fold k l1_0 a1_1 a1_2 a1_3 a1_4 l1_5 l0 j).getD [] := ⟨_, rfl⟩
    have hst0 : stk 0 = [] := by rw [hstk]; simp [eval_At.fold]
    have hown : Own (fun (j : Nat) W => eval_st.At w1.heap.size W w1.heap.size (stk j)) := fun j X Y row ⟨v, hv, hr⟩ hg hrow => by
      obtain ⟨v', hv', hr', _⟩ := holdsRow_own w1.heap.size w1.heap.size 75 3 1 (fun j : Nat => (stk j).length) (fun j => (stk j).map (Value.int .i64)) (fun _ _ => True) j X Y row ⟨v, hv, hr, trivial⟩ hg hrow
      exact ⟨v', hv', hr'⟩
    have hown2 : Own (fun (j : Nat) W => eval_st.At w1.heap.size W w1.heap.size (stk j) ∧ Boxed W (w1.heap.size + 1) 33 (.slice A0 l0.length c0)) := fun j X Y row ⟨h1, hv⟩ hg hrow => ⟨hown j X Y row h1 hg hrow, hv.kept hg (fun e' => by obtain ⟨o, ho, hc⟩ := hrow _ e'.symm; rw [show X.heap[w1.heap.size + 1]? = _ from hv] at ho; cases ho; cases hc)⟩
    have hC1 := Kd.C_below HR0.out HB1.out
    refine range_all rfl (by decide : 1 ≤ 9) (gf := 77) (lb := #[.pointer (some ⟨w1.heap.size + 1, 0, none⟩)]) (by rw [htm]; rfl) trivial (Go.Proofs.enters_of Try.func77 (by kernel_rfl) rfl)
      l0.length (fun j => #[.int .i64 ((l0.length - 1 - j : Nat) : Int), eval_tm (l0.getD (l0.length - 1 - j) ⟨0, 0, ⟨#[]⟩⟩)]) (fun _ => rfl)
      (fun A B => Below w1.heap.size A B ∧ B.cell? ⟨w1.heap.size + 1, 0, none⟩ = A.cell? ⟨w1.heap.size + 1, 0, none⟩) (fun h k => ⟨h.1.trans k.1, k.2.trans h.2⟩)
      (fun W l o o' hl h ho => ⟨(Below.refl _ W).grown (grownBy_putObj' W l o') (by have := (Array.getElem?_eq_some_iff.1 h).1; omega) (fun k e => by cases e; omega), cell_putObj _ (by omega)⟩)
      (fun l J W hW hJ0 hY => eval_back.in_ 8 (by decide) l (w1.heap.size + 1) w1.heap.size A0 c0 l0 w1 rfl hC1 J (fun j W' hj hJ => by
        have := hY j W' hj hJ
        have hlt : l0.length - 1 - j < l0.length := by omega
        simpa [List.getD, hlt] using this) W ((hW.cell (p := ⟨w1.heap.size + 1, 0, none⟩) (by simp; omega)).trans bL.cell) (hBw.trans (hW.mono (by omega))) hJ0)
      (fun j W => (eval_st.At w1.heap.size W w1.heap.size (stk j) ∧ Boxed W (w1.heap.size + 1) 33 (.slice A0 l0.length c0)) ∧ Below w1.heap.size w1 W)
      (OwnFrom.and (Own.from hown2 _) (ownFrom_below (Nat.le_refl _) (by omega)))
      ⟨⟨⟨_, bS, by rw [hst0]; exact World.ownsRow_nil _ _ _ _⟩, bL⟩, hBw⟩
      (fun a₁ j W => (∃ Bx, a₁ = { tmps := ((tm.setIfInBounds 19 (.int .i64 ((l0.length - 1 - j : Nat) : Int))).setIfInBounds 20 (eval_tm (l0.getD (l0.length - 1 - j) ⟨0, 0, ⟨#[]⟩⟩))).setIfInBounds 9 (.pointer (some ⟨Bx, 0, none⟩)), defers := [] } ∧
        W.heap[Bx]? = some (.cells #[.int .i64 (l0.getD (l0.length - 1 - j) ⟨0, 0, ⟨#[]⟩⟩).f0, .int .i64 (l0.getD (l0.length - 1 - j) ⟨0, 0, ⟨#[]⟩⟩).f1, .string (l0.getD (l0.length - 1 - j) ⟨0, 0, ⟨#[]⟩⟩).f2] 47 (0, 0)) ∧ w1.heap.size + 1 < Bx) ∧ ((eval_st.At w1.heap.size W w1.heap.size (stk j) ∧ Boxed W (w1.heap.size + 1) 33 (.slice A0 l0.length c0)) ∧ Below w1.heap.size w1 W))
      ?hI2 ?hassign ?hbody ?hdone
    case hI2 =>
      intro a₁ j X Y row ⟨⟨Bx, e, hk, hlt⟩, hi⟩ hg hr
      exact ⟨⟨Bx, e, (hg.block Bx (Array.getElem?_eq_some_iff.1 hk).1 (fun e' => by obtain ⟨_, o, ho, hc⟩ := hr Bx e'.symm; rw [hk] at ho; cases ho; cases hc)).trans hk, hlt⟩, (OwnFrom.and (Own.from hown2 _) (ownFrom_below (Nat.le_refl _) (by omega))) j X Y row hi hg hr⟩
    case hassign =>
      rintro l j W hj ⟨⟨hAt, hBn⟩, hBW⟩
      subst htm
      have hnW : w1.heap.size ≤ W.heap.size := hBW.size
      gi_wp2
      refine ⟨KeepsOthers.alloc _ _, ⟨(Below.refl _ _).alloc hnW _, (hBn.alloc _).cell.trans hBn.cell.symm⟩, ⟨W.heap.size, rfl, ?_, hBn.lt⟩, ⟨hAt.alloc _, hBn.alloc _⟩, hBW.alloc hnW _⟩
      exact (heap_alloc_new W _).trans rfl
    case hbody =>
      rintro l j a₁ W hj ⟨⟨Bx, rfl, hk, hlt⟩, ⟨hAt, hBn⟩, hBW⟩
      have hnW : w1.heap.size ≤ W.heap.size := hBW.size
      have hjl : l0.length - 1 - j < l0.length := by omega
      obtain ⟨t, ht⟩ : ∃ t, t = l0[l0.length - 1 - j] := ⟨_, rfl⟩
      have hgd : l0.getD (l0.length - 1 - j) ⟨0, 0, ⟨#[]⟩⟩ = t := by rw [ht]; simp [List.getD, hjl]
      rw [hgd] at hk ⊢
      obtain ⟨s0, hs0⟩ := eval_At.fold_all _ _ _ _ _ _ _ _ _ HS.out (l0.length - j) j (by omega)
      obtain ⟨s1, hs1⟩ := eval_At.fold_all _ _ _ _ _ _ _ _ _ HS.out (l0.length - (j + 1)) (j + 1) (by omega)
      have e0 : stk j = s0 := by rw [hstk]; simp [hs0]
      have e1 : stk (j + 1) = s1 := by rw [hstk]; simp [hs1]
      have hln : s0.length ≤ 1000 := by have := eval_At.fold_len _ _ _ _ _ _ _ _ _ (by omega) _ hs0; have := HBIG.out; omega
      have hstep := hs1
      rw [eval_At.fold_succ _ _ _ _ _ _ _ _ j hj, hs0, Option.bind_some, ← ht] at hstep
      rw [e0] at hAt
      rw [e1]
      clear e0 e1 hs0 hs1 hgd ht hstk hst0 hown hown2 hC1 bS bL hBw hsz
      have hsW : Bx < W.heap.size := (Array.getElem?_eq_some_iff.1 hk).1
      have hbx : Bx ≠ w1.heap.size := by omega
      obtain ⟨hx0, hx1, hx2⟩ := cz3_ hk
      have hkE := (hBW.block w.heap.size (by have := HS1.out; omega)).trans HK1.out
      obtain ⟨hz0, hz1, hz2, hz3, hz4, hz5⟩ := cz6_ hkE
      have HSTEP := Aside0.mk hstep
      have HKE := Aside0.mk hkE
      have hfin : ∀ W', eval_st.At w1.heap.size W' w1.heap.size s1 → eval_st.Goes w1.heap.size w1.heap.size W W' → KeepsOthers W W' ∧ (Below w1.heap.size W W' ∧ W'.cell? ⟨w1.heap.size + 1, 0, none⟩ = W.cell? ⟨w1.heap.size + 1, 0, none⟩) ∧ (eval_st.At w1.heap.size W' w1.heap.size s1 ∧ Boxed W' (w1.heap.size + 1) 33 (.slice A0 l0.length c0)) ∧ Below w1.heap.size w1 W' := by
        intro W' h1 h2
        have hb : Boxed W' (w1.heap.size + 1) 33 (.slice A0 l0.length c0) := h2.2.2 _ _ _ _ (by omega) (by decide) hBn
        exact ⟨h2.1, ⟨h2.2.1, hb.cell.trans hBn.cell.symm⟩, ⟨h1, hb⟩, hBW.trans h2.2.1⟩
      have HFIN := Aside0.mk hfin
      clear hstep hkE hfin
      subst htm
      have hf45 : Fence.wide.fn 45 := trivial
      have hf43 : Fence.wide.fn 43 := trivial
      have hf44 : Fence.wide.fn 44 := trivial
      have hf46 : Fence.wide.fn 46 := trivial
      have hf47 : Fence.wide.fn 47 := trivial
      have hf48 : Fence.wide.fn 48 := trivial
      by_cases q3 : t.f0 = 3
      · have hst := HSTEP.out
        unfold eval_At.step at hst
        rw [if_pos q3] at hst
        obtain ⟨p, h1, hst⟩ := Option.bind_eq_some_iff.mp hst
        obtain ⟨y, h2, hst⟩ := Option.bind_eq_some_iff.mp hst
        obtain rfl := Option.some.inj hst
        have hp := eval_At.pop_some (s1 := p.1) (x := p.2) h1
        subst hp
        have hl1 : p.1.length ≤ 1000 := by simp at hln; omega
        have h3b : (t.f0 == 3) = true := beq_iff_eq.mpr q3
        gi_wp2_with fail
        gi_at_call 45
        refine (CallsIn.inRound l (callsIn_wide.2 (eval_st.pop w1.heap.size w1.heap.size p.1 p.2 W hAt hl1 hnW (Nat.le_refl _)))).mono ?_
        rintro e W2 ⟨rfl, hAt2, hG2⟩
        gi_wp2_with fail
        gi_at_call 44
        refine (CallsIn.inRound l (callsIn_wide.2 (val_Minus.calls 0 p.2 y W2 h2))).mono ?_
        rintro e W3 ⟨rfl, hd3⟩
        have hAt3 := hAt2.below hd3.below
        have hG3 := hG2.trans (eval_st.Goes.below hd3.below (by have := hG2.2.1.size; omega))
        gi_wp2_with fail
        gi_at_call 43
        refine (CallsIn.inRound l (callsIn_wide.2 (eval_st.push w1.heap.size w1.heap.size p.1 y W3 hAt3 hl1 (by have := hG3.2.1.size; omega) (Nat.le_refl _)))).mono ?_
        rintro e W4 ⟨⟨u, rfl⟩, hAt4, hG4⟩
        gi_wp2
        have hf := HFIN.out W4 hAt4 (hG3.trans hG4)
        exact ⟨hf.1, hf.2.1, hf.2.2.1.2, hf.2.2.2⟩
      have h3b : (t.f0 == 3) = false := beq_eq_false_iff_ne.mpr q3
      by_cases q12 : t.f0 = 12
      · have hst := HSTEP.out
        unfold eval_At.step at hst
        rw [if_neg q3, if_pos q12] at hst
        obtain ⟨p, h1, hst⟩ := Option.bind_eq_some_iff.mp hst
        obtain rfl := Option.some.inj hst
        have hp := eval_At.pop_some (s1 := p.1) (x := p.2) h1
        subst hp
        have hl1 : p.1.length ≤ 1000 := by simp at hln; omega
        have h12b : (t.f0 == 12) = true := beq_iff_eq.mpr q12
        gi_wp2_with fail
        gi_at_call 45
        refine (CallsIn.inRound l (callsIn_wide.2 (eval_st.pop w1.heap.size w1.heap.size p.1 p.2 W hAt hl1 hnW (Nat.le_refl _)))).mono ?_
        rintro e W2 ⟨rfl, hAt2, hG2⟩
        gi_wp2_with fail
        gi_at_call 43
        refine (CallsIn.inRound l (callsIn_wide.2 (eval_st.push w1.heap.size w1.heap.size p.1 (wrap64 (1 - p.2)) W2 hAt2 hl1 (by have := hG2.2.1.size; omega) (Nat.le_refl _)))).mono ?_
        rintro e W4 ⟨⟨u, rfl⟩, hAt4, hG4⟩
        gi_wp2
        have hf := HFIN.out W4 hAt4 (hG2.trans hG4)
        exact ⟨hf.1, hf.2.1, hf.2.2.1.2, hf.2.2.2⟩
      have h12b : (t.f0 == 12) = false := beq_eq_false_iff_ne.mpr q12
      have hst := HSTEP.out
      unfold eval_At.step at hst
      rw [if_neg q3, if_neg q12] at hst
      obtain ⟨ar, ha, hst⟩ := Option.bind_eq_some_iff.mp hst
      have HA := Aside0.mk (term_Arity.calls k t.f0 ar W ha)
      by_cases qa : ar = 0
      · rw [if_pos qa] at hst
        obtain ⟨y, h2, hst⟩ := Option.bind_eq_some_iff.mp hst
        obtain rfl := Option.some.inj hst
        have hab : (ar == 0) = true := beq_iff_eq.mpr qa
        have HL := Aside0.mk h2
        clear h2 ha
        gi_wp2_with fail
        gi_at_call 46
        refine (CallsIn.inRound l (callsIn_wide.2 HA.out)).mono ?_
        rintro e W2 ⟨rfl, hd2⟩
        have hb2 := hd2.below
        have hAt2 := hAt.below hb2
        have hG2 : eval_st.Goes w1.heap.size w1.heap.size W W2 := eval_st.Goes.below hb2 hnW
        obtain ⟨hy0, hy1, hy2⟩ := cz3_ ((hb2.block Bx hsW).trans hk)
        obtain ⟨he0, he1, he2, he3, he4, he5⟩ := cz6_ ((hb2.block w.heap.size (by have := HS1.out; omega)).trans HKE.out)
        have hBW2 : Below w.heap.size w W2 := HB1.out.trans ((hBW.mono (Nat.le_of_lt HS1.out)).trans (hb2.mono (by have := HS1.out; omega)))
        have HL2 := Aside0.mk (eval_leaf.calls k t.f0 t.f1 t.f2 A1_0 c1_0 l1_0 a1_1 a1_2 a1_3 a1_4 A1_5 c1_5 l1_5 y W2 (Kd.C_below HR1.out hBW2) hc1_0 (Kd.C_below HR5.out hBW2) hc1_5 HL.out)
        clear HL
        gi_wp2_with fail
        gi_at_call 47
        refine (CallsIn.inRound l (callsIn_wide.2 HL2.out)).mono ?_
        rintro e W3 ⟨rfl, hb3⟩
        have hAt3 := hAt2.below hb3
        have hG3 := hG2.trans (eval_st.Goes.below hb3 (by have := hG2.2.1.size; omega))
        gi_wp2_with fail
        gi_at_call 43
        refine (CallsIn.inRound l (callsIn_wide.2 (eval_st.push w1.heap.size w1.heap.size s0 y W3 hAt3 hln (by have := hG3.2.1.size; omega) (Nat.le_refl _)))).mono ?_
        rintro e W4 ⟨⟨u, rfl⟩, hAt4, hG4⟩
        gi_wp2
        have hf := HFIN.out W4 hAt4 (hG3.trans hG4)
        exact ⟨hf.1, hf.2.1, hf.2.2.1.2, hf.2.2.2⟩
      · rw [if_neg qa] at hst
        obtain ⟨p, h1, hst⟩ := Option.bind_eq_some_iff.mp hst
        obtain ⟨q, h3, hst⟩ := Option.bind_eq_some_iff.mp hst
        obtain ⟨y, h2, hst⟩ := Option.bind_eq_some_iff.mp hst
        obtain rfl := Option.some.inj hst
        have hp := eval_At.pop_some (s1 := p.1) (x := p.2) h1
        have hq := eval_At.pop_some (s1 := q.1) (x := q.2) h3
        rw [hq] at hp
        subst hp
        have hl1 : (q.1 ++ [q.2]).length ≤ 1000 := by simp at hln ⊢; omega
        have hl2 : q.1.length ≤ 1000 := by simp at hl1; omega
        have hab : (ar == 0) = false := beq_eq_false_iff_ne.mpr qa
        have HTWO := Aside0.mk h2
        clear h2 ha h1 h3 hq
        gi_wp2_with fail
        gi_at_call 46
        refine (CallsIn.inRound l (callsIn_wide.2 HA.out)).mono ?_
        rintro e W2 ⟨rfl, hd2⟩
        have hb2 := hd2.below
        have hAt2 := hAt.below hb2
        have hG2 : eval_st.Goes w1.heap.size w1.heap.size W W2 := eval_st.Goes.below hb2 hnW
        have hkx2 := (hb2.block Bx hsW).trans hk
        obtain ⟨hy0, hy1, hy2⟩ := cz3_ hkx2
        gi_wp2_with fail
        gi_at_call 45
        refine (CallsIn.inRound l (callsIn_wide.2 (eval_st.pop w1.heap.size w1.heap.size (q.1 ++ [q.2]) p.2 W2 hAt2 hl1 (by have := hG2.2.1.size; omega) (Nat.le_refl _)))).mono ?_
        rintro e W3 ⟨rfl, hAt3, hG3⟩
        have hkx3 := hG3.2.2 Bx _ _ _ hbx (by decide) hkx2
        obtain ⟨hv0, hv1, hv2⟩ := cz3_ hkx3
        have hAt3d := hAt3.drew
        have hG3d := hG2.trans (hG3.trans (eval_st.Goes.drew w1.heap.size w1.heap.size W3))
        gi_wp2_with fail
        gi_region_with (first
          | (gi_at_call 45; refine (CallsIn.inRound l (callsIn_wide.2 (eval_st.pop w1.heap.size w1.heap.size q.1 q.2 W3.drew hAt3d hl2 (by have := hG3d.2.1.size; omega) (Nat.le_refl _)))).mono ?_; rintro e W5 ⟨rfl, hAt5, hG5⟩; have hG5' := hG3d.trans hG5; obtain ⟨hu0, hu1, hu2⟩ := cz3_ (hG5.2.2 Bx _ _ _ hbx (by decide) hkx3))
          | (gi_at_call 48; refine (CallsIn.inRound l (callsIn_wide.2 (eval_two.calls k t.f0 p.2 q.2 y _ HTWO.out))).mono ?_; rintro e W6 ⟨rfl, hb6⟩; have hAt6 := hAt5.below hb6; have hG6 := hG5'.trans (eval_st.Goes.below hb6 (by have := hG5'.2.1.size; omega)))
          | (gi_at_call 43; refine (CallsIn.inRound l (callsIn_wide.2 (eval_st.push w1.heap.size w1.heap.size q.1 y W6 hAt6 hl2 (by have := hG6.2.1.size; omega) (Nat.le_refl _)))).mono ?_; rintro e W7 ⟨⟨u, rfl⟩, hAt7, hG7⟩))
        all_goals
          gi_wp2
          have hf := HFIN.out W7 hAt7 (hG6.trans hG7)
          exact ⟨hf.1, hf.2.1, hf.2.2.1.2, hf.2.2.2⟩
    case hdone =>
      rintro D W hD ⟨⟨hAt, hBn⟩, hBW⟩ hKD
      subst htm
      have e0 : stk l0.length = p.1 ++ [p.2] := by rw [hstk]; simp [HS.out, HP.out]
      have hln : p.1.length ≤ 1000 := by
        have := eval_At.fold_len _ _ _ _ _ _ _ _ _ (Nat.le_refl _) _ HS.out
        have := HBIG.out
        have e := congrArg List.length HP.out
        simp only [List.length_append, List.length_cons, List.length_nil] at e
        omega
      rw [e0] at hAt
      have HKD := Aside0.mk hKD
      have HD := Aside0.mk (show w1.heap.size ≤ D by omega)
      have hnW : w1.heap.size ≤ W.heap.size := hBW.size
      clear e0 hstk hst0 hown hown2 hC1 bS bL hBw hsz hKD hD
      go_wp2_with fail
      go_at_call 45
      refine (eval_st.pop w1.heap.size w1.heap.size p.1 p.2 W hAt hln hnW (Nat.le_refl _)).mono ?_
      rintro e W2 ⟨rfl, hAt2, hG2⟩
      have hK2 := hG2.1.same _ _ HKD.out rfl
      go_wp2
      have hBD := (HB1.out.trans ((hBW.trans hG2.2.1).mono (Nat.le_of_lt HS1.out)))
      refine ⟨by simp, .inl ⟨_, _, rfl, run_takeDeferred hK2, ?_⟩⟩
      exact ⟨_, results_tmp2 rfl _ _ _, rfl, hBD.trans ((Below.refl w.heap.size W2).grown (grownBy_putObj' W2 D _) (by have := hBD.size; omega) (fun k e => by cases e; have := HD.out; have := HS1.out; omega))⟩
  · rw [if_neg c1] at h
    simp only [Option.some.injEq, Prod.mk.injEq] at h
    obtain ⟨rfl, rfl⟩ := h
    have c1b : (e != 0) = true := bne_iff_ne.mpr c1
    clear c1
    refine (callsIn_wide (n := 9)).1 ?_
    refine callsIn_of_wp_marks Try.func16 rfl trivial ?_ rfl
    simp only [Try.ntmps16, List.size_toArray, List.length_cons, List.length_nil, Nat.reduceAdd, Nat.reduceSub, Array.replicate_succ, Array.replicate_zero, List.push_toArray, List.append_toArray, List.nil_append, List.cons_append]
    refine wpIn_wide.2 ?_
    subst hwe
    go_wp2_with fail
    go_at_call 18
    refine HCK.out.mono ?_
    rintro e w1 ⟨rfl, hb1⟩
    go_wp2
    exact ⟨_, results_tmp2 rfl _ _ _, rfl, HBE.out.trans (hb1.mono HBE.out.size)⟩


/-! ### eval_Holds: function 19 -/
def eval_Holds.f (k : Nat) (l0 : List (S47)) (l1_0 : List (S51)) (a1_1 : Int) (a1_2 : Int) (a1_3 : Int) (a1_4 : Int) (l1_5 : List ByteArray) : Option (Bool) := if (l0.length : Int) = 0 then (some true) else ((eval_At.f k l0 l1_0 a1_1 a1_2 a1_3 a1_4 l1_5).bind fun bt152 => (if bt152.2 = 0 then (if bt152.1 = 1 then ((term_Type.f k l0).bind fun t154 => (some (t154 == 2))) else (some false)) else (some false)))
theorem eval_Holds.mono : ∀ a0 a1 a2 a3 a4 a5 a6 k, LeO (eval_Holds.f k a0 a1 a2 a3 a4 a5 a6) (eval_Holds.f (k + 1) a0 a1 a2 a3 a4 a5 a6) := by
  intro a0 a1 a2 a3 a4 a5 a6 k
  unfold eval_Holds.f
  repeat' first
      | (with_reducible exact eval_At.mono _ _ _ _ _ _ _ _)
      | (with_reducible exact term_Type.mono _ _)
      | (with_reducible exact LeO.refl _)
      | (with_reducible exact LeO.none _)
      | (with_reducible refine LeO.ite ?_ ?_)
      | (with_reducible refine LeO.bind ?_ (fun _ => ?_))
      | exact eval_At.mono _ _ _ _ _ _ _ _
      | exact term_Type.mono _ _
      | exact LeO.none _
      | refine LeO.ite ?_ ?_
      | refine LeO.bind ?_ (fun _ => ?_)
theorem bz11_ {W W2 w : World} (_ : Below W.heap.size W W2) (h : Below w.heap.size w W) : Below w.heap.size w W := h
set_option maxHeartbeats 8000000 in
set_option maxRecDepth 100000 in
theorem eval_Holds.calls (k : Nat) (A0 : Option Addr) (c0 : Nat) (l0 : List (S47)) (A1_0 : Option Addr) (c1_0 : Nat) (l1_0 : List (S51)) (a1_1 : Int) (a1_2 : Int) (a1_3 : Int) (a1_4 : Int) (A1_5 : Option Addr) (c1_5 : Nat) (l1_5 : List ByteArray) (r : Bool) (w : World) (hr0 : Kd.C k47 w A0 l0.length l0) (hc0 : l0.length ≤ c0) (hr1_0 : Kd.C k51 w A1_0 l1_0.length l1_0) (hc1_0 : l1_0.length ≤ c1_0) (hr1_5 : Kd.C Kd.string w A1_5 l1_5.length l1_5) (hc1_5 : l1_5.length ≤ c1_5) (h : eval_Holds.f k l0 l1_0 a1_1 a1_2 a1_3 a1_4 l1_5 = some r) :
  Calls Try.prog 19 #[.slice A0 l0.length c0, .agg #[.slice A1_0 l1_0.length c1_0, .int .i64 a1_1, .int .i64 a1_2, .int .i64 a1_3, .int .i64 a1_4, .slice A1_5 l1_5.length c1_5]] w fun e w' => e = .returned (.bool r) ∧ Below w.heap.size w w' := by
 have hu36 := Try.underlying36
 have HR0 := Aside0.mk hr0
 have HC0 := Aside0.mk hc0
 clear hr0 hc0
 have HR1_0 := Aside0.mk hr1_0
 have HC1_0 := Aside0.mk hc1_0
 clear hr1_0 hc1_0
 have HR1_5 := Aside0.mk hr1_5
 have HC1_5 := Aside0.mk hc1_5
 clear hr1_5 hc1_5
 have HB := Aside0.mk (Below.refl w.heap.size w)
 have H : (if (l0.length : Int) = 0 then (some true) else ((eval_At.f k l0 l1_0 a1_1 a1_2 a1_3 a1_4 l1_5).bind fun bt152 => (if bt152.2 = 0 then (if bt152.1 = 1 then ((term_Type.f k l0).bind fun t154 => (some (t154 == 2))) else (some false)) else (some false)))) = some r := h
 clear h
 by_cases c3 : (l0.length : Int) = 0
 ·rw [if_pos c3] at H
  have c3b0 : ((l0.length : Int) == 0) = true := beq_iff_eq.mpr c3
  have c3b1 : ((l0.length : Int) != 0) = false := bne_eq_false_iff_eq.mpr c3
  clear c3
  obtain rfl := Option.some.inj H
  go_enter Try.func19, Try.ntmps19
  go_wp2_with (first | ((with_reducible refine gate_dst (N := 3) rfl ?_); refine box_event ?hg (N := 3) ?hd (cs := #[.slice A1_0 l1_0.length c1_0, .int .i64 a1_1, .int .i64 a1_2, .int .i64 a1_3, .int .i64 a1_4, .slice A1_5 l1_5.length c1_5]) (t := 36) ?hr ?_; (case hd => rfl); (case hg => rfl); (case hr => first | (go_simp; done) | (go_simp; rfl)); intro gb151 hg w4 hbox hb; have hB_ := bz11_ hb (brw HB.out); have n0_ := Aside0.mk (below_step hB_ hb); have n1_ := Aside0.mk (hbox); have n2_ := Aside0.mk ((by rw [hg]; exact (below_size hB_) : w.heap.size ≤ gb151)); have n3_ := Aside0.mk ((by rw [hg]; exact (below_size hB_) : w.heap.size ≤ gb151)); clear HB; have HB := n0_; have BK151 := n1_; have GW151 := n2_; have GE151 := n3_; clear n0_ n1_ n2_ n3_; clear hb hbox hg))
  go_ret
  exact ⟨by first | rfl | (simp [errW_none, errW_some] <;> rfl) | (simp [*, errW_none, errW_some] <;> rfl), by repeat (first | (with_reducible first | exact HB.out | apply below_alloc | apply pw_below_drewN | apply below_drew1 | refine below_set ?_ GE151.out) | exact HB.out)⟩
 rw [if_neg c3] at H
 have c3b0 : ((l0.length : Int) == 0) = false := beq_eq_false_iff_ne.mpr c3
 have c3b1 : ((l0.length : Int) != 0) = true := bne_iff_ne.mpr c3
 have c3b2 : ¬ (l0 = []) := fun h_ => c3 (by rw [h_]; rfl)
 replace H := Option.bind_eq_some_iff.mp H
 obtain ⟨⟨t152, t153⟩, A50, H⟩ := H
 replace H : (if t153 = 0 then (if t152 = 1 then ((term_Type.f k l0).bind fun t154 => (some (t154 == 2))) else (some false)) else (some false)) = some r := H
 have A5 := Aside0.mk A50
 clear A50
 by_cases c6 : t153 = 0
 rotate_left
 ·rw [if_neg c6] at H
  have c6b0 : (t153 == 0) = false := beq_eq_false_iff_ne.mpr c6
  have c6b1 : (t153 != 0) = true := bne_iff_ne.mpr c6
  obtain rfl := Option.some.inj H
  go_enter Try.func19, Try.ntmps19
  go_wp2_with (first | ((with_reducible refine gate_dst (N := 3) rfl ?_); refine box_event ?hg (N := 3) ?hd (cs := #[.slice A1_0 l1_0.length c1_0, .int .i64 a1_1, .int .i64 a1_2, .int .i64 a1_3, .int .i64 a1_4, .slice A1_5 l1_5.length c1_5]) (t := 36) ?hr ?_; (case hd => rfl); (case hg => rfl); (case hr => first | (go_simp; done) | (go_simp; rfl)); intro gb151 hg w16 hbox hb; have hB_ := bz11_ hb (brw HB.out); have n0_ := Aside0.mk (below_step hB_ hb); have n1_ := Aside0.mk (hbox); have n2_ := Aside0.mk ((by rw [hg]; exact (below_size hB_) : w.heap.size ≤ gb151)); have n3_ := Aside0.mk ((by rw [hg]; exact (below_size hB_) : w.heap.size ≤ gb151)); clear HB; have HB := n0_; have BK151 := n1_; have GW151 := n2_; have GE151 := n3_; clear n0_ n1_ n2_ n3_; clear hb hbox hg; obtain ⟨hcz17_0, hcz17_1, hcz17_2, hcz17_3, hcz17_4, hcz17_5⟩ := cz6_ BK151.out; obtain ⟨hfz17_0, hfz17_1, hfz17_2, hfz17_3, hfz17_4, hfz17_5⟩ := cf6_ BK151.out) | ((with_reducible refine gate_callee (f := 16) rfl ?_); refine goesL_ (some 13) rfl rfl Try.func16 (by kernel_rfl) rfl #[.slice A0 l0.length c0, .agg #[.slice A1_0 l1_0.length c1_0, .int .i64 a1_1, .int .i64 a1_2, .int .i64 a1_3, .int .i64 a1_4, .slice A1_5 l1_5.length c1_5]] rfl (by (try simp only [List.map_toArray, List.map_cons, List.map_nil]); first | done | rfl | (simp only [List.length_drop, List.length_take]; rfl)) ?_; (with_reducible refine (eval_At.calls k _ _ l0 _ _ l1_0 a1_1 a1_2 a1_3 a1_4 _ _ l1_5 t152 t153 _ ?side1 ?side2 ?side3 ?side4 ?side5 ?side6 A5.out).mono ?_); (case side1 => repeat (first | exact (Kd.C_below HR0.out HB.out) | (with_reducible refine Kd.C_alloc ?_ _) | (with_reducible refine Kd.C_drewN ?_ _) | (with_reducible refine Kd.C_drew ?_))); (case side2 => exact HC0.out); (case side3 => repeat (first | exact (Kd.C_below HR1_0.out HB.out) | (with_reducible refine Kd.C_alloc ?_ _) | (with_reducible refine Kd.C_drewN ?_ _) | (with_reducible refine Kd.C_drew ?_))); (case side4 => exact HC1_0.out); (case side5 => repeat (first | exact (Kd.C_below HR1_5.out HB.out) | (with_reducible refine Kd.C_alloc ?_ _) | (with_reducible refine Kd.C_drewN ?_ _) | (with_reducible refine Kd.C_drew ?_))); (case side6 => exact HC1_5.out); rintro e w18 ⟨rfl, hb⟩; refine ⟨_, rfl, ?_⟩; have n0_ := Aside0.mk (blk_below (grw BK151.out) hb); have n1_ := Aside0.mk (below_step (by repeat (first | (with_reducible first | exact HB.out | apply below_alloc | apply pw_below_drewN | apply below_drew1 | refine below_set ?_ GE151.out) | exact HB.out)) hb); clear BK151; clear HB; have BK151 := n0_; have HB := n1_; clear n0_ n1_; (try clear hb); (try clear hb2); (try clear hk); (try clear hi)))
  go_ret
  exact ⟨by first | rfl | (simp [errW_none, errW_some] <;> rfl) | (simp [*, errW_none, errW_some] <;> rfl), by repeat (first | (with_reducible first | exact HB.out | apply below_alloc | apply pw_below_drewN | apply below_drew1 | refine below_set ?_ GE151.out) | exact HB.out)⟩

 rw [if_pos c6] at H
 have c6b0 : (t153 == 0) = true := beq_iff_eq.mpr c6
 have c6b1 : (t153 != 0) = false := bne_eq_false_iff_eq.mpr c6
 clear c6
 by_cases c7 : t152 = 1
 rotate_left
 ·rw [if_neg c7] at H
  have c7b0 : (t152 == 1) = false := beq_eq_false_iff_ne.mpr c7
  have c7b1 : (t152 != 1) = true := bne_iff_ne.mpr c7
  obtain rfl := Option.some.inj H
  go_enter Try.func19, Try.ntmps19
  go_wp2_with (first | ((with_reducible refine gate_dst (N := 3) rfl ?_); refine box_event ?hg (N := 3) ?hd (cs := #[.slice A1_0 l1_0.length c1_0, .int .i64 a1_1, .int .i64 a1_2, .int .i64 a1_3, .int .i64 a1_4, .slice A1_5 l1_5.length c1_5]) (t := 36) ?hr ?_; (case hd => rfl); (case hg => rfl); (case hr => first | (go_simp; done) | (go_simp; rfl)); intro gb151 hg w13 hbox hb; have hB_ := bz11_ hb (brw HB.out); have n0_ := Aside0.mk (below_step hB_ hb); have n1_ := Aside0.mk (hbox); have n2_ := Aside0.mk ((by rw [hg]; exact (below_size hB_) : w.heap.size ≤ gb151)); have n3_ := Aside0.mk ((by rw [hg]; exact (below_size hB_) : w.heap.size ≤ gb151)); clear HB; have HB := n0_; have BK151 := n1_; have GW151 := n2_; have GE151 := n3_; clear n0_ n1_ n2_ n3_; clear hb hbox hg; obtain ⟨hcz14_0, hcz14_1, hcz14_2, hcz14_3, hcz14_4, hcz14_5⟩ := cz6_ BK151.out; obtain ⟨hfz14_0, hfz14_1, hfz14_2, hfz14_3, hfz14_4, hfz14_5⟩ := cf6_ BK151.out) | ((with_reducible refine gate_callee (f := 16) rfl ?_); refine goesL_ (some 13) rfl rfl Try.func16 (by kernel_rfl) rfl #[.slice A0 l0.length c0, .agg #[.slice A1_0 l1_0.length c1_0, .int .i64 a1_1, .int .i64 a1_2, .int .i64 a1_3, .int .i64 a1_4, .slice A1_5 l1_5.length c1_5]] rfl (by (try simp only [List.map_toArray, List.map_cons, List.map_nil]); first | done | rfl | (simp only [List.length_drop, List.length_take]; rfl)) ?_; (with_reducible refine (eval_At.calls k _ _ l0 _ _ l1_0 a1_1 a1_2 a1_3 a1_4 _ _ l1_5 t152 t153 _ ?side1 ?side2 ?side3 ?side4 ?side5 ?side6 A5.out).mono ?_); (case side1 => repeat (first | exact (Kd.C_below HR0.out HB.out) | (with_reducible refine Kd.C_alloc ?_ _) | (with_reducible refine Kd.C_drewN ?_ _) | (with_reducible refine Kd.C_drew ?_))); (case side2 => exact HC0.out); (case side3 => repeat (first | exact (Kd.C_below HR1_0.out HB.out) | (with_reducible refine Kd.C_alloc ?_ _) | (with_reducible refine Kd.C_drewN ?_ _) | (with_reducible refine Kd.C_drew ?_))); (case side4 => exact HC1_0.out); (case side5 => repeat (first | exact (Kd.C_below HR1_5.out HB.out) | (with_reducible refine Kd.C_alloc ?_ _) | (with_reducible refine Kd.C_drewN ?_ _) | (with_reducible refine Kd.C_drew ?_))); (case side6 => exact HC1_5.out); rintro e w15 ⟨rfl, hb⟩; refine ⟨_, rfl, ?_⟩; have n0_ := Aside0.mk (blk_below (grw BK151.out) hb); have n1_ := Aside0.mk (below_step (by repeat (first | (with_reducible first | exact HB.out | apply below_alloc | apply pw_below_drewN | apply below_drew1 | refine below_set ?_ GE151.out) | exact HB.out)) hb); clear BK151; clear HB; have BK151 := n0_; have HB := n1_; clear n0_ n1_; (try clear hb); (try clear hb2); (try clear hk); (try clear hi)))
  go_ret
  exact ⟨by first | rfl | (simp [errW_none, errW_some] <;> rfl) | (simp [*, errW_none, errW_some] <;> rfl), by repeat (first | (with_reducible first | exact HB.out | apply below_alloc | apply pw_below_drewN | apply below_drew1 | refine below_set ?_ GE151.out) | exact HB.out)⟩
 rw [if_pos c7] at H
 have c7b0 : (t152 == 1) = true := beq_iff_eq.mpr c7
 have c7b1 : (t152 != 1) = false := bne_eq_false_iff_eq.mpr c7
 clear c7
 replace H := Option.bind_eq_some_iff.mp H
 obtain ⟨t154, A80, H⟩ := H
 replace H : (some (t154 == 2)) = some r := H
 have A8 := Aside0.mk A80
 clear A80
 obtain rfl := Option.some.inj H
 go_enter Try.func19, Try.ntmps19
 go_wp2_with (first | ((with_reducible refine gate_dst (N := 3) rfl ?_); refine box_event ?hg (N := 3) ?hd (cs := #[.slice A1_0 l1_0.length c1_0, .int .i64 a1_1, .int .i64 a1_2, .int .i64 a1_3, .int .i64 a1_4, .slice A1_5 l1_5.length c1_5]) (t := 36) ?hr ?_; (case hd => rfl); (case hg => rfl); (case hr => first | (go_simp; done) | (go_simp; rfl)); intro gb151 hg w9 hbox hb; have hB_ := bz11_ hb (brw HB.out); have n0_ := Aside0.mk (below_step hB_ hb); have n1_ := Aside0.mk (hbox); have n2_ := Aside0.mk ((by rw [hg]; exact (below_size hB_) : w.heap.size ≤ gb151)); have n3_ := Aside0.mk ((by rw [hg]; exact (below_size hB_) : w.heap.size ≤ gb151)); clear HB; have HB := n0_; have BK151 := n1_; have GW151 := n2_; have GE151 := n3_; clear n0_ n1_ n2_ n3_; clear hb hbox hg; obtain ⟨hcz10_0, hcz10_1, hcz10_2, hcz10_3, hcz10_4, hcz10_5⟩ := cz6_ BK151.out; obtain ⟨hfz10_0, hfz10_1, hfz10_2, hfz10_3, hfz10_4, hfz10_5⟩ := cf6_ BK151.out) | ((with_reducible refine gate_callee (f := 16) rfl ?_); refine goesL_ (some 13) rfl rfl Try.func16 (by kernel_rfl) rfl #[.slice A0 l0.length c0, .agg #[.slice A1_0 l1_0.length c1_0, .int .i64 a1_1, .int .i64 a1_2, .int .i64 a1_3, .int .i64 a1_4, .slice A1_5 l1_5.length c1_5]] rfl (by (try simp only [List.map_toArray, List.map_cons, List.map_nil]); first | done | rfl | (simp only [List.length_drop, List.length_take]; rfl)) ?_; (with_reducible refine (eval_At.calls k _ _ l0 _ _ l1_0 a1_1 a1_2 a1_3 a1_4 _ _ l1_5 t152 t153 _ ?side1 ?side2 ?side3 ?side4 ?side5 ?side6 A5.out).mono ?_); (case side1 => repeat (first | exact (Kd.C_below HR0.out HB.out) | (with_reducible refine Kd.C_alloc ?_ _) | (with_reducible refine Kd.C_drewN ?_ _) | (with_reducible refine Kd.C_drew ?_))); (case side2 => exact HC0.out); (case side3 => repeat (first | exact (Kd.C_below HR1_0.out HB.out) | (with_reducible refine Kd.C_alloc ?_ _) | (with_reducible refine Kd.C_drewN ?_ _) | (with_reducible refine Kd.C_drew ?_))); (case side4 => exact HC1_0.out); (case side5 => repeat (first | exact (Kd.C_below HR1_5.out HB.out) | (with_reducible refine Kd.C_alloc ?_ _) | (with_reducible refine Kd.C_drewN ?_ _) | (with_reducible refine Kd.C_drew ?_))); (case side6 => exact HC1_5.out); rintro e w11 ⟨rfl, hb⟩; refine ⟨_, rfl, ?_⟩; have n0_ := Aside0.mk (blk_below (grw BK151.out) hb); have n1_ := Aside0.mk (below_step (by repeat (first | (with_reducible first | exact HB.out | apply below_alloc | apply pw_below_drewN | apply below_drew1 | refine below_set ?_ GE151.out) | exact HB.out)) hb); clear BK151; clear HB; have BK151 := n0_; have HB := n1_; clear n0_ n1_; (try clear hb); (try clear hb2); (try clear hk); (try clear hi)) | (go_at_call 52; (with_reducible refine (term_Type.calls k _ _ l0 t154 _ ?side1 ?side2 A8.out).mono ?_); (case side1 => repeat (first | exact (Kd.C_below HR0.out HB.out) | (with_reducible refine Kd.C_alloc ?_ _) | (with_reducible refine Kd.C_drewN ?_ _) | (with_reducible refine Kd.C_drew ?_))); (case side2 => exact HC0.out); rintro e w12 ⟨rfl, hb⟩; have n0_ := Aside0.mk (blk_below (grw BK151.out) hb); have n1_ := Aside0.mk (below_step (by repeat (first | (with_reducible first | exact HB.out | apply below_alloc | apply pw_below_drewN | apply below_drew1 | refine below_set ?_ GE151.out) | exact HB.out)) hb); clear BK151; clear HB; have BK151 := n0_; have HB := n1_; clear n0_ n1_; (try clear hb); (try clear hb2); (try clear hk); (try clear hi)))
 go_ret
 exact ⟨by first | rfl | (simp [errW_none, errW_some] <;> rfl) | (simp [*, errW_none, errW_some] <;> rfl), by repeat (first | (with_reducible first | exact HB.out | apply below_alloc | apply pw_below_drewN | apply below_drew1 | refine below_set ?_ GE151.out) | exact HB.out)⟩
/-! ### semblancelaw07_awake: function 15 -/
def semblancelaw07_awake.f (k : Nat)  : Option (Bool) := (some (([(⟨15, 0, (⟨#[]⟩ : ByteArray)⟩ : S47), (⟨4, 0, (⟨#[]⟩ : ByteArray)⟩ : S47), (⟨2, 0, (⟨#[120]⟩ : ByteArray)⟩ : S47), (⟨1, 1, (⟨#[]⟩ : ByteArray)⟩ : S47), (⟨1, 3, (⟨#[]⟩ : ByteArray)⟩ : S47)] : List (S47)) : List (S47))).bind fun y155 => ((some (([(⟨(⟨#[120]⟩ : ByteArray), 0, 0, 0⟩ : S51)] : List (S51)) : List (S51))).bind fun y158 => ((eval_At.f k y155 y158 1 0 0 0 ([] : List ByteArray)).bind fun bt162 => ((eval_At.f k y155 ([] : List (S51)) 0 0 0 0 ([] : List ByteArray)).bind fun bt164 => ((eval_At.f k (([(⟨12, 0, (⟨#[]⟩ : ByteArray)⟩ : S47), (⟨1, 0, (⟨#[]⟩ : ByteArray)⟩ : S47)] : List (S47))) y158 1 0 0 0 ([] : List ByteArray)).bind fun bt169 => (if bt162.1 = 1 then (if bt162.2 = 0 then (if bt164.2 = 7 then (if bt169.2 = 4 then ((eval_Holds.f k y155 y158 1 0 0 0 ([] : List ByteArray)).bind fun t171 => (if t171 = true then ((eval_Holds.f k ([] : List (S47)) y158 1 0 0 0 ([] : List ByteArray)).bind fun t172 => (some t172)) else (some false))) else (some false)) else (some false)) else (some false)) else (some false))))))
theorem semblancelaw07_awake.mono : ∀ k, LeO (semblancelaw07_awake.f k ) (semblancelaw07_awake.f (k + 1) ) := by
  intro  k
  unfold semblancelaw07_awake.f
  repeat' first
      | (with_reducible exact eval_At.mono _ _ _ _ _ _ _ _)
      | (with_reducible exact eval_Holds.mono _ _ _ _ _ _ _ _)
      | (with_reducible exact LeO.refl _)
      | (with_reducible exact LeO.none _)
      | (with_reducible refine LeO.ite ?_ ?_)
      | (with_reducible refine LeO.bind ?_ (fun _ => ?_))
      | exact eval_At.mono _ _ _ _ _ _ _ _
      | exact eval_Holds.mono _ _ _ _ _ _ _ _
      | exact LeO.none _
      | refine LeO.ite ?_ ?_
      | refine LeO.bind ?_ (fun _ => ?_)
theorem bz12_ {W W2 w : World} (_ : Below W.heap.size W W2) (h : Below w.heap.size w W) : Below w.heap.size w W := h
set_option maxHeartbeats 8000000 in
set_option maxRecDepth 100000 in
theorem semblancelaw07_awake.calls (k : Nat)  (r : Bool) (w : World) (h : semblancelaw07_awake.f k  = some r) :
  Calls Try.prog 15 #[] w fun e w' => e = .returned (.bool r) ∧ Below w.heap.size w w' := by
 have hu47 := Try.underlying47
 have hu51 := Try.underlying51
 have hu34 := Try.underlying34
 have hu36 := Try.underlying36
 have HB := Aside0.mk (Below.refl w.heap.size w)
 have H : ((some (([(⟨15, 0, (⟨#[]⟩ : ByteArray)⟩ : S47), (⟨4, 0, (⟨#[]⟩ : ByteArray)⟩ : S47), (⟨2, 0, (⟨#[120]⟩ : ByteArray)⟩ : S47), (⟨1, 1, (⟨#[]⟩ : ByteArray)⟩ : S47), (⟨1, 3, (⟨#[]⟩ : ByteArray)⟩ : S47)] : List (S47)) : List (S47))).bind fun y155 => ((some (([(⟨(⟨#[120]⟩ : ByteArray), 0, 0, 0⟩ : S51)] : List (S51)) : List (S51))).bind fun y158 => ((eval_At.f k y155 y158 1 0 0 0 ([] : List ByteArray)).bind fun bt162 => ((eval_At.f k y155 ([] : List (S51)) 0 0 0 0 ([] : List ByteArray)).bind fun bt164 => ((eval_At.f k (([(⟨12, 0, (⟨#[]⟩ : ByteArray)⟩ : S47), (⟨1, 0, (⟨#[]⟩ : ByteArray)⟩ : S47)] : List (S47))) y158 1 0 0 0 ([] : List ByteArray)).bind fun bt169 => (if bt162.1 = 1 then (if bt162.2 = 0 then (if bt164.2 = 7 then (if bt169.2 = 4 then ((eval_Holds.f k y155 y158 1 0 0 0 ([] : List ByteArray)).bind fun t171 => (if t171 = true then ((eval_Holds.f k ([] : List (S47)) y158 1 0 0 0 ([] : List ByteArray)).bind fun t172 => (some t172)) else (some false))) else (some false)) else (some false)) else (some false)) else (some false))))))) = some r := h
 clear h
 obtain ⟨y155, hy155⟩ : ∃ y_ : List (S47), y_ = (([(⟨15, 0, (⟨#[]⟩ : ByteArray)⟩ : S47), (⟨4, 0, (⟨#[]⟩ : ByteArray)⟩ : S47), (⟨2, 0, (⟨#[120]⟩ : ByteArray)⟩ : S47), (⟨1, 1, (⟨#[]⟩ : ByteArray)⟩ : S47), (⟨1, 3, (⟨#[]⟩ : ByteArray)⟩ : S47)] : List (S47))) := ⟨_, rfl⟩
 replace H : ((some (([(⟨(⟨#[120]⟩ : ByteArray), 0, 0, 0⟩ : S51)] : List (S51)) : List (S51))).bind fun y158 => ((eval_At.f k y155 y158 1 0 0 0 ([] : List ByteArray)).bind fun bt162 => ((eval_At.f k y155 ([] : List (S51)) 0 0 0 0 ([] : List ByteArray)).bind fun bt164 => ((eval_At.f k (([(⟨12, 0, (⟨#[]⟩ : ByteArray)⟩ : S47), (⟨1, 0, (⟨#[]⟩ : ByteArray)⟩ : S47)] : List (S47))) y158 1 0 0 0 ([] : List ByteArray)).bind fun bt169 => (if bt162.1 = 1 then (if bt162.2 = 0 then (if bt164.2 = 7 then (if bt169.2 = 4 then ((eval_Holds.f k y155 y158 1 0 0 0 ([] : List ByteArray)).bind fun t171 => (if t171 = true then ((eval_Holds.f k ([] : List (S47)) y158 1 0 0 0 ([] : List ByteArray)).bind fun t172 => (some t172)) else (some false))) else (some false)) else (some false)) else (some false)) else (some false)))))) = some r := by first | (rw [hy155]; with_reducible exact H) | (have H2_ := (Option.bind_some _ _).symm.trans H; rw [hy155]; with_reducible exact H2_) | (have H2_ := (Option.bind_some _ _).symm.trans H; with_reducible exact H2_) | with_reducible exact H | (rw [hy155]; exact H) | exact H
 have Ny155 := Aside0.mk hy155
 clear hy155
 obtain ⟨y158, hy158⟩ : ∃ y_ : List (S51), y_ = (([(⟨(⟨#[120]⟩ : ByteArray), 0, 0, 0⟩ : S51)] : List (S51))) := ⟨_, rfl⟩
 replace H : ((eval_At.f k y155 y158 1 0 0 0 ([] : List ByteArray)).bind fun bt162 => ((eval_At.f k y155 ([] : List (S51)) 0 0 0 0 ([] : List ByteArray)).bind fun bt164 => ((eval_At.f k (([(⟨12, 0, (⟨#[]⟩ : ByteArray)⟩ : S47), (⟨1, 0, (⟨#[]⟩ : ByteArray)⟩ : S47)] : List (S47))) y158 1 0 0 0 ([] : List ByteArray)).bind fun bt169 => (if bt162.1 = 1 then (if bt162.2 = 0 then (if bt164.2 = 7 then (if bt169.2 = 4 then ((eval_Holds.f k y155 y158 1 0 0 0 ([] : List ByteArray)).bind fun t171 => (if t171 = true then ((eval_Holds.f k ([] : List (S47)) y158 1 0 0 0 ([] : List ByteArray)).bind fun t172 => (some t172)) else (some false))) else (some false)) else (some false)) else (some false)) else (some false))))) = some r := by first | (rw [hy158]; with_reducible exact H) | (have H2_ := (Option.bind_some _ _).symm.trans H; rw [hy158]; with_reducible exact H2_) | (have H2_ := (Option.bind_some _ _).symm.trans H; with_reducible exact H2_) | with_reducible exact H | (rw [hy158]; exact H) | exact H
 have Ny158 := Aside0.mk hy158
 clear hy158
 replace H := Option.bind_eq_some_iff.mp H
 obtain ⟨⟨t162, t163⟩, A10, H⟩ := H
 replace H : ((eval_At.f k y155 ([] : List (S51)) 0 0 0 0 ([] : List ByteArray)).bind fun bt164 => ((eval_At.f k (([(⟨12, 0, (⟨#[]⟩ : ByteArray)⟩ : S47), (⟨1, 0, (⟨#[]⟩ : ByteArray)⟩ : S47)] : List (S47))) y158 1 0 0 0 ([] : List ByteArray)).bind fun bt169 => (if t162 = 1 then (if t163 = 0 then (if bt164.2 = 7 then (if bt169.2 = 4 then ((eval_Holds.f k y155 y158 1 0 0 0 ([] : List ByteArray)).bind fun t171 => (if t171 = true then ((eval_Holds.f k ([] : List (S47)) y158 1 0 0 0 ([] : List ByteArray)).bind fun t172 => (some t172)) else (some false))) else (some false)) else (some false)) else (some false)) else (some false)))) = some r := H
 have A1 := Aside0.mk A10
 clear A10
 replace H := Option.bind_eq_some_iff.mp H
 obtain ⟨⟨t164, t165⟩, A20, H⟩ := H
 replace H : ((eval_At.f k (([(⟨12, 0, (⟨#[]⟩ : ByteArray)⟩ : S47), (⟨1, 0, (⟨#[]⟩ : ByteArray)⟩ : S47)] : List (S47))) y158 1 0 0 0 ([] : List ByteArray)).bind fun bt169 => (if t162 = 1 then (if t163 = 0 then (if t165 = 7 then (if bt169.2 = 4 then ((eval_Holds.f k y155 y158 1 0 0 0 ([] : List ByteArray)).bind fun t171 => (if t171 = true then ((eval_Holds.f k ([] : List (S47)) y158 1 0 0 0 ([] : List ByteArray)).bind fun t172 => (some t172)) else (some false))) else (some false)) else (some false)) else (some false)) else (some false))) = some r := H
 have A2 := Aside0.mk A20
 clear A20
 obtain ⟨y166, hy166⟩ : ∃ y_ : List (S47), y_ = (([(⟨12, 0, (⟨#[]⟩ : ByteArray)⟩ : S47), (⟨1, 0, (⟨#[]⟩ : ByteArray)⟩ : S47)] : List (S47))) := ⟨_, rfl⟩
 replace H : ((eval_At.f k y166 y158 1 0 0 0 ([] : List ByteArray)).bind fun bt169 => (if t162 = 1 then (if t163 = 0 then (if t165 = 7 then (if bt169.2 = 4 then ((eval_Holds.f k y155 y158 1 0 0 0 ([] : List ByteArray)).bind fun t171 => (if t171 = true then ((eval_Holds.f k ([] : List (S47)) y158 1 0 0 0 ([] : List ByteArray)).bind fun t172 => (some t172)) else (some false))) else (some false)) else (some false)) else (some false)) else (some false))) = some r := by first | (rw [hy166]; with_reducible exact H) | (have H2_ := (Option.bind_some _ _).symm.trans H; rw [hy166]; with_reducible exact H2_) | (have H2_ := (Option.bind_some _ _).symm.trans H; with_reducible exact H2_) | with_reducible exact H | (rw [hy166]; exact H) | exact H
 have Ny166 := Aside0.mk hy166
 clear hy166
 replace H := Option.bind_eq_some_iff.mp H
 obtain ⟨⟨t169, t170⟩, A30, H⟩ := H
 replace H : (if t162 = 1 then (if t163 = 0 then (if t165 = 7 then (if t170 = 4 then ((eval_Holds.f k y155 y158 1 0 0 0 ([] : List ByteArray)).bind fun t171 => (if t171 = true then ((eval_Holds.f k ([] : List (S47)) y158 1 0 0 0 ([] : List ByteArray)).bind fun t172 => (some t172)) else (some false))) else (some false)) else (some false)) else (some false)) else (some false)) = some r := H
 have A3 := Aside0.mk A30
 clear A30
 by_cases c4 : t162 = 1
 rotate_left
 ·rw [if_neg c4] at H
  have c4b0 : (t162 == 1) = false := beq_eq_false_iff_ne.mpr c4
  have c4b1 : (t162 != 1) = true := bne_iff_ne.mpr c4
  obtain rfl := Option.some.inj H
  go_enter Try.func15, Try.ntmps15
  go_wp2_with (first | ((with_reducible refine gate_dst (N := 14) rfl ?_); refine Kd.R_lit k47 _ 47 ?hg (N := 14) ?hd (xs := ([(⟨15, 0, (⟨#[]⟩ : ByteArray)⟩ : S47), (⟨4, 0, (⟨#[]⟩ : ByteArray)⟩ : S47), (⟨2, 0, (⟨#[120]⟩ : ByteArray)⟩ : S47), (⟨1, 1, (⟨#[]⟩ : ByteArray)⟩ : S47), (⟨1, 3, (⟨#[]⟩ : ByteArray)⟩ : S47)] : List (S47))) (inner := [.int .i64 15, .int .i64 0, .string (⟨#[]⟩ : ByteArray), .int .i64 4, .int .i64 0, .string (⟨#[]⟩ : ByteArray), .int .i64 2, .int .i64 0, .string (⟨#[120]⟩ : ByteArray), .int .i64 1, .int .i64 1, .string (⟨#[]⟩ : ByteArray), .int .i64 1, .int .i64 3, .string (⟨#[]⟩ : ByteArray)]) (ok := fun _ => True) (okp := fun _ => True) ?hr ?hp (fun _ hk => hk) trivial (Below.refl _ _) (Nat.le_refl _) (by simp) ?_; (case hd => rfl); (case hg => rfl); (case hr => first | (go_simp; done) | (go_simp; rfl)); (case hp => exact (Reps.c3 (show Kd.M k47 _ _ _ (⟨15, 0, (⟨#[]⟩ : ByteArray)⟩ : S47) [.int .i64 15, .int .i64 0, .string (⟨#[]⟩ : ByteArray)] from (k47_mkM _ _ _ (⟨15, 0, (⟨#[]⟩ : ByteArray)⟩ : S47) )) (Reps.c3 (show Kd.M k47 _ _ _ (⟨4, 0, (⟨#[]⟩ : ByteArray)⟩ : S47) [.int .i64 4, .int .i64 0, .string (⟨#[]⟩ : ByteArray)] from (k47_mkM _ _ _ (⟨4, 0, (⟨#[]⟩ : ByteArray)⟩ : S47) )) (Reps.c3 (show Kd.M k47 _ _ _ (⟨2, 0, (⟨#[120]⟩ : ByteArray)⟩ : S47) [.int .i64 2, .int .i64 0, .string (⟨#[120]⟩ : ByteArray)] from (k47_mkM _ _ _ (⟨2, 0, (⟨#[120]⟩ : ByteArray)⟩ : S47) )) (Reps.c3 (show Kd.M k47 _ _ _ (⟨1, 1, (⟨#[]⟩ : ByteArray)⟩ : S47) [.int .i64 1, .int .i64 1, .string (⟨#[]⟩ : ByteArray)] from (k47_mkM _ _ _ (⟨1, 1, (⟨#[]⟩ : ByteArray)⟩ : S47) )) (Reps.c3 (show Kd.M k47 _ _ _ (⟨1, 3, (⟨#[]⟩ : ByteArray)⟩ : S47) [.int .i64 1, .int .i64 3, .string (⟨#[]⟩ : ByteArray)] from (k47_mkM _ _ _ (⟨1, 3, (⟨#[]⟩ : ByteArray)⟩ : S47) )) (Reps.none _ _))))))); intro v156 w92 ho93 hb hg_ hnew_; clear hg_ hnew_; (first | rw [← Ny155.out] at ho93 | (simp only [Int.reduceToNat] at ho93; rw [← Ny155.out] at ho93)); have n0_ := Aside0.mk (Kd.R_lower ho93 (below_size (brw HB.out))); have n1_ := Aside0.mk (below_step (brw HB.out) hb); clear HB; have HO157 := n0_; have HB := n1_; clear n0_ n1_; clear hb ho93) | ((with_reducible refine gate_dst (N := 16) rfl ?_); refine Kd.R_lit k51 _ 51 ?hg (N := 16) ?hd (xs := ([(⟨(⟨#[120]⟩ : ByteArray), 0, 0, 0⟩ : S51)] : List (S51))) (inner := [.string (⟨#[120]⟩ : ByteArray), .int .i64 0, .int .i64 0, .int .i64 0]) (ok := fun _ => True) (okp := fun _ => True) ?hr ?hp (fun _ hk => hk) trivial (Below.refl _ _) (Nat.le_refl _) (by simp) ?_; (case hd => rfl); (case hg => rfl); (case hr => first | (go_simp; done) | (go_simp; rfl)); (case hp => exact (Reps.c4 (show Kd.M k51 _ _ _ (⟨(⟨#[120]⟩ : ByteArray), 0, 0, 0⟩ : S51) [.string (⟨#[120]⟩ : ByteArray), .int .i64 0, .int .i64 0, .int .i64 0] from (k51_mkM _ _ _ (⟨(⟨#[120]⟩ : ByteArray), 0, 0, 0⟩ : S51) )) (Reps.none _ _))); intro v159 w94 ho95 hb hg_ hnew_; clear hg_ hnew_; (first | rw [← Ny158.out] at ho95 | (simp only [Int.reduceToNat] at ho95; rw [← Ny158.out] at ho95)); have n0_ := Aside0.mk (Kd.R_below (by (with_reducible repeat (first | apply Kd.R_alloc | apply Kd.R_drewN | apply Kd.R_drew)); exact HO157.out) hb); have n1_ := Aside0.mk (Kd.R_lower ho95 (below_size (brw HB.out))); have n2_ := Aside0.mk (below_step (brw HB.out) hb); clear HO157; clear HB; have HO157 := n0_; have HO160 := n1_; have HB := n2_; clear n0_ n1_ n2_; clear hb ho95; obtain ⟨Ao96, co96, eo96⟩ := Kd.R_slice HO160.out; subst eo96) | ((with_reducible refine gate_dst (N := 2) rfl ?_); refine box_event ?hg (N := 2) ?hd (cs := #[.slice none 0 0, .int .i64 0, .int .i64 0, .int .i64 0, .int .i64 0, .slice none 0 0]) (t := 36) ?hr ?_; (case hd => rfl); (case hg => rfl); (case hr => first | (go_simp; done) | (go_simp; rfl)); intro gb161 hg w97 hbox hb; have hB_ := bz12_ hb (brw HB.out); have n0_ := Aside0.mk (Kd.R_below (by (with_reducible repeat (first | apply Kd.R_alloc | apply Kd.R_drewN | apply Kd.R_drew)); exact HO157.out) hb); have n1_ := Aside0.mk (Kd.R_below (by (with_reducible repeat (first | apply Kd.R_alloc | apply Kd.R_drewN | apply Kd.R_drew)); exact HO160.out) hb); have n2_ := Aside0.mk (below_step hB_ hb); have n3_ := Aside0.mk (hbox); have n4_ := Aside0.mk ((by rw [hg]; exact (below_size hB_) : w.heap.size ≤ gb161)); have n5_ := Aside0.mk ((by rw [hg]; exact (below_size hB_) : w.heap.size ≤ gb161)); clear HO157; clear HO160; clear HB; have HO157 := n0_; have HO160 := n1_; have HB := n2_; have BK161 := n3_; have GW161 := n4_; have GE161 := n5_; clear n0_ n1_ n2_ n3_ n4_ n5_; clear hb hbox hg; obtain ⟨hcz98_0, hcz98_1, hcz98_2, hcz98_3, hcz98_4, hcz98_5⟩ := cz6_ BK161.out; obtain ⟨hfz98_0, hfz98_1, hfz98_2, hfz98_3, hfz98_4, hfz98_5⟩ := cf6_ BK161.out; obtain ⟨Ao99, co99, eo99⟩ := Kd.R_slice HO157.out; subst eo99) | ((with_reducible refine gate_callee (f := 16) rfl ?_); refine goesL_ (some 22) rfl rfl Try.func16 (by kernel_rfl) rfl #[.slice Ao99 y155.length co99, .agg #[.slice Ao96 y158.length co96, .int .i64 1, .int .i64 0, .int .i64 0, .int .i64 0, .slice none 0 0]] rfl (by (try simp only [List.map_toArray, List.map_cons, List.map_nil]); first | done | rfl | (simp only [List.length_drop, List.length_take]; rfl)) ?_; (refine (eval_At.calls k _ _ y155 _ _ y158 1 0 0 0 _ _ ([] : List ByteArray) t162 t163 _ ?side1 ?side2 ?side3 ?side4 ?side5 ?side6 A1.out).mono ?_); (case side1 => refine (Kd.R_reads' (e := 47) (base := w.heap.size) (ok := fun k_ => True) (n := y155.length) (c := co99) ?_).2.2; exact (by (with_reducible repeat (first | apply Kd.R_alloc | apply Kd.R_drewN | apply Kd.R_drew)); exact (Kd.R_mono (Kd.R_far (p := ⟨gb161, 5, none⟩) (Kd.R_far (p := ⟨gb161, 4, none⟩) (Kd.R_far (p := ⟨gb161, 3, none⟩) (Kd.R_far (p := ⟨gb161, 2, none⟩) (Kd.R_far (p := ⟨gb161, 1, none⟩) (Kd.R_far (p := ⟨gb161, 0, none⟩) (Kd.R_types HO157.out BK161.out (by decide)) (fun _ hk => hk.2) (.slice Ao96 y158.length co96)) (fun _ hk => hk.2) (.int .i64 1)) (fun _ hk => hk.2) (.int .i64 0)) (fun _ hk => hk.2) (.int .i64 0)) (fun _ hk => hk.2) (.int .i64 0)) (fun _ hk => hk.2) (.slice none 0 0)) (fun _ h_ => h_.1)))); (case side2 => exact (Kd.R_reads' HO157.out).2.1); (case side3 => refine (Kd.R_reads' (e := 51) (base := w.heap.size) (ok := fun k_ => True) (n := y158.length) (c := co96) ?_).2.2; exact (by (with_reducible repeat (first | apply Kd.R_alloc | apply Kd.R_drewN | apply Kd.R_drew)); exact (Kd.R_mono (Kd.R_far (p := ⟨gb161, 5, none⟩) (Kd.R_far (p := ⟨gb161, 4, none⟩) (Kd.R_far (p := ⟨gb161, 3, none⟩) (Kd.R_far (p := ⟨gb161, 2, none⟩) (Kd.R_far (p := ⟨gb161, 1, none⟩) (Kd.R_far (p := ⟨gb161, 0, none⟩) (Kd.R_types HO160.out BK161.out (by decide)) (fun _ hk => hk.2) (.slice Ao96 y158.length co96)) (fun _ hk => hk.2) (.int .i64 1)) (fun _ hk => hk.2) (.int .i64 0)) (fun _ hk => hk.2) (.int .i64 0)) (fun _ hk => hk.2) (.int .i64 0)) (fun _ hk => hk.2) (.slice none 0 0)) (fun _ h_ => h_.1)))); (case side4 => exact (Kd.R_reads' HO160.out).2.1); (case side5 => exact Kd.C_nil _ _); (case side6 => exact Nat.le_refl _); rintro e w100 ⟨rfl, hb⟩; refine ⟨_, rfl, ?_⟩; have n0_ := Aside0.mk (Kd.R_below (by (with_reducible repeat (first | apply Kd.R_alloc | apply Kd.R_drewN | apply Kd.R_drew)); exact (Kd.R_mono (Kd.R_far (p := ⟨gb161, 5, none⟩) (Kd.R_far (p := ⟨gb161, 4, none⟩) (Kd.R_far (p := ⟨gb161, 3, none⟩) (Kd.R_far (p := ⟨gb161, 2, none⟩) (Kd.R_far (p := ⟨gb161, 1, none⟩) (Kd.R_far (p := ⟨gb161, 0, none⟩) (Kd.R_types HO157.out BK161.out (by decide)) (fun _ hk => hk.2) (.slice Ao96 y158.length co96)) (fun _ hk => hk.2) (.int .i64 1)) (fun _ hk => hk.2) (.int .i64 0)) (fun _ hk => hk.2) (.int .i64 0)) (fun _ hk => hk.2) (.int .i64 0)) (fun _ hk => hk.2) (.slice none 0 0)) (fun _ h_ => h_.1))) hb); have n1_ := Aside0.mk (Kd.R_below (by (with_reducible repeat (first | apply Kd.R_alloc | apply Kd.R_drewN | apply Kd.R_drew)); exact (Kd.R_mono (Kd.R_far (p := ⟨gb161, 5, none⟩) (Kd.R_far (p := ⟨gb161, 4, none⟩) (Kd.R_far (p := ⟨gb161, 3, none⟩) (Kd.R_far (p := ⟨gb161, 2, none⟩) (Kd.R_far (p := ⟨gb161, 1, none⟩) (Kd.R_far (p := ⟨gb161, 0, none⟩) (Kd.R_types HO160.out BK161.out (by decide)) (fun _ hk => hk.2) (.slice Ao96 y158.length co96)) (fun _ hk => hk.2) (.int .i64 1)) (fun _ hk => hk.2) (.int .i64 0)) (fun _ hk => hk.2) (.int .i64 0)) (fun _ hk => hk.2) (.int .i64 0)) (fun _ hk => hk.2) (.slice none 0 0)) (fun _ h_ => h_.1))) hb); have n2_ := Aside0.mk (blk_below (g := gb161) (o := .cells #[.slice Ao96 y158.length co96, .int .i64 1, .int .i64 0, .int .i64 0, .int .i64 0, .slice none 0 0] 36 (0, 0)) (by refine grO ?_; refine blk_put (cs := #[.slice Ao96 y158.length co96, .int .i64 1, .int .i64 0, .int .i64 0, .int .i64 0, .slice none 0 0]) ?_ 5 _ rfl; refine grO ?_; refine blk_put (cs := #[.slice Ao96 y158.length co96, .int .i64 1, .int .i64 0, .int .i64 0, .int .i64 0, .slice none 0 0]) ?_ 4 _ rfl; refine grO ?_; refine blk_put (cs := #[.slice Ao96 y158.length co96, .int .i64 1, .int .i64 0, .int .i64 0, .int .i64 0, .slice none 0 0]) ?_ 3 _ rfl; refine grO ?_; refine blk_put (cs := #[.slice Ao96 y158.length co96, .int .i64 1, .int .i64 0, .int .i64 0, .int .i64 0, .slice none 0 0]) ?_ 2 _ rfl; refine grO ?_; refine blk_put (cs := #[.slice Ao96 y158.length co96, .int .i64 0, .int .i64 0, .int .i64 0, .int .i64 0, .slice none 0 0]) ?_ 1 _ rfl; refine grO ?_; refine blk_put (cs := #[.slice none 0 0, .int .i64 0, .int .i64 0, .int .i64 0, .int .i64 0, .slice none 0 0]) ?_ 0 _ rfl; refine grO ?_; exact BK161.out) hb); have n3_ := Aside0.mk (below_step (by repeat (first | (with_reducible first | exact HB.out | apply below_alloc | apply pw_below_drewN | apply below_drew1 | refine below_set ?_ GE161.out) | exact HB.out)) hb); clear HO157; clear HO160; clear BK161; clear HB; have HO157 := n0_; have HO160 := n1_; have BK161 := n2_; have HB := n3_; clear n0_ n1_ n2_ n3_; (try clear hb); (try clear hb2); (try clear hk); (try clear hi)) | ((with_reducible refine gate_callee (f := 16) rfl ?_); refine goesL_ (some 28) rfl rfl Try.func16 (by kernel_rfl) rfl #[.slice Ao99 y155.length co99, .agg #[.slice none 0 0, .int .i64 0, .int .i64 0, .int .i64 0, .int .i64 0, .slice none 0 0]] rfl (by (try simp only [List.map_toArray, List.map_cons, List.map_nil]); first | done | rfl | (simp only [List.length_drop, List.length_take]; rfl)) ?_; (refine (eval_At.calls k _ _ y155 _ _ ([] : List (S51)) 0 0 0 0 _ _ ([] : List ByteArray) t164 t165 _ ?side1 ?side2 ?side3 ?side4 ?side5 ?side6 A2.out).mono ?_); (case side1 => repeat (first | exact (Kd.R_reads' HO157.out).2.2 | (with_reducible refine Kd.C_alloc ?_ _) | (with_reducible refine Kd.C_drewN ?_ _) | (with_reducible refine Kd.C_drew ?_))); (case side2 => exact (Kd.R_reads' HO157.out).2.1); (case side3 => exact Kd.C_nil _ _); (case side4 => exact Nat.le_refl _); (case side5 => exact Kd.C_nil _ _); (case side6 => exact Nat.le_refl _); rintro e w101 ⟨rfl, hb⟩; refine ⟨_, rfl, ?_⟩; have n0_ := Aside0.mk (Kd.R_below (by (with_reducible repeat (first | apply Kd.R_alloc | apply Kd.R_drewN | apply Kd.R_drew)); exact HO157.out) hb); have n1_ := Aside0.mk (Kd.R_below (by (with_reducible repeat (first | apply Kd.R_alloc | apply Kd.R_drewN | apply Kd.R_drew)); exact HO160.out) hb); have n2_ := Aside0.mk (blk_below (grw BK161.out) hb); have n3_ := Aside0.mk (below_step (by repeat (first | (with_reducible first | exact HB.out | apply below_alloc | apply pw_below_drewN | apply below_drew1 | refine below_set ?_ GE161.out) | exact HB.out)) hb); clear HO157; clear HO160; clear BK161; clear HB; have HO157 := n0_; have HO160 := n1_; have BK161 := n2_; have HB := n3_; clear n0_ n1_ n2_ n3_; (try clear hb); (try clear hb2); (try clear hk); (try clear hi)) | ((with_reducible refine gate_dst (N := 34) rfl ?_); refine Kd.R_lit k47 _ 47 ?hg (N := 34) ?hd (xs := ([(⟨12, 0, (⟨#[]⟩ : ByteArray)⟩ : S47), (⟨1, 0, (⟨#[]⟩ : ByteArray)⟩ : S47)] : List (S47))) (inner := [.int .i64 12, .int .i64 0, .string (⟨#[]⟩ : ByteArray), .int .i64 1, .int .i64 0, .string (⟨#[]⟩ : ByteArray)]) (ok := fun _ => True) (okp := fun _ => True) ?hr ?hp (fun _ hk => hk) trivial (Below.refl _ _) (Nat.le_refl _) (by simp) ?_; (case hd => rfl); (case hg => rfl); (case hr => first | (go_simp; done) | (go_simp; rfl)); (case hp => exact (Reps.c3 (show Kd.M k47 _ _ _ (⟨12, 0, (⟨#[]⟩ : ByteArray)⟩ : S47) [.int .i64 12, .int .i64 0, .string (⟨#[]⟩ : ByteArray)] from (k47_mkM _ _ _ (⟨12, 0, (⟨#[]⟩ : ByteArray)⟩ : S47) )) (Reps.c3 (show Kd.M k47 _ _ _ (⟨1, 0, (⟨#[]⟩ : ByteArray)⟩ : S47) [.int .i64 1, .int .i64 0, .string (⟨#[]⟩ : ByteArray)] from (k47_mkM _ _ _ (⟨1, 0, (⟨#[]⟩ : ByteArray)⟩ : S47) )) (Reps.none _ _)))); intro v167 w102 ho103 hb hg_ hnew_; clear hg_ hnew_; (first | rw [← Ny166.out] at ho103 | (simp only [Int.reduceToNat] at ho103; rw [← Ny166.out] at ho103)); have n0_ := Aside0.mk (Kd.R_elder' (by (with_reducible repeat (first | apply Kd.R_alloc | apply Kd.R_drewN | apply Kd.R_drew)); exact HO157.out) (Kd.R_base ho103) hb); have n1_ := Aside0.mk (Kd.R_below (by (with_reducible repeat (first | apply Kd.R_alloc | apply Kd.R_drewN | apply Kd.R_drew)); exact HO160.out) hb); have n2_ := Aside0.mk (Kd.R_lower (Kd.R_new' ho103 (Kd.R_lt (by (with_reducible repeat (first | apply Kd.R_alloc | apply Kd.R_drewN | apply Kd.R_drew)); exact HO157.out))) (below_size (by repeat (first | (with_reducible first | exact HB.out | apply below_alloc | apply pw_below_drewN | apply below_drew1 | refine below_set ?_ GE161.out) | exact HB.out)))); have n3_ := Aside0.mk (blk_below (grw BK161.out) hb); have n4_ := Aside0.mk (below_step (by repeat (first | (with_reducible first | exact HB.out | apply below_alloc | apply pw_below_drewN | apply below_drew1 | refine below_set ?_ GE161.out) | exact HB.out)) hb); clear HO157; clear HO160; clear BK161; clear HB; have HO157 := n0_; have HO160 := n1_; have HO168 := n2_; have BK161 := n3_; have HB := n4_; clear n0_ n1_ n2_ n3_ n4_; clear hb ho103; obtain ⟨hcz104_0, hcz104_1, hcz104_2, hcz104_3, hcz104_4, hcz104_5⟩ := cz6_ BK161.out; obtain ⟨hfz104_0, hfz104_1, hfz104_2, hfz104_3, hfz104_4, hfz104_5⟩ := cf6_ BK161.out; obtain ⟨Ao105, co105, eo105⟩ := Kd.R_slice HO168.out; subst eo105) | ((with_reducible refine gate_callee (f := 16) rfl ?_); refine goesL_ (some 36) rfl rfl Try.func16 (by kernel_rfl) rfl #[.slice Ao105 y166.length co105, .agg #[.slice Ao96 y158.length co96, .int .i64 1, .int .i64 0, .int .i64 0, .int .i64 0, .slice none 0 0]] rfl (by (try simp only [List.map_toArray, List.map_cons, List.map_nil]); first | done | rfl | (simp only [List.length_drop, List.length_take]; rfl)) ?_; (refine (eval_At.calls k _ _ y166 _ _ y158 1 0 0 0 _ _ ([] : List ByteArray) t169 t170 _ ?side1 ?side2 ?side3 ?side4 ?side5 ?side6 A3.out).mono ?_); (case side1 => repeat (first | exact (Kd.R_reads' HO168.out).2.2 | (with_reducible refine Kd.C_alloc ?_ _) | (with_reducible refine Kd.C_drewN ?_ _) | (with_reducible refine Kd.C_drew ?_))); (case side2 => exact (Kd.R_reads' HO168.out).2.1); (case side3 => repeat (first | exact (Kd.R_reads' HO160.out).2.2 | (with_reducible refine Kd.C_alloc ?_ _) | (with_reducible refine Kd.C_drewN ?_ _) | (with_reducible refine Kd.C_drew ?_))); (case side4 => exact (Kd.R_reads' HO160.out).2.1); (case side5 => exact Kd.C_nil _ _); (case side6 => exact Nat.le_refl _); rintro e w106 ⟨rfl, hb⟩; refine ⟨_, rfl, ?_⟩; have n0_ := Aside0.mk (Kd.R_below (by (with_reducible repeat (first | apply Kd.R_alloc | apply Kd.R_drewN | apply Kd.R_drew)); exact HO157.out) hb); have n1_ := Aside0.mk (Kd.R_below (by (with_reducible repeat (first | apply Kd.R_alloc | apply Kd.R_drewN | apply Kd.R_drew)); exact HO160.out) hb); have n2_ := Aside0.mk (Kd.R_below (by (with_reducible repeat (first | apply Kd.R_alloc | apply Kd.R_drewN | apply Kd.R_drew)); exact HO168.out) hb); have n3_ := Aside0.mk (blk_below (grw BK161.out) hb); have n4_ := Aside0.mk (below_step (by repeat (first | (with_reducible first | exact HB.out | apply below_alloc | apply pw_below_drewN | apply below_drew1 | refine below_set ?_ GE161.out) | exact HB.out)) hb); clear HO157; clear HO160; clear HO168; clear BK161; clear HB; have HO157 := n0_; have HO160 := n1_; have HO168 := n2_; have BK161 := n3_; have HB := n4_; clear n0_ n1_ n2_ n3_ n4_; (try clear hb); (try clear hb2); (try clear hk); (try clear hi)))
  go_ret
  exact ⟨by first | rfl | (simp [errW_none, errW_some] <;> rfl) | (simp [*, errW_none, errW_some] <;> rfl), by repeat (first | (with_reducible first | exact HB.out | apply below_alloc | apply pw_below_drewN | apply below_drew1 | refine below_set ?_ GE161.out) | exact HB.out)⟩

 rw [if_pos c4] at H
 have c4b0 : (t162 == 1) = true := beq_iff_eq.mpr c4
 have c4b1 : (t162 != 1) = false := bne_eq_false_iff_eq.mpr c4
 clear c4
 by_cases c5 : t163 = 0
 rotate_left
 ·rw [if_neg c5] at H
  have c5b0 : (t163 == 0) = false := beq_eq_false_iff_ne.mpr c5
  have c5b1 : (t163 != 0) = true := bne_iff_ne.mpr c5
  obtain rfl := Option.some.inj H
  go_enter Try.func15, Try.ntmps15
  go_wp2_with (first | ((with_reducible refine gate_dst (N := 14) rfl ?_); refine Kd.R_lit k47 _ 47 ?hg (N := 14) ?hd (xs := ([(⟨15, 0, (⟨#[]⟩ : ByteArray)⟩ : S47), (⟨4, 0, (⟨#[]⟩ : ByteArray)⟩ : S47), (⟨2, 0, (⟨#[120]⟩ : ByteArray)⟩ : S47), (⟨1, 1, (⟨#[]⟩ : ByteArray)⟩ : S47), (⟨1, 3, (⟨#[]⟩ : ByteArray)⟩ : S47)] : List (S47))) (inner := [.int .i64 15, .int .i64 0, .string (⟨#[]⟩ : ByteArray), .int .i64 4, .int .i64 0, .string (⟨#[]⟩ : ByteArray), .int .i64 2, .int .i64 0, .string (⟨#[120]⟩ : ByteArray), .int .i64 1, .int .i64 1, .string (⟨#[]⟩ : ByteArray), .int .i64 1, .int .i64 3, .string (⟨#[]⟩ : ByteArray)]) (ok := fun _ => True) (okp := fun _ => True) ?hr ?hp (fun _ hk => hk) trivial (Below.refl _ _) (Nat.le_refl _) (by simp) ?_; (case hd => rfl); (case hg => rfl); (case hr => first | (go_simp; done) | (go_simp; rfl)); (case hp => exact (Reps.c3 (show Kd.M k47 _ _ _ (⟨15, 0, (⟨#[]⟩ : ByteArray)⟩ : S47) [.int .i64 15, .int .i64 0, .string (⟨#[]⟩ : ByteArray)] from (k47_mkM _ _ _ (⟨15, 0, (⟨#[]⟩ : ByteArray)⟩ : S47) )) (Reps.c3 (show Kd.M k47 _ _ _ (⟨4, 0, (⟨#[]⟩ : ByteArray)⟩ : S47) [.int .i64 4, .int .i64 0, .string (⟨#[]⟩ : ByteArray)] from (k47_mkM _ _ _ (⟨4, 0, (⟨#[]⟩ : ByteArray)⟩ : S47) )) (Reps.c3 (show Kd.M k47 _ _ _ (⟨2, 0, (⟨#[120]⟩ : ByteArray)⟩ : S47) [.int .i64 2, .int .i64 0, .string (⟨#[120]⟩ : ByteArray)] from (k47_mkM _ _ _ (⟨2, 0, (⟨#[120]⟩ : ByteArray)⟩ : S47) )) (Reps.c3 (show Kd.M k47 _ _ _ (⟨1, 1, (⟨#[]⟩ : ByteArray)⟩ : S47) [.int .i64 1, .int .i64 1, .string (⟨#[]⟩ : ByteArray)] from (k47_mkM _ _ _ (⟨1, 1, (⟨#[]⟩ : ByteArray)⟩ : S47) )) (Reps.c3 (show Kd.M k47 _ _ _ (⟨1, 3, (⟨#[]⟩ : ByteArray)⟩ : S47) [.int .i64 1, .int .i64 3, .string (⟨#[]⟩ : ByteArray)] from (k47_mkM _ _ _ (⟨1, 3, (⟨#[]⟩ : ByteArray)⟩ : S47) )) (Reps.none _ _))))))); intro v156 w77 ho78 hb hg_ hnew_; clear hg_ hnew_; (first | rw [← Ny155.out] at ho78 | (simp only [Int.reduceToNat] at ho78; rw [← Ny155.out] at ho78)); have n0_ := Aside0.mk (Kd.R_lower ho78 (below_size (brw HB.out))); have n1_ := Aside0.mk (below_step (brw HB.out) hb); clear HB; have HO157 := n0_; have HB := n1_; clear n0_ n1_; clear hb ho78) | ((with_reducible refine gate_dst (N := 16) rfl ?_); refine Kd.R_lit k51 _ 51 ?hg (N := 16) ?hd (xs := ([(⟨(⟨#[120]⟩ : ByteArray), 0, 0, 0⟩ : S51)] : List (S51))) (inner := [.string (⟨#[120]⟩ : ByteArray), .int .i64 0, .int .i64 0, .int .i64 0]) (ok := fun _ => True) (okp := fun _ => True) ?hr ?hp (fun _ hk => hk) trivial (Below.refl _ _) (Nat.le_refl _) (by simp) ?_; (case hd => rfl); (case hg => rfl); (case hr => first | (go_simp; done) | (go_simp; rfl)); (case hp => exact (Reps.c4 (show Kd.M k51 _ _ _ (⟨(⟨#[120]⟩ : ByteArray), 0, 0, 0⟩ : S51) [.string (⟨#[120]⟩ : ByteArray), .int .i64 0, .int .i64 0, .int .i64 0] from (k51_mkM _ _ _ (⟨(⟨#[120]⟩ : ByteArray), 0, 0, 0⟩ : S51) )) (Reps.none _ _))); intro v159 w79 ho80 hb hg_ hnew_; clear hg_ hnew_; (first | rw [← Ny158.out] at ho80 | (simp only [Int.reduceToNat] at ho80; rw [← Ny158.out] at ho80)); have n0_ := Aside0.mk (Kd.R_below (by (with_reducible repeat (first | apply Kd.R_alloc | apply Kd.R_drewN | apply Kd.R_drew)); exact HO157.out) hb); have n1_ := Aside0.mk (Kd.R_lower ho80 (below_size (brw HB.out))); have n2_ := Aside0.mk (below_step (brw HB.out) hb); clear HO157; clear HB; have HO157 := n0_; have HO160 := n1_; have HB := n2_; clear n0_ n1_ n2_; clear hb ho80; obtain ⟨Ao81, co81, eo81⟩ := Kd.R_slice HO160.out; subst eo81) | ((with_reducible refine gate_dst (N := 2) rfl ?_); refine box_event ?hg (N := 2) ?hd (cs := #[.slice none 0 0, .int .i64 0, .int .i64 0, .int .i64 0, .int .i64 0, .slice none 0 0]) (t := 36) ?hr ?_; (case hd => rfl); (case hg => rfl); (case hr => first | (go_simp; done) | (go_simp; rfl)); intro gb161 hg w82 hbox hb; have hB_ := bz12_ hb (brw HB.out); have n0_ := Aside0.mk (Kd.R_below (by (with_reducible repeat (first | apply Kd.R_alloc | apply Kd.R_drewN | apply Kd.R_drew)); exact HO157.out) hb); have n1_ := Aside0.mk (Kd.R_below (by (with_reducible repeat (first | apply Kd.R_alloc | apply Kd.R_drewN | apply Kd.R_drew)); exact HO160.out) hb); have n2_ := Aside0.mk (below_step hB_ hb); have n3_ := Aside0.mk (hbox); have n4_ := Aside0.mk ((by rw [hg]; exact (below_size hB_) : w.heap.size ≤ gb161)); have n5_ := Aside0.mk ((by rw [hg]; exact (below_size hB_) : w.heap.size ≤ gb161)); clear HO157; clear HO160; clear HB; have HO157 := n0_; have HO160 := n1_; have HB := n2_; have BK161 := n3_; have GW161 := n4_; have GE161 := n5_; clear n0_ n1_ n2_ n3_ n4_ n5_; clear hb hbox hg; obtain ⟨hcz83_0, hcz83_1, hcz83_2, hcz83_3, hcz83_4, hcz83_5⟩ := cz6_ BK161.out; obtain ⟨hfz83_0, hfz83_1, hfz83_2, hfz83_3, hfz83_4, hfz83_5⟩ := cf6_ BK161.out; obtain ⟨Ao84, co84, eo84⟩ := Kd.R_slice HO157.out; subst eo84) | ((with_reducible refine gate_callee (f := 16) rfl ?_); refine goesL_ (some 22) rfl rfl Try.func16 (by kernel_rfl) rfl #[.slice Ao84 y155.length co84, .agg #[.slice Ao81 y158.length co81, .int .i64 1, .int .i64 0, .int .i64 0, .int .i64 0, .slice none 0 0]] rfl (by (try simp only [List.map_toArray, List.map_cons, List.map_nil]); first | done | rfl | (simp only [List.length_drop, List.length_take]; rfl)) ?_; (refine (eval_At.calls k _ _ y155 _ _ y158 1 0 0 0 _ _ ([] : List ByteArray) t162 t163 _ ?side1 ?side2 ?side3 ?side4 ?side5 ?side6 A1.out).mono ?_); (case side1 => refine (Kd.R_reads' (e := 47) (base := w.heap.size) (ok := fun k_ => True) (n := y155.length) (c := co84) ?_).2.2; exact (by (with_reducible repeat (first | apply Kd.R_alloc | apply Kd.R_drewN | apply Kd.R_drew)); exact (Kd.R_mono (Kd.R_far (p := ⟨gb161, 5, none⟩) (Kd.R_far (p := ⟨gb161, 4, none⟩) (Kd.R_far (p := ⟨gb161, 3, none⟩) (Kd.R_far (p := ⟨gb161, 2, none⟩) (Kd.R_far (p := ⟨gb161, 1, none⟩) (Kd.R_far (p := ⟨gb161, 0, none⟩) (Kd.R_types HO157.out BK161.out (by decide)) (fun _ hk => hk.2) (.slice Ao81 y158.length co81)) (fun _ hk => hk.2) (.int .i64 1)) (fun _ hk => hk.2) (.int .i64 0)) (fun _ hk => hk.2) (.int .i64 0)) (fun _ hk => hk.2) (.int .i64 0)) (fun _ hk => hk.2) (.slice none 0 0)) (fun _ h_ => h_.1)))); (case side2 => exact (Kd.R_reads' HO157.out).2.1); (case side3 => refine (Kd.R_reads' (e := 51) (base := w.heap.size) (ok := fun k_ => True) (n := y158.length) (c := co81) ?_).2.2; exact (by (with_reducible repeat (first | apply Kd.R_alloc | apply Kd.R_drewN | apply Kd.R_drew)); exact (Kd.R_mono (Kd.R_far (p := ⟨gb161, 5, none⟩) (Kd.R_far (p := ⟨gb161, 4, none⟩) (Kd.R_far (p := ⟨gb161, 3, none⟩) (Kd.R_far (p := ⟨gb161, 2, none⟩) (Kd.R_far (p := ⟨gb161, 1, none⟩) (Kd.R_far (p := ⟨gb161, 0, none⟩) (Kd.R_types HO160.out BK161.out (by decide)) (fun _ hk => hk.2) (.slice Ao81 y158.length co81)) (fun _ hk => hk.2) (.int .i64 1)) (fun _ hk => hk.2) (.int .i64 0)) (fun _ hk => hk.2) (.int .i64 0)) (fun _ hk => hk.2) (.int .i64 0)) (fun _ hk => hk.2) (.slice none 0 0)) (fun _ h_ => h_.1)))); (case side4 => exact (Kd.R_reads' HO160.out).2.1); (case side5 => exact Kd.C_nil _ _); (case side6 => exact Nat.le_refl _); rintro e w85 ⟨rfl, hb⟩; refine ⟨_, rfl, ?_⟩; have n0_ := Aside0.mk (Kd.R_below (by (with_reducible repeat (first | apply Kd.R_alloc | apply Kd.R_drewN | apply Kd.R_drew)); exact (Kd.R_mono (Kd.R_far (p := ⟨gb161, 5, none⟩) (Kd.R_far (p := ⟨gb161, 4, none⟩) (Kd.R_far (p := ⟨gb161, 3, none⟩) (Kd.R_far (p := ⟨gb161, 2, none⟩) (Kd.R_far (p := ⟨gb161, 1, none⟩) (Kd.R_far (p := ⟨gb161, 0, none⟩) (Kd.R_types HO157.out BK161.out (by decide)) (fun _ hk => hk.2) (.slice Ao81 y158.length co81)) (fun _ hk => hk.2) (.int .i64 1)) (fun _ hk => hk.2) (.int .i64 0)) (fun _ hk => hk.2) (.int .i64 0)) (fun _ hk => hk.2) (.int .i64 0)) (fun _ hk => hk.2) (.slice none 0 0)) (fun _ h_ => h_.1))) hb); have n1_ := Aside0.mk (Kd.R_below (by (with_reducible repeat (first | apply Kd.R_alloc | apply Kd.R_drewN | apply Kd.R_drew)); exact (Kd.R_mono (Kd.R_far (p := ⟨gb161, 5, none⟩) (Kd.R_far (p := ⟨gb161, 4, none⟩) (Kd.R_far (p := ⟨gb161, 3, none⟩) (Kd.R_far (p := ⟨gb161, 2, none⟩) (Kd.R_far (p := ⟨gb161, 1, none⟩) (Kd.R_far (p := ⟨gb161, 0, none⟩) (Kd.R_types HO160.out BK161.out (by decide)) (fun _ hk => hk.2) (.slice Ao81 y158.length co81)) (fun _ hk => hk.2) (.int .i64 1)) (fun _ hk => hk.2) (.int .i64 0)) (fun _ hk => hk.2) (.int .i64 0)) (fun _ hk => hk.2) (.int .i64 0)) (fun _ hk => hk.2) (.slice none 0 0)) (fun _ h_ => h_.1))) hb); have n2_ := Aside0.mk (blk_below (g := gb161) (o := .cells #[.slice Ao81 y158.length co81, .int .i64 1, .int .i64 0, .int .i64 0, .int .i64 0, .slice none 0 0] 36 (0, 0)) (by refine grO ?_; refine blk_put (cs := #[.slice Ao81 y158.length co81, .int .i64 1, .int .i64 0, .int .i64 0, .int .i64 0, .slice none 0 0]) ?_ 5 _ rfl; refine grO ?_; refine blk_put (cs := #[.slice Ao81 y158.length co81, .int .i64 1, .int .i64 0, .int .i64 0, .int .i64 0, .slice none 0 0]) ?_ 4 _ rfl; refine grO ?_; refine blk_put (cs := #[.slice Ao81 y158.length co81, .int .i64 1, .int .i64 0, .int .i64 0, .int .i64 0, .slice none 0 0]) ?_ 3 _ rfl; refine grO ?_; refine blk_put (cs := #[.slice Ao81 y158.length co81, .int .i64 1, .int .i64 0, .int .i64 0, .int .i64 0, .slice none 0 0]) ?_ 2 _ rfl; refine grO ?_; refine blk_put (cs := #[.slice Ao81 y158.length co81, .int .i64 0, .int .i64 0, .int .i64 0, .int .i64 0, .slice none 0 0]) ?_ 1 _ rfl; refine grO ?_; refine blk_put (cs := #[.slice none 0 0, .int .i64 0, .int .i64 0, .int .i64 0, .int .i64 0, .slice none 0 0]) ?_ 0 _ rfl; refine grO ?_; exact BK161.out) hb); have n3_ := Aside0.mk (below_step (by repeat (first | (with_reducible first | exact HB.out | apply below_alloc | apply pw_below_drewN | apply below_drew1 | refine below_set ?_ GE161.out) | exact HB.out)) hb); clear HO157; clear HO160; clear BK161; clear HB; have HO157 := n0_; have HO160 := n1_; have BK161 := n2_; have HB := n3_; clear n0_ n1_ n2_ n3_; (try clear hb); (try clear hb2); (try clear hk); (try clear hi)) | ((with_reducible refine gate_callee (f := 16) rfl ?_); refine goesL_ (some 28) rfl rfl Try.func16 (by kernel_rfl) rfl #[.slice Ao84 y155.length co84, .agg #[.slice none 0 0, .int .i64 0, .int .i64 0, .int .i64 0, .int .i64 0, .slice none 0 0]] rfl (by (try simp only [List.map_toArray, List.map_cons, List.map_nil]); first | done | rfl | (simp only [List.length_drop, List.length_take]; rfl)) ?_; (refine (eval_At.calls k _ _ y155 _ _ ([] : List (S51)) 0 0 0 0 _ _ ([] : List ByteArray) t164 t165 _ ?side1 ?side2 ?side3 ?side4 ?side5 ?side6 A2.out).mono ?_); (case side1 => repeat (first | exact (Kd.R_reads' HO157.out).2.2 | (with_reducible refine Kd.C_alloc ?_ _) | (with_reducible refine Kd.C_drewN ?_ _) | (with_reducible refine Kd.C_drew ?_))); (case side2 => exact (Kd.R_reads' HO157.out).2.1); (case side3 => exact Kd.C_nil _ _); (case side4 => exact Nat.le_refl _); (case side5 => exact Kd.C_nil _ _); (case side6 => exact Nat.le_refl _); rintro e w86 ⟨rfl, hb⟩; refine ⟨_, rfl, ?_⟩; have n0_ := Aside0.mk (Kd.R_below (by (with_reducible repeat (first | apply Kd.R_alloc | apply Kd.R_drewN | apply Kd.R_drew)); exact HO157.out) hb); have n1_ := Aside0.mk (Kd.R_below (by (with_reducible repeat (first | apply Kd.R_alloc | apply Kd.R_drewN | apply Kd.R_drew)); exact HO160.out) hb); have n2_ := Aside0.mk (blk_below (grw BK161.out) hb); have n3_ := Aside0.mk (below_step (by repeat (first | (with_reducible first | exact HB.out | apply below_alloc | apply pw_below_drewN | apply below_drew1 | refine below_set ?_ GE161.out) | exact HB.out)) hb); clear HO157; clear HO160; clear BK161; clear HB; have HO157 := n0_; have HO160 := n1_; have BK161 := n2_; have HB := n3_; clear n0_ n1_ n2_ n3_; (try clear hb); (try clear hb2); (try clear hk); (try clear hi)) | ((with_reducible refine gate_dst (N := 34) rfl ?_); refine Kd.R_lit k47 _ 47 ?hg (N := 34) ?hd (xs := ([(⟨12, 0, (⟨#[]⟩ : ByteArray)⟩ : S47), (⟨1, 0, (⟨#[]⟩ : ByteArray)⟩ : S47)] : List (S47))) (inner := [.int .i64 12, .int .i64 0, .string (⟨#[]⟩ : ByteArray), .int .i64 1, .int .i64 0, .string (⟨#[]⟩ : ByteArray)]) (ok := fun _ => True) (okp := fun _ => True) ?hr ?hp (fun _ hk => hk) trivial (Below.refl _ _) (Nat.le_refl _) (by simp) ?_; (case hd => rfl); (case hg => rfl); (case hr => first | (go_simp; done) | (go_simp; rfl)); (case hp => exact (Reps.c3 (show Kd.M k47 _ _ _ (⟨12, 0, (⟨#[]⟩ : ByteArray)⟩ : S47) [.int .i64 12, .int .i64 0, .string (⟨#[]⟩ : ByteArray)] from (k47_mkM _ _ _ (⟨12, 0, (⟨#[]⟩ : ByteArray)⟩ : S47) )) (Reps.c3 (show Kd.M k47 _ _ _ (⟨1, 0, (⟨#[]⟩ : ByteArray)⟩ : S47) [.int .i64 1, .int .i64 0, .string (⟨#[]⟩ : ByteArray)] from (k47_mkM _ _ _ (⟨1, 0, (⟨#[]⟩ : ByteArray)⟩ : S47) )) (Reps.none _ _)))); intro v167 w87 ho88 hb hg_ hnew_; clear hg_ hnew_; (first | rw [← Ny166.out] at ho88 | (simp only [Int.reduceToNat] at ho88; rw [← Ny166.out] at ho88)); have n0_ := Aside0.mk (Kd.R_elder' (by (with_reducible repeat (first | apply Kd.R_alloc | apply Kd.R_drewN | apply Kd.R_drew)); exact HO157.out) (Kd.R_base ho88) hb); have n1_ := Aside0.mk (Kd.R_below (by (with_reducible repeat (first | apply Kd.R_alloc | apply Kd.R_drewN | apply Kd.R_drew)); exact HO160.out) hb); have n2_ := Aside0.mk (Kd.R_lower (Kd.R_new' ho88 (Kd.R_lt (by (with_reducible repeat (first | apply Kd.R_alloc | apply Kd.R_drewN | apply Kd.R_drew)); exact HO157.out))) (below_size (by repeat (first | (with_reducible first | exact HB.out | apply below_alloc | apply pw_below_drewN | apply below_drew1 | refine below_set ?_ GE161.out) | exact HB.out)))); have n3_ := Aside0.mk (blk_below (grw BK161.out) hb); have n4_ := Aside0.mk (below_step (by repeat (first | (with_reducible first | exact HB.out | apply below_alloc | apply pw_below_drewN | apply below_drew1 | refine below_set ?_ GE161.out) | exact HB.out)) hb); clear HO157; clear HO160; clear BK161; clear HB; have HO157 := n0_; have HO160 := n1_; have HO168 := n2_; have BK161 := n3_; have HB := n4_; clear n0_ n1_ n2_ n3_ n4_; clear hb ho88; obtain ⟨hcz89_0, hcz89_1, hcz89_2, hcz89_3, hcz89_4, hcz89_5⟩ := cz6_ BK161.out; obtain ⟨hfz89_0, hfz89_1, hfz89_2, hfz89_3, hfz89_4, hfz89_5⟩ := cf6_ BK161.out; obtain ⟨Ao90, co90, eo90⟩ := Kd.R_slice HO168.out; subst eo90) | ((with_reducible refine gate_callee (f := 16) rfl ?_); refine goesL_ (some 36) rfl rfl Try.func16 (by kernel_rfl) rfl #[.slice Ao90 y166.length co90, .agg #[.slice Ao81 y158.length co81, .int .i64 1, .int .i64 0, .int .i64 0, .int .i64 0, .slice none 0 0]] rfl (by (try simp only [List.map_toArray, List.map_cons, List.map_nil]); first | done | rfl | (simp only [List.length_drop, List.length_take]; rfl)) ?_; (refine (eval_At.calls k _ _ y166 _ _ y158 1 0 0 0 _ _ ([] : List ByteArray) t169 t170 _ ?side1 ?side2 ?side3 ?side4 ?side5 ?side6 A3.out).mono ?_); (case side1 => repeat (first | exact (Kd.R_reads' HO168.out).2.2 | (with_reducible refine Kd.C_alloc ?_ _) | (with_reducible refine Kd.C_drewN ?_ _) | (with_reducible refine Kd.C_drew ?_))); (case side2 => exact (Kd.R_reads' HO168.out).2.1); (case side3 => repeat (first | exact (Kd.R_reads' HO160.out).2.2 | (with_reducible refine Kd.C_alloc ?_ _) | (with_reducible refine Kd.C_drewN ?_ _) | (with_reducible refine Kd.C_drew ?_))); (case side4 => exact (Kd.R_reads' HO160.out).2.1); (case side5 => exact Kd.C_nil _ _); (case side6 => exact Nat.le_refl _); rintro e w91 ⟨rfl, hb⟩; refine ⟨_, rfl, ?_⟩; have n0_ := Aside0.mk (Kd.R_below (by (with_reducible repeat (first | apply Kd.R_alloc | apply Kd.R_drewN | apply Kd.R_drew)); exact HO157.out) hb); have n1_ := Aside0.mk (Kd.R_below (by (with_reducible repeat (first | apply Kd.R_alloc | apply Kd.R_drewN | apply Kd.R_drew)); exact HO160.out) hb); have n2_ := Aside0.mk (Kd.R_below (by (with_reducible repeat (first | apply Kd.R_alloc | apply Kd.R_drewN | apply Kd.R_drew)); exact HO168.out) hb); have n3_ := Aside0.mk (blk_below (grw BK161.out) hb); have n4_ := Aside0.mk (below_step (by repeat (first | (with_reducible first | exact HB.out | apply below_alloc | apply pw_below_drewN | apply below_drew1 | refine below_set ?_ GE161.out) | exact HB.out)) hb); clear HO157; clear HO160; clear HO168; clear BK161; clear HB; have HO157 := n0_; have HO160 := n1_; have HO168 := n2_; have BK161 := n3_; have HB := n4_; clear n0_ n1_ n2_ n3_ n4_; (try clear hb); (try clear hb2); (try clear hk); (try clear hi)))
  go_ret
  exact ⟨by first | rfl | (simp [errW_none, errW_some] <;> rfl) | (simp [*, errW_none, errW_some] <;> rfl), by repeat (first | (with_reducible first | exact HB.out | apply below_alloc | apply pw_below_drewN | apply below_drew1 | refine below_set ?_ GE161.out) | exact HB.out)⟩
 rw [if_pos c5] at H
 have c5b0 : (t163 == 0) = true := beq_iff_eq.mpr c5
 have c5b1 : (t163 != 0) = false := bne_eq_false_iff_eq.mpr c5
 clear c5
 by_cases c6 : t165 = 7
 rotate_left
 ·rw [if_neg c6] at H
  have c6b0 : (t165 == 7) = false := beq_eq_false_iff_ne.mpr c6
  have c6b1 : (t165 != 7) = true := bne_iff_ne.mpr c6
  obtain rfl := Option.some.inj H
  go_enter Try.func15, Try.ntmps15
  go_wp2_with (first | ((with_reducible refine gate_dst (N := 14) rfl ?_); refine Kd.R_lit k47 _ 47 ?hg (N := 14) ?hd (xs := ([(⟨15, 0, (⟨#[]⟩ : ByteArray)⟩ : S47), (⟨4, 0, (⟨#[]⟩ : ByteArray)⟩ : S47), (⟨2, 0, (⟨#[120]⟩ : ByteArray)⟩ : S47), (⟨1, 1, (⟨#[]⟩ : ByteArray)⟩ : S47), (⟨1, 3, (⟨#[]⟩ : ByteArray)⟩ : S47)] : List (S47))) (inner := [.int .i64 15, .int .i64 0, .string (⟨#[]⟩ : ByteArray), .int .i64 4, .int .i64 0, .string (⟨#[]⟩ : ByteArray), .int .i64 2, .int .i64 0, .string (⟨#[120]⟩ : ByteArray), .int .i64 1, .int .i64 1, .string (⟨#[]⟩ : ByteArray), .int .i64 1, .int .i64 3, .string (⟨#[]⟩ : ByteArray)]) (ok := fun _ => True) (okp := fun _ => True) ?hr ?hp (fun _ hk => hk) trivial (Below.refl _ _) (Nat.le_refl _) (by simp) ?_; (case hd => rfl); (case hg => rfl); (case hr => first | (go_simp; done) | (go_simp; rfl)); (case hp => exact (Reps.c3 (show Kd.M k47 _ _ _ (⟨15, 0, (⟨#[]⟩ : ByteArray)⟩ : S47) [.int .i64 15, .int .i64 0, .string (⟨#[]⟩ : ByteArray)] from (k47_mkM _ _ _ (⟨15, 0, (⟨#[]⟩ : ByteArray)⟩ : S47) )) (Reps.c3 (show Kd.M k47 _ _ _ (⟨4, 0, (⟨#[]⟩ : ByteArray)⟩ : S47) [.int .i64 4, .int .i64 0, .string (⟨#[]⟩ : ByteArray)] from (k47_mkM _ _ _ (⟨4, 0, (⟨#[]⟩ : ByteArray)⟩ : S47) )) (Reps.c3 (show Kd.M k47 _ _ _ (⟨2, 0, (⟨#[120]⟩ : ByteArray)⟩ : S47) [.int .i64 2, .int .i64 0, .string (⟨#[120]⟩ : ByteArray)] from (k47_mkM _ _ _ (⟨2, 0, (⟨#[120]⟩ : ByteArray)⟩ : S47) )) (Reps.c3 (show Kd.M k47 _ _ _ (⟨1, 1, (⟨#[]⟩ : ByteArray)⟩ : S47) [.int .i64 1, .int .i64 1, .string (⟨#[]⟩ : ByteArray)] from (k47_mkM _ _ _ (⟨1, 1, (⟨#[]⟩ : ByteArray)⟩ : S47) )) (Reps.c3 (show Kd.M k47 _ _ _ (⟨1, 3, (⟨#[]⟩ : ByteArray)⟩ : S47) [.int .i64 1, .int .i64 3, .string (⟨#[]⟩ : ByteArray)] from (k47_mkM _ _ _ (⟨1, 3, (⟨#[]⟩ : ByteArray)⟩ : S47) )) (Reps.none _ _))))))); intro v156 w62 ho63 hb hg_ hnew_; clear hg_ hnew_; (first | rw [← Ny155.out] at ho63 | (simp only [Int.reduceToNat] at ho63; rw [← Ny155.out] at ho63)); have n0_ := Aside0.mk (Kd.R_lower ho63 (below_size (brw HB.out))); have n1_ := Aside0.mk (below_step (brw HB.out) hb); clear HB; have HO157 := n0_; have HB := n1_; clear n0_ n1_; clear hb ho63) | ((with_reducible refine gate_dst (N := 16) rfl ?_); refine Kd.R_lit k51 _ 51 ?hg (N := 16) ?hd (xs := ([(⟨(⟨#[120]⟩ : ByteArray), 0, 0, 0⟩ : S51)] : List (S51))) (inner := [.string (⟨#[120]⟩ : ByteArray), .int .i64 0, .int .i64 0, .int .i64 0]) (ok := fun _ => True) (okp := fun _ => True) ?hr ?hp (fun _ hk => hk) trivial (Below.refl _ _) (Nat.le_refl _) (by simp) ?_; (case hd => rfl); (case hg => rfl); (case hr => first | (go_simp; done) | (go_simp; rfl)); (case hp => exact (Reps.c4 (show Kd.M k51 _ _ _ (⟨(⟨#[120]⟩ : ByteArray), 0, 0, 0⟩ : S51) [.string (⟨#[120]⟩ : ByteArray), .int .i64 0, .int .i64 0, .int .i64 0] from (k51_mkM _ _ _ (⟨(⟨#[120]⟩ : ByteArray), 0, 0, 0⟩ : S51) )) (Reps.none _ _))); intro v159 w64 ho65 hb hg_ hnew_; clear hg_ hnew_; (first | rw [← Ny158.out] at ho65 | (simp only [Int.reduceToNat] at ho65; rw [← Ny158.out] at ho65)); have n0_ := Aside0.mk (Kd.R_below (by (with_reducible repeat (first | apply Kd.R_alloc | apply Kd.R_drewN | apply Kd.R_drew)); exact HO157.out) hb); have n1_ := Aside0.mk (Kd.R_lower ho65 (below_size (brw HB.out))); have n2_ := Aside0.mk (below_step (brw HB.out) hb); clear HO157; clear HB; have HO157 := n0_; have HO160 := n1_; have HB := n2_; clear n0_ n1_ n2_; clear hb ho65; obtain ⟨Ao66, co66, eo66⟩ := Kd.R_slice HO160.out; subst eo66) | ((with_reducible refine gate_dst (N := 2) rfl ?_); refine box_event ?hg (N := 2) ?hd (cs := #[.slice none 0 0, .int .i64 0, .int .i64 0, .int .i64 0, .int .i64 0, .slice none 0 0]) (t := 36) ?hr ?_; (case hd => rfl); (case hg => rfl); (case hr => first | (go_simp; done) | (go_simp; rfl)); intro gb161 hg w67 hbox hb; have hB_ := bz12_ hb (brw HB.out); have n0_ := Aside0.mk (Kd.R_below (by (with_reducible repeat (first | apply Kd.R_alloc | apply Kd.R_drewN | apply Kd.R_drew)); exact HO157.out) hb); have n1_ := Aside0.mk (Kd.R_below (by (with_reducible repeat (first | apply Kd.R_alloc | apply Kd.R_drewN | apply Kd.R_drew)); exact HO160.out) hb); have n2_ := Aside0.mk (below_step hB_ hb); have n3_ := Aside0.mk (hbox); have n4_ := Aside0.mk ((by rw [hg]; exact (below_size hB_) : w.heap.size ≤ gb161)); have n5_ := Aside0.mk ((by rw [hg]; exact (below_size hB_) : w.heap.size ≤ gb161)); clear HO157; clear HO160; clear HB; have HO157 := n0_; have HO160 := n1_; have HB := n2_; have BK161 := n3_; have GW161 := n4_; have GE161 := n5_; clear n0_ n1_ n2_ n3_ n4_ n5_; clear hb hbox hg; obtain ⟨hcz68_0, hcz68_1, hcz68_2, hcz68_3, hcz68_4, hcz68_5⟩ := cz6_ BK161.out; obtain ⟨hfz68_0, hfz68_1, hfz68_2, hfz68_3, hfz68_4, hfz68_5⟩ := cf6_ BK161.out; obtain ⟨Ao69, co69, eo69⟩ := Kd.R_slice HO157.out; subst eo69) | ((with_reducible refine gate_callee (f := 16) rfl ?_); refine goesL_ (some 22) rfl rfl Try.func16 (by kernel_rfl) rfl #[.slice Ao69 y155.length co69, .agg #[.slice Ao66 y158.length co66, .int .i64 1, .int .i64 0, .int .i64 0, .int .i64 0, .slice none 0 0]] rfl (by (try simp only [List.map_toArray, List.map_cons, List.map_nil]); first | done | rfl | (simp only [List.length_drop, List.length_take]; rfl)) ?_; (refine (eval_At.calls k _ _ y155 _ _ y158 1 0 0 0 _ _ ([] : List ByteArray) t162 t163 _ ?side1 ?side2 ?side3 ?side4 ?side5 ?side6 A1.out).mono ?_); (case side1 => refine (Kd.R_reads' (e := 47) (base := w.heap.size) (ok := fun k_ => True) (n := y155.length) (c := co69) ?_).2.2; exact (by (with_reducible repeat (first | apply Kd.R_alloc | apply Kd.R_drewN | apply Kd.R_drew)); exact (Kd.R_mono (Kd.R_far (p := ⟨gb161, 5, none⟩) (Kd.R_far (p := ⟨gb161, 4, none⟩) (Kd.R_far (p := ⟨gb161, 3, none⟩) (Kd.R_far (p := ⟨gb161, 2, none⟩) (Kd.R_far (p := ⟨gb161, 1, none⟩) (Kd.R_far (p := ⟨gb161, 0, none⟩) (Kd.R_types HO157.out BK161.out (by decide)) (fun _ hk => hk.2) (.slice Ao66 y158.length co66)) (fun _ hk => hk.2) (.int .i64 1)) (fun _ hk => hk.2) (.int .i64 0)) (fun _ hk => hk.2) (.int .i64 0)) (fun _ hk => hk.2) (.int .i64 0)) (fun _ hk => hk.2) (.slice none 0 0)) (fun _ h_ => h_.1)))); (case side2 => exact (Kd.R_reads' HO157.out).2.1); (case side3 => refine (Kd.R_reads' (e := 51) (base := w.heap.size) (ok := fun k_ => True) (n := y158.length) (c := co66) ?_).2.2; exact (by (with_reducible repeat (first | apply Kd.R_alloc | apply Kd.R_drewN | apply Kd.R_drew)); exact (Kd.R_mono (Kd.R_far (p := ⟨gb161, 5, none⟩) (Kd.R_far (p := ⟨gb161, 4, none⟩) (Kd.R_far (p := ⟨gb161, 3, none⟩) (Kd.R_far (p := ⟨gb161, 2, none⟩) (Kd.R_far (p := ⟨gb161, 1, none⟩) (Kd.R_far (p := ⟨gb161, 0, none⟩) (Kd.R_types HO160.out BK161.out (by decide)) (fun _ hk => hk.2) (.slice Ao66 y158.length co66)) (fun _ hk => hk.2) (.int .i64 1)) (fun _ hk => hk.2) (.int .i64 0)) (fun _ hk => hk.2) (.int .i64 0)) (fun _ hk => hk.2) (.int .i64 0)) (fun _ hk => hk.2) (.slice none 0 0)) (fun _ h_ => h_.1)))); (case side4 => exact (Kd.R_reads' HO160.out).2.1); (case side5 => exact Kd.C_nil _ _); (case side6 => exact Nat.le_refl _); rintro e w70 ⟨rfl, hb⟩; refine ⟨_, rfl, ?_⟩; have n0_ := Aside0.mk (Kd.R_below (by (with_reducible repeat (first | apply Kd.R_alloc | apply Kd.R_drewN | apply Kd.R_drew)); exact (Kd.R_mono (Kd.R_far (p := ⟨gb161, 5, none⟩) (Kd.R_far (p := ⟨gb161, 4, none⟩) (Kd.R_far (p := ⟨gb161, 3, none⟩) (Kd.R_far (p := ⟨gb161, 2, none⟩) (Kd.R_far (p := ⟨gb161, 1, none⟩) (Kd.R_far (p := ⟨gb161, 0, none⟩) (Kd.R_types HO157.out BK161.out (by decide)) (fun _ hk => hk.2) (.slice Ao66 y158.length co66)) (fun _ hk => hk.2) (.int .i64 1)) (fun _ hk => hk.2) (.int .i64 0)) (fun _ hk => hk.2) (.int .i64 0)) (fun _ hk => hk.2) (.int .i64 0)) (fun _ hk => hk.2) (.slice none 0 0)) (fun _ h_ => h_.1))) hb); have n1_ := Aside0.mk (Kd.R_below (by (with_reducible repeat (first | apply Kd.R_alloc | apply Kd.R_drewN | apply Kd.R_drew)); exact (Kd.R_mono (Kd.R_far (p := ⟨gb161, 5, none⟩) (Kd.R_far (p := ⟨gb161, 4, none⟩) (Kd.R_far (p := ⟨gb161, 3, none⟩) (Kd.R_far (p := ⟨gb161, 2, none⟩) (Kd.R_far (p := ⟨gb161, 1, none⟩) (Kd.R_far (p := ⟨gb161, 0, none⟩) (Kd.R_types HO160.out BK161.out (by decide)) (fun _ hk => hk.2) (.slice Ao66 y158.length co66)) (fun _ hk => hk.2) (.int .i64 1)) (fun _ hk => hk.2) (.int .i64 0)) (fun _ hk => hk.2) (.int .i64 0)) (fun _ hk => hk.2) (.int .i64 0)) (fun _ hk => hk.2) (.slice none 0 0)) (fun _ h_ => h_.1))) hb); have n2_ := Aside0.mk (blk_below (g := gb161) (o := .cells #[.slice Ao66 y158.length co66, .int .i64 1, .int .i64 0, .int .i64 0, .int .i64 0, .slice none 0 0] 36 (0, 0)) (by refine grO ?_; refine blk_put (cs := #[.slice Ao66 y158.length co66, .int .i64 1, .int .i64 0, .int .i64 0, .int .i64 0, .slice none 0 0]) ?_ 5 _ rfl; refine grO ?_; refine blk_put (cs := #[.slice Ao66 y158.length co66, .int .i64 1, .int .i64 0, .int .i64 0, .int .i64 0, .slice none 0 0]) ?_ 4 _ rfl; refine grO ?_; refine blk_put (cs := #[.slice Ao66 y158.length co66, .int .i64 1, .int .i64 0, .int .i64 0, .int .i64 0, .slice none 0 0]) ?_ 3 _ rfl; refine grO ?_; refine blk_put (cs := #[.slice Ao66 y158.length co66, .int .i64 1, .int .i64 0, .int .i64 0, .int .i64 0, .slice none 0 0]) ?_ 2 _ rfl; refine grO ?_; refine blk_put (cs := #[.slice Ao66 y158.length co66, .int .i64 0, .int .i64 0, .int .i64 0, .int .i64 0, .slice none 0 0]) ?_ 1 _ rfl; refine grO ?_; refine blk_put (cs := #[.slice none 0 0, .int .i64 0, .int .i64 0, .int .i64 0, .int .i64 0, .slice none 0 0]) ?_ 0 _ rfl; refine grO ?_; exact BK161.out) hb); have n3_ := Aside0.mk (below_step (by repeat (first | (with_reducible first | exact HB.out | apply below_alloc | apply pw_below_drewN | apply below_drew1 | refine below_set ?_ GE161.out) | exact HB.out)) hb); clear HO157; clear HO160; clear BK161; clear HB; have HO157 := n0_; have HO160 := n1_; have BK161 := n2_; have HB := n3_; clear n0_ n1_ n2_ n3_; (try clear hb); (try clear hb2); (try clear hk); (try clear hi)) | ((with_reducible refine gate_callee (f := 16) rfl ?_); refine goesL_ (some 28) rfl rfl Try.func16 (by kernel_rfl) rfl #[.slice Ao69 y155.length co69, .agg #[.slice none 0 0, .int .i64 0, .int .i64 0, .int .i64 0, .int .i64 0, .slice none 0 0]] rfl (by (try simp only [List.map_toArray, List.map_cons, List.map_nil]); first | done | rfl | (simp only [List.length_drop, List.length_take]; rfl)) ?_; (refine (eval_At.calls k _ _ y155 _ _ ([] : List (S51)) 0 0 0 0 _ _ ([] : List ByteArray) t164 t165 _ ?side1 ?side2 ?side3 ?side4 ?side5 ?side6 A2.out).mono ?_); (case side1 => repeat (first | exact (Kd.R_reads' HO157.out).2.2 | (with_reducible refine Kd.C_alloc ?_ _) | (with_reducible refine Kd.C_drewN ?_ _) | (with_reducible refine Kd.C_drew ?_))); (case side2 => exact (Kd.R_reads' HO157.out).2.1); (case side3 => exact Kd.C_nil _ _); (case side4 => exact Nat.le_refl _); (case side5 => exact Kd.C_nil _ _); (case side6 => exact Nat.le_refl _); rintro e w71 ⟨rfl, hb⟩; refine ⟨_, rfl, ?_⟩; have n0_ := Aside0.mk (Kd.R_below (by (with_reducible repeat (first | apply Kd.R_alloc | apply Kd.R_drewN | apply Kd.R_drew)); exact HO157.out) hb); have n1_ := Aside0.mk (Kd.R_below (by (with_reducible repeat (first | apply Kd.R_alloc | apply Kd.R_drewN | apply Kd.R_drew)); exact HO160.out) hb); have n2_ := Aside0.mk (blk_below (grw BK161.out) hb); have n3_ := Aside0.mk (below_step (by repeat (first | (with_reducible first | exact HB.out | apply below_alloc | apply pw_below_drewN | apply below_drew1 | refine below_set ?_ GE161.out) | exact HB.out)) hb); clear HO157; clear HO160; clear BK161; clear HB; have HO157 := n0_; have HO160 := n1_; have BK161 := n2_; have HB := n3_; clear n0_ n1_ n2_ n3_; (try clear hb); (try clear hb2); (try clear hk); (try clear hi)) | ((with_reducible refine gate_dst (N := 34) rfl ?_); refine Kd.R_lit k47 _ 47 ?hg (N := 34) ?hd (xs := ([(⟨12, 0, (⟨#[]⟩ : ByteArray)⟩ : S47), (⟨1, 0, (⟨#[]⟩ : ByteArray)⟩ : S47)] : List (S47))) (inner := [.int .i64 12, .int .i64 0, .string (⟨#[]⟩ : ByteArray), .int .i64 1, .int .i64 0, .string (⟨#[]⟩ : ByteArray)]) (ok := fun _ => True) (okp := fun _ => True) ?hr ?hp (fun _ hk => hk) trivial (Below.refl _ _) (Nat.le_refl _) (by simp) ?_; (case hd => rfl); (case hg => rfl); (case hr => first | (go_simp; done) | (go_simp; rfl)); (case hp => exact (Reps.c3 (show Kd.M k47 _ _ _ (⟨12, 0, (⟨#[]⟩ : ByteArray)⟩ : S47) [.int .i64 12, .int .i64 0, .string (⟨#[]⟩ : ByteArray)] from (k47_mkM _ _ _ (⟨12, 0, (⟨#[]⟩ : ByteArray)⟩ : S47) )) (Reps.c3 (show Kd.M k47 _ _ _ (⟨1, 0, (⟨#[]⟩ : ByteArray)⟩ : S47) [.int .i64 1, .int .i64 0, .string (⟨#[]⟩ : ByteArray)] from (k47_mkM _ _ _ (⟨1, 0, (⟨#[]⟩ : ByteArray)⟩ : S47) )) (Reps.none _ _)))); intro v167 w72 ho73 hb hg_ hnew_; clear hg_ hnew_; (first | rw [← Ny166.out] at ho73 | (simp only [Int.reduceToNat] at ho73; rw [← Ny166.out] at ho73)); have n0_ := Aside0.mk (Kd.R_elder' (by (with_reducible repeat (first | apply Kd.R_alloc | apply Kd.R_drewN | apply Kd.R_drew)); exact HO157.out) (Kd.R_base ho73) hb); have n1_ := Aside0.mk (Kd.R_below (by (with_reducible repeat (first | apply Kd.R_alloc | apply Kd.R_drewN | apply Kd.R_drew)); exact HO160.out) hb); have n2_ := Aside0.mk (Kd.R_lower (Kd.R_new' ho73 (Kd.R_lt (by (with_reducible repeat (first | apply Kd.R_alloc | apply Kd.R_drewN | apply Kd.R_drew)); exact HO157.out))) (below_size (by repeat (first | (with_reducible first | exact HB.out | apply below_alloc | apply pw_below_drewN | apply below_drew1 | refine below_set ?_ GE161.out) | exact HB.out)))); have n3_ := Aside0.mk (blk_below (grw BK161.out) hb); have n4_ := Aside0.mk (below_step (by repeat (first | (with_reducible first | exact HB.out | apply below_alloc | apply pw_below_drewN | apply below_drew1 | refine below_set ?_ GE161.out) | exact HB.out)) hb); clear HO157; clear HO160; clear BK161; clear HB; have HO157 := n0_; have HO160 := n1_; have HO168 := n2_; have BK161 := n3_; have HB := n4_; clear n0_ n1_ n2_ n3_ n4_; clear hb ho73; obtain ⟨hcz74_0, hcz74_1, hcz74_2, hcz74_3, hcz74_4, hcz74_5⟩ := cz6_ BK161.out; obtain ⟨hfz74_0, hfz74_1, hfz74_2, hfz74_3, hfz74_4, hfz74_5⟩ := cf6_ BK161.out; obtain ⟨Ao75, co75, eo75⟩ := Kd.R_slice HO168.out; subst eo75) | ((with_reducible refine gate_callee (f := 16) rfl ?_); refine goesL_ (some 36) rfl rfl Try.func16 (by kernel_rfl) rfl #[.slice Ao75 y166.length co75, .agg #[.slice Ao66 y158.length co66, .int .i64 1, .int .i64 0, .int .i64 0, .int .i64 0, .slice none 0 0]] rfl (by (try simp only [List.map_toArray, List.map_cons, List.map_nil]); first | done | rfl | (simp only [List.length_drop, List.length_take]; rfl)) ?_; (refine (eval_At.calls k _ _ y166 _ _ y158 1 0 0 0 _ _ ([] : List ByteArray) t169 t170 _ ?side1 ?side2 ?side3 ?side4 ?side5 ?side6 A3.out).mono ?_); (case side1 => repeat (first | exact (Kd.R_reads' HO168.out).2.2 | (with_reducible refine Kd.C_alloc ?_ _) | (with_reducible refine Kd.C_drewN ?_ _) | (with_reducible refine Kd.C_drew ?_))); (case side2 => exact (Kd.R_reads' HO168.out).2.1); (case side3 => repeat (first | exact (Kd.R_reads' HO160.out).2.2 | (with_reducible refine Kd.C_alloc ?_ _) | (with_reducible refine Kd.C_drewN ?_ _) | (with_reducible refine Kd.C_drew ?_))); (case side4 => exact (Kd.R_reads' HO160.out).2.1); (case side5 => exact Kd.C_nil _ _); (case side6 => exact Nat.le_refl _); rintro e w76 ⟨rfl, hb⟩; refine ⟨_, rfl, ?_⟩; have n0_ := Aside0.mk (Kd.R_below (by (with_reducible repeat (first | apply Kd.R_alloc | apply Kd.R_drewN | apply Kd.R_drew)); exact HO157.out) hb); have n1_ := Aside0.mk (Kd.R_below (by (with_reducible repeat (first | apply Kd.R_alloc | apply Kd.R_drewN | apply Kd.R_drew)); exact HO160.out) hb); have n2_ := Aside0.mk (Kd.R_below (by (with_reducible repeat (first | apply Kd.R_alloc | apply Kd.R_drewN | apply Kd.R_drew)); exact HO168.out) hb); have n3_ := Aside0.mk (blk_below (grw BK161.out) hb); have n4_ := Aside0.mk (below_step (by repeat (first | (with_reducible first | exact HB.out | apply below_alloc | apply pw_below_drewN | apply below_drew1 | refine below_set ?_ GE161.out) | exact HB.out)) hb); clear HO157; clear HO160; clear HO168; clear BK161; clear HB; have HO157 := n0_; have HO160 := n1_; have HO168 := n2_; have BK161 := n3_; have HB := n4_; clear n0_ n1_ n2_ n3_ n4_; (try clear hb); (try clear hb2); (try clear hk); (try clear hi)))
  go_ret
  exact ⟨by first | rfl | (simp [errW_none, errW_some] <;> rfl) | (simp [*, errW_none, errW_some] <;> rfl), by repeat (first | (with_reducible first | exact HB.out | apply below_alloc | apply pw_below_drewN | apply below_drew1 | refine below_set ?_ GE161.out) | exact HB.out)⟩
 rw [if_pos c6] at H
 have c6b0 : (t165 == 7) = true := beq_iff_eq.mpr c6
 have c6b1 : (t165 != 7) = false := bne_eq_false_iff_eq.mpr c6
 clear c6
 by_cases c7 : t170 = 4
 rotate_left
 ·rw [if_neg c7] at H
  have c7b0 : (t170 == 4) = false := beq_eq_false_iff_ne.mpr c7
  have c7b1 : (t170 != 4) = true := bne_iff_ne.mpr c7
  obtain rfl := Option.some.inj H
  go_enter Try.func15, Try.ntmps15
  go_wp2_with (first | ((with_reducible refine gate_dst (N := 14) rfl ?_); refine Kd.R_lit k47 _ 47 ?hg (N := 14) ?hd (xs := ([(⟨15, 0, (⟨#[]⟩ : ByteArray)⟩ : S47), (⟨4, 0, (⟨#[]⟩ : ByteArray)⟩ : S47), (⟨2, 0, (⟨#[120]⟩ : ByteArray)⟩ : S47), (⟨1, 1, (⟨#[]⟩ : ByteArray)⟩ : S47), (⟨1, 3, (⟨#[]⟩ : ByteArray)⟩ : S47)] : List (S47))) (inner := [.int .i64 15, .int .i64 0, .string (⟨#[]⟩ : ByteArray), .int .i64 4, .int .i64 0, .string (⟨#[]⟩ : ByteArray), .int .i64 2, .int .i64 0, .string (⟨#[120]⟩ : ByteArray), .int .i64 1, .int .i64 1, .string (⟨#[]⟩ : ByteArray), .int .i64 1, .int .i64 3, .string (⟨#[]⟩ : ByteArray)]) (ok := fun _ => True) (okp := fun _ => True) ?hr ?hp (fun _ hk => hk) trivial (Below.refl _ _) (Nat.le_refl _) (by simp) ?_; (case hd => rfl); (case hg => rfl); (case hr => first | (go_simp; done) | (go_simp; rfl)); (case hp => exact (Reps.c3 (show Kd.M k47 _ _ _ (⟨15, 0, (⟨#[]⟩ : ByteArray)⟩ : S47) [.int .i64 15, .int .i64 0, .string (⟨#[]⟩ : ByteArray)] from (k47_mkM _ _ _ (⟨15, 0, (⟨#[]⟩ : ByteArray)⟩ : S47) )) (Reps.c3 (show Kd.M k47 _ _ _ (⟨4, 0, (⟨#[]⟩ : ByteArray)⟩ : S47) [.int .i64 4, .int .i64 0, .string (⟨#[]⟩ : ByteArray)] from (k47_mkM _ _ _ (⟨4, 0, (⟨#[]⟩ : ByteArray)⟩ : S47) )) (Reps.c3 (show Kd.M k47 _ _ _ (⟨2, 0, (⟨#[120]⟩ : ByteArray)⟩ : S47) [.int .i64 2, .int .i64 0, .string (⟨#[120]⟩ : ByteArray)] from (k47_mkM _ _ _ (⟨2, 0, (⟨#[120]⟩ : ByteArray)⟩ : S47) )) (Reps.c3 (show Kd.M k47 _ _ _ (⟨1, 1, (⟨#[]⟩ : ByteArray)⟩ : S47) [.int .i64 1, .int .i64 1, .string (⟨#[]⟩ : ByteArray)] from (k47_mkM _ _ _ (⟨1, 1, (⟨#[]⟩ : ByteArray)⟩ : S47) )) (Reps.c3 (show Kd.M k47 _ _ _ (⟨1, 3, (⟨#[]⟩ : ByteArray)⟩ : S47) [.int .i64 1, .int .i64 3, .string (⟨#[]⟩ : ByteArray)] from (k47_mkM _ _ _ (⟨1, 3, (⟨#[]⟩ : ByteArray)⟩ : S47) )) (Reps.none _ _))))))); intro v156 w47 ho48 hb hg_ hnew_; clear hg_ hnew_; (first | rw [← Ny155.out] at ho48 | (simp only [Int.reduceToNat] at ho48; rw [← Ny155.out] at ho48)); have n0_ := Aside0.mk (Kd.R_lower ho48 (below_size (brw HB.out))); have n1_ := Aside0.mk (below_step (brw HB.out) hb); clear HB; have HO157 := n0_; have HB := n1_; clear n0_ n1_; clear hb ho48) | ((with_reducible refine gate_dst (N := 16) rfl ?_); refine Kd.R_lit k51 _ 51 ?hg (N := 16) ?hd (xs := ([(⟨(⟨#[120]⟩ : ByteArray), 0, 0, 0⟩ : S51)] : List (S51))) (inner := [.string (⟨#[120]⟩ : ByteArray), .int .i64 0, .int .i64 0, .int .i64 0]) (ok := fun _ => True) (okp := fun _ => True) ?hr ?hp (fun _ hk => hk) trivial (Below.refl _ _) (Nat.le_refl _) (by simp) ?_; (case hd => rfl); (case hg => rfl); (case hr => first | (go_simp; done) | (go_simp; rfl)); (case hp => exact (Reps.c4 (show Kd.M k51 _ _ _ (⟨(⟨#[120]⟩ : ByteArray), 0, 0, 0⟩ : S51) [.string (⟨#[120]⟩ : ByteArray), .int .i64 0, .int .i64 0, .int .i64 0] from (k51_mkM _ _ _ (⟨(⟨#[120]⟩ : ByteArray), 0, 0, 0⟩ : S51) )) (Reps.none _ _))); intro v159 w49 ho50 hb hg_ hnew_; clear hg_ hnew_; (first | rw [← Ny158.out] at ho50 | (simp only [Int.reduceToNat] at ho50; rw [← Ny158.out] at ho50)); have n0_ := Aside0.mk (Kd.R_below (by (with_reducible repeat (first | apply Kd.R_alloc | apply Kd.R_drewN | apply Kd.R_drew)); exact HO157.out) hb); have n1_ := Aside0.mk (Kd.R_lower ho50 (below_size (brw HB.out))); have n2_ := Aside0.mk (below_step (brw HB.out) hb); clear HO157; clear HB; have HO157 := n0_; have HO160 := n1_; have HB := n2_; clear n0_ n1_ n2_; clear hb ho50; obtain ⟨Ao51, co51, eo51⟩ := Kd.R_slice HO160.out; subst eo51) | ((with_reducible refine gate_dst (N := 2) rfl ?_); refine box_event ?hg (N := 2) ?hd (cs := #[.slice none 0 0, .int .i64 0, .int .i64 0, .int .i64 0, .int .i64 0, .slice none 0 0]) (t := 36) ?hr ?_; (case hd => rfl); (case hg => rfl); (case hr => first | (go_simp; done) | (go_simp; rfl)); intro gb161 hg w52 hbox hb; have hB_ := bz12_ hb (brw HB.out); have n0_ := Aside0.mk (Kd.R_below (by (with_reducible repeat (first | apply Kd.R_alloc | apply Kd.R_drewN | apply Kd.R_drew)); exact HO157.out) hb); have n1_ := Aside0.mk (Kd.R_below (by (with_reducible repeat (first | apply Kd.R_alloc | apply Kd.R_drewN | apply Kd.R_drew)); exact HO160.out) hb); have n2_ := Aside0.mk (below_step hB_ hb); have n3_ := Aside0.mk (hbox); have n4_ := Aside0.mk ((by rw [hg]; exact (below_size hB_) : w.heap.size ≤ gb161)); have n5_ := Aside0.mk ((by rw [hg]; exact (below_size hB_) : w.heap.size ≤ gb161)); clear HO157; clear HO160; clear HB; have HO157 := n0_; have HO160 := n1_; have HB := n2_; have BK161 := n3_; have GW161 := n4_; have GE161 := n5_; clear n0_ n1_ n2_ n3_ n4_ n5_; clear hb hbox hg; obtain ⟨hcz53_0, hcz53_1, hcz53_2, hcz53_3, hcz53_4, hcz53_5⟩ := cz6_ BK161.out; obtain ⟨hfz53_0, hfz53_1, hfz53_2, hfz53_3, hfz53_4, hfz53_5⟩ := cf6_ BK161.out; obtain ⟨Ao54, co54, eo54⟩ := Kd.R_slice HO157.out; subst eo54) | ((with_reducible refine gate_callee (f := 16) rfl ?_); refine goesL_ (some 22) rfl rfl Try.func16 (by kernel_rfl) rfl #[.slice Ao54 y155.length co54, .agg #[.slice Ao51 y158.length co51, .int .i64 1, .int .i64 0, .int .i64 0, .int .i64 0, .slice none 0 0]] rfl (by (try simp only [List.map_toArray, List.map_cons, List.map_nil]); first | done | rfl | (simp only [List.length_drop, List.length_take]; rfl)) ?_; (refine (eval_At.calls k _ _ y155 _ _ y158 1 0 0 0 _ _ ([] : List ByteArray) t162 t163 _ ?side1 ?side2 ?side3 ?side4 ?side5 ?side6 A1.out).mono ?_); (case side1 => refine (Kd.R_reads' (e := 47) (base := w.heap.size) (ok := fun k_ => True) (n := y155.length) (c := co54) ?_).2.2; exact (by (with_reducible repeat (first | apply Kd.R_alloc | apply Kd.R_drewN | apply Kd.R_drew)); exact (Kd.R_mono (Kd.R_far (p := ⟨gb161, 5, none⟩) (Kd.R_far (p := ⟨gb161, 4, none⟩) (Kd.R_far (p := ⟨gb161, 3, none⟩) (Kd.R_far (p := ⟨gb161, 2, none⟩) (Kd.R_far (p := ⟨gb161, 1, none⟩) (Kd.R_far (p := ⟨gb161, 0, none⟩) (Kd.R_types HO157.out BK161.out (by decide)) (fun _ hk => hk.2) (.slice Ao51 y158.length co51)) (fun _ hk => hk.2) (.int .i64 1)) (fun _ hk => hk.2) (.int .i64 0)) (fun _ hk => hk.2) (.int .i64 0)) (fun _ hk => hk.2) (.int .i64 0)) (fun _ hk => hk.2) (.slice none 0 0)) (fun _ h_ => h_.1)))); (case side2 => exact (Kd.R_reads' HO157.out).2.1); (case side3 => refine (Kd.R_reads' (e := 51) (base := w.heap.size) (ok := fun k_ => True) (n := y158.length) (c := co51) ?_).2.2; exact (by (with_reducible repeat (first | apply Kd.R_alloc | apply Kd.R_drewN | apply Kd.R_drew)); exact (Kd.R_mono (Kd.R_far (p := ⟨gb161, 5, none⟩) (Kd.R_far (p := ⟨gb161, 4, none⟩) (Kd.R_far (p := ⟨gb161, 3, none⟩) (Kd.R_far (p := ⟨gb161, 2, none⟩) (Kd.R_far (p := ⟨gb161, 1, none⟩) (Kd.R_far (p := ⟨gb161, 0, none⟩) (Kd.R_types HO160.out BK161.out (by decide)) (fun _ hk => hk.2) (.slice Ao51 y158.length co51)) (fun _ hk => hk.2) (.int .i64 1)) (fun _ hk => hk.2) (.int .i64 0)) (fun _ hk => hk.2) (.int .i64 0)) (fun _ hk => hk.2) (.int .i64 0)) (fun _ hk => hk.2) (.slice none 0 0)) (fun _ h_ => h_.1)))); (case side4 => exact (Kd.R_reads' HO160.out).2.1); (case side5 => exact Kd.C_nil _ _); (case side6 => exact Nat.le_refl _); rintro e w55 ⟨rfl, hb⟩; refine ⟨_, rfl, ?_⟩; have n0_ := Aside0.mk (Kd.R_below (by (with_reducible repeat (first | apply Kd.R_alloc | apply Kd.R_drewN | apply Kd.R_drew)); exact (Kd.R_mono (Kd.R_far (p := ⟨gb161, 5, none⟩) (Kd.R_far (p := ⟨gb161, 4, none⟩) (Kd.R_far (p := ⟨gb161, 3, none⟩) (Kd.R_far (p := ⟨gb161, 2, none⟩) (Kd.R_far (p := ⟨gb161, 1, none⟩) (Kd.R_far (p := ⟨gb161, 0, none⟩) (Kd.R_types HO157.out BK161.out (by decide)) (fun _ hk => hk.2) (.slice Ao51 y158.length co51)) (fun _ hk => hk.2) (.int .i64 1)) (fun _ hk => hk.2) (.int .i64 0)) (fun _ hk => hk.2) (.int .i64 0)) (fun _ hk => hk.2) (.int .i64 0)) (fun _ hk => hk.2) (.slice none 0 0)) (fun _ h_ => h_.1))) hb); have n1_ := Aside0.mk (Kd.R_below (by (with_reducible repeat (first | apply Kd.R_alloc | apply Kd.R_drewN | apply Kd.R_drew)); exact (Kd.R_mono (Kd.R_far (p := ⟨gb161, 5, none⟩) (Kd.R_far (p := ⟨gb161, 4, none⟩) (Kd.R_far (p := ⟨gb161, 3, none⟩) (Kd.R_far (p := ⟨gb161, 2, none⟩) (Kd.R_far (p := ⟨gb161, 1, none⟩) (Kd.R_far (p := ⟨gb161, 0, none⟩) (Kd.R_types HO160.out BK161.out (by decide)) (fun _ hk => hk.2) (.slice Ao51 y158.length co51)) (fun _ hk => hk.2) (.int .i64 1)) (fun _ hk => hk.2) (.int .i64 0)) (fun _ hk => hk.2) (.int .i64 0)) (fun _ hk => hk.2) (.int .i64 0)) (fun _ hk => hk.2) (.slice none 0 0)) (fun _ h_ => h_.1))) hb); have n2_ := Aside0.mk (blk_below (g := gb161) (o := .cells #[.slice Ao51 y158.length co51, .int .i64 1, .int .i64 0, .int .i64 0, .int .i64 0, .slice none 0 0] 36 (0, 0)) (by refine grO ?_; refine blk_put (cs := #[.slice Ao51 y158.length co51, .int .i64 1, .int .i64 0, .int .i64 0, .int .i64 0, .slice none 0 0]) ?_ 5 _ rfl; refine grO ?_; refine blk_put (cs := #[.slice Ao51 y158.length co51, .int .i64 1, .int .i64 0, .int .i64 0, .int .i64 0, .slice none 0 0]) ?_ 4 _ rfl; refine grO ?_; refine blk_put (cs := #[.slice Ao51 y158.length co51, .int .i64 1, .int .i64 0, .int .i64 0, .int .i64 0, .slice none 0 0]) ?_ 3 _ rfl; refine grO ?_; refine blk_put (cs := #[.slice Ao51 y158.length co51, .int .i64 1, .int .i64 0, .int .i64 0, .int .i64 0, .slice none 0 0]) ?_ 2 _ rfl; refine grO ?_; refine blk_put (cs := #[.slice Ao51 y158.length co51, .int .i64 0, .int .i64 0, .int .i64 0, .int .i64 0, .slice none 0 0]) ?_ 1 _ rfl; refine grO ?_; refine blk_put (cs := #[.slice none 0 0, .int .i64 0, .int .i64 0, .int .i64 0, .int .i64 0, .slice none 0 0]) ?_ 0 _ rfl; refine grO ?_; exact BK161.out) hb); have n3_ := Aside0.mk (below_step (by repeat (first | (with_reducible first | exact HB.out | apply below_alloc | apply pw_below_drewN | apply below_drew1 | refine below_set ?_ GE161.out) | exact HB.out)) hb); clear HO157; clear HO160; clear BK161; clear HB; have HO157 := n0_; have HO160 := n1_; have BK161 := n2_; have HB := n3_; clear n0_ n1_ n2_ n3_; (try clear hb); (try clear hb2); (try clear hk); (try clear hi)) | ((with_reducible refine gate_callee (f := 16) rfl ?_); refine goesL_ (some 28) rfl rfl Try.func16 (by kernel_rfl) rfl #[.slice Ao54 y155.length co54, .agg #[.slice none 0 0, .int .i64 0, .int .i64 0, .int .i64 0, .int .i64 0, .slice none 0 0]] rfl (by (try simp only [List.map_toArray, List.map_cons, List.map_nil]); first | done | rfl | (simp only [List.length_drop, List.length_take]; rfl)) ?_; (refine (eval_At.calls k _ _ y155 _ _ ([] : List (S51)) 0 0 0 0 _ _ ([] : List ByteArray) t164 t165 _ ?side1 ?side2 ?side3 ?side4 ?side5 ?side6 A2.out).mono ?_); (case side1 => repeat (first | exact (Kd.R_reads' HO157.out).2.2 | (with_reducible refine Kd.C_alloc ?_ _) | (with_reducible refine Kd.C_drewN ?_ _) | (with_reducible refine Kd.C_drew ?_))); (case side2 => exact (Kd.R_reads' HO157.out).2.1); (case side3 => exact Kd.C_nil _ _); (case side4 => exact Nat.le_refl _); (case side5 => exact Kd.C_nil _ _); (case side6 => exact Nat.le_refl _); rintro e w56 ⟨rfl, hb⟩; refine ⟨_, rfl, ?_⟩; have n0_ := Aside0.mk (Kd.R_below (by (with_reducible repeat (first | apply Kd.R_alloc | apply Kd.R_drewN | apply Kd.R_drew)); exact HO157.out) hb); have n1_ := Aside0.mk (Kd.R_below (by (with_reducible repeat (first | apply Kd.R_alloc | apply Kd.R_drewN | apply Kd.R_drew)); exact HO160.out) hb); have n2_ := Aside0.mk (blk_below (grw BK161.out) hb); have n3_ := Aside0.mk (below_step (by repeat (first | (with_reducible first | exact HB.out | apply below_alloc | apply pw_below_drewN | apply below_drew1 | refine below_set ?_ GE161.out) | exact HB.out)) hb); clear HO157; clear HO160; clear BK161; clear HB; have HO157 := n0_; have HO160 := n1_; have BK161 := n2_; have HB := n3_; clear n0_ n1_ n2_ n3_; (try clear hb); (try clear hb2); (try clear hk); (try clear hi)) | ((with_reducible refine gate_dst (N := 34) rfl ?_); refine Kd.R_lit k47 _ 47 ?hg (N := 34) ?hd (xs := ([(⟨12, 0, (⟨#[]⟩ : ByteArray)⟩ : S47), (⟨1, 0, (⟨#[]⟩ : ByteArray)⟩ : S47)] : List (S47))) (inner := [.int .i64 12, .int .i64 0, .string (⟨#[]⟩ : ByteArray), .int .i64 1, .int .i64 0, .string (⟨#[]⟩ : ByteArray)]) (ok := fun _ => True) (okp := fun _ => True) ?hr ?hp (fun _ hk => hk) trivial (Below.refl _ _) (Nat.le_refl _) (by simp) ?_; (case hd => rfl); (case hg => rfl); (case hr => first | (go_simp; done) | (go_simp; rfl)); (case hp => exact (Reps.c3 (show Kd.M k47 _ _ _ (⟨12, 0, (⟨#[]⟩ : ByteArray)⟩ : S47) [.int .i64 12, .int .i64 0, .string (⟨#[]⟩ : ByteArray)] from (k47_mkM _ _ _ (⟨12, 0, (⟨#[]⟩ : ByteArray)⟩ : S47) )) (Reps.c3 (show Kd.M k47 _ _ _ (⟨1, 0, (⟨#[]⟩ : ByteArray)⟩ : S47) [.int .i64 1, .int .i64 0, .string (⟨#[]⟩ : ByteArray)] from (k47_mkM _ _ _ (⟨1, 0, (⟨#[]⟩ : ByteArray)⟩ : S47) )) (Reps.none _ _)))); intro v167 w57 ho58 hb hg_ hnew_; clear hg_ hnew_; (first | rw [← Ny166.out] at ho58 | (simp only [Int.reduceToNat] at ho58; rw [← Ny166.out] at ho58)); have n0_ := Aside0.mk (Kd.R_elder' (by (with_reducible repeat (first | apply Kd.R_alloc | apply Kd.R_drewN | apply Kd.R_drew)); exact HO157.out) (Kd.R_base ho58) hb); have n1_ := Aside0.mk (Kd.R_below (by (with_reducible repeat (first | apply Kd.R_alloc | apply Kd.R_drewN | apply Kd.R_drew)); exact HO160.out) hb); have n2_ := Aside0.mk (Kd.R_lower (Kd.R_new' ho58 (Kd.R_lt (by (with_reducible repeat (first | apply Kd.R_alloc | apply Kd.R_drewN | apply Kd.R_drew)); exact HO157.out))) (below_size (by repeat (first | (with_reducible first | exact HB.out | apply below_alloc | apply pw_below_drewN | apply below_drew1 | refine below_set ?_ GE161.out) | exact HB.out)))); have n3_ := Aside0.mk (blk_below (grw BK161.out) hb); have n4_ := Aside0.mk (below_step (by repeat (first | (with_reducible first | exact HB.out | apply below_alloc | apply pw_below_drewN | apply below_drew1 | refine below_set ?_ GE161.out) | exact HB.out)) hb); clear HO157; clear HO160; clear BK161; clear HB; have HO157 := n0_; have HO160 := n1_; have HO168 := n2_; have BK161 := n3_; have HB := n4_; clear n0_ n1_ n2_ n3_ n4_; clear hb ho58; obtain ⟨hcz59_0, hcz59_1, hcz59_2, hcz59_3, hcz59_4, hcz59_5⟩ := cz6_ BK161.out; obtain ⟨hfz59_0, hfz59_1, hfz59_2, hfz59_3, hfz59_4, hfz59_5⟩ := cf6_ BK161.out; obtain ⟨Ao60, co60, eo60⟩ := Kd.R_slice HO168.out; subst eo60) | ((with_reducible refine gate_callee (f := 16) rfl ?_); refine goesL_ (some 36) rfl rfl Try.func16 (by kernel_rfl) rfl #[.slice Ao60 y166.length co60, .agg #[.slice Ao51 y158.length co51, .int .i64 1, .int .i64 0, .int .i64 0, .int .i64 0, .slice none 0 0]] rfl (by (try simp only [List.map_toArray, List.map_cons, List.map_nil]); first | done | rfl | (simp only [List.length_drop, List.length_take]; rfl)) ?_; (refine (eval_At.calls k _ _ y166 _ _ y158 1 0 0 0 _ _ ([] : List ByteArray) t169 t170 _ ?side1 ?side2 ?side3 ?side4 ?side5 ?side6 A3.out).mono ?_); (case side1 => repeat (first | exact (Kd.R_reads' HO168.out).2.2 | (with_reducible refine Kd.C_alloc ?_ _) | (with_reducible refine Kd.C_drewN ?_ _) | (with_reducible refine Kd.C_drew ?_))); (case side2 => exact (Kd.R_reads' HO168.out).2.1); (case side3 => repeat (first | exact (Kd.R_reads' HO160.out).2.2 | (with_reducible refine Kd.C_alloc ?_ _) | (with_reducible refine Kd.C_drewN ?_ _) | (with_reducible refine Kd.C_drew ?_))); (case side4 => exact (Kd.R_reads' HO160.out).2.1); (case side5 => exact Kd.C_nil _ _); (case side6 => exact Nat.le_refl _); rintro e w61 ⟨rfl, hb⟩; refine ⟨_, rfl, ?_⟩; have n0_ := Aside0.mk (Kd.R_below (by (with_reducible repeat (first | apply Kd.R_alloc | apply Kd.R_drewN | apply Kd.R_drew)); exact HO157.out) hb); have n1_ := Aside0.mk (Kd.R_below (by (with_reducible repeat (first | apply Kd.R_alloc | apply Kd.R_drewN | apply Kd.R_drew)); exact HO160.out) hb); have n2_ := Aside0.mk (Kd.R_below (by (with_reducible repeat (first | apply Kd.R_alloc | apply Kd.R_drewN | apply Kd.R_drew)); exact HO168.out) hb); have n3_ := Aside0.mk (blk_below (grw BK161.out) hb); have n4_ := Aside0.mk (below_step (by repeat (first | (with_reducible first | exact HB.out | apply below_alloc | apply pw_below_drewN | apply below_drew1 | refine below_set ?_ GE161.out) | exact HB.out)) hb); clear HO157; clear HO160; clear HO168; clear BK161; clear HB; have HO157 := n0_; have HO160 := n1_; have HO168 := n2_; have BK161 := n3_; have HB := n4_; clear n0_ n1_ n2_ n3_ n4_; (try clear hb); (try clear hb2); (try clear hk); (try clear hi)))
  go_ret
  exact ⟨by first | rfl | (simp [errW_none, errW_some] <;> rfl) | (simp [*, errW_none, errW_some] <;> rfl), by repeat (first | (with_reducible first | exact HB.out | apply below_alloc | apply pw_below_drewN | apply below_drew1 | refine below_set ?_ GE161.out) | exact HB.out)⟩
 rw [if_pos c7] at H
 have c7b0 : (t170 == 4) = true := beq_iff_eq.mpr c7
 have c7b1 : (t170 != 4) = false := bne_eq_false_iff_eq.mpr c7
 clear c7
 replace H := Option.bind_eq_some_iff.mp H
 obtain ⟨t171, A80, H⟩ := H
 replace H : (if t171 = true then ((eval_Holds.f k ([] : List (S47)) y158 1 0 0 0 ([] : List ByteArray)).bind fun t172 => (some t172)) else (some false)) = some r := H
 have A8 := Aside0.mk A80
 clear A80
 by_cases c9 : t171 = true
 rotate_left
 ·replace c9 := Bool.eq_false_iff.mpr c9
  subst c9
  have H1 : (some false) = some r := by rw [if_neg (show ¬ (false = true) by decide)] at H; exact H
  clear H
  have H := H1
  clear H1
  obtain rfl := Option.some.inj H
  go_enter Try.func15, Try.ntmps15
  go_wp2_with (first | ((with_reducible refine gate_dst (N := 14) rfl ?_); refine Kd.R_lit k47 _ 47 ?hg (N := 14) ?hd (xs := ([(⟨15, 0, (⟨#[]⟩ : ByteArray)⟩ : S47), (⟨4, 0, (⟨#[]⟩ : ByteArray)⟩ : S47), (⟨2, 0, (⟨#[120]⟩ : ByteArray)⟩ : S47), (⟨1, 1, (⟨#[]⟩ : ByteArray)⟩ : S47), (⟨1, 3, (⟨#[]⟩ : ByteArray)⟩ : S47)] : List (S47))) (inner := [.int .i64 15, .int .i64 0, .string (⟨#[]⟩ : ByteArray), .int .i64 4, .int .i64 0, .string (⟨#[]⟩ : ByteArray), .int .i64 2, .int .i64 0, .string (⟨#[120]⟩ : ByteArray), .int .i64 1, .int .i64 1, .string (⟨#[]⟩ : ByteArray), .int .i64 1, .int .i64 3, .string (⟨#[]⟩ : ByteArray)]) (ok := fun _ => True) (okp := fun _ => True) ?hr ?hp (fun _ hk => hk) trivial (Below.refl _ _) (Nat.le_refl _) (by simp) ?_; (case hd => rfl); (case hg => rfl); (case hr => first | (go_simp; done) | (go_simp; rfl)); (case hp => exact (Reps.c3 (show Kd.M k47 _ _ _ (⟨15, 0, (⟨#[]⟩ : ByteArray)⟩ : S47) [.int .i64 15, .int .i64 0, .string (⟨#[]⟩ : ByteArray)] from (k47_mkM _ _ _ (⟨15, 0, (⟨#[]⟩ : ByteArray)⟩ : S47) )) (Reps.c3 (show Kd.M k47 _ _ _ (⟨4, 0, (⟨#[]⟩ : ByteArray)⟩ : S47) [.int .i64 4, .int .i64 0, .string (⟨#[]⟩ : ByteArray)] from (k47_mkM _ _ _ (⟨4, 0, (⟨#[]⟩ : ByteArray)⟩ : S47) )) (Reps.c3 (show Kd.M k47 _ _ _ (⟨2, 0, (⟨#[120]⟩ : ByteArray)⟩ : S47) [.int .i64 2, .int .i64 0, .string (⟨#[120]⟩ : ByteArray)] from (k47_mkM _ _ _ (⟨2, 0, (⟨#[120]⟩ : ByteArray)⟩ : S47) )) (Reps.c3 (show Kd.M k47 _ _ _ (⟨1, 1, (⟨#[]⟩ : ByteArray)⟩ : S47) [.int .i64 1, .int .i64 1, .string (⟨#[]⟩ : ByteArray)] from (k47_mkM _ _ _ (⟨1, 1, (⟨#[]⟩ : ByteArray)⟩ : S47) )) (Reps.c3 (show Kd.M k47 _ _ _ (⟨1, 3, (⟨#[]⟩ : ByteArray)⟩ : S47) [.int .i64 1, .int .i64 3, .string (⟨#[]⟩ : ByteArray)] from (k47_mkM _ _ _ (⟨1, 3, (⟨#[]⟩ : ByteArray)⟩ : S47) )) (Reps.none _ _))))))); intro v156 w30 ho31 hb hg_ hnew_; clear hg_ hnew_; (first | rw [← Ny155.out] at ho31 | (simp only [Int.reduceToNat] at ho31; rw [← Ny155.out] at ho31)); have n0_ := Aside0.mk (Kd.R_lower ho31 (below_size (brw HB.out))); have n1_ := Aside0.mk (below_step (brw HB.out) hb); clear HB; have HO157 := n0_; have HB := n1_; clear n0_ n1_; clear hb ho31) | ((with_reducible refine gate_dst (N := 16) rfl ?_); refine Kd.R_lit k51 _ 51 ?hg (N := 16) ?hd (xs := ([(⟨(⟨#[120]⟩ : ByteArray), 0, 0, 0⟩ : S51)] : List (S51))) (inner := [.string (⟨#[120]⟩ : ByteArray), .int .i64 0, .int .i64 0, .int .i64 0]) (ok := fun _ => True) (okp := fun _ => True) ?hr ?hp (fun _ hk => hk) trivial (Below.refl _ _) (Nat.le_refl _) (by simp) ?_; (case hd => rfl); (case hg => rfl); (case hr => first | (go_simp; done) | (go_simp; rfl)); (case hp => exact (Reps.c4 (show Kd.M k51 _ _ _ (⟨(⟨#[120]⟩ : ByteArray), 0, 0, 0⟩ : S51) [.string (⟨#[120]⟩ : ByteArray), .int .i64 0, .int .i64 0, .int .i64 0] from (k51_mkM _ _ _ (⟨(⟨#[120]⟩ : ByteArray), 0, 0, 0⟩ : S51) )) (Reps.none _ _))); intro v159 w32 ho33 hb hg_ hnew_; clear hg_ hnew_; (first | rw [← Ny158.out] at ho33 | (simp only [Int.reduceToNat] at ho33; rw [← Ny158.out] at ho33)); have n0_ := Aside0.mk (Kd.R_below (by (with_reducible repeat (first | apply Kd.R_alloc | apply Kd.R_drewN | apply Kd.R_drew)); exact HO157.out) hb); have n1_ := Aside0.mk (Kd.R_lower ho33 (below_size (brw HB.out))); have n2_ := Aside0.mk (below_step (brw HB.out) hb); clear HO157; clear HB; have HO157 := n0_; have HO160 := n1_; have HB := n2_; clear n0_ n1_ n2_; clear hb ho33; obtain ⟨Ao34, co34, eo34⟩ := Kd.R_slice HO160.out; subst eo34) | ((with_reducible refine gate_dst (N := 2) rfl ?_); refine box_event ?hg (N := 2) ?hd (cs := #[.slice none 0 0, .int .i64 0, .int .i64 0, .int .i64 0, .int .i64 0, .slice none 0 0]) (t := 36) ?hr ?_; (case hd => rfl); (case hg => rfl); (case hr => first | (go_simp; done) | (go_simp; rfl)); intro gb161 hg w35 hbox hb; have hB_ := bz12_ hb (brw HB.out); have n0_ := Aside0.mk (Kd.R_below (by (with_reducible repeat (first | apply Kd.R_alloc | apply Kd.R_drewN | apply Kd.R_drew)); exact HO157.out) hb); have n1_ := Aside0.mk (Kd.R_below (by (with_reducible repeat (first | apply Kd.R_alloc | apply Kd.R_drewN | apply Kd.R_drew)); exact HO160.out) hb); have n2_ := Aside0.mk (below_step hB_ hb); have n3_ := Aside0.mk (hbox); have n4_ := Aside0.mk ((by rw [hg]; exact (below_size hB_) : w.heap.size ≤ gb161)); have n5_ := Aside0.mk ((by rw [hg]; exact (below_size hB_) : w.heap.size ≤ gb161)); clear HO157; clear HO160; clear HB; have HO157 := n0_; have HO160 := n1_; have HB := n2_; have BK161 := n3_; have GW161 := n4_; have GE161 := n5_; clear n0_ n1_ n2_ n3_ n4_ n5_; clear hb hbox hg; obtain ⟨hcz36_0, hcz36_1, hcz36_2, hcz36_3, hcz36_4, hcz36_5⟩ := cz6_ BK161.out; obtain ⟨hfz36_0, hfz36_1, hfz36_2, hfz36_3, hfz36_4, hfz36_5⟩ := cf6_ BK161.out; obtain ⟨Ao37, co37, eo37⟩ := Kd.R_slice HO157.out; subst eo37) | ((with_reducible refine gate_callee (f := 16) rfl ?_); refine goesL_ (some 22) rfl rfl Try.func16 (by kernel_rfl) rfl #[.slice Ao37 y155.length co37, .agg #[.slice Ao34 y158.length co34, .int .i64 1, .int .i64 0, .int .i64 0, .int .i64 0, .slice none 0 0]] rfl (by (try simp only [List.map_toArray, List.map_cons, List.map_nil]); first | done | rfl | (simp only [List.length_drop, List.length_take]; rfl)) ?_; (refine (eval_At.calls k _ _ y155 _ _ y158 1 0 0 0 _ _ ([] : List ByteArray) t162 t163 _ ?side1 ?side2 ?side3 ?side4 ?side5 ?side6 A1.out).mono ?_); (case side1 => refine (Kd.R_reads' (e := 47) (base := w.heap.size) (ok := fun k_ => True) (n := y155.length) (c := co37) ?_).2.2; exact (by (with_reducible repeat (first | apply Kd.R_alloc | apply Kd.R_drewN | apply Kd.R_drew)); exact (Kd.R_mono (Kd.R_far (p := ⟨gb161, 5, none⟩) (Kd.R_far (p := ⟨gb161, 4, none⟩) (Kd.R_far (p := ⟨gb161, 3, none⟩) (Kd.R_far (p := ⟨gb161, 2, none⟩) (Kd.R_far (p := ⟨gb161, 1, none⟩) (Kd.R_far (p := ⟨gb161, 0, none⟩) (Kd.R_types HO157.out BK161.out (by decide)) (fun _ hk => hk.2) (.slice Ao34 y158.length co34)) (fun _ hk => hk.2) (.int .i64 1)) (fun _ hk => hk.2) (.int .i64 0)) (fun _ hk => hk.2) (.int .i64 0)) (fun _ hk => hk.2) (.int .i64 0)) (fun _ hk => hk.2) (.slice none 0 0)) (fun _ h_ => h_.1)))); (case side2 => exact (Kd.R_reads' HO157.out).2.1); (case side3 => refine (Kd.R_reads' (e := 51) (base := w.heap.size) (ok := fun k_ => True) (n := y158.length) (c := co34) ?_).2.2; exact (by (with_reducible repeat (first | apply Kd.R_alloc | apply Kd.R_drewN | apply Kd.R_drew)); exact (Kd.R_mono (Kd.R_far (p := ⟨gb161, 5, none⟩) (Kd.R_far (p := ⟨gb161, 4, none⟩) (Kd.R_far (p := ⟨gb161, 3, none⟩) (Kd.R_far (p := ⟨gb161, 2, none⟩) (Kd.R_far (p := ⟨gb161, 1, none⟩) (Kd.R_far (p := ⟨gb161, 0, none⟩) (Kd.R_types HO160.out BK161.out (by decide)) (fun _ hk => hk.2) (.slice Ao34 y158.length co34)) (fun _ hk => hk.2) (.int .i64 1)) (fun _ hk => hk.2) (.int .i64 0)) (fun _ hk => hk.2) (.int .i64 0)) (fun _ hk => hk.2) (.int .i64 0)) (fun _ hk => hk.2) (.slice none 0 0)) (fun _ h_ => h_.1)))); (case side4 => exact (Kd.R_reads' HO160.out).2.1); (case side5 => exact Kd.C_nil _ _); (case side6 => exact Nat.le_refl _); rintro e w38 ⟨rfl, hb⟩; refine ⟨_, rfl, ?_⟩; have n0_ := Aside0.mk (Kd.R_below (by (with_reducible repeat (first | apply Kd.R_alloc | apply Kd.R_drewN | apply Kd.R_drew)); exact (Kd.R_mono (Kd.R_far (p := ⟨gb161, 5, none⟩) (Kd.R_far (p := ⟨gb161, 4, none⟩) (Kd.R_far (p := ⟨gb161, 3, none⟩) (Kd.R_far (p := ⟨gb161, 2, none⟩) (Kd.R_far (p := ⟨gb161, 1, none⟩) (Kd.R_far (p := ⟨gb161, 0, none⟩) (Kd.R_types HO157.out BK161.out (by decide)) (fun _ hk => hk.2) (.slice Ao34 y158.length co34)) (fun _ hk => hk.2) (.int .i64 1)) (fun _ hk => hk.2) (.int .i64 0)) (fun _ hk => hk.2) (.int .i64 0)) (fun _ hk => hk.2) (.int .i64 0)) (fun _ hk => hk.2) (.slice none 0 0)) (fun _ h_ => h_.1))) hb); have n1_ := Aside0.mk (Kd.R_below (by (with_reducible repeat (first | apply Kd.R_alloc | apply Kd.R_drewN | apply Kd.R_drew)); exact (Kd.R_mono (Kd.R_far (p := ⟨gb161, 5, none⟩) (Kd.R_far (p := ⟨gb161, 4, none⟩) (Kd.R_far (p := ⟨gb161, 3, none⟩) (Kd.R_far (p := ⟨gb161, 2, none⟩) (Kd.R_far (p := ⟨gb161, 1, none⟩) (Kd.R_far (p := ⟨gb161, 0, none⟩) (Kd.R_types HO160.out BK161.out (by decide)) (fun _ hk => hk.2) (.slice Ao34 y158.length co34)) (fun _ hk => hk.2) (.int .i64 1)) (fun _ hk => hk.2) (.int .i64 0)) (fun _ hk => hk.2) (.int .i64 0)) (fun _ hk => hk.2) (.int .i64 0)) (fun _ hk => hk.2) (.slice none 0 0)) (fun _ h_ => h_.1))) hb); have n2_ := Aside0.mk (blk_below (g := gb161) (o := .cells #[.slice Ao34 y158.length co34, .int .i64 1, .int .i64 0, .int .i64 0, .int .i64 0, .slice none 0 0] 36 (0, 0)) (by refine grO ?_; refine blk_put (cs := #[.slice Ao34 y158.length co34, .int .i64 1, .int .i64 0, .int .i64 0, .int .i64 0, .slice none 0 0]) ?_ 5 _ rfl; refine grO ?_; refine blk_put (cs := #[.slice Ao34 y158.length co34, .int .i64 1, .int .i64 0, .int .i64 0, .int .i64 0, .slice none 0 0]) ?_ 4 _ rfl; refine grO ?_; refine blk_put (cs := #[.slice Ao34 y158.length co34, .int .i64 1, .int .i64 0, .int .i64 0, .int .i64 0, .slice none 0 0]) ?_ 3 _ rfl; refine grO ?_; refine blk_put (cs := #[.slice Ao34 y158.length co34, .int .i64 1, .int .i64 0, .int .i64 0, .int .i64 0, .slice none 0 0]) ?_ 2 _ rfl; refine grO ?_; refine blk_put (cs := #[.slice Ao34 y158.length co34, .int .i64 0, .int .i64 0, .int .i64 0, .int .i64 0, .slice none 0 0]) ?_ 1 _ rfl; refine grO ?_; refine blk_put (cs := #[.slice none 0 0, .int .i64 0, .int .i64 0, .int .i64 0, .int .i64 0, .slice none 0 0]) ?_ 0 _ rfl; refine grO ?_; exact BK161.out) hb); have n3_ := Aside0.mk (below_step (by repeat (first | (with_reducible first | exact HB.out | apply below_alloc | apply pw_below_drewN | apply below_drew1 | refine below_set ?_ GE161.out) | exact HB.out)) hb); clear HO157; clear HO160; clear BK161; clear HB; have HO157 := n0_; have HO160 := n1_; have BK161 := n2_; have HB := n3_; clear n0_ n1_ n2_ n3_; (try clear hb); (try clear hb2); (try clear hk); (try clear hi)) | ((with_reducible refine gate_callee (f := 16) rfl ?_); refine goesL_ (some 28) rfl rfl Try.func16 (by kernel_rfl) rfl #[.slice Ao37 y155.length co37, .agg #[.slice none 0 0, .int .i64 0, .int .i64 0, .int .i64 0, .int .i64 0, .slice none 0 0]] rfl (by (try simp only [List.map_toArray, List.map_cons, List.map_nil]); first | done | rfl | (simp only [List.length_drop, List.length_take]; rfl)) ?_; (refine (eval_At.calls k _ _ y155 _ _ ([] : List (S51)) 0 0 0 0 _ _ ([] : List ByteArray) t164 t165 _ ?side1 ?side2 ?side3 ?side4 ?side5 ?side6 A2.out).mono ?_); (case side1 => repeat (first | exact (Kd.R_reads' HO157.out).2.2 | (with_reducible refine Kd.C_alloc ?_ _) | (with_reducible refine Kd.C_drewN ?_ _) | (with_reducible refine Kd.C_drew ?_))); (case side2 => exact (Kd.R_reads' HO157.out).2.1); (case side3 => exact Kd.C_nil _ _); (case side4 => exact Nat.le_refl _); (case side5 => exact Kd.C_nil _ _); (case side6 => exact Nat.le_refl _); rintro e w39 ⟨rfl, hb⟩; refine ⟨_, rfl, ?_⟩; have n0_ := Aside0.mk (Kd.R_below (by (with_reducible repeat (first | apply Kd.R_alloc | apply Kd.R_drewN | apply Kd.R_drew)); exact HO157.out) hb); have n1_ := Aside0.mk (Kd.R_below (by (with_reducible repeat (first | apply Kd.R_alloc | apply Kd.R_drewN | apply Kd.R_drew)); exact HO160.out) hb); have n2_ := Aside0.mk (blk_below (grw BK161.out) hb); have n3_ := Aside0.mk (below_step (by repeat (first | (with_reducible first | exact HB.out | apply below_alloc | apply pw_below_drewN | apply below_drew1 | refine below_set ?_ GE161.out) | exact HB.out)) hb); clear HO157; clear HO160; clear BK161; clear HB; have HO157 := n0_; have HO160 := n1_; have BK161 := n2_; have HB := n3_; clear n0_ n1_ n2_ n3_; (try clear hb); (try clear hb2); (try clear hk); (try clear hi)) | ((with_reducible refine gate_dst (N := 34) rfl ?_); refine Kd.R_lit k47 _ 47 ?hg (N := 34) ?hd (xs := ([(⟨12, 0, (⟨#[]⟩ : ByteArray)⟩ : S47), (⟨1, 0, (⟨#[]⟩ : ByteArray)⟩ : S47)] : List (S47))) (inner := [.int .i64 12, .int .i64 0, .string (⟨#[]⟩ : ByteArray), .int .i64 1, .int .i64 0, .string (⟨#[]⟩ : ByteArray)]) (ok := fun _ => True) (okp := fun _ => True) ?hr ?hp (fun _ hk => hk) trivial (Below.refl _ _) (Nat.le_refl _) (by simp) ?_; (case hd => rfl); (case hg => rfl); (case hr => first | (go_simp; done) | (go_simp; rfl)); (case hp => exact (Reps.c3 (show Kd.M k47 _ _ _ (⟨12, 0, (⟨#[]⟩ : ByteArray)⟩ : S47) [.int .i64 12, .int .i64 0, .string (⟨#[]⟩ : ByteArray)] from (k47_mkM _ _ _ (⟨12, 0, (⟨#[]⟩ : ByteArray)⟩ : S47) )) (Reps.c3 (show Kd.M k47 _ _ _ (⟨1, 0, (⟨#[]⟩ : ByteArray)⟩ : S47) [.int .i64 1, .int .i64 0, .string (⟨#[]⟩ : ByteArray)] from (k47_mkM _ _ _ (⟨1, 0, (⟨#[]⟩ : ByteArray)⟩ : S47) )) (Reps.none _ _)))); intro v167 w40 ho41 hb hg_ hnew_; clear hg_ hnew_; (first | rw [← Ny166.out] at ho41 | (simp only [Int.reduceToNat] at ho41; rw [← Ny166.out] at ho41)); have n0_ := Aside0.mk (Kd.R_elder' (by (with_reducible repeat (first | apply Kd.R_alloc | apply Kd.R_drewN | apply Kd.R_drew)); exact HO157.out) (Kd.R_base ho41) hb); have n1_ := Aside0.mk (Kd.R_below (by (with_reducible repeat (first | apply Kd.R_alloc | apply Kd.R_drewN | apply Kd.R_drew)); exact HO160.out) hb); have n2_ := Aside0.mk (Kd.R_lower (Kd.R_new' ho41 (Kd.R_lt (by (with_reducible repeat (first | apply Kd.R_alloc | apply Kd.R_drewN | apply Kd.R_drew)); exact HO157.out))) (below_size (by repeat (first | (with_reducible first | exact HB.out | apply below_alloc | apply pw_below_drewN | apply below_drew1 | refine below_set ?_ GE161.out) | exact HB.out)))); have n3_ := Aside0.mk (blk_below (grw BK161.out) hb); have n4_ := Aside0.mk (below_step (by repeat (first | (with_reducible first | exact HB.out | apply below_alloc | apply pw_below_drewN | apply below_drew1 | refine below_set ?_ GE161.out) | exact HB.out)) hb); clear HO157; clear HO160; clear BK161; clear HB; have HO157 := n0_; have HO160 := n1_; have HO168 := n2_; have BK161 := n3_; have HB := n4_; clear n0_ n1_ n2_ n3_ n4_; clear hb ho41; obtain ⟨hcz42_0, hcz42_1, hcz42_2, hcz42_3, hcz42_4, hcz42_5⟩ := cz6_ BK161.out; obtain ⟨hfz42_0, hfz42_1, hfz42_2, hfz42_3, hfz42_4, hfz42_5⟩ := cf6_ BK161.out; obtain ⟨Ao43, co43, eo43⟩ := Kd.R_slice HO168.out; subst eo43) | ((with_reducible refine gate_callee (f := 16) rfl ?_); refine goesL_ (some 36) rfl rfl Try.func16 (by kernel_rfl) rfl #[.slice Ao43 y166.length co43, .agg #[.slice Ao34 y158.length co34, .int .i64 1, .int .i64 0, .int .i64 0, .int .i64 0, .slice none 0 0]] rfl (by (try simp only [List.map_toArray, List.map_cons, List.map_nil]); first | done | rfl | (simp only [List.length_drop, List.length_take]; rfl)) ?_; (refine (eval_At.calls k _ _ y166 _ _ y158 1 0 0 0 _ _ ([] : List ByteArray) t169 t170 _ ?side1 ?side2 ?side3 ?side4 ?side5 ?side6 A3.out).mono ?_); (case side1 => repeat (first | exact (Kd.R_reads' HO168.out).2.2 | (with_reducible refine Kd.C_alloc ?_ _) | (with_reducible refine Kd.C_drewN ?_ _) | (with_reducible refine Kd.C_drew ?_))); (case side2 => exact (Kd.R_reads' HO168.out).2.1); (case side3 => repeat (first | exact (Kd.R_reads' HO160.out).2.2 | (with_reducible refine Kd.C_alloc ?_ _) | (with_reducible refine Kd.C_drewN ?_ _) | (with_reducible refine Kd.C_drew ?_))); (case side4 => exact (Kd.R_reads' HO160.out).2.1); (case side5 => exact Kd.C_nil _ _); (case side6 => exact Nat.le_refl _); rintro e w44 ⟨rfl, hb⟩; refine ⟨_, rfl, ?_⟩; have n0_ := Aside0.mk (Kd.R_below (by (with_reducible repeat (first | apply Kd.R_alloc | apply Kd.R_drewN | apply Kd.R_drew)); exact HO157.out) hb); have n1_ := Aside0.mk (Kd.R_below (by (with_reducible repeat (first | apply Kd.R_alloc | apply Kd.R_drewN | apply Kd.R_drew)); exact HO160.out) hb); have n2_ := Aside0.mk (Kd.R_below (by (with_reducible repeat (first | apply Kd.R_alloc | apply Kd.R_drewN | apply Kd.R_drew)); exact HO168.out) hb); have n3_ := Aside0.mk (blk_below (grw BK161.out) hb); have n4_ := Aside0.mk (below_step (by repeat (first | (with_reducible first | exact HB.out | apply below_alloc | apply pw_below_drewN | apply below_drew1 | refine below_set ?_ GE161.out) | exact HB.out)) hb); clear HO157; clear HO160; clear HO168; clear BK161; clear HB; have HO157 := n0_; have HO160 := n1_; have HO168 := n2_; have BK161 := n3_; have HB := n4_; clear n0_ n1_ n2_ n3_ n4_; (try clear hb); (try clear hb2); (try clear hk); (try clear hi); obtain ⟨hcz45_0, hcz45_1, hcz45_2, hcz45_3, hcz45_4, hcz45_5⟩ := cz6_ BK161.out; obtain ⟨hfz45_0, hfz45_1, hfz45_2, hfz45_3, hfz45_4, hfz45_5⟩ := cf6_ BK161.out) | (go_at_call 19; (refine (eval_Holds.calls k _ _ y155 _ _ y158 1 0 0 0 _ _ ([] : List ByteArray) false _ ?side1 ?side2 ?side3 ?side4 ?side5 ?side6 A8.out).mono ?_); (case side1 => repeat (first | exact (Kd.R_reads' HO157.out).2.2 | (with_reducible refine Kd.C_alloc ?_ _) | (with_reducible refine Kd.C_drewN ?_ _) | (with_reducible refine Kd.C_drew ?_))); (case side2 => exact (Kd.R_reads' HO157.out).2.1); (case side3 => repeat (first | exact (Kd.R_reads' HO160.out).2.2 | (with_reducible refine Kd.C_alloc ?_ _) | (with_reducible refine Kd.C_drewN ?_ _) | (with_reducible refine Kd.C_drew ?_))); (case side4 => exact (Kd.R_reads' HO160.out).2.1); (case side5 => exact Kd.C_nil _ _); (case side6 => exact Nat.le_refl _); rintro e w46 ⟨rfl, hb⟩; have n0_ := Aside0.mk (Kd.R_below (by (with_reducible repeat (first | apply Kd.R_alloc | apply Kd.R_drewN | apply Kd.R_drew)); exact HO157.out) hb); have n1_ := Aside0.mk (Kd.R_below (by (with_reducible repeat (first | apply Kd.R_alloc | apply Kd.R_drewN | apply Kd.R_drew)); exact HO160.out) hb); have n2_ := Aside0.mk (Kd.R_below (by (with_reducible repeat (first | apply Kd.R_alloc | apply Kd.R_drewN | apply Kd.R_drew)); exact HO168.out) hb); have n3_ := Aside0.mk (blk_below (grw BK161.out) hb); have n4_ := Aside0.mk (below_step (by repeat (first | (with_reducible first | exact HB.out | apply below_alloc | apply pw_below_drewN | apply below_drew1 | refine below_set ?_ GE161.out) | exact HB.out)) hb); clear HO157; clear HO160; clear HO168; clear BK161; clear HB; have HO157 := n0_; have HO160 := n1_; have HO168 := n2_; have BK161 := n3_; have HB := n4_; clear n0_ n1_ n2_ n3_ n4_; (try clear hb); (try clear hb2); (try clear hk); (try clear hi)))
  go_ret
  exact ⟨by first | rfl | (simp [errW_none, errW_some] <;> rfl) | (simp [*, errW_none, errW_some] <;> rfl), by repeat (first | (with_reducible first | exact HB.out | apply below_alloc | apply pw_below_drewN | apply below_drew1 | refine below_set ?_ GE161.out) | exact HB.out)⟩
 subst c9
 have H1 : ((eval_Holds.f k ([] : List (S47)) y158 1 0 0 0 ([] : List ByteArray)).bind fun t172 => (some t172)) = some r := by rw [if_pos rfl] at H; exact H
 clear H
 have H := H1
 clear H1
 replace H := Option.bind_eq_some_iff.mp H
 obtain ⟨t172, A100, H⟩ := H
 replace H : (some t172) = some r := H
 have A10 := Aside0.mk A100
 clear A100
 obtain rfl := Option.some.inj H
 go_enter Try.func15, Try.ntmps15
 go_wp2_with (first | ((with_reducible refine gate_dst (N := 14) rfl ?_); refine Kd.R_lit k47 _ 47 ?hg (N := 14) ?hd (xs := ([(⟨15, 0, (⟨#[]⟩ : ByteArray)⟩ : S47), (⟨4, 0, (⟨#[]⟩ : ByteArray)⟩ : S47), (⟨2, 0, (⟨#[120]⟩ : ByteArray)⟩ : S47), (⟨1, 1, (⟨#[]⟩ : ByteArray)⟩ : S47), (⟨1, 3, (⟨#[]⟩ : ByteArray)⟩ : S47)] : List (S47))) (inner := [.int .i64 15, .int .i64 0, .string (⟨#[]⟩ : ByteArray), .int .i64 4, .int .i64 0, .string (⟨#[]⟩ : ByteArray), .int .i64 2, .int .i64 0, .string (⟨#[120]⟩ : ByteArray), .int .i64 1, .int .i64 1, .string (⟨#[]⟩ : ByteArray), .int .i64 1, .int .i64 3, .string (⟨#[]⟩ : ByteArray)]) (ok := fun _ => True) (okp := fun _ => True) ?hr ?hp (fun _ hk => hk) trivial (Below.refl _ _) (Nat.le_refl _) (by simp) ?_; (case hd => rfl); (case hg => rfl); (case hr => first | (go_simp; done) | (go_simp; rfl)); (case hp => exact (Reps.c3 (show Kd.M k47 _ _ _ (⟨15, 0, (⟨#[]⟩ : ByteArray)⟩ : S47) [.int .i64 15, .int .i64 0, .string (⟨#[]⟩ : ByteArray)] from (k47_mkM _ _ _ (⟨15, 0, (⟨#[]⟩ : ByteArray)⟩ : S47) )) (Reps.c3 (show Kd.M k47 _ _ _ (⟨4, 0, (⟨#[]⟩ : ByteArray)⟩ : S47) [.int .i64 4, .int .i64 0, .string (⟨#[]⟩ : ByteArray)] from (k47_mkM _ _ _ (⟨4, 0, (⟨#[]⟩ : ByteArray)⟩ : S47) )) (Reps.c3 (show Kd.M k47 _ _ _ (⟨2, 0, (⟨#[120]⟩ : ByteArray)⟩ : S47) [.int .i64 2, .int .i64 0, .string (⟨#[120]⟩ : ByteArray)] from (k47_mkM _ _ _ (⟨2, 0, (⟨#[120]⟩ : ByteArray)⟩ : S47) )) (Reps.c3 (show Kd.M k47 _ _ _ (⟨1, 1, (⟨#[]⟩ : ByteArray)⟩ : S47) [.int .i64 1, .int .i64 1, .string (⟨#[]⟩ : ByteArray)] from (k47_mkM _ _ _ (⟨1, 1, (⟨#[]⟩ : ByteArray)⟩ : S47) )) (Reps.c3 (show Kd.M k47 _ _ _ (⟨1, 3, (⟨#[]⟩ : ByteArray)⟩ : S47) [.int .i64 1, .int .i64 3, .string (⟨#[]⟩ : ByteArray)] from (k47_mkM _ _ _ (⟨1, 3, (⟨#[]⟩ : ByteArray)⟩ : S47) )) (Reps.none _ _))))))); intro v156 w11 ho12 hb hg_ hnew_; clear hg_ hnew_; (first | rw [← Ny155.out] at ho12 | (simp only [Int.reduceToNat] at ho12; rw [← Ny155.out] at ho12)); have n0_ := Aside0.mk (Kd.R_lower ho12 (below_size (brw HB.out))); have n1_ := Aside0.mk (below_step (brw HB.out) hb); clear HB; have HO157 := n0_; have HB := n1_; clear n0_ n1_; clear hb ho12) | ((with_reducible refine gate_dst (N := 16) rfl ?_); refine Kd.R_lit k51 _ 51 ?hg (N := 16) ?hd (xs := ([(⟨(⟨#[120]⟩ : ByteArray), 0, 0, 0⟩ : S51)] : List (S51))) (inner := [.string (⟨#[120]⟩ : ByteArray), .int .i64 0, .int .i64 0, .int .i64 0]) (ok := fun _ => True) (okp := fun _ => True) ?hr ?hp (fun _ hk => hk) trivial (Below.refl _ _) (Nat.le_refl _) (by simp) ?_; (case hd => rfl); (case hg => rfl); (case hr => first | (go_simp; done) | (go_simp; rfl)); (case hp => exact (Reps.c4 (show Kd.M k51 _ _ _ (⟨(⟨#[120]⟩ : ByteArray), 0, 0, 0⟩ : S51) [.string (⟨#[120]⟩ : ByteArray), .int .i64 0, .int .i64 0, .int .i64 0] from (k51_mkM _ _ _ (⟨(⟨#[120]⟩ : ByteArray), 0, 0, 0⟩ : S51) )) (Reps.none _ _))); intro v159 w13 ho14 hb hg_ hnew_; clear hg_ hnew_; (first | rw [← Ny158.out] at ho14 | (simp only [Int.reduceToNat] at ho14; rw [← Ny158.out] at ho14)); have n0_ := Aside0.mk (Kd.R_below (by (with_reducible repeat (first | apply Kd.R_alloc | apply Kd.R_drewN | apply Kd.R_drew)); exact HO157.out) hb); have n1_ := Aside0.mk (Kd.R_lower ho14 (below_size (brw HB.out))); have n2_ := Aside0.mk (below_step (brw HB.out) hb); clear HO157; clear HB; have HO157 := n0_; have HO160 := n1_; have HB := n2_; clear n0_ n1_ n2_; clear hb ho14; obtain ⟨Ao15, co15, eo15⟩ := Kd.R_slice HO160.out; subst eo15) | ((with_reducible refine gate_dst (N := 2) rfl ?_); refine box_event ?hg (N := 2) ?hd (cs := #[.slice none 0 0, .int .i64 0, .int .i64 0, .int .i64 0, .int .i64 0, .slice none 0 0]) (t := 36) ?hr ?_; (case hd => rfl); (case hg => rfl); (case hr => first | (go_simp; done) | (go_simp; rfl)); intro gb161 hg w16 hbox hb; have hB_ := bz12_ hb (brw HB.out); have n0_ := Aside0.mk (Kd.R_below (by (with_reducible repeat (first | apply Kd.R_alloc | apply Kd.R_drewN | apply Kd.R_drew)); exact HO157.out) hb); have n1_ := Aside0.mk (Kd.R_below (by (with_reducible repeat (first | apply Kd.R_alloc | apply Kd.R_drewN | apply Kd.R_drew)); exact HO160.out) hb); have n2_ := Aside0.mk (below_step hB_ hb); have n3_ := Aside0.mk (hbox); have n4_ := Aside0.mk ((by rw [hg]; exact (below_size hB_) : w.heap.size ≤ gb161)); have n5_ := Aside0.mk ((by rw [hg]; exact (below_size hB_) : w.heap.size ≤ gb161)); clear HO157; clear HO160; clear HB; have HO157 := n0_; have HO160 := n1_; have HB := n2_; have BK161 := n3_; have GW161 := n4_; have GE161 := n5_; clear n0_ n1_ n2_ n3_ n4_ n5_; clear hb hbox hg; obtain ⟨hcz17_0, hcz17_1, hcz17_2, hcz17_3, hcz17_4, hcz17_5⟩ := cz6_ BK161.out; obtain ⟨hfz17_0, hfz17_1, hfz17_2, hfz17_3, hfz17_4, hfz17_5⟩ := cf6_ BK161.out; obtain ⟨Ao18, co18, eo18⟩ := Kd.R_slice HO157.out; subst eo18) | ((with_reducible refine gate_callee (f := 16) rfl ?_); refine goesL_ (some 22) rfl rfl Try.func16 (by kernel_rfl) rfl #[.slice Ao18 y155.length co18, .agg #[.slice Ao15 y158.length co15, .int .i64 1, .int .i64 0, .int .i64 0, .int .i64 0, .slice none 0 0]] rfl (by (try simp only [List.map_toArray, List.map_cons, List.map_nil]); first | done | rfl | (simp only [List.length_drop, List.length_take]; rfl)) ?_; (refine (eval_At.calls k _ _ y155 _ _ y158 1 0 0 0 _ _ ([] : List ByteArray) t162 t163 _ ?side1 ?side2 ?side3 ?side4 ?side5 ?side6 A1.out).mono ?_); (case side1 => refine (Kd.R_reads' (e := 47) (base := w.heap.size) (ok := fun k_ => True) (n := y155.length) (c := co18) ?_).2.2; exact (by (with_reducible repeat (first | apply Kd.R_alloc | apply Kd.R_drewN | apply Kd.R_drew)); exact (Kd.R_mono (Kd.R_far (p := ⟨gb161, 5, none⟩) (Kd.R_far (p := ⟨gb161, 4, none⟩) (Kd.R_far (p := ⟨gb161, 3, none⟩) (Kd.R_far (p := ⟨gb161, 2, none⟩) (Kd.R_far (p := ⟨gb161, 1, none⟩) (Kd.R_far (p := ⟨gb161, 0, none⟩) (Kd.R_types HO157.out BK161.out (by decide)) (fun _ hk => hk.2) (.slice Ao15 y158.length co15)) (fun _ hk => hk.2) (.int .i64 1)) (fun _ hk => hk.2) (.int .i64 0)) (fun _ hk => hk.2) (.int .i64 0)) (fun _ hk => hk.2) (.int .i64 0)) (fun _ hk => hk.2) (.slice none 0 0)) (fun _ h_ => h_.1)))); (case side2 => exact (Kd.R_reads' HO157.out).2.1); (case side3 => refine (Kd.R_reads' (e := 51) (base := w.heap.size) (ok := fun k_ => True) (n := y158.length) (c := co15) ?_).2.2; exact (by (with_reducible repeat (first | apply Kd.R_alloc | apply Kd.R_drewN | apply Kd.R_drew)); exact (Kd.R_mono (Kd.R_far (p := ⟨gb161, 5, none⟩) (Kd.R_far (p := ⟨gb161, 4, none⟩) (Kd.R_far (p := ⟨gb161, 3, none⟩) (Kd.R_far (p := ⟨gb161, 2, none⟩) (Kd.R_far (p := ⟨gb161, 1, none⟩) (Kd.R_far (p := ⟨gb161, 0, none⟩) (Kd.R_types HO160.out BK161.out (by decide)) (fun _ hk => hk.2) (.slice Ao15 y158.length co15)) (fun _ hk => hk.2) (.int .i64 1)) (fun _ hk => hk.2) (.int .i64 0)) (fun _ hk => hk.2) (.int .i64 0)) (fun _ hk => hk.2) (.int .i64 0)) (fun _ hk => hk.2) (.slice none 0 0)) (fun _ h_ => h_.1)))); (case side4 => exact (Kd.R_reads' HO160.out).2.1); (case side5 => exact Kd.C_nil _ _); (case side6 => exact Nat.le_refl _); rintro e w19 ⟨rfl, hb⟩; refine ⟨_, rfl, ?_⟩; have n0_ := Aside0.mk (Kd.R_below (by (with_reducible repeat (first | apply Kd.R_alloc | apply Kd.R_drewN | apply Kd.R_drew)); exact (Kd.R_mono (Kd.R_far (p := ⟨gb161, 5, none⟩) (Kd.R_far (p := ⟨gb161, 4, none⟩) (Kd.R_far (p := ⟨gb161, 3, none⟩) (Kd.R_far (p := ⟨gb161, 2, none⟩) (Kd.R_far (p := ⟨gb161, 1, none⟩) (Kd.R_far (p := ⟨gb161, 0, none⟩) (Kd.R_types HO157.out BK161.out (by decide)) (fun _ hk => hk.2) (.slice Ao15 y158.length co15)) (fun _ hk => hk.2) (.int .i64 1)) (fun _ hk => hk.2) (.int .i64 0)) (fun _ hk => hk.2) (.int .i64 0)) (fun _ hk => hk.2) (.int .i64 0)) (fun _ hk => hk.2) (.slice none 0 0)) (fun _ h_ => h_.1))) hb); have n1_ := Aside0.mk (Kd.R_below (by (with_reducible repeat (first | apply Kd.R_alloc | apply Kd.R_drewN | apply Kd.R_drew)); exact (Kd.R_mono (Kd.R_far (p := ⟨gb161, 5, none⟩) (Kd.R_far (p := ⟨gb161, 4, none⟩) (Kd.R_far (p := ⟨gb161, 3, none⟩) (Kd.R_far (p := ⟨gb161, 2, none⟩) (Kd.R_far (p := ⟨gb161, 1, none⟩) (Kd.R_far (p := ⟨gb161, 0, none⟩) (Kd.R_types HO160.out BK161.out (by decide)) (fun _ hk => hk.2) (.slice Ao15 y158.length co15)) (fun _ hk => hk.2) (.int .i64 1)) (fun _ hk => hk.2) (.int .i64 0)) (fun _ hk => hk.2) (.int .i64 0)) (fun _ hk => hk.2) (.int .i64 0)) (fun _ hk => hk.2) (.slice none 0 0)) (fun _ h_ => h_.1))) hb); have n2_ := Aside0.mk (blk_below (g := gb161) (o := .cells #[.slice Ao15 y158.length co15, .int .i64 1, .int .i64 0, .int .i64 0, .int .i64 0, .slice none 0 0] 36 (0, 0)) (by refine grO ?_; refine blk_put (cs := #[.slice Ao15 y158.length co15, .int .i64 1, .int .i64 0, .int .i64 0, .int .i64 0, .slice none 0 0]) ?_ 5 _ rfl; refine grO ?_; refine blk_put (cs := #[.slice Ao15 y158.length co15, .int .i64 1, .int .i64 0, .int .i64 0, .int .i64 0, .slice none 0 0]) ?_ 4 _ rfl; refine grO ?_; refine blk_put (cs := #[.slice Ao15 y158.length co15, .int .i64 1, .int .i64 0, .int .i64 0, .int .i64 0, .slice none 0 0]) ?_ 3 _ rfl; refine grO ?_; refine blk_put (cs := #[.slice Ao15 y158.length co15, .int .i64 1, .int .i64 0, .int .i64 0, .int .i64 0, .slice none 0 0]) ?_ 2 _ rfl; refine grO ?_; refine blk_put (cs := #[.slice Ao15 y158.length co15, .int .i64 0, .int .i64 0, .int .i64 0, .int .i64 0, .slice none 0 0]) ?_ 1 _ rfl; refine grO ?_; refine blk_put (cs := #[.slice none 0 0, .int .i64 0, .int .i64 0, .int .i64 0, .int .i64 0, .slice none 0 0]) ?_ 0 _ rfl; refine grO ?_; exact BK161.out) hb); have n3_ := Aside0.mk (below_step (by repeat (first | (with_reducible first | exact HB.out | apply below_alloc | apply pw_below_drewN | apply below_drew1 | refine below_set ?_ GE161.out) | exact HB.out)) hb); clear HO157; clear HO160; clear BK161; clear HB; have HO157 := n0_; have HO160 := n1_; have BK161 := n2_; have HB := n3_; clear n0_ n1_ n2_ n3_; (try clear hb); (try clear hb2); (try clear hk); (try clear hi)) | ((with_reducible refine gate_callee (f := 16) rfl ?_); refine goesL_ (some 28) rfl rfl Try.func16 (by kernel_rfl) rfl #[.slice Ao18 y155.length co18, .agg #[.slice none 0 0, .int .i64 0, .int .i64 0, .int .i64 0, .int .i64 0, .slice none 0 0]] rfl (by (try simp only [List.map_toArray, List.map_cons, List.map_nil]); first | done | rfl | (simp only [List.length_drop, List.length_take]; rfl)) ?_; (refine (eval_At.calls k _ _ y155 _ _ ([] : List (S51)) 0 0 0 0 _ _ ([] : List ByteArray) t164 t165 _ ?side1 ?side2 ?side3 ?side4 ?side5 ?side6 A2.out).mono ?_); (case side1 => repeat (first | exact (Kd.R_reads' HO157.out).2.2 | (with_reducible refine Kd.C_alloc ?_ _) | (with_reducible refine Kd.C_drewN ?_ _) | (with_reducible refine Kd.C_drew ?_))); (case side2 => exact (Kd.R_reads' HO157.out).2.1); (case side3 => exact Kd.C_nil _ _); (case side4 => exact Nat.le_refl _); (case side5 => exact Kd.C_nil _ _); (case side6 => exact Nat.le_refl _); rintro e w20 ⟨rfl, hb⟩; refine ⟨_, rfl, ?_⟩; have n0_ := Aside0.mk (Kd.R_below (by (with_reducible repeat (first | apply Kd.R_alloc | apply Kd.R_drewN | apply Kd.R_drew)); exact HO157.out) hb); have n1_ := Aside0.mk (Kd.R_below (by (with_reducible repeat (first | apply Kd.R_alloc | apply Kd.R_drewN | apply Kd.R_drew)); exact HO160.out) hb); have n2_ := Aside0.mk (blk_below (grw BK161.out) hb); have n3_ := Aside0.mk (below_step (by repeat (first | (with_reducible first | exact HB.out | apply below_alloc | apply pw_below_drewN | apply below_drew1 | refine below_set ?_ GE161.out) | exact HB.out)) hb); clear HO157; clear HO160; clear BK161; clear HB; have HO157 := n0_; have HO160 := n1_; have BK161 := n2_; have HB := n3_; clear n0_ n1_ n2_ n3_; (try clear hb); (try clear hb2); (try clear hk); (try clear hi)) | ((with_reducible refine gate_dst (N := 34) rfl ?_); refine Kd.R_lit k47 _ 47 ?hg (N := 34) ?hd (xs := ([(⟨12, 0, (⟨#[]⟩ : ByteArray)⟩ : S47), (⟨1, 0, (⟨#[]⟩ : ByteArray)⟩ : S47)] : List (S47))) (inner := [.int .i64 12, .int .i64 0, .string (⟨#[]⟩ : ByteArray), .int .i64 1, .int .i64 0, .string (⟨#[]⟩ : ByteArray)]) (ok := fun _ => True) (okp := fun _ => True) ?hr ?hp (fun _ hk => hk) trivial (Below.refl _ _) (Nat.le_refl _) (by simp) ?_; (case hd => rfl); (case hg => rfl); (case hr => first | (go_simp; done) | (go_simp; rfl)); (case hp => exact (Reps.c3 (show Kd.M k47 _ _ _ (⟨12, 0, (⟨#[]⟩ : ByteArray)⟩ : S47) [.int .i64 12, .int .i64 0, .string (⟨#[]⟩ : ByteArray)] from (k47_mkM _ _ _ (⟨12, 0, (⟨#[]⟩ : ByteArray)⟩ : S47) )) (Reps.c3 (show Kd.M k47 _ _ _ (⟨1, 0, (⟨#[]⟩ : ByteArray)⟩ : S47) [.int .i64 1, .int .i64 0, .string (⟨#[]⟩ : ByteArray)] from (k47_mkM _ _ _ (⟨1, 0, (⟨#[]⟩ : ByteArray)⟩ : S47) )) (Reps.none _ _)))); intro v167 w21 ho22 hb hg_ hnew_; clear hg_ hnew_; (first | rw [← Ny166.out] at ho22 | (simp only [Int.reduceToNat] at ho22; rw [← Ny166.out] at ho22)); have n0_ := Aside0.mk (Kd.R_elder' (by (with_reducible repeat (first | apply Kd.R_alloc | apply Kd.R_drewN | apply Kd.R_drew)); exact HO157.out) (Kd.R_base ho22) hb); have n1_ := Aside0.mk (Kd.R_below (by (with_reducible repeat (first | apply Kd.R_alloc | apply Kd.R_drewN | apply Kd.R_drew)); exact HO160.out) hb); have n2_ := Aside0.mk (Kd.R_lower (Kd.R_new' ho22 (Kd.R_lt (by (with_reducible repeat (first | apply Kd.R_alloc | apply Kd.R_drewN | apply Kd.R_drew)); exact HO157.out))) (below_size (by repeat (first | (with_reducible first | exact HB.out | apply below_alloc | apply pw_below_drewN | apply below_drew1 | refine below_set ?_ GE161.out) | exact HB.out)))); have n3_ := Aside0.mk (blk_below (grw BK161.out) hb); have n4_ := Aside0.mk (below_step (by repeat (first | (with_reducible first | exact HB.out | apply below_alloc | apply pw_below_drewN | apply below_drew1 | refine below_set ?_ GE161.out) | exact HB.out)) hb); clear HO157; clear HO160; clear BK161; clear HB; have HO157 := n0_; have HO160 := n1_; have HO168 := n2_; have BK161 := n3_; have HB := n4_; clear n0_ n1_ n2_ n3_ n4_; clear hb ho22; obtain ⟨hcz23_0, hcz23_1, hcz23_2, hcz23_3, hcz23_4, hcz23_5⟩ := cz6_ BK161.out; obtain ⟨hfz23_0, hfz23_1, hfz23_2, hfz23_3, hfz23_4, hfz23_5⟩ := cf6_ BK161.out; obtain ⟨Ao24, co24, eo24⟩ := Kd.R_slice HO168.out; subst eo24) | ((with_reducible refine gate_callee (f := 16) rfl ?_); refine goesL_ (some 36) rfl rfl Try.func16 (by kernel_rfl) rfl #[.slice Ao24 y166.length co24, .agg #[.slice Ao15 y158.length co15, .int .i64 1, .int .i64 0, .int .i64 0, .int .i64 0, .slice none 0 0]] rfl (by (try simp only [List.map_toArray, List.map_cons, List.map_nil]); first | done | rfl | (simp only [List.length_drop, List.length_take]; rfl)) ?_; (refine (eval_At.calls k _ _ y166 _ _ y158 1 0 0 0 _ _ ([] : List ByteArray) t169 t170 _ ?side1 ?side2 ?side3 ?side4 ?side5 ?side6 A3.out).mono ?_); (case side1 => repeat (first | exact (Kd.R_reads' HO168.out).2.2 | (with_reducible refine Kd.C_alloc ?_ _) | (with_reducible refine Kd.C_drewN ?_ _) | (with_reducible refine Kd.C_drew ?_))); (case side2 => exact (Kd.R_reads' HO168.out).2.1); (case side3 => repeat (first | exact (Kd.R_reads' HO160.out).2.2 | (with_reducible refine Kd.C_alloc ?_ _) | (with_reducible refine Kd.C_drewN ?_ _) | (with_reducible refine Kd.C_drew ?_))); (case side4 => exact (Kd.R_reads' HO160.out).2.1); (case side5 => exact Kd.C_nil _ _); (case side6 => exact Nat.le_refl _); rintro e w25 ⟨rfl, hb⟩; refine ⟨_, rfl, ?_⟩; have n0_ := Aside0.mk (Kd.R_below (by (with_reducible repeat (first | apply Kd.R_alloc | apply Kd.R_drewN | apply Kd.R_drew)); exact HO157.out) hb); have n1_ := Aside0.mk (Kd.R_below (by (with_reducible repeat (first | apply Kd.R_alloc | apply Kd.R_drewN | apply Kd.R_drew)); exact HO160.out) hb); have n2_ := Aside0.mk (Kd.R_below (by (with_reducible repeat (first | apply Kd.R_alloc | apply Kd.R_drewN | apply Kd.R_drew)); exact HO168.out) hb); have n3_ := Aside0.mk (blk_below (grw BK161.out) hb); have n4_ := Aside0.mk (below_step (by repeat (first | (with_reducible first | exact HB.out | apply below_alloc | apply pw_below_drewN | apply below_drew1 | refine below_set ?_ GE161.out) | exact HB.out)) hb); clear HO157; clear HO160; clear HO168; clear BK161; clear HB; have HO157 := n0_; have HO160 := n1_; have HO168 := n2_; have BK161 := n3_; have HB := n4_; clear n0_ n1_ n2_ n3_ n4_; (try clear hb); (try clear hb2); (try clear hk); (try clear hi); obtain ⟨hcz26_0, hcz26_1, hcz26_2, hcz26_3, hcz26_4, hcz26_5⟩ := cz6_ BK161.out; obtain ⟨hfz26_0, hfz26_1, hfz26_2, hfz26_3, hfz26_4, hfz26_5⟩ := cf6_ BK161.out) | (go_at_call 19; have chk_ := A8; clear chk_; (refine (eval_Holds.calls k _ _ y155 _ _ y158 1 0 0 0 _ _ ([] : List ByteArray) true _ ?side1 ?side2 ?side3 ?side4 ?side5 ?side6 A8.out).mono ?_); (case side1 => repeat (first | exact (Kd.R_reads' HO157.out).2.2 | (with_reducible refine Kd.C_alloc ?_ _) | (with_reducible refine Kd.C_drewN ?_ _) | (with_reducible refine Kd.C_drew ?_))); (case side2 => exact (Kd.R_reads' HO157.out).2.1); (case side3 => repeat (first | exact (Kd.R_reads' HO160.out).2.2 | (with_reducible refine Kd.C_alloc ?_ _) | (with_reducible refine Kd.C_drewN ?_ _) | (with_reducible refine Kd.C_drew ?_))); (case side4 => exact (Kd.R_reads' HO160.out).2.1); (case side5 => exact Kd.C_nil _ _); (case side6 => exact Nat.le_refl _); rintro e w27 ⟨rfl, hb⟩; have n0_ := Aside0.mk (Kd.R_below (by (with_reducible repeat (first | apply Kd.R_alloc | apply Kd.R_drewN | apply Kd.R_drew)); exact HO157.out) hb); have n1_ := Aside0.mk (Kd.R_below (by (with_reducible repeat (first | apply Kd.R_alloc | apply Kd.R_drewN | apply Kd.R_drew)); exact HO160.out) hb); have n2_ := Aside0.mk (Kd.R_below (by (with_reducible repeat (first | apply Kd.R_alloc | apply Kd.R_drewN | apply Kd.R_drew)); exact HO168.out) hb); have n3_ := Aside0.mk (blk_below (grw BK161.out) hb); have n4_ := Aside0.mk (below_step (by repeat (first | (with_reducible first | exact HB.out | apply below_alloc | apply pw_below_drewN | apply below_drew1 | refine below_set ?_ GE161.out) | exact HB.out)) hb); clear HO157; clear HO160; clear HO168; clear BK161; clear HB; have HO157 := n0_; have HO160 := n1_; have HO168 := n2_; have BK161 := n3_; have HB := n4_; clear n0_ n1_ n2_ n3_ n4_; (try clear hb); (try clear hb2); (try clear hk); (try clear hi); obtain ⟨hcz28_0, hcz28_1, hcz28_2, hcz28_3, hcz28_4, hcz28_5⟩ := cz6_ BK161.out; obtain ⟨hfz28_0, hfz28_1, hfz28_2, hfz28_3, hfz28_4, hfz28_5⟩ := cf6_ BK161.out; (try clear A8)) | (go_at_call 19; have chk_ := A10; clear chk_; (refine (eval_Holds.calls k _ _ ([] : List (S47)) _ _ y158 1 0 0 0 _ _ ([] : List ByteArray) t172 _ ?side1 ?side2 ?side3 ?side4 ?side5 ?side6 A10.out).mono ?_); (case side1 => exact Kd.C_nil _ _); (case side2 => exact Nat.le_refl _); (case side3 => repeat (first | exact (Kd.R_reads' HO160.out).2.2 | (with_reducible refine Kd.C_alloc ?_ _) | (with_reducible refine Kd.C_drewN ?_ _) | (with_reducible refine Kd.C_drew ?_))); (case side4 => exact (Kd.R_reads' HO160.out).2.1); (case side5 => exact Kd.C_nil _ _); (case side6 => exact Nat.le_refl _); rintro e w29 ⟨rfl, hb⟩; have n0_ := Aside0.mk (Kd.R_below (by (with_reducible repeat (first | apply Kd.R_alloc | apply Kd.R_drewN | apply Kd.R_drew)); exact HO157.out) hb); have n1_ := Aside0.mk (Kd.R_below (by (with_reducible repeat (first | apply Kd.R_alloc | apply Kd.R_drewN | apply Kd.R_drew)); exact HO160.out) hb); have n2_ := Aside0.mk (Kd.R_below (by (with_reducible repeat (first | apply Kd.R_alloc | apply Kd.R_drewN | apply Kd.R_drew)); exact HO168.out) hb); have n3_ := Aside0.mk (blk_below (grw BK161.out) hb); have n4_ := Aside0.mk (below_step (by repeat (first | (with_reducible first | exact HB.out | apply below_alloc | apply pw_below_drewN | apply below_drew1 | refine below_set ?_ GE161.out) | exact HB.out)) hb); clear HO157; clear HO160; clear HO168; clear BK161; clear HB; have HO157 := n0_; have HO160 := n1_; have HO168 := n2_; have BK161 := n3_; have HB := n4_; clear n0_ n1_ n2_ n3_ n4_; (try clear hb); (try clear hb2); (try clear hk); (try clear hi); (try clear A10)))
 go_ret
 exact ⟨by first | rfl | (simp [errW_none, errW_some] <;> rfl) | (simp [*, errW_none, errW_some] <;> rfl), by repeat (first | (with_reducible first | exact HB.out | apply below_alloc | apply pw_below_drewN | apply below_drew1 | refine below_set ?_ GE161.out) | exact HB.out)⟩
/-! ### semblanceref05_Arity: function 95 -/
def semblanceref05_Arity.f (a0 : Int) : Option (Int) := if a0 < 1 then (some (-1)) else (if a0 > 20 then (some (-1)) else ((some (([0, 0, 0, 1, 2, 2, 2, 2, 2, 0, 0, 0, 1, 2, 2, 2, 2, 2, 2, 2, 2] : List Int) : List Int)).bind fun y173 => (if 0 ≤ a0 then (if a0 < (y173.length : Int) then (some (rd y173 a0)) else (none)) else (none))))
set_option maxHeartbeats 8000000 in
set_option maxRecDepth 100000 in
theorem semblanceref05_Arity.calls (a0 : Int) (r : Int) (w : World) (h : semblanceref05_Arity.f a0 = some r) :
  Calls Try.prog 95 #[.int .i64 a0] w fun e w' => e = .returned (.int .i64 r) ∧ Below w.heap.size w w' := by
 have HB := Aside0.mk (Below.refl w.heap.size w)
 have H : (if a0 < 1 then (some (-1)) else (if a0 > 20 then (some (-1)) else ((some (([0, 0, 0, 1, 2, 2, 2, 2, 2, 0, 0, 0, 1, 2, 2, 2, 2, 2, 2, 2, 2] : List Int) : List Int)).bind fun y173 => (if 0 ≤ a0 then (if a0 < (y173.length : Int) then (some (rd y173 a0)) else (none)) else (none))))) = some r := h
 clear h
 by_cases c2 : a0 < 1
 ·rw [if_pos c2] at H
  have c2b0 : decide (a0 < 1) = true := decide_eq_true c2
  clear c2
  obtain rfl := Option.some.inj H
  go_enter Try.func95, Try.ntmps95
  go_wp2
  go_ret
  exact ⟨by first | rfl | (simp [errW_none, errW_some] <;> rfl) | (simp [*, errW_none, errW_some] <;> rfl), by repeat (first | (with_reducible first | exact HB.out | apply below_alloc | apply pw_below_drewN | apply below_drew1) | exact HB.out)⟩
 rw [if_neg c2] at H
 have c2b0 : decide (a0 < 1) = false := decide_eq_false c2
 clear c2
 by_cases c3 : a0 > 20
 ·rw [if_pos c3] at H
  have c3b0 : decide (20 < a0) = true := decide_eq_true c3
  clear c3
  obtain rfl := Option.some.inj H
  go_enter Try.func95, Try.ntmps95
  go_wp2
  go_ret
  exact ⟨by first | rfl | (simp [errW_none, errW_some] <;> rfl) | (simp [*, errW_none, errW_some] <;> rfl), by repeat (first | (with_reducible first | exact HB.out | apply below_alloc | apply pw_below_drewN | apply below_drew1) | exact HB.out)⟩
 rw [if_neg c3] at H
 have c3b0 : decide (20 < a0) = false := decide_eq_false c3
 clear c3
 obtain ⟨y173, hy173⟩ : ∃ y_ : List Int, y_ = (([0, 0, 0, 1, 2, 2, 2, 2, 2, 0, 0, 0, 1, 2, 2, 2, 2, 2, 2, 2, 2] : List Int)) := ⟨_, rfl⟩
 replace H : (if 0 ≤ a0 then (if a0 < (y173.length : Int) then (some (rd y173 a0)) else (none)) else (none)) = some r := by first | (rw [hy173]; with_reducible exact H) | (have H2_ := (Option.bind_some _ _).symm.trans H; rw [hy173]; with_reducible exact H2_) | (have H2_ := (Option.bind_some _ _).symm.trans H; with_reducible exact H2_) | with_reducible exact H | (rw [hy173]; exact H) | exact H
 have Ny173 := Aside0.mk hy173
 clear hy173
 by_cases c4 : 0 ≤ a0
 rotate_left
 ·rw [if_neg c4] at H
  exact absurd H (by simp)

 rw [if_pos c4] at H
 have c4b0 : decide (0 ≤ a0) = true := decide_eq_true c4
 clear c4
 by_cases c5 : a0 < (y173.length : Int)
 rotate_left
 ·rw [if_neg c5] at H
  exact absurd H (by simp)
 rw [if_pos c5] at H
 have c5b0 : decide (a0 < (y173.length : Int)) = true := decide_eq_true c5
 clear c5
 obtain rfl := Option.some.inj H
 go_enter Try.func95, Try.ntmps95
 go_wp2_with (first | ((with_reducible refine gate_dst (N := 9) rfl ?_); refine Kd.R_lit (Kd.int .i64) _ 3 ?hg (N := 9) ?hd (xs := ([0, 0, 0, 1, 2, 2, 2, 2, 2, 0, 0, 0, 1, 2, 2, 2, 2, 2, 2, 2, 2] : List Int)) (inner := [.int .i64 0, .int .i64 0, .int .i64 0, .int .i64 1, .int .i64 2, .int .i64 2, .int .i64 2, .int .i64 2, .int .i64 2, .int .i64 0, .int .i64 0, .int .i64 0, .int .i64 1, .int .i64 2, .int .i64 2, .int .i64 2, .int .i64 2, .int .i64 2, .int .i64 2, .int .i64 2, .int .i64 2]) (ok := fun _ => True) (okp := fun _ => True) ?hr ?hp (fun _ hk => hk) trivial (Below.refl _ _) (Nat.le_refl _) (by simp) ?_; (case hd => rfl); (case hg => rfl); (case hr => first | (go_simp; done) | (go_simp; rfl)); (case hp => exact (Reps.one (show Kd.M (Kd.int .i64) _ _ _ 0 [.int .i64 0] from rfl) (Reps.one (show Kd.M (Kd.int .i64) _ _ _ 0 [.int .i64 0] from rfl) (Reps.one (show Kd.M (Kd.int .i64) _ _ _ 0 [.int .i64 0] from rfl) (Reps.one (show Kd.M (Kd.int .i64) _ _ _ 1 [.int .i64 1] from rfl) (Reps.one (show Kd.M (Kd.int .i64) _ _ _ 2 [.int .i64 2] from rfl) (Reps.one (show Kd.M (Kd.int .i64) _ _ _ 2 [.int .i64 2] from rfl) (Reps.one (show Kd.M (Kd.int .i64) _ _ _ 2 [.int .i64 2] from rfl) (Reps.one (show Kd.M (Kd.int .i64) _ _ _ 2 [.int .i64 2] from rfl) (Reps.one (show Kd.M (Kd.int .i64) _ _ _ 2 [.int .i64 2] from rfl) (Reps.one (show Kd.M (Kd.int .i64) _ _ _ 0 [.int .i64 0] from rfl) (Reps.one (show Kd.M (Kd.int .i64) _ _ _ 0 [.int .i64 0] from rfl) (Reps.one (show Kd.M (Kd.int .i64) _ _ _ 0 [.int .i64 0] from rfl) (Reps.one (show Kd.M (Kd.int .i64) _ _ _ 1 [.int .i64 1] from rfl) (Reps.one (show Kd.M (Kd.int .i64) _ _ _ 2 [.int .i64 2] from rfl) (Reps.one (show Kd.M (Kd.int .i64) _ _ _ 2 [.int .i64 2] from rfl) (Reps.one (show Kd.M (Kd.int .i64) _ _ _ 2 [.int .i64 2] from rfl) (Reps.one (show Kd.M (Kd.int .i64) _ _ _ 2 [.int .i64 2] from rfl) (Reps.one (show Kd.M (Kd.int .i64) _ _ _ 2 [.int .i64 2] from rfl) (Reps.one (show Kd.M (Kd.int .i64) _ _ _ 2 [.int .i64 2] from rfl) (Reps.one (show Kd.M (Kd.int .i64) _ _ _ 2 [.int .i64 2] from rfl) (Reps.one (show Kd.M (Kd.int .i64) _ _ _ 2 [.int .i64 2] from rfl) (Reps.none _ _))))))))))))))))))))))); intro v174 w6 ho7 hb hg_ hnew_; clear hg_ hnew_; (first | rw [← Ny173.out] at ho7 | (simp only [Int.reduceToNat] at ho7; rw [← Ny173.out] at ho7)); have n0_ := Aside0.mk (Kd.R_lower ho7 (below_size (brw HB.out))); have n1_ := Aside0.mk (below_step (brw HB.out) hb); clear HB; have HO175 := n0_; have HB := n1_; clear n0_ n1_; clear hb ho7; obtain ⟨Ao8, co8, eo8⟩ := Kd.R_slice HO175.out; subst eo8; have p176 : 0 ≤ (a0 : Int) := of_decide_eq_true (by first | (with_reducible assumption) | assumption); have q176 : a0 < (y173.length : Int) := of_decide_eq_true (by first | (with_reducible assumption) | assumption); obtain ⟨ad176, e176, hx176_0⟩ := Kd.at_int (Kd.R_reads' HO175.out).2.2 a0 p176 q176; cases e176; replace p176 := eq_true p176; replace q176 := eq_true q176))
 go_ret
 exact ⟨by first | rfl | (simp [errW_none, errW_some] <;> rfl) | (simp [*, errW_none, errW_some] <;> rfl), by repeat (first | (with_reducible first | exact HB.out | apply below_alloc | apply pw_below_drewN | apply below_drew1) | exact HB.out)⟩
end Go.Proofs.Ytoeioigpkfgppaa.XV
