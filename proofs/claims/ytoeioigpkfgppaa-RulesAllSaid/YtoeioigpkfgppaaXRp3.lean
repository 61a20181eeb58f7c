-- written by wip/xprint.py out of the translation
import Derived.Test.YtoeioigpkfgppaaXRp0
import Derived.Test.YtoeioigpkfgppaaXRp2
namespace Go.Proofs.Ytoeioigpkfgppaa.XR
open Go.Proofs.Ytoeioigpkfgppaa.XGrow Go.RowKit Go.Proofs.YtoeioigpkfgppaaW.PrintWords Go.Proofs.YtoeioigpkfgppaaW.PrintLast Go.Proofs.YtoeioigpkfgppaaW.PrintMore
attribute [local go_sem] max2_int min2_int max_two min_two max_three min_three max_four min_four   -- for this text's walks alone
set_option linter.unusedVariables false
set_option linter.unusedSimpArgs false

/-! ### semblanceref10_may: function 62 -/
mutual
def semblanceref10_may.j0 : Nat → List (S55) → Bool → Option (Bool)
  | 0, _, _ => none
  | k + 1, x0, x14 => if x14 = true then (some false) else (semblanceref10_may.l0 k x0 0)
def semblanceref10_may.l0 : Nat → List (S55) → Int → Option (Bool)
  | 0, _, _ => none
  | k + 1, x0, x3 => if x3 < (x0.length : Int) then (if 0 ≤ x3 then (if ((rd_T55 x0 x3).f1) < 1 then (semblanceref10_may.j2 k x0 x3 true) else (semblanceref10_may.j2 k x0 x3 (decide (((rd_T55 x0 x3).f1) > 3)))) else (none)) else (some true)
def semblanceref10_may.j2 : Nat → List (S55) → Int → Bool → Option (Bool)
  | 0, _, _, _ => none
  | k + 1, x0, x3, x34 => if x34 = true then (some false) else (if x3 = 0 then (semblanceref10_may.l0 k x0 (wrap64 (x3 + 1))) else (if 0 ≤ x3 then (if x3 < (x0.length : Int) then (if ((rd_T55 x0 x3).f2) < 0 then (some false) else (if ((rd_T55 x0 x3).f2) ≥ x3 then (some false) else (if 0 ≤ ((rd_T55 x0 x3).f2) then (if ((rd_T55 x0 x3).f2) < (x0.length : Int) then (if ((rd_T55 x0 ((rd_T55 x0 x3).f2)).f1) = 1 then (some false) else (if ((rd_T55 x0 x3).f2) = (wrap64 (x3 - 1)) then (semblanceref10_may.l0 k x0 (wrap64 (x3 + 1))) else ((semblanceref10_Above.f k x0 (wrap64 (x3 - 1))).bind fun t123 => ((semblanceref10_In.f k t123 ((rd_T55 x0 x3).f2)).bind fun t126 => (if t126 = true then (semblanceref10_may.l0 k x0 (wrap64 (x3 + 1))) else (some false)))))) else (none)) else (none)))) else (none)) else (none)))
end
def semblanceref10_may.f (k : Nat) (l0 : List (S55)) : Option (Bool) := if (l0.length : Int) < 1 then (semblanceref10_may.j0 k l0 true) else (if 0 < (l0.length : Int) then (semblanceref10_may.j0 k l0 (((rd_T55 l0 0).f2) != (-1))) else (none))
theorem semblanceref10_may.mono_l : ∀ k, (∀ y0 y1, LeO (semblanceref10_may.j0 k y0 y1) (semblanceref10_may.j0 (k + 1) y0 y1)) ∧ (∀ y0 y1, LeO (semblanceref10_may.l0 k y0 y1) (semblanceref10_may.l0 (k + 1) y0 y1)) ∧ (∀ y0 y1 y2, LeO (semblanceref10_may.j2 k y0 y1 y2) (semblanceref10_may.j2 (k + 1) y0 y1 y2))
  | 0 => ⟨fun _ _ r h => by simp [semblanceref10_may.j0] at h, fun _ _ r h => by simp [semblanceref10_may.l0] at h, fun _ _ _ r h => by simp [semblanceref10_may.j2] at h⟩
  | k + 1 => by
    obtain ⟨ih0, ih1, ih2⟩ := semblanceref10_may.mono_l k
    refine ⟨?_, ?_, ?_⟩
    · intro y0 y1
      unfold semblanceref10_may.j0
      repeat' first
      | (with_reducible exact ih0 _ _)
      | (with_reducible exact ih1 _ _)
      | (with_reducible exact ih2 _ _ _)
      | (with_reducible exact semblanceref10_Above.mono _ _ _)
      | (with_reducible exact semblanceref10_In.mono _ _ _)
      | (with_reducible exact LeO.refl _)
      | (with_reducible exact LeO.none _)
      | (with_reducible refine LeO.ite ?_ ?_)
      | (with_reducible refine LeO.bind ?_ (fun _ => ?_))
      | exact ih0 _ _
      | exact ih1 _ _
      | exact ih2 _ _ _
      | exact semblanceref10_Above.mono _ _ _
      | exact semblanceref10_In.mono _ _ _
      | exact LeO.none _
      | refine LeO.ite ?_ ?_
      | refine LeO.bind ?_ (fun _ => ?_)
    · intro y0 y1
      unfold semblanceref10_may.l0
      repeat' first
      | (with_reducible exact ih0 _ _)
      | (with_reducible exact ih1 _ _)
      | (with_reducible exact ih2 _ _ _)
      | (with_reducible exact semblanceref10_Above.mono _ _ _)
      | (with_reducible exact semblanceref10_In.mono _ _ _)
      | (with_reducible exact LeO.refl _)
      | (with_reducible exact LeO.none _)
      | (with_reducible refine LeO.ite ?_ ?_)
      | (with_reducible refine LeO.bind ?_ (fun _ => ?_))
      | exact ih0 _ _
      | exact ih1 _ _
      | exact ih2 _ _ _
      | exact semblanceref10_Above.mono _ _ _
      | exact semblanceref10_In.mono _ _ _
      | exact LeO.none _
      | refine LeO.ite ?_ ?_
      | refine LeO.bind ?_ (fun _ => ?_)
    · intro y0 y1 y2
      unfold semblanceref10_may.j2
      repeat' first
      | (with_reducible exact ih0 _ _)
      | (with_reducible exact ih1 _ _)
      | (with_reducible exact ih2 _ _ _)
      | (with_reducible exact semblanceref10_Above.mono _ _ _)
      | (with_reducible exact semblanceref10_In.mono _ _ _)
      | (with_reducible exact LeO.refl _)
      | (with_reducible exact LeO.none _)
      | (with_reducible refine LeO.ite ?_ ?_)
      | (with_reducible refine LeO.bind ?_ (fun _ => ?_))
      | exact ih0 _ _
      | exact ih1 _ _
      | exact ih2 _ _ _
      | exact semblanceref10_Above.mono _ _ _
      | exact semblanceref10_In.mono _ _ _
      | exact LeO.none _
      | refine LeO.ite ?_ ?_
      | refine LeO.bind ?_ (fun _ => ?_)
theorem semblanceref10_may.mono : ∀ a0 k, LeO (semblanceref10_may.f k a0) (semblanceref10_may.f (k + 1) a0) := by
  intro a0 k
  obtain ⟨ih0, ih1, ih2⟩ := semblanceref10_may.mono_l k
  unfold semblanceref10_may.f
  repeat' first
      | (with_reducible exact ih0 _ _)
      | (with_reducible exact ih1 _ _)
      | (with_reducible exact ih2 _ _ _)
      | (with_reducible exact semblanceref10_Above.mono _ _ _)
      | (with_reducible exact semblanceref10_In.mono _ _ _)
      | (with_reducible exact LeO.refl _)
      | (with_reducible exact LeO.none _)
      | (with_reducible refine LeO.ite ?_ ?_)
      | (with_reducible refine LeO.bind ?_ (fun _ => ?_))
      | exact ih0 _ _
      | exact ih1 _ _
      | exact ih2 _ _ _
      | exact semblanceref10_Above.mono _ _ _
      | exact semblanceref10_In.mono _ _ _
      | exact LeO.none _
      | refine LeO.ite ?_ ?_
      | refine LeO.bind ?_ (fun _ => ?_)
theorem hc5_ {w W : World} {a : Addr} {v : Value} (hb : Below w.heap.size w W) (h : w.cell? a = some v) : W.cell? a = some v := (hb.cell (World.block_lt_of_cell? w _ h)).trans h
theorem bz5_ {W W2 w : World} (_ : Below W.heap.size W W2) (h : Below w.heap.size w W) : Below w.heap.size w W := h
set_option maxHeartbeats 8000000 in
set_option maxRecDepth 100000 in
theorem semblanceref10_may.calls (k : Nat) (A0 : Option Addr) (c0 : Nat) (l0 : List (S55)) (r : Bool) (w : World) (hr0 : Kd.C k55 w A0 l0.length l0) (hc0 : l0.length ≤ c0) (h : semblanceref10_may.f k l0 = some r) :
  Calls Try.prog 62 #[.slice A0 l0.length c0] w fun e w' => e = .returned (.bool r) ∧ Below w.heap.size w w' := by
 have HR0 := Aside0.mk hr0
 have HC0 := Aside0.mk hc0
 clear hr0 hc0
 have HB := Aside0.mk (Below.refl w.heap.size w)
 have H : (if (l0.length : Int) < 1 then (semblanceref10_may.j0 k l0 true) else (if 0 < (l0.length : Int) then (semblanceref10_may.j0 k l0 (((rd_T55 l0 0).f2) != (-1))) else (none))) = some r := h
 clear h
 have HC2 := Aside0.mk H
 clear H
 go_enter Try.func62, Try.ntmps62
 go_upto_region 1 with (fail)
 go_cut [14] (fun v14 wc => ∃ (kq : Nat) (x14_1 : Bool), v14 = .bool x14_1 ∧ Aside0 (semblanceref10_may.j0 kq l0 x14_1 = some r) ∧ Aside0 (kq ≤ k) ∧ Aside0 (Below w.heap.size w wc))
 case first =>
  have H := HC2.out
  clear HC2
  by_cases c3 : (l0.length : Int) < 1
  ·rw [if_pos c3] at H
   have c3b0 : decide ((l0.length : Int) < 1) = true := decide_eq_true c3
   have c3b1 : decide (l0.length < 1) = true := decide_eq_true (by omega)
   clear c3
   (first | rw [c3b0] | (simp only [i64_w, i32_w]; rw [c3b0]) | rw [c3b1] | skip)
   have H' := Aside0.mk H
   clear H
   go_wp2
   go_meet
   case rel => exact ⟨_, (true), (by first | rfl | (simp; done) | (simp [*]; done)), H', ⟨by first | omega | exact Nat.le_refl _⟩, ⟨by repeat (first | (with_reducible first | exact HB.out | apply below_alloc | apply pw_below_drewN | apply below_drew1) | exact HB.out)⟩⟩
  rw [if_neg c3] at H
  have c3b0 : decide ((l0.length : Int) < 1) = false := decide_eq_false c3
  have c3b1 : decide (l0.length < 1) = false := decide_eq_false (by omega)
  clear c3
  (first | rw [c3b0] | (simp only [i64_w, i32_w]; rw [c3b0]) | rw [c3b1] | skip)
  by_cases c4 : 0 < (l0.length : Int)
  rotate_left
  ·rw [if_neg c4] at H
   exact absurd H (by simp)
  rw [if_pos c4] at H
  have c4b0 : decide (0 < (l0.length : Int)) = true := decide_eq_true c4
  have c4b1 : decide (0 < l0.length) = true := decide_eq_true (by omega)
  clear c4
  have H' := Aside0.mk H
  clear H
  have p118 : 0 ≤ (0 : Int) := (by omega)
  have q118 : 0 < (l0.length : Int) := of_decide_eq_true (by first | (with_reducible assumption) | assumption)
  obtain ⟨ad118, A118_3, c118_3, A118_4, c118_4, A118_5, c118_5, e118, hx118_0, hx118_1, hx118_2, hx118_3, hx118_4, hx118_5, hl118_3, hi118_3, hl118_4, hi118_4, hl118_5, hi118_5⟩ := at_T55 HR0.out 0 p118 q118
  cases e118
  have qi118 : (0 < l0.length) = True := eq_true (by omega)
  (try rw [show ((0 : Int)).toNat = 0 from rfl] at hx118_0)
  (try rw [show 0 * 6 = 0 from rfl] at hx118_0)
  (try rw [Addr.add_zero'] at hx118_0)
  (try rw [show ((0 : Int)).toNat = 0 from rfl] at hx118_1)
  (try rw [show 0 * 6 = 0 from rfl] at hx118_1)
  (try rw [Addr.add_zero'] at hx118_1)
  (try rw [show ((0 : Int)).toNat = 0 from rfl] at hx118_2)
  (try rw [show 0 * 6 = 0 from rfl] at hx118_2)
  (try rw [Addr.add_zero'] at hx118_2)
  (try rw [show ((0 : Int)).toNat = 0 from rfl] at hx118_3)
  (try rw [show 0 * 6 = 0 from rfl] at hx118_3)
  (try rw [Addr.add_zero'] at hx118_3)
  (try rw [show ((0 : Int)).toNat = 0 from rfl] at hx118_4)
  (try rw [show 0 * 6 = 0 from rfl] at hx118_4)
  (try rw [Addr.add_zero'] at hx118_4)
  (try rw [show ((0 : Int)).toNat = 0 from rfl] at hx118_5)
  (try rw [show 0 * 6 = 0 from rfl] at hx118_5)
  (try rw [Addr.add_zero'] at hx118_5)
  replace hx118_0 := hc5_ HB.out hx118_0
  replace hx118_1 := hc5_ HB.out hx118_1
  replace hx118_2 := hc5_ HB.out hx118_2
  replace hx118_3 := hc5_ HB.out hx118_3
  replace hx118_4 := hc5_ HB.out hx118_4
  replace hx118_5 := hc5_ HB.out hx118_5
  have HR118_3 := Aside0.mk hi118_3
  have HC118_3 := Aside0.mk hl118_3
  clear hi118_3 hl118_3
  have HR118_4 := Aside0.mk hi118_4
  have HC118_4 := Aside0.mk hl118_4
  clear hi118_4 hl118_4
  have HR118_5 := Aside0.mk hi118_5
  have HC118_5 := Aside0.mk hl118_5
  clear hi118_5 hl118_5
  replace p118 := eq_true p118
  replace q118 := eq_true q118
  go_wp2
  go_meet
  case rel => exact ⟨_, ((((rd_T55 l0 0).f2) != (-1))), (by first | rfl | (simp; done) | (simp [*]; done)), H', ⟨by first | omega | exact Nat.le_refl _⟩, ⟨by repeat (first | (with_reducible first | exact HB.out | apply below_alloc | apply pw_below_drewN | apply below_drew1) | exact HB.out)⟩⟩
 case rest =>
  clear HC2
  try clear c1
  try clear p1
  try clear q1
  try clear hx1
  try clear qi1
  try clear p2
  try clear c3
  try clear c3b0
  try clear c3b1
  try clear c4
  try clear c4b0
  try clear c4b1
  try clear hx118_0
  try clear hx118_1
  try clear hx118_2
  try clear hx118_3
  try clear hx118_4
  try clear hx118_5
  try clear p118
  try clear q118
  obtain ⟨kq, x14_1, rfl, HA, HJ1, HB⟩ := hcut
  cases kq with
  | zero => exact absurd HA.out (by simp [semblanceref10_may.j0])
  | succ kj1 =>
   have H := HA.out
   clear HA
   simp only [semblanceref10_may.j0] at H
   by_cases c5 : x14_1 = true
   ·subst c5
    have H1 : (some false) = some r := by rw [if_pos rfl] at H; exact H
    clear H
    have H := H1
    clear H1
    obtain rfl := Option.some.inj H
    go_wp2
    go_ret
    exact ⟨by first | rfl | (simp [errW_none, errW_some] <;> rfl) | (simp [*, errW_none, errW_some] <;> rfl), by repeat (first | (with_reducible first | exact HB.out | apply below_alloc | apply pw_below_drewN | apply below_drew1) | exact HB.out)⟩
   replace c5 := Bool.eq_false_iff.mpr c5
   subst c5
   have H1 : (semblanceref10_may.l0 kj1 l0 0) = some r := by rw [if_neg (show ¬ (false = true) by decide)] at H; exact H
   clear H
   have H := H1
   clear H1
   have H' := Aside0.mk H
   clear H
   go_wp2
   go_loopg [3] kj1 (fun kq v3 w' => ∃ (x3_2 : Int), v3 = .int .i64 x3_2 ∧ Aside0 (semblanceref10_may.l0 kq l0 x3_2 = some r) ∧ Aside0 (kq ≤ kj1) ∧ Aside0 (Below w.heap.size w w'))
   case atStart => exact ⟨(0), (by first | rfl | (simp; done) | (simp [*]; done)), H', ⟨Nat.le_refl _⟩, ⟨by repeat (first | (with_reducible first | exact HB.out | apply below_alloc | apply pw_below_drewN | apply below_drew1) | exact HB.out)⟩⟩
   case round =>
    clear H'
    try clear c1
    try clear p1
    try clear q1
    try clear hx1
    try clear qi1
    try clear p2
    try clear c3
    try clear c3b0
    try clear c3b1
    try clear c4
    try clear c4b0
    try clear c4b1
    try clear c5
    try clear hx118_0
    try clear hx118_1
    try clear hx118_2
    try clear hx118_3
    try clear hx118_4
    try clear hx118_5
    try clear p1
    try clear p118
    try clear p2
    try clear q1
    try clear q118
    obtain ⟨x3_2, rfl, HA, HK2, HB⟩ := hrel
    cases gk with
    | zero => exact absurd HA.out (by simp [semblanceref10_may.l0])
    | succ k2 =>
     have H := HA.out
     clear HA
     simp only [semblanceref10_may.l0] at H
     by_cases c6 : x3_2 < (l0.length : Int)
     rotate_left
     ·rw [if_neg c6] at H
      have c6b0 : decide (x3_2 < (l0.length : Int)) = false := decide_eq_false c6
      clear c6
      obtain rfl := Option.some.inj H
      go_wp2
      go_ret
      exact ⟨by first | rfl | (simp [errW_none, errW_some] <;> rfl) | (simp [*, errW_none, errW_some] <;> rfl), by repeat (first | (with_reducible first | exact HB.out | apply below_alloc | apply pw_below_drewN | apply below_drew1) | exact HB.out)⟩

     rw [if_pos c6] at H
     have c6b0 : decide (x3_2 < (l0.length : Int)) = true := decide_eq_true c6
     clear c6
     have HC7 := Aside0.mk H
     clear H
     go_upto_region 6 with (fail)
     go_cut [34] (fun v34 wc => ∃ (kq : Nat) (x34_6 : Bool), v34 = .bool x34_6 ∧ Aside0 (semblanceref10_may.j2 kq l0 x3_2 x34_6 = some r) ∧ Aside0 (kq ≤ k2) ∧ Aside0 (Below w.heap.size w wc))
     case first =>
      have H := HC7.out
      clear HC7
      by_cases c8 : 0 ≤ x3_2
      rotate_left
      ·rw [if_neg c8] at H
       exact absurd H (by simp)
      rw [if_pos c8] at H
      have c8b0 : decide (0 ≤ x3_2) = true := decide_eq_true c8
      clear c8
      (first | rw [c8b0] | (simp only [i64_w, i32_w]; rw [c8b0]) | skip)
      have HZ_ := Aside0.mk H
      clear H
      have p119 : 0 ≤ (x3_2 : Int) := of_decide_eq_true (by first | (with_reducible assumption) | assumption)
      have q119 : x3_2 < (l0.length : Int) := of_decide_eq_true (by first | (with_reducible assumption) | assumption)
      obtain ⟨ad119, A119_3, c119_3, A119_4, c119_4, A119_5, c119_5, e119, hx119_0, hx119_1, hx119_2, hx119_3, hx119_4, hx119_5, hl119_3, hi119_3, hl119_4, hi119_4, hl119_5, hi119_5⟩ := at_T55 HR0.out x3_2 p119 q119
      cases e119
      replace hx119_0 := hc5_ HB.out hx119_0
      replace hx119_1 := hc5_ HB.out hx119_1
      replace hx119_2 := hc5_ HB.out hx119_2
      replace hx119_3 := hc5_ HB.out hx119_3
      replace hx119_4 := hc5_ HB.out hx119_4
      replace hx119_5 := hc5_ HB.out hx119_5
      have HR119_3 := Aside0.mk hi119_3
      have HC119_3 := Aside0.mk hl119_3
      clear hi119_3 hl119_3
      have HR119_4 := Aside0.mk hi119_4
      have HC119_4 := Aside0.mk hl119_4
      clear hi119_4 hl119_4
      have HR119_5 := Aside0.mk hi119_5
      have HC119_5 := Aside0.mk hl119_5
      clear hi119_5 hl119_5
      replace p119 := eq_true p119
      replace q119 := eq_true q119
      have H := HZ_.out
      clear HZ_
      by_cases c9 : ((rd_T55 l0 x3_2).f1) < 1
      ·rw [if_pos c9] at H
       have c9b0 : decide (((rd_T55 l0 x3_2).f1) < 1) = true := decide_eq_true c9
       clear c9
       have H' := Aside0.mk H
       clear H
       go_wp2
       go_meet
       case rel => exact ⟨_, (true), (by first | rfl | (simp; done) | (simp [*]; done)), H', ⟨by have := HJ1.out; have := HK2.out; first | omega | exact Nat.le_refl _⟩, ⟨by repeat (first | (with_reducible first | exact HB.out | apply below_alloc | apply pw_below_drewN | apply below_drew1) | exact HB.out)⟩⟩
      rw [if_neg c9] at H
      have c9b0 : decide (((rd_T55 l0 x3_2).f1) < 1) = false := decide_eq_false c9
      clear c9
      have H' := Aside0.mk H
      clear H
      have p120 : 0 ≤ (x3_2 : Int) := of_decide_eq_true (by first | (with_reducible assumption) | assumption)
      have q120 : x3_2 < (l0.length : Int) := of_decide_eq_true (by first | (with_reducible assumption) | assumption)
      obtain ⟨ad120, A120_3, c120_3, A120_4, c120_4, A120_5, c120_5, e120, hx120_0, hx120_1, hx120_2, hx120_3, hx120_4, hx120_5, hl120_3, hi120_3, hl120_4, hi120_4, hl120_5, hi120_5⟩ := at_T55 HR0.out x3_2 p120 q120
      obtain rfl : ad119 = ad120 := (by injection e120)
      replace hx120_0 := hc5_ HB.out hx120_0
      replace hx120_1 := hc5_ HB.out hx120_1
      replace hx120_2 := hc5_ HB.out hx120_2
      replace hx120_3 := hc5_ HB.out hx120_3
      replace hx120_4 := hc5_ HB.out hx120_4
      replace hx120_5 := hc5_ HB.out hx120_5
      have HR120_3 := Aside0.mk hi120_3
      have HC120_3 := Aside0.mk hl120_3
      clear hi120_3 hl120_3
      have HR120_4 := Aside0.mk hi120_4
      have HC120_4 := Aside0.mk hl120_4
      clear hi120_4 hl120_4
      have HR120_5 := Aside0.mk hi120_5
      have HC120_5 := Aside0.mk hl120_5
      clear hi120_5 hl120_5
      replace p120 := eq_true p120
      replace q120 := eq_true q120
      have ea_ := Option.some.inj (hx119_3.symm.trans hx120_3)
      injection ea_ with ea_ en_ ec_
      subst ea_
      subst ec_
      clear en_
      have ea_ := Option.some.inj (hx119_4.symm.trans hx120_4)
      injection ea_ with ea_ en_ ec_
      subst ea_
      subst ec_
      clear en_
      have ea_ := Option.some.inj (hx119_5.symm.trans hx120_5)
      injection ea_ with ea_ en_ ec_
      subst ea_
      subst ec_
      clear en_
      go_wp2
      go_meet
      case rel => exact ⟨_, (decide (((rd_T55 l0 x3_2).f1) > 3)), (by first | rfl | (simp; done) | (simp [*]; done)), H', ⟨by have := HJ1.out; have := HK2.out; first | omega | exact Nat.le_refl _⟩, ⟨by repeat (first | (with_reducible first | exact HB.out | apply below_alloc | apply pw_below_drewN | apply below_drew1) | exact HB.out)⟩⟩
     case rest =>
      clear HC7
      try clear c1
      try clear p1
      try clear q1
      try clear hx1
      try clear qi1
      try clear p2
      try clear c3
      try clear c3b0
      try clear c3b1
      try clear c4
      try clear c4b0
      try clear c4b1
      try clear c5
      try clear c6
      try clear c6b0
      try clear c8
      try clear c8b0
      try clear c9
      try clear c9b0
      try clear hx118_0
      try clear hx118_1
      try clear hx118_2
      try clear hx118_3
      try clear hx118_4
      try clear hx118_5
      try clear hx119_0
      try clear hx119_1
      try clear hx119_2
      try clear hx119_3
      try clear hx119_4
      try clear hx119_5
      try clear hx120_0
      try clear hx120_1
      try clear hx120_2
      try clear hx120_3
      try clear hx120_4
      try clear hx120_5
      try clear p1
      try clear p118
      try clear p119
      try clear p120
      try clear p2
      try clear q1
      try clear q118
      try clear q119
      try clear q120
      obtain ⟨kq, x34_6, rfl, HA, HJ6, HB⟩ := hcut
      cases kq with
      | zero => exact absurd HA.out (by simp [semblanceref10_may.j2])
      | succ kj6 =>
       have H := HA.out
       clear HA
       simp only [semblanceref10_may.j2] at H
       by_cases c10 : x34_6 = true
       ·subst c10
        have H1 : (some false) = some r := by rw [if_pos rfl] at H; exact H
        clear H
        have H := H1
        clear H1
        obtain rfl := Option.some.inj H
        go_wp2
        go_ret
        exact ⟨by first | rfl | (simp [errW_none, errW_some] <;> rfl) | (simp [*, errW_none, errW_some] <;> rfl), by repeat (first | (with_reducible first | exact HB.out | apply below_alloc | apply pw_below_drewN | apply below_drew1) | exact HB.out)⟩
       replace c10 := Bool.eq_false_iff.mpr c10
       subst c10
       have H1 : (if x3_2 = 0 then (semblanceref10_may.l0 kj6 l0 (wrap64 (x3_2 + 1))) else (if 0 ≤ x3_2 then (if x3_2 < (l0.length : Int) then (if ((rd_T55 l0 x3_2).f2) < 0 then (some false) else (if ((rd_T55 l0 x3_2).f2) ≥ x3_2 then (some false) else (if 0 ≤ ((rd_T55 l0 x3_2).f2) then (if ((rd_T55 l0 x3_2).f2) < (l0.length : Int) then (if ((rd_T55 l0 ((rd_T55 l0 x3_2).f2)).f1) = 1 then (some false) else (if ((rd_T55 l0 x3_2).f2) = (wrap64 (x3_2 - 1)) then (semblanceref10_may.l0 kj6 l0 (wrap64 (x3_2 + 1))) else ((semblanceref10_Above.f kj6 l0 (wrap64 (x3_2 - 1))).bind fun t123 => ((semblanceref10_In.f kj6 t123 ((rd_T55 l0 x3_2).f2)).bind fun t126 => (if t126 = true then (semblanceref10_may.l0 kj6 l0 (wrap64 (x3_2 + 1))) else (some false)))))) else (none)) else (none)))) else (none)) else (none))) = some r := by rw [if_neg (show ¬ (false = true) by decide)] at H; exact H
       clear H
       have H := H1
       clear H1
       by_cases c11 : x3_2 = 0
       ·rw [if_pos c11] at H
        have c11b0 : (x3_2 == 0) = true := beq_iff_eq.mpr c11
        have c11b1 : (x3_2 != 0) = false := bne_eq_false_iff_eq.mpr c11
        clear c11
        have H' := Aside0.mk H
        clear H
        go_wp2
        go_roundg kj6
        case measure => have := HJ1.out; have := HK2.out; have := HJ6.out; omega
        case rel => exact ⟨(wrap64 (x3_2 + 1)), (by first | rfl | (simp; done) | (simp [*]; done)), H', ⟨by have := HJ1.out; have := HK2.out; have := HJ6.out; omega⟩, ⟨by repeat (first | (with_reducible first | exact HB.out | apply below_alloc | apply pw_below_drewN | apply below_drew1) | exact HB.out)⟩⟩
       rw [if_neg c11] at H
       have c11b0 : (x3_2 == 0) = false := beq_eq_false_iff_ne.mpr c11
       have c11b1 : (x3_2 != 0) = true := bne_iff_ne.mpr c11
       by_cases c12 : 0 ≤ x3_2
       rotate_left
       ·rw [if_neg c12] at H
        exact absurd H (by simp)
       rw [if_pos c12] at H
       have c12b0 : decide (0 ≤ x3_2) = true := decide_eq_true c12
       clear c12
       by_cases c13 : x3_2 < (l0.length : Int)
       rotate_left
       ·rw [if_neg c13] at H
        exact absurd H (by simp)
       rw [if_pos c13] at H
       have c13b0 : decide (x3_2 < (l0.length : Int)) = true := decide_eq_true c13
       clear c13
       have HZ_ := Aside0.mk H
       clear H
       have p121 : 0 ≤ (x3_2 : Int) := of_decide_eq_true (by first | (with_reducible assumption) | assumption)
       have q121 : x3_2 < (l0.length : Int) := of_decide_eq_true (by first | (with_reducible assumption) | assumption)
       obtain ⟨ad121, A121_3, c121_3, A121_4, c121_4, A121_5, c121_5, e121, hx121_0, hx121_1, hx121_2, hx121_3, hx121_4, hx121_5, hl121_3, hi121_3, hl121_4, hi121_4, hl121_5, hi121_5⟩ := at_T55 HR0.out x3_2 p121 q121
       cases e121
       replace hx121_0 := hc5_ HB.out hx121_0
       replace hx121_1 := hc5_ HB.out hx121_1
       replace hx121_2 := hc5_ HB.out hx121_2
       replace hx121_3 := hc5_ HB.out hx121_3
       replace hx121_4 := hc5_ HB.out hx121_4
       replace hx121_5 := hc5_ HB.out hx121_5
       have HR121_3 := Aside0.mk hi121_3
       have HC121_3 := Aside0.mk hl121_3
       clear hi121_3 hl121_3
       have HR121_4 := Aside0.mk hi121_4
       have HC121_4 := Aside0.mk hl121_4
       clear hi121_4 hl121_4
       have HR121_5 := Aside0.mk hi121_5
       have HC121_5 := Aside0.mk hl121_5
       clear hi121_5 hl121_5
       replace p121 := eq_true p121
       replace q121 := eq_true q121
       have H := HZ_.out
       clear HZ_
       by_cases c14 : ((rd_T55 l0 x3_2).f2) < 0
       ·rw [if_pos c14] at H
        have c14b0 : decide (((rd_T55 l0 x3_2).f2) < 0) = true := decide_eq_true c14
        clear c14
        obtain rfl := Option.some.inj H
        go_wp2
        go_ret
        exact ⟨by first | rfl | (simp [errW_none, errW_some] <;> rfl) | (simp [*, errW_none, errW_some] <;> rfl), by repeat (first | (with_reducible first | exact HB.out | apply below_alloc | apply pw_below_drewN | apply below_drew1) | exact HB.out)⟩
       rw [if_neg c14] at H
       have c14b0 : decide (((rd_T55 l0 x3_2).f2) < 0) = false := decide_eq_false c14
       clear c14
       by_cases c15 : ((rd_T55 l0 x3_2).f2) ≥ x3_2
       ·rw [if_pos c15] at H
        have c15b0 : decide (x3_2 ≤ ((rd_T55 l0 x3_2).f2)) = true := decide_eq_true c15
        clear c15
        obtain rfl := Option.some.inj H
        go_wp2
        go_ret
        exact ⟨by first | rfl | (simp [errW_none, errW_some] <;> rfl) | (simp [*, errW_none, errW_some] <;> rfl), by repeat (first | (with_reducible first | exact HB.out | apply below_alloc | apply pw_below_drewN | apply below_drew1) | exact HB.out)⟩
       rw [if_neg c15] at H
       have c15b0 : decide (x3_2 ≤ ((rd_T55 l0 x3_2).f2)) = false := decide_eq_false c15
       clear c15
       by_cases c16 : 0 ≤ ((rd_T55 l0 x3_2).f2)
       rotate_left
       ·rw [if_neg c16] at H
        exact absurd H (by simp)
       rw [if_pos c16] at H
       have c16b0 : decide (0 ≤ ((rd_T55 l0 x3_2).f2)) = true := decide_eq_true c16
       clear c16
       by_cases c17 : ((rd_T55 l0 x3_2).f2) < (l0.length : Int)
       rotate_left
       ·rw [if_neg c17] at H
        exact absurd H (by simp)
       rw [if_pos c17] at H
       have c17b0 : decide (((rd_T55 l0 x3_2).f2) < (l0.length : Int)) = true := decide_eq_true c17
       clear c17
       have HZ_ := Aside0.mk H
       clear H
       have p122 : 0 ≤ (((rd_T55 l0 x3_2).f2) : Int) := of_decide_eq_true (by first | (with_reducible assumption) | assumption)
       have q122 : ((rd_T55 l0 x3_2).f2) < (l0.length : Int) := of_decide_eq_true (by first | (with_reducible assumption) | assumption)
       obtain ⟨ad122, A122_3, c122_3, A122_4, c122_4, A122_5, c122_5, e122, hx122_0, hx122_1, hx122_2, hx122_3, hx122_4, hx122_5, hl122_3, hi122_3, hl122_4, hi122_4, hl122_5, hi122_5⟩ := at_T55 HR0.out ((rd_T55 l0 x3_2).f2) p122 q122
       obtain rfl : ad121 = ad122 := (by injection e122)
       replace hx122_0 := hc5_ HB.out hx122_0
       replace hx122_1 := hc5_ HB.out hx122_1
       replace hx122_2 := hc5_ HB.out hx122_2
       replace hx122_3 := hc5_ HB.out hx122_3
       replace hx122_4 := hc5_ HB.out hx122_4
       replace hx122_5 := hc5_ HB.out hx122_5
       have HR122_3 := Aside0.mk hi122_3
       have HC122_3 := Aside0.mk hl122_3
       clear hi122_3 hl122_3
       have HR122_4 := Aside0.mk hi122_4
       have HC122_4 := Aside0.mk hl122_4
       clear hi122_4 hl122_4
       have HR122_5 := Aside0.mk hi122_5
       have HC122_5 := Aside0.mk hl122_5
       clear hi122_5 hl122_5
       replace p122 := eq_true p122
       replace q122 := eq_true q122
       have H := HZ_.out
       clear HZ_
       by_cases c18 : ((rd_T55 l0 ((rd_T55 l0 x3_2).f2)).f1) = 1
       ·rw [if_pos c18] at H
        have c18b0 : (((rd_T55 l0 ((rd_T55 l0 x3_2).f2)).f1) == 1) = true := beq_iff_eq.mpr c18
        have c18b1 : (((rd_T55 l0 ((rd_T55 l0 x3_2).f2)).f1) != 1) = false := bne_eq_false_iff_eq.mpr c18
        clear c18
        obtain rfl := Option.some.inj H
        go_wp2
        go_ret
        exact ⟨by first | rfl | (simp [errW_none, errW_some] <;> rfl) | (simp [*, errW_none, errW_some] <;> rfl), by repeat (first | (with_reducible first | exact HB.out | apply below_alloc | apply pw_below_drewN | apply below_drew1) | exact HB.out)⟩
       rw [if_neg c18] at H
       have c18b0 : (((rd_T55 l0 ((rd_T55 l0 x3_2).f2)).f1) == 1) = false := beq_eq_false_iff_ne.mpr c18
       have c18b1 : (((rd_T55 l0 ((rd_T55 l0 x3_2).f2)).f1) != 1) = true := bne_iff_ne.mpr c18
       by_cases c19 : ((rd_T55 l0 x3_2).f2) = (wrap64 (x3_2 - 1))
       ·rw [if_pos c19] at H
        have c19b0 : (((rd_T55 l0 x3_2).f2) == (wrap64 (x3_2 - 1))) = true := beq_iff_eq.mpr c19
        have c19b1 : (((rd_T55 l0 x3_2).f2) != (wrap64 (x3_2 - 1))) = false := bne_eq_false_iff_eq.mpr c19
        clear c19
        have H' := Aside0.mk H
        clear H
        go_wp2
        go_roundg kj6
        case measure => have := HJ1.out; have := HK2.out; have := HJ6.out; omega
        case rel => exact ⟨(wrap64 (x3_2 + 1)), (by first | rfl | (simp; done) | (simp [*]; done)), H', ⟨by have := HJ1.out; have := HK2.out; have := HJ6.out; omega⟩, ⟨by repeat (first | (with_reducible first | exact HB.out | apply below_alloc | apply pw_below_drewN | apply below_drew1) | exact HB.out)⟩⟩
       rw [if_neg c19] at H
       have c19b0 : (((rd_T55 l0 x3_2).f2) == (wrap64 (x3_2 - 1))) = false := beq_eq_false_iff_ne.mpr c19
       have c19b1 : (((rd_T55 l0 x3_2).f2) != (wrap64 (x3_2 - 1))) = true := bne_iff_ne.mpr c19
       replace H := Option.bind_eq_some_iff.mp H
       obtain ⟨t123, A200, H⟩ := H
       replace H : ((semblanceref10_In.f kj6 t123 ((rd_T55 l0 x3_2).f2)).bind fun t126 => (if t126 = true then (semblanceref10_may.l0 kj6 l0 (wrap64 (x3_2 + 1))) else (some false))) = some r := H
       have A20 := Aside0.mk A200
       clear A200
       replace H := Option.bind_eq_some_iff.mp H
       obtain ⟨t126, A210, H⟩ := H
       replace H : (if t126 = true then (semblanceref10_may.l0 kj6 l0 (wrap64 (x3_2 + 1))) else (some false)) = some r := H
       have A21 := Aside0.mk A210
       clear A210
       by_cases c22 : t126 = true
       rotate_left
       ·replace c22 := Bool.eq_false_iff.mpr c22
        subst c22
        have H1 : (some false) = some r := by rw [if_neg (show ¬ (false = true) by decide)] at H; exact H
        clear H
        have H := H1
        clear H1
        obtain rfl := Option.some.inj H
        go_wp2_with (first | (go_at_call 63; (with_reducible refine (semblanceref10_Above.calls kj6 _ _ l0 (wrap64 (x3_2 - 1)) t123 _ ?side1 ?side2 A20.out).mono ?_); (case side1 => repeat (first | exact (Kd.C_below HR0.out HB.out) | (with_reducible refine Kd.C_alloc ?_ _) | (with_reducible refine Kd.C_drewN ?_ _) | (with_reducible refine Kd.C_drew ?_))); (case side2 => exact HC0.out); rintro e w25 ⟨v124, rfl, ho0, hb⟩; have hB_ := bz5_ hb (brw HB.out); have n0_ := Aside0.mk (Kd.R_lower ho0 (below_size hB_)); have n1_ := Aside0.mk (below_step hB_ hb); clear HB; have HO125 := n0_; have HB := n1_; clear n0_ n1_; (try clear hb); (try clear hb2); (try clear hk); (try clear hi); (try clear ho0); obtain ⟨Ao26, co26, eo26⟩ := Kd.R_slice HO125.out; subst eo26) | (go_at_call 97; (with_reducible refine (semblanceref10_In.calls kj6 _ _ t123 ((rd_T55 l0 x3_2).f2) false _ ?side1 ?side2 A21.out).mono ?_); (case side1 => repeat (first | exact (Kd.R_reads' HO125.out).2.2 | (with_reducible refine Kd.C_alloc ?_ _) | (with_reducible refine Kd.C_drewN ?_ _) | (with_reducible refine Kd.C_drew ?_))); (case side2 => exact (Kd.R_reads' HO125.out).2.1); rintro e w' ⟨rfl, ⟨nd, rfl⟩⟩))
        go_ret
        exact ⟨by first | rfl | (simp [errW_none, errW_some] <;> rfl) | (simp [*, errW_none, errW_some] <;> rfl), by repeat (first | (with_reducible first | exact HB.out | apply below_alloc | apply pw_below_drewN | apply below_drew1) | exact HB.out)⟩
       subst c22
       have H1 : (semblanceref10_may.l0 kj6 l0 (wrap64 (x3_2 + 1))) = some r := by rw [if_pos rfl] at H; exact H
       clear H
       have H := H1
       clear H1
       have H' := Aside0.mk H
       clear H
       go_wp2_with (first | (go_at_call 63; (with_reducible refine (semblanceref10_Above.calls kj6 _ _ l0 (wrap64 (x3_2 - 1)) t123 _ ?side1 ?side2 A20.out).mono ?_); (case side1 => repeat (first | exact (Kd.C_below HR0.out HB.out) | (with_reducible refine Kd.C_alloc ?_ _) | (with_reducible refine Kd.C_drewN ?_ _) | (with_reducible refine Kd.C_drew ?_))); (case side2 => exact HC0.out); rintro e w23 ⟨v124, rfl, ho0, hb⟩; have hB_ := bz5_ hb (brw HB.out); have n0_ := Aside0.mk (Kd.R_lower ho0 (below_size hB_)); have n1_ := Aside0.mk (below_step hB_ hb); clear HB; have HO125 := n0_; have HB := n1_; clear n0_ n1_; (try clear hb); (try clear hb2); (try clear hk); (try clear hi); (try clear ho0); obtain ⟨Ao24, co24, eo24⟩ := Kd.R_slice HO125.out; subst eo24) | (go_at_call 97; (with_reducible refine (semblanceref10_In.calls kj6 _ _ t123 ((rd_T55 l0 x3_2).f2) true _ ?side1 ?side2 A21.out).mono ?_); (case side1 => repeat (first | exact (Kd.R_reads' HO125.out).2.2 | (with_reducible refine Kd.C_alloc ?_ _) | (with_reducible refine Kd.C_drewN ?_ _) | (with_reducible refine Kd.C_drew ?_))); (case side2 => exact (Kd.R_reads' HO125.out).2.1); rintro e w' ⟨rfl, ⟨nd, rfl⟩⟩))
       go_roundg kj6
       case measure => have := HJ1.out; have := HK2.out; have := HJ6.out; omega
       case rel => exact ⟨(wrap64 (x3_2 + 1)), (by first | rfl | (simp; done) | (simp [*]; done)), H', ⟨by have := HJ1.out; have := HK2.out; have := HJ6.out; omega⟩, ⟨by repeat (first | (with_reducible first | exact HB.out | apply below_alloc | apply pw_below_drewN | apply below_drew1) | exact HB.out)⟩⟩
/-! ### semblanceref10_Check: function 29 -/
def semblanceref10_Check.l0 : Nat → List (S55) → Int → Option (Int)
  | 0, _, _ => none
  | k + 1, x0, x3 => if x3 < (x0.length : Int) then ((semblanceref10_Above.f k x0 x3).bind fun t128 => (if (t128.length : Int) > 11 then (some 6) else (semblanceref10_Check.l0 k x0 (wrap64 (x3 + 1))))) else (some 0)
def semblanceref10_Check.f (k : Nat) (l0 : List (S55)) : Option (Int) := if (l0.length : Int) > 60 then (some 8) else ((semblanceref10_may.f k l0).bind fun t127 => (if t127 = true then (semblanceref10_Check.l0 k l0 0) else (some 1)))
theorem semblanceref10_Check.mono_l : ∀ k, (∀ y0 y1, LeO (semblanceref10_Check.l0 k y0 y1) (semblanceref10_Check.l0 (k + 1) y0 y1))
  | 0 => fun _ _ r h => by simp [semblanceref10_Check.l0] at h
  | k + 1 => by
    have ih0 := semblanceref10_Check.mono_l k
    · intro y0 y1
      unfold semblanceref10_Check.l0
      repeat' first
      | (with_reducible exact ih0 _ _)
      | (with_reducible exact semblanceref10_Above.mono _ _ _)
      | (with_reducible exact semblanceref10_may.mono _ _)
      | (with_reducible exact LeO.refl _)
      | (with_reducible exact LeO.none _)
      | (with_reducible refine LeO.ite ?_ ?_)
      | (with_reducible refine LeO.bind ?_ (fun _ => ?_))
      | exact ih0 _ _
      | exact semblanceref10_Above.mono _ _ _
      | exact semblanceref10_may.mono _ _
      | exact LeO.none _
      | refine LeO.ite ?_ ?_
      | refine LeO.bind ?_ (fun _ => ?_)
theorem semblanceref10_Check.mono : ∀ a0 k, LeO (semblanceref10_Check.f k a0) (semblanceref10_Check.f (k + 1) a0) := by
  intro a0 k
  have ih0 := semblanceref10_Check.mono_l k
  unfold semblanceref10_Check.f
  repeat' first
      | (with_reducible exact ih0 _ _)
      | (with_reducible exact semblanceref10_Above.mono _ _ _)
      | (with_reducible exact semblanceref10_may.mono _ _)
      | (with_reducible exact LeO.refl _)
      | (with_reducible exact LeO.none _)
      | (with_reducible refine LeO.ite ?_ ?_)
      | (with_reducible refine LeO.bind ?_ (fun _ => ?_))
      | exact ih0 _ _
      | exact semblanceref10_Above.mono _ _ _
      | exact semblanceref10_may.mono _ _
      | exact LeO.none _
      | refine LeO.ite ?_ ?_
      | refine LeO.bind ?_ (fun _ => ?_)
theorem bz6_ {W W2 w : World} (_ : Below W.heap.size W W2) (h : Below w.heap.size w W) : Below w.heap.size w W := h
set_option maxHeartbeats 8000000 in
set_option maxRecDepth 100000 in
theorem semblanceref10_Check.calls (k : Nat) (A0 : Option Addr) (c0 : Nat) (l0 : List (S55)) (r : Int) (w : World) (hr0 : Kd.C k55 w A0 l0.length l0) (hc0 : l0.length ≤ c0) (h : semblanceref10_Check.f k l0 = some r) :
  Calls Try.prog 29 #[.slice A0 l0.length c0] w fun e w' => e = .returned (.int .i64 r) ∧ Below w.heap.size w w' := by
 have HR0 := Aside0.mk hr0
 have HC0 := Aside0.mk hc0
 clear hr0 hc0
 have HB := Aside0.mk (Below.refl w.heap.size w)
 have H : (if (l0.length : Int) > 60 then (some 8) else ((semblanceref10_may.f k l0).bind fun t127 => (if t127 = true then (semblanceref10_Check.l0 k l0 0) else (some 1)))) = some r := h
 clear h
 by_cases c2 : (l0.length : Int) > 60
 ·rw [if_pos c2] at H
  have c2b0 : decide (60 < (l0.length : Int)) = true := decide_eq_true c2
  have c2b1 : decide (60 < l0.length) = true := decide_eq_true (by omega)
  clear c2
  obtain rfl := Option.some.inj H
  go_enter Try.func29, Try.ntmps29
  go_wp2
  go_ret
  exact ⟨by first | rfl | (simp [errW_none, errW_some] <;> rfl) | (simp [*, errW_none, errW_some] <;> rfl), by repeat (first | (with_reducible first | exact HB.out | apply below_alloc | apply pw_below_drewN | apply below_drew1) | exact HB.out)⟩
 rw [if_neg c2] at H
 have c2b0 : decide (60 < (l0.length : Int)) = false := decide_eq_false c2
 have c2b1 : decide (60 < l0.length) = false := decide_eq_false (by omega)
 clear c2
 replace H := Option.bind_eq_some_iff.mp H
 obtain ⟨t127, A30, H⟩ := H
 replace H : (if t127 = true then (semblanceref10_Check.l0 k l0 0) else (some 1)) = some r := H
 have A3 := Aside0.mk A30
 clear A30
 by_cases c4 : t127 = true
 rotate_left
 ·replace c4 := Bool.eq_false_iff.mpr c4
  subst c4
  have H1 : (some 1) = some r := by rw [if_neg (show ¬ (false = true) by decide)] at H; exact H
  clear H
  have H := H1
  clear H1
  obtain rfl := Option.some.inj H
  go_enter Try.func29, Try.ntmps29
  go_wp2_with (first | ((with_reducible refine gate_callee (f := 62) rfl ?_); refine goesL_ (some 8) rfl rfl Try.func62 (by kernel_rfl) rfl #[.slice A0 l0.length c0] rfl (by (try simp only [List.map_toArray, List.map_cons, List.map_nil]); first | done | rfl | (simp only [List.length_drop, List.length_take]; rfl)) ?_; (with_reducible refine (semblanceref10_may.calls k _ _ l0 false _ ?side1 ?side2 A3.out).mono ?_); (case side1 => repeat (first | exact HR0.out | (with_reducible refine Kd.C_alloc ?_ _) | (with_reducible refine Kd.C_drewN ?_ _) | (with_reducible refine Kd.C_drew ?_))); (case side2 => exact HC0.out); rintro e w13 ⟨rfl, hb⟩; refine ⟨_, rfl, ?_⟩; have n0_ := Aside0.mk (below_step (brw HB.out) hb); clear HB; have HB := n0_; clear n0_; (try clear hb); (try clear hb2); (try clear hk); (try clear hi)))
  go_ret
  exact ⟨by first | rfl | (simp [errW_none, errW_some] <;> rfl) | (simp [*, errW_none, errW_some] <;> rfl), by repeat (first | (with_reducible first | exact HB.out | apply below_alloc | apply pw_below_drewN | apply below_drew1) | exact HB.out)⟩

 subst c4
 have H1 : (semblanceref10_Check.l0 k l0 0) = some r := by rw [if_pos rfl] at H; exact H
 clear H
 have H := H1
 clear H1
 have H' := Aside0.mk H
 clear H
 go_enter Try.func29, Try.ntmps29
 go_wp2_with (first | ((with_reducible refine gate_callee (f := 62) rfl ?_); refine goesL_ (some 8) rfl rfl Try.func62 (by kernel_rfl) rfl #[.slice A0 l0.length c0] rfl (by (try simp only [List.map_toArray, List.map_cons, List.map_nil]); first | done | rfl | (simp only [List.length_drop, List.length_take]; rfl)) ?_; (with_reducible refine (semblanceref10_may.calls k _ _ l0 true _ ?side1 ?side2 A3.out).mono ?_); (case side1 => repeat (first | exact HR0.out | (with_reducible refine Kd.C_alloc ?_ _) | (with_reducible refine Kd.C_drewN ?_ _) | (with_reducible refine Kd.C_drew ?_))); (case side2 => exact HC0.out); rintro e w5 ⟨rfl, hb⟩; refine ⟨_, rfl, ?_⟩; have n0_ := Aside0.mk (below_step (brw HB.out) hb); clear HB; have HB := n0_; clear n0_; (try clear hb); (try clear hb2); (try clear hk); (try clear hi)))
 go_loopg [3] k (fun kq v3 w' => ∃ (x3_1 : Int), v3 = .int .i64 x3_1 ∧ Aside0 (semblanceref10_Check.l0 kq l0 x3_1 = some r) ∧ Aside0 (kq ≤ k) ∧ Aside0 (Below w.heap.size w w'))
 case atStart => exact ⟨(0), (by first | rfl | (simp; done) | (simp [*]; done)), H', ⟨Nat.le_refl _⟩, ⟨by repeat (first | (with_reducible first | exact HB.out | apply below_alloc | apply pw_below_drewN | apply below_drew1) | exact HB.out)⟩⟩
 case round =>
  clear H'
  try clear c2
  try clear c2b0
  try clear c2b1
  try clear p2
  try clear c4
  obtain ⟨x3_1, rfl, HA, HK1, HB⟩ := hrel
  cases gk with
  | zero => exact absurd HA.out (by simp [semblanceref10_Check.l0])
  | succ k1 =>
   have H := HA.out
   clear HA
   simp only [semblanceref10_Check.l0] at H
   by_cases c6 : x3_1 < (l0.length : Int)
   rotate_left
   ·rw [if_neg c6] at H
    have c6b0 : decide (x3_1 < (l0.length : Int)) = false := decide_eq_false c6
    clear c6
    obtain rfl := Option.some.inj H
    go_wp2
    go_ret
    exact ⟨by first | rfl | (simp [errW_none, errW_some] <;> rfl) | (simp [*, errW_none, errW_some] <;> rfl), by repeat (first | (with_reducible first | exact HB.out | apply below_alloc | apply pw_below_drewN | apply below_drew1) | exact HB.out)⟩
   rw [if_pos c6] at H
   have c6b0 : decide (x3_1 < (l0.length : Int)) = true := decide_eq_true c6
   clear c6
   replace H := Option.bind_eq_some_iff.mp H
   obtain ⟨t128, A70, H⟩ := H
   replace H : (if (t128.length : Int) > 11 then (some 6) else (semblanceref10_Check.l0 k1 l0 (wrap64 (x3_1 + 1)))) = some r := H
   have A7 := Aside0.mk A70
   clear A70
   by_cases c8 : (t128.length : Int) > 11
   ·rw [if_pos c8] at H
    have c8b0 : decide (11 < (t128.length : Int)) = true := decide_eq_true c8
    have c8b1 : decide (11 < t128.length) = true := decide_eq_true (by omega)
    clear c8
    obtain rfl := Option.some.inj H
    go_wp2_with (first | ((with_reducible refine gate_callee (f := 63) rfl ?_); refine goesL_ (some 18) rfl rfl Try.func63 (by kernel_rfl) rfl #[.slice A0 l0.length c0, .int .i64 x3_1] rfl (by (try simp only [List.map_toArray, List.map_cons, List.map_nil]); first | done | rfl | (simp only [List.length_drop, List.length_take]; rfl)) ?_; (with_reducible refine (semblanceref10_Above.calls k1 _ _ l0 x3_1 t128 _ ?side1 ?side2 A7.out).mono ?_); (case side1 => repeat (first | exact (Kd.C_below HR0.out HB.out) | (with_reducible refine Kd.C_alloc ?_ _) | (with_reducible refine Kd.C_drewN ?_ _) | (with_reducible refine Kd.C_drew ?_))); (case side2 => exact HC0.out); rintro e w9 ⟨v129, rfl, ho0, hb⟩; have hB_ := bz6_ hb (brw HB.out); refine ⟨_, rfl, ?_⟩; have n0_ := Aside0.mk (Kd.R_lower ho0 (below_size hB_)); have n1_ := Aside0.mk (below_step hB_ hb); clear HB; have HO130 := n0_; have HB := n1_; clear n0_ n1_; (try clear hb); (try clear hb2); (try clear hk); (try clear hi); (try clear ho0); obtain ⟨Ao10, co10, eo10⟩ := Kd.R_slice HO130.out; subst eo10))
    go_ret
    exact ⟨by first | rfl | (simp [errW_none, errW_some] <;> rfl) | (simp [*, errW_none, errW_some] <;> rfl), by repeat (first | (with_reducible first | exact HB.out | apply below_alloc | apply pw_below_drewN | apply below_drew1) | exact HB.out)⟩
   rw [if_neg c8] at H
   have c8b0 : decide (11 < (t128.length : Int)) = false := decide_eq_false c8
   have c8b1 : decide (11 < t128.length) = false := decide_eq_false (by omega)
   clear c8
   have H' := Aside0.mk H
   clear H
   go_wp2_with (first | ((with_reducible refine gate_callee (f := 63) rfl ?_); refine goesL_ (some 18) rfl rfl Try.func63 (by kernel_rfl) rfl #[.slice A0 l0.length c0, .int .i64 x3_1] rfl (by (try simp only [List.map_toArray, List.map_cons, List.map_nil]); first | done | rfl | (simp only [List.length_drop, List.length_take]; rfl)) ?_; (with_reducible refine (semblanceref10_Above.calls k1 _ _ l0 x3_1 t128 _ ?side1 ?side2 A7.out).mono ?_); (case side1 => repeat (first | exact (Kd.C_below HR0.out HB.out) | (with_reducible refine Kd.C_alloc ?_ _) | (with_reducible refine Kd.C_drewN ?_ _) | (with_reducible refine Kd.C_drew ?_))); (case side2 => exact HC0.out); rintro e w11 ⟨v129, rfl, ho0, hb⟩; have hB_ := bz6_ hb (brw HB.out); refine ⟨_, rfl, ?_⟩; have n0_ := Aside0.mk (Kd.R_lower ho0 (below_size hB_)); have n1_ := Aside0.mk (below_step hB_ hb); clear HB; have HO130 := n0_; have HB := n1_; clear n0_ n1_; (try clear hb); (try clear hb2); (try clear hk); (try clear hi); (try clear ho0); obtain ⟨Ao12, co12, eo12⟩ := Kd.R_slice HO130.out; subst eo12))
   go_roundg k1
   case measure => have := HK1.out; omega
   case rel => exact ⟨(wrap64 (x3_1 + 1)), (by first | rfl | (simp; done) | (simp [*]; done)), H', ⟨by have := HK1.out; omega⟩, ⟨by repeat (first | (with_reducible first | exact HB.out | apply below_alloc | apply pw_below_drewN | apply below_drew1) | exact HB.out)⟩⟩
/-! ### semblanceref12_small: function 30 -/
/-- do all of a list answer true? Each of them must answer -/
def allO {α : Type} (l : List α) (g : α → Option Bool) : Option Bool := if (l.all fun x => (g x).isSome) = true then some (l.all fun x => (g x).getD false) else none
theorem allO_mono {α : Type} {l : List α} {g g' : α → Option Bool} (h : ∀ x, LeO (g x) (g' x)) : LeO (allO l g) (allO l g') := by
  intro r hr
  unfold allO at hr ⊢
  split at hr
  case isFalse => cases hr
  case isTrue hall =>
    have h1 := List.all_eq_true.1 hall
    have h2 : ∀ x ∈ l, g' x = g x := fun x hx => by
      obtain ⟨v, hv⟩ := Option.isSome_iff_exists.1 (h1 x hx)
      rw [hv]
      exact h x v hv
    rw [if_pos (List.all_eq_true.2 fun x hx => by rw [h2 x hx]; exact h1 x hx), ← hr]
    congr 1
    refine Bool.eq_iff_iff.2 ?_
    simp only [List.all_eq_true]
    exact ⟨fun h3 x hx => by rw [← h2 x hx]; exact h3 x hx, fun h3 x hx => by rw [h2 x hx]; exact h3 x hx⟩
theorem allO_get {α : Type} {l : List α} {g : α → Option Bool} {r : Bool} (h : allO l g = some r) (z : α) (i : Nat) (hi : i < l.length) : ∃ v, g (l.getD i z) = some v ∧ (v = false → r = false) := by
  unfold allO at h
  split at h
  case isFalse => cases h
  case isTrue hall =>
    have hm : l.getD i z ∈ l := by simp only [List.getD, List.getElem?_eq_getElem hi, Option.getD_some]; exact List.getElem_mem hi
    obtain ⟨v, hv⟩ := Option.isSome_iff_exists.1 (List.all_eq_true.1 hall _ hm)
    refine ⟨v, hv, fun e => ?_⟩
    rw [← Option.some.inj h]
    exact List.all_eq_false.2 ⟨_, hm, by rw [hv, e]; decide⟩
theorem allO_true {α : Type} {l : List α} {g : α → Option Bool} {r : Bool} (h : allO l g = some r) (z : α) (ht : ∀ i, i < l.length → g (l.getD i z) = some true) : r = true := by
  unfold allO at h
  split at h
  case isFalse => cases h
  case isTrue hall =>
    rw [← Option.some.inj h]
    refine List.all_eq_true.2 fun x hx => ?_
    obtain ⟨i, hi, rfl⟩ := List.getElem_of_mem hx
    have := ht i hi
    simp only [List.getD, List.getElem?_eq_getElem hi, Option.getD_some] at this
    rw [this]
    rfl
/-- is a number small? -/
def semblanceref12_small.f (a0 : Int) : Option Bool := some (decide (a0 ≥ (-1000)) && decide (a0 ≤ 1000))
set_option maxHeartbeats 2000000 in
theorem semblanceref12_small.calls (a0 : Int) (r : Bool) (w : World) (h : semblanceref12_small.f a0 = some r) :
    Calls Try.prog 30 #[.int .i64 a0] w fun e w' => e = .returned (.bool r) ∧ Drawn0 w w' := by
  obtain rfl := Option.some.inj h
  clear h
  go_enter Try.func30, Try.ntmps30
  cases h1 : decide (a0 ≥ (-1000)) <;>
    (go_wp2
     go_ret
     exact ⟨by simp, by repeat (first | exact Drawn0.refl _ | apply Drawn0.step)⟩)


/-! ### semblanceref05_Arity: function 95 -/
def semblanceref05_Arity.f (a0 : Int) : Option (Int) := if a0 < 1 then (some (-1)) else (if a0 > 20 then (some (-1)) else ((some (([0, 0, 0, 1, 2, 2, 2, 2, 2, 0, 0, 0, 1, 2, 2, 2, 2, 2, 2, 2, 2] : List Int) : List Int)).bind fun y131 => (if 0 ≤ a0 then (if a0 < (y131.length : Int) then (some (rd y131 a0)) else (none)) else (none))))
set_option maxHeartbeats 8000000 in
set_option maxRecDepth 100000 in
theorem semblanceref05_Arity.calls (a0 : Int) (r : Int) (w : World) (h : semblanceref05_Arity.f a0 = some r) :
  Calls Try.prog 95 #[.int .i64 a0] w fun e w' => e = .returned (.int .i64 r) ∧ Below w.heap.size w w' := by
 have HB := Aside0.mk (Below.refl w.heap.size w)
 have H : (if a0 < 1 then (some (-1)) else (if a0 > 20 then (some (-1)) else ((some (([0, 0, 0, 1, 2, 2, 2, 2, 2, 0, 0, 0, 1, 2, 2, 2, 2, 2, 2, 2, 2] : List Int) : List Int)).bind fun y131 => (if 0 ≤ a0 then (if a0 < (y131.length : Int) then (some (rd y131 a0)) else (none)) else (none))))) = some r := h
 clear h
 by_cases c2 : a0 < 1
 ·rw [if_pos c2] at H
  have c2b0 : decide (a0 < 1) = true := decide_eq_true c2
  clear c2
  obtain rfl := Option.some.inj H
  go_enter Try.func95, Try.ntmps95
  go_wp2
  go_ret
  exact ⟨by first | rfl | (simp [errW_none, errW_some] <;> rfl) | (simp [*, errW_none, errW_some] <;> rfl), by repeat (first | (with_reducible first | exact HB.out | apply below_alloc | apply pw_below_drewN | apply below_drew1) | exact HB.out)⟩
 rw [if_neg c2] at H
 have c2b0 : decide (a0 < 1) = false := decide_eq_false c2
 clear c2
 by_cases c3 : a0 > 20
 ·rw [if_pos c3] at H
  have c3b0 : decide (20 < a0) = true := decide_eq_true c3
  clear c3
  obtain rfl := Option.some.inj H
  go_enter Try.func95, Try.ntmps95
  go_wp2
  go_ret
  exact ⟨by first | rfl | (simp [errW_none, errW_some] <;> rfl) | (simp [*, errW_none, errW_some] <;> rfl), by repeat (first | (with_reducible first | exact HB.out | apply below_alloc | apply pw_below_drewN | apply below_drew1) | exact HB.out)⟩
 rw [if_neg c3] at H
 have c3b0 : decide (20 < a0) = false := decide_eq_false c3
 clear c3
 obtain ⟨y131, hy131⟩ : ∃ y_ : List Int, y_ = (([0, 0, 0, 1, 2, 2, 2, 2, 2, 0, 0, 0, 1, 2, 2, 2, 2, 2, 2, 2, 2] : List Int)) := ⟨_, rfl⟩
 replace H : (if 0 ≤ a0 then (if a0 < (y131.length : Int) then (some (rd y131 a0)) else (none)) else (none)) = some r := by first | (rw [hy131]; with_reducible exact H) | (have H2_ := (Option.bind_some _ _).symm.trans H; rw [hy131]; with_reducible exact H2_) | (have H2_ := (Option.bind_some _ _).symm.trans H; with_reducible exact H2_) | with_reducible exact H | (rw [hy131]; exact H) | exact H
 have Ny131 := Aside0.mk hy131
 clear hy131
 by_cases c4 : 0 ≤ a0
 rotate_left
 ·rw [if_neg c4] at H
  exact absurd H (by simp)

 rw [if_pos c4] at H
 have c4b0 : decide (0 ≤ a0) = true := decide_eq_true c4
 clear c4
 by_cases c5 : a0 < (y131.length : Int)
 rotate_left
 ·rw [if_neg c5] at H
  exact absurd H (by simp)
 rw [if_pos c5] at H
 have c5b0 : decide (a0 < (y131.length : Int)) = true := decide_eq_true c5
 clear c5
 obtain rfl := Option.some.inj H
 go_enter Try.func95, Try.ntmps95
 go_wp2_with (first | ((with_reducible refine gate_dst (N := 9) rfl ?_); refine Kd.R_lit (Kd.int .i64) _ 3 ?hg (N := 9) ?hd (xs := ([0, 0, 0, 1, 2, 2, 2, 2, 2, 0, 0, 0, 1, 2, 2, 2, 2, 2, 2, 2, 2] : List Int)) (inner := [.int .i64 0, .int .i64 0, .int .i64 0, .int .i64 1, .int .i64 2, .int .i64 2, .int .i64 2, .int .i64 2, .int .i64 2, .int .i64 0, .int .i64 0, .int .i64 0, .int .i64 1, .int .i64 2, .int .i64 2, .int .i64 2, .int .i64 2, .int .i64 2, .int .i64 2, .int .i64 2, .int .i64 2]) (ok := fun _ => True) (okp := fun _ => True) ?hr ?hp (fun _ hk => hk) trivial (Below.refl _ _) (Nat.le_refl _) (by simp) ?_; (case hd => rfl); (case hg => rfl); (case hr => first | (go_simp; done) | (go_simp; rfl)); (case hp => exact (Reps.one (show Kd.M (Kd.int .i64) _ _ _ 0 [.int .i64 0] from rfl) (Reps.one (show Kd.M (Kd.int .i64) _ _ _ 0 [.int .i64 0] from rfl) (Reps.one (show Kd.M (Kd.int .i64) _ _ _ 0 [.int .i64 0] from rfl) (Reps.one (show Kd.M (Kd.int .i64) _ _ _ 1 [.int .i64 1] from rfl) (Reps.one (show Kd.M (Kd.int .i64) _ _ _ 2 [.int .i64 2] from rfl) (Reps.one (show Kd.M (Kd.int .i64) _ _ _ 2 [.int .i64 2] from rfl) (Reps.one (show Kd.M (Kd.int .i64) _ _ _ 2 [.int .i64 2] from rfl) (Reps.one (show Kd.M (Kd.int .i64) _ _ _ 2 [.int .i64 2] from rfl) (Reps.one (show Kd.M (Kd.int .i64) _ _ _ 2 [.int .i64 2] from rfl) (Reps.one (show Kd.M (Kd.int .i64) _ _ _ 0 [.int .i64 0] from rfl) (Reps.one (show Kd.M (Kd.int .i64) _ _ _ 0 [.int .i64 0] from rfl) (Reps.one (show Kd.M (Kd.int .i64) _ _ _ 0 [.int .i64 0] from rfl) (Reps.one (show Kd.M (Kd.int .i64) _ _ _ 1 [.int .i64 1] from rfl) (Reps.one (show Kd.M (Kd.int .i64) _ _ _ 2 [.int .i64 2] from rfl) (Reps.one (show Kd.M (Kd.int .i64) _ _ _ 2 [.int .i64 2] from rfl) (Reps.one (show Kd.M (Kd.int .i64) _ _ _ 2 [.int .i64 2] from rfl) (Reps.one (show Kd.M (Kd.int .i64) _ _ _ 2 [.int .i64 2] from rfl) (Reps.one (show Kd.M (Kd.int .i64) _ _ _ 2 [.int .i64 2] from rfl) (Reps.one (show Kd.M (Kd.int .i64) _ _ _ 2 [.int .i64 2] from rfl) (Reps.one (show Kd.M (Kd.int .i64) _ _ _ 2 [.int .i64 2] from rfl) (Reps.one (show Kd.M (Kd.int .i64) _ _ _ 2 [.int .i64 2] from rfl) (Reps.none _ _))))))))))))))))))))))); intro v132 w6 ho7 hb hg_ hnew_; clear hg_ hnew_; (first | rw [← Ny131.out] at ho7 | (simp only [Int.reduceToNat] at ho7; rw [← Ny131.out] at ho7)); have n0_ := Aside0.mk (Kd.R_lower ho7 (below_size (brw HB.out))); have n1_ := Aside0.mk (below_step (brw HB.out) hb); clear HB; have HO133 := n0_; have HB := n1_; clear n0_ n1_; clear hb ho7; obtain ⟨Ao8, co8, eo8⟩ := Kd.R_slice HO133.out; subst eo8; have p134 : 0 ≤ (a0 : Int) := of_decide_eq_true (by first | (with_reducible assumption) | assumption); have q134 : a0 < (y131.length : Int) := of_decide_eq_true (by first | (with_reducible assumption) | assumption); obtain ⟨ad134, e134, hx134_0⟩ := Kd.at_int (Kd.R_reads' HO133.out).2.2 a0 p134 q134; cases e134; replace p134 := eq_true p134; replace q134 := eq_true q134))
 go_ret
 exact ⟨by first | rfl | (simp [errW_none, errW_some] <;> rfl) | (simp [*, errW_none, errW_some] <;> rfl), by repeat (first | (with_reducible first | exact HB.out | apply below_alloc | apply pw_below_drewN | apply below_drew1) | exact HB.out)⟩
end Go.Proofs.Ytoeioigpkfgppaa.XR
