-- written by wip/xprint.py out of the translation
import Derived.Test.YtbiegkifpkeaoaaXSp0
import Derived.Test.YtbiegkifpkeaoaaXSp3
namespace Go.Proofs.Ytbiegkifpkeaoaa.XS
open Go.RowKit Go.Proofs.YtbiegkifpkeaoaaW.PrintWords Go.Proofs.YtbiegkifpkeaoaaW.PrintLast Go.Proofs.YtbiegkifpkeaoaaW.PrintMore
attribute [local go_sem] max2_int min2_int max_two min_two max_three min_three max_four min_four   -- for this text's walks alone
set_option linter.unusedVariables false
set_option linter.unusedSimpArgs false

/-! ### semblanceref10_may: function 83 -/
mutual
def semblanceref10_may.j0 : Nat → List (S102) → Bool → Option (Bool)
  | 0, _, _ => none
  | k + 1, x0, x14 => if x14 = true then (some false) else (semblanceref10_may.l0 k x0 0)
def semblanceref10_may.l0 : Nat → List (S102) → Int → Option (Bool)
  | 0, _, _ => none
  | k + 1, x0, x3 => if x3 < (x0.length : Int) then (if 0 ≤ x3 then (if ((rd_T102 x0 x3).f1) < 1 then (semblanceref10_may.j2 k x0 x3 true) else (semblanceref10_may.j2 k x0 x3 (decide (((rd_T102 x0 x3).f1) > 3)))) else (none)) else (some true)
def semblanceref10_may.j2 : Nat → List (S102) → Int → Bool → Option (Bool)
  | 0, _, _, _ => none
  | k + 1, x0, x3, x34 => if x34 = true then (some false) else (if x3 = 0 then (semblanceref10_may.l0 k x0 (wrap64 (x3 + 1))) else (if 0 ≤ x3 then (if x3 < (x0.length : Int) then (if ((rd_T102 x0 x3).f2) < 0 then (some false) else (if ((rd_T102 x0 x3).f2) ≥ x3 then (some false) else (if 0 ≤ ((rd_T102 x0 x3).f2) then (if ((rd_T102 x0 x3).f2) < (x0.length : Int) then (if ((rd_T102 x0 ((rd_T102 x0 x3).f2)).f1) = 1 then (some false) else (if ((rd_T102 x0 x3).f2) = (wrap64 (x3 - 1)) then (semblanceref10_may.l0 k x0 (wrap64 (x3 + 1))) else ((semblanceref10_Above.f k x0 (wrap64 (x3 - 1))).bind fun t168 => ((semblanceref10_In.f k t168 ((rd_T102 x0 x3).f2)).bind fun t171 => (if t171 = true then (semblanceref10_may.l0 k x0 (wrap64 (x3 + 1))) else (some false)))))) else (none)) else (none)))) else (none)) else (none)))
end
def semblanceref10_may.f (k : Nat) (l0 : List (S102)) : Option (Bool) := if (l0.length : Int) < 1 then (semblanceref10_may.j0 k l0 true) else (if 0 < (l0.length : Int) then (semblanceref10_may.j0 k l0 (((rd_T102 l0 0).f2) != (-1))) else (none))
theorem semblanceref10_may.mono_l : ∀ k, (∀ y0 y1, LeO (semblanceref10_may.j0 k y0 y1) (semblanceref10_may.j0 (k + 1) y0 y1)) ∧ (∀ y0 y1, LeO (semblanceref10_may.l0 k y0 y1) (semblanceref10_may.l0 (k + 1) y0 y1)) ∧ (∀ y0 y1 y2, LeO (semblanceref10_may.j2 k y0 y1 y2) (semblanceref10_may.j2 (k + 1) y0 y1 y2))
  | 0 => ⟨fun _ _ r h => by simp [semblanceref10_may.j0] at h, fun _ _ r h => by simp [semblanceref10_may.l0] at h, fun _ _ _ r h => by simp [semblanceref10_may.j2] at h⟩
  | k + 1 => by
    obtain ⟨ih0, ih1, ih2⟩ := semblanceref10_may.mono_l k
    refine ⟨?_, ?_, ?_⟩
    · intro y0 y1
      unfold semblanceref10_may.j0
      repeat' first
      | (with_reducible exact ih0 _ _)
      | (with_reducible exact ih1 _ _)
      | (with_reducible exact ih2 _ _ _)
      | (with_reducible exact semblanceref10_Above.mono _ _ _)
      | (with_reducible exact semblanceref10_In.mono _ _ _)
      | (with_reducible exact LeO.refl _)
      | (with_reducible exact LeO.none _)
      | (with_reducible refine LeO.ite ?_ ?_)
      | (with_reducible refine LeO.bind ?_ (fun _ => ?_))
      | exact ih0 _ _
      | exact ih1 _ _
      | exact ih2 _ _ _
      | exact semblanceref10_Above.mono _ _ _
      | exact semblanceref10_In.mono _ _ _
      | exact LeO.none _
      | refine LeO.ite ?_ ?_
      | refine LeO.bind ?_ (fun _ => ?_)
    · intro y0 y1
      unfold semblanceref10_may.l0
      repeat' first
      | (with_reducible exact ih0 _ _)
      | (with_reducible exact ih1 _ _)
      | (with_reducible exact ih2 _ _ _)
      | (with_reducible exact semblanceref10_Above.mono _ _ _)
      | (with_reducible exact semblanceref10_In.mono _ _ _)
      | (with_reducible exact LeO.refl _)
      | (with_reducible exact LeO.none _)
      | (with_reducible refine LeO.ite ?_ ?_)
      | (with_reducible refine LeO.bind ?_ (fun _ => ?_))
      | exact ih0 _ _
      | exact ih1 _ _
      | exact ih2 _ _ _
      | exact semblanceref10_Above.mono _ _ _
      | exact semblanceref10_In.mono _ _ _
      | exact LeO.none _
      | refine LeO.ite ?_ ?_
      | refine LeO.bind ?_ (fun _ => ?_)
    · intro y0 y1 y2
      unfold semblanceref10_may.j2
      repeat' first
      | (with_reducible exact ih0 _ _)
      | (with_reducible exact ih1 _ _)
      | (with_reducible exact ih2 _ _ _)
      | (with_reducible exact semblanceref10_Above.mono _ _ _)
      | (with_reducible exact semblanceref10_In.mono _ _ _)
      | (with_reducible exact LeO.refl _)
      | (with_reducible exact LeO.none _)
      | (with_reducible refine LeO.ite ?_ ?_)
      | (with_reducible refine LeO.bind ?_ (fun _ => ?_))
      | exact ih0 _ _
      | exact ih1 _ _
      | exact ih2 _ _ _
      | exact semblanceref10_Above.mono _ _ _
      | exact semblanceref10_In.mono _ _ _
      | exact LeO.none _
      | refine LeO.ite ?_ ?_
      | refine LeO.bind ?_ (fun _ => ?_)
theorem semblanceref10_may.mono : ∀ a0 k, LeO (semblanceref10_may.f k a0) (semblanceref10_may.f (k + 1) a0) := by
  intro a0 k
  obtain ⟨ih0, ih1, ih2⟩ := semblanceref10_may.mono_l k
  unfold semblanceref10_may.f
  repeat' first
      | (with_reducible exact ih0 _ _)
      | (with_reducible exact ih1 _ _)
      | (with_reducible exact ih2 _ _ _)
      | (with_reducible exact semblanceref10_Above.mono _ _ _)
      | (with_reducible exact semblanceref10_In.mono _ _ _)
      | (with_reducible exact LeO.refl _)
      | (with_reducible exact LeO.none _)
      | (with_reducible refine LeO.ite ?_ ?_)
      | (with_reducible refine LeO.bind ?_ (fun _ => ?_))
      | exact ih0 _ _
      | exact ih1 _ _
      | exact ih2 _ _ _
      | exact semblanceref10_Above.mono _ _ _
      | exact semblanceref10_In.mono _ _ _
      | exact LeO.none _
      | refine LeO.ite ?_ ?_
      | refine LeO.bind ?_ (fun _ => ?_)
set_option maxHeartbeats 8000000 in
set_option maxRecDepth 100000 in
theorem semblanceref10_may.calls (k : Nat) (A0 : Option Addr) (c0 : Nat) (l0 : List (S102)) (r : Bool) (w : World) (hr0 : Kd.C k102 w A0 l0.length l0) (hc0 : l0.length ≤ c0) (h : semblanceref10_may.f k l0 = some r) :
    Calls Try.prog 83 #[.slice A0 l0.length c0] w fun e w' => e = .returned (.bool r) ∧ Below w.heap.size w w' := by
  have HR0 := Aside0.mk hr0
  have HC0 := Aside0.mk hc0
  clear hr0 hc0
  have HB := Aside0.mk (Below.refl w.heap.size w)
  have H : (if (l0.length : Int) < 1 then (semblanceref10_may.j0 k l0 true) else (if 0 < (l0.length : Int) then (semblanceref10_may.j0 k l0 (((rd_T102 l0 0).f2) != (-1))) else (none))) = some r := h
  clear h
  have HC2 := Aside0.mk H
  clear H
  go_enter Try.func83, Try.ntmps83
  go_upto_region 1 with (fail)
  go_cut [14] (fun v14 wc => ∃ (kq : Nat) (x14_1 : Bool), v14 = .bool x14_1 ∧ Aside0 (semblanceref10_may.j0 kq l0 x14_1 = some r) ∧ Aside0 (kq ≤ k) ∧ Aside0 (Below w.heap.size w wc))
  case first =>
    have H := HC2.out
    clear HC2
    by_cases c3 : (l0.length : Int) < 1
    · rw [if_pos c3] at H
      have c3b0 : decide ((l0.length : Int) < 1) = true := decide_eq_true c3
      have c3b1 : decide (l0.length < 1) = true := decide_eq_true (by omega)
      clear c3
      (first | rw [c3b0] | (simp only [i64_w, i32_w]; rw [c3b0]) | skip)
      have H' := Aside0.mk H
      clear H
      go_wp2
      go_meet
      case rel => exact ⟨_, (true), (by first | rfl | (simp; done) | (simp [*]; done)), H', ⟨by first | omega | exact Nat.le_refl _⟩, ⟨by repeat (first | (with_reducible first | exact HB.out | apply below_alloc | apply pw_below_drewN | apply below_drew1) | exact HB.out)⟩⟩
    · rw [if_neg c3] at H
      have c3b0 : decide ((l0.length : Int) < 1) = false := decide_eq_false c3
      have c3b1 : decide (l0.length < 1) = false := decide_eq_false (by omega)
      clear c3
      (first | rw [c3b0] | (simp only [i64_w, i32_w]; rw [c3b0]) | skip)
      by_cases c4 : 0 < (l0.length : Int)
      · rw [if_pos c4] at H
        have c4b0 : decide (0 < (l0.length : Int)) = true := decide_eq_true c4
        have c4b1 : decide (0 < l0.length) = true := decide_eq_true (by omega)
        clear c4
        have H' := Aside0.mk H
        clear H
        have p163 : 0 ≤ (0 : Int) := (by omega)
        have q163 : 0 < (l0.length : Int) := of_decide_eq_true (by first | (with_reducible assumption) | assumption)
        obtain ⟨ad163, A163_3, c163_3, A163_4, c163_4, A163_5, c163_5, e163, hx163_0, hx163_1, hx163_2, hx163_3, hx163_4, hx163_5, hl163_3, hi163_3, hl163_4, hi163_4, hl163_5, hi163_5⟩ := at_T102 HR0.out 0 p163 q163
        cases e163
        have qi163 : (0 < l0.length) = True := eq_true (by omega)
        (try rw [show ((0 : Int)).toNat = 0 from rfl] at hx163_0)
        (try rw [show 0 * 6 = 0 from rfl] at hx163_0)
        (try rw [Addr.add_zero'] at hx163_0)
        (try rw [show ((0 : Int)).toNat = 0 from rfl] at hx163_1)
        (try rw [show 0 * 6 = 0 from rfl] at hx163_1)
        (try rw [Addr.add_zero'] at hx163_1)
        (try rw [show ((0 : Int)).toNat = 0 from rfl] at hx163_2)
        (try rw [show 0 * 6 = 0 from rfl] at hx163_2)
        (try rw [Addr.add_zero'] at hx163_2)
        (try rw [show ((0 : Int)).toNat = 0 from rfl] at hx163_3)
        (try rw [show 0 * 6 = 0 from rfl] at hx163_3)
        (try rw [Addr.add_zero'] at hx163_3)
        (try rw [show ((0 : Int)).toNat = 0 from rfl] at hx163_4)
        (try rw [show 0 * 6 = 0 from rfl] at hx163_4)
        (try rw [Addr.add_zero'] at hx163_4)
        (try rw [show ((0 : Int)).toNat = 0 from rfl] at hx163_5)
        (try rw [show 0 * 6 = 0 from rfl] at hx163_5)
        (try rw [Addr.add_zero'] at hx163_5)
        replace hx163_0 := (HB.out.cell (World.block_lt_of_cell? w _ hx163_0)).trans hx163_0
        replace hx163_1 := (HB.out.cell (World.block_lt_of_cell? w _ hx163_1)).trans hx163_1
        replace hx163_2 := (HB.out.cell (World.block_lt_of_cell? w _ hx163_2)).trans hx163_2
        replace hx163_3 := (HB.out.cell (World.block_lt_of_cell? w _ hx163_3)).trans hx163_3
        replace hx163_4 := (HB.out.cell (World.block_lt_of_cell? w _ hx163_4)).trans hx163_4
        replace hx163_5 := (HB.out.cell (World.block_lt_of_cell? w _ hx163_5)).trans hx163_5
        have HR163_3 := Aside0.mk hi163_3
        have HC163_3 := Aside0.mk hl163_3
        clear hi163_3 hl163_3
        have HR163_4 := Aside0.mk hi163_4
        have HC163_4 := Aside0.mk hl163_4
        clear hi163_4 hl163_4
        have HR163_5 := Aside0.mk hi163_5
        have HC163_5 := Aside0.mk hl163_5
        clear hi163_5 hl163_5
        replace p163 := eq_true p163
        replace q163 := eq_true q163
        go_wp2
        go_meet
        case rel => exact ⟨_, ((((rd_T102 l0 0).f2) != (-1))), (by first | rfl | (simp; done) | (simp [*]; done)), H', ⟨by first | omega | exact Nat.le_refl _⟩, ⟨by repeat (first | (with_reducible first | exact HB.out | apply below_alloc | apply pw_below_drewN | apply below_drew1) | exact HB.out)⟩⟩
      · rw [if_neg c4] at H
        exact absurd H (by simp)
  case rest =>
    clear HC2
    try clear c1
    try clear p1
    try clear q1
    try clear hx1
    try clear qi1
    try clear p2
    try clear c3
    try clear c3b0
    try clear c3b1
    try clear c4
    try clear c4b0
    try clear c4b1
    try clear hx163_0
    try clear hx163_1
    try clear hx163_2
    try clear hx163_3
    try clear hx163_4
    try clear hx163_5
    try clear p163
    try clear q163
    obtain ⟨kq, x14_1, rfl, HA, HJ1, HB⟩ := hcut
    cases kq with
    | zero => exact absurd HA.out (by simp [semblanceref10_may.j0])
    | succ kj1 =>
      have H := HA.out
      clear HA
      simp only [semblanceref10_may.j0] at H
      by_cases c5 : x14_1 = true
      · subst c5
        have H1 : (some false) = some r := by rw [if_pos rfl] at H; exact H
        clear H
        have H := H1
        clear H1
        obtain rfl := Option.some.inj H
        go_wp2
        go_ret
        exact ⟨by first | rfl | (simp [errW_none, errW_some] <;> rfl) | (simp [*, errW_none, errW_some] <;> rfl), by repeat (first | (with_reducible first | exact HB.out | apply below_alloc | apply pw_below_drewN | apply below_drew1) | exact HB.out)⟩
      · replace c5 := Bool.eq_false_iff.mpr c5
        subst c5
        have H1 : (semblanceref10_may.l0 kj1 l0 0) = some r := by rw [if_neg (show ¬ (false = true) by decide)] at H; exact H
        clear H
        have H := H1
        clear H1
        have H' := Aside0.mk H
        clear H
        go_wp2
        go_loopg [3] kj1 (fun kq v3 w' => ∃ (x3_2 : Int), v3 = .int .i64 x3_2 ∧ Aside0 (semblanceref10_may.l0 kq l0 x3_2 = some r) ∧ Aside0 (kq ≤ kj1) ∧ Aside0 (Below w.heap.size w w'))
        case atStart => exact ⟨(0), (by first | rfl | (simp; done) | (simp [*]; done)), H', ⟨Nat.le_refl _⟩, ⟨by repeat (first | (with_reducible first | exact HB.out | apply below_alloc | apply pw_below_drewN | apply below_drew1) | exact HB.out)⟩⟩
        case round =>
          clear H'
          try clear c1
          try clear p1
          try clear q1
          try clear hx1
          try clear qi1
          try clear p2
          try clear c3
          try clear c3b0
          try clear c3b1
          try clear c4
          try clear c4b0
          try clear c4b1
          try clear c5
          try clear hx163_0
          try clear hx163_1
          try clear hx163_2
          try clear hx163_3
          try clear hx163_4
          try clear hx163_5
          try clear p1
          try clear p163
          try clear p2
          try clear q1
          try clear q163
          obtain ⟨x3_2, rfl, HA, HK2, HB⟩ := hrel
          cases gk with
          | zero => exact absurd HA.out (by simp [semblanceref10_may.l0])
          | succ k2 =>
            have H := HA.out
            clear HA
            simp only [semblanceref10_may.l0] at H
            by_cases c6 : x3_2 < (l0.length : Int)
            · rw [if_pos c6] at H
              have c6b0 : decide (x3_2 < (l0.length : Int)) = true := decide_eq_true c6
              clear c6
              have HC7 := Aside0.mk H
              clear H
              go_upto_region 6 with (fail)
              go_cut [34] (fun v34 wc => ∃ (kq : Nat) (x34_6 : Bool), v34 = .bool x34_6 ∧ Aside0 (semblanceref10_may.j2 kq l0 x3_2 x34_6 = some r) ∧ Aside0 (kq ≤ k2) ∧ Aside0 (Below w.heap.size w wc))
              case first =>
                have H := HC7.out
                clear HC7
                by_cases c8 : 0 ≤ x3_2
                · rw [if_pos c8] at H
                  have c8b0 : decide (0 ≤ x3_2) = true := decide_eq_true c8
                  clear c8
                  (first | rw [c8b0] | (simp only [i64_w, i32_w]; rw [c8b0]) | skip)
                  by_cases c9 : ((rd_T102 l0 x3_2).f1) < 1
                  · rw [if_pos c9] at H
                    have c9b0 : decide (((rd_T102 l0 x3_2).f1) < 1) = true := decide_eq_true c9
                    clear c9
                    have H' := Aside0.mk H
                    clear H
                    have p164 : 0 ≤ (x3_2 : Int) := of_decide_eq_true (by first | (with_reducible assumption) | assumption)
                    have q164 : x3_2 < (l0.length : Int) := of_decide_eq_true (by first | (with_reducible assumption) | assumption)
                    obtain ⟨ad164, A164_3, c164_3, A164_4, c164_4, A164_5, c164_5, e164, hx164_0, hx164_1, hx164_2, hx164_3, hx164_4, hx164_5, hl164_3, hi164_3, hl164_4, hi164_4, hl164_5, hi164_5⟩ := at_T102 HR0.out x3_2 p164 q164
                    cases e164
                    replace hx164_0 := (HB.out.cell (World.block_lt_of_cell? w _ hx164_0)).trans hx164_0
                    replace hx164_1 := (HB.out.cell (World.block_lt_of_cell? w _ hx164_1)).trans hx164_1
                    replace hx164_2 := (HB.out.cell (World.block_lt_of_cell? w _ hx164_2)).trans hx164_2
                    replace hx164_3 := (HB.out.cell (World.block_lt_of_cell? w _ hx164_3)).trans hx164_3
                    replace hx164_4 := (HB.out.cell (World.block_lt_of_cell? w _ hx164_4)).trans hx164_4
                    replace hx164_5 := (HB.out.cell (World.block_lt_of_cell? w _ hx164_5)).trans hx164_5
                    have HR164_3 := Aside0.mk hi164_3
                    have HC164_3 := Aside0.mk hl164_3
                    clear hi164_3 hl164_3
                    have HR164_4 := Aside0.mk hi164_4
                    have HC164_4 := Aside0.mk hl164_4
                    clear hi164_4 hl164_4
                    have HR164_5 := Aside0.mk hi164_5
                    have HC164_5 := Aside0.mk hl164_5
                    clear hi164_5 hl164_5
                    replace p164 := eq_true p164
                    replace q164 := eq_true q164
                    go_wp2
                    go_meet
                    case rel => exact ⟨_, (true), (by first | rfl | (simp; done) | (simp [*]; done)), H', ⟨by have := HJ1.out; have := HK2.out; first | omega | exact Nat.le_refl _⟩, ⟨by repeat (first | (with_reducible first | exact HB.out | apply below_alloc | apply pw_below_drewN | apply below_drew1) | exact HB.out)⟩⟩
                  · rw [if_neg c9] at H
                    have c9b0 : decide (((rd_T102 l0 x3_2).f1) < 1) = false := decide_eq_false c9
                    clear c9
                    have H' := Aside0.mk H
                    clear H
                    have p164 : 0 ≤ (x3_2 : Int) := of_decide_eq_true (by first | (with_reducible assumption) | assumption)
                    have q164 : x3_2 < (l0.length : Int) := of_decide_eq_true (by first | (with_reducible assumption) | assumption)
                    obtain ⟨ad164, A164_3, c164_3, A164_4, c164_4, A164_5, c164_5, e164, hx164_0, hx164_1, hx164_2, hx164_3, hx164_4, hx164_5, hl164_3, hi164_3, hl164_4, hi164_4, hl164_5, hi164_5⟩ := at_T102 HR0.out x3_2 p164 q164
                    cases e164
                    replace hx164_0 := (HB.out.cell (World.block_lt_of_cell? w _ hx164_0)).trans hx164_0
                    replace hx164_1 := (HB.out.cell (World.block_lt_of_cell? w _ hx164_1)).trans hx164_1
                    replace hx164_2 := (HB.out.cell (World.block_lt_of_cell? w _ hx164_2)).trans hx164_2
                    replace hx164_3 := (HB.out.cell (World.block_lt_of_cell? w _ hx164_3)).trans hx164_3
                    replace hx164_4 := (HB.out.cell (World.block_lt_of_cell? w _ hx164_4)).trans hx164_4
                    replace hx164_5 := (HB.out.cell (World.block_lt_of_cell? w _ hx164_5)).trans hx164_5
                    have HR164_3 := Aside0.mk hi164_3
                    have HC164_3 := Aside0.mk hl164_3
                    clear hi164_3 hl164_3
                    have HR164_4 := Aside0.mk hi164_4
                    have HC164_4 := Aside0.mk hl164_4
                    clear hi164_4 hl164_4
                    have HR164_5 := Aside0.mk hi164_5
                    have HC164_5 := Aside0.mk hl164_5
                    clear hi164_5 hl164_5
                    replace p164 := eq_true p164
                    replace q164 := eq_true q164
                    have p165 : 0 ≤ (x3_2 : Int) := of_decide_eq_true (by first | (with_reducible assumption) | assumption)
                    have q165 : x3_2 < (l0.length : Int) := of_decide_eq_true (by first | (with_reducible assumption) | assumption)
                    obtain ⟨ad165, A165_3, c165_3, A165_4, c165_4, A165_5, c165_5, e165, hx165_0, hx165_1, hx165_2, hx165_3, hx165_4, hx165_5, hl165_3, hi165_3, hl165_4, hi165_4, hl165_5, hi165_5⟩ := at_T102 HR0.out x3_2 p165 q165
                    obtain rfl : ad164 = ad165 := (by injection e165)
                    replace hx165_0 := (HB.out.cell (World.block_lt_of_cell? w _ hx165_0)).trans hx165_0
                    replace hx165_1 := (HB.out.cell (World.block_lt_of_cell? w _ hx165_1)).trans hx165_1
                    replace hx165_2 := (HB.out.cell (World.block_lt_of_cell? w _ hx165_2)).trans hx165_2
                    replace hx165_3 := (HB.out.cell (World.block_lt_of_cell? w _ hx165_3)).trans hx165_3
                    replace hx165_4 := (HB.out.cell (World.block_lt_of_cell? w _ hx165_4)).trans hx165_4
                    replace hx165_5 := (HB.out.cell (World.block_lt_of_cell? w _ hx165_5)).trans hx165_5
                    have HR165_3 := Aside0.mk hi165_3
                    have HC165_3 := Aside0.mk hl165_3
                    clear hi165_3 hl165_3
                    have HR165_4 := Aside0.mk hi165_4
                    have HC165_4 := Aside0.mk hl165_4
                    clear hi165_4 hl165_4
                    have HR165_5 := Aside0.mk hi165_5
                    have HC165_5 := Aside0.mk hl165_5
                    clear hi165_5 hl165_5
                    replace p165 := eq_true p165
                    replace q165 := eq_true q165
                    have ea_ := Option.some.inj (hx164_3.symm.trans hx165_3)
                    injection ea_ with ea_ en_ ec_
                    subst ea_
                    subst ec_
                    clear en_
                    have ea_ := Option.some.inj (hx164_4.symm.trans hx165_4)
                    injection ea_ with ea_ en_ ec_
                    subst ea_
                    subst ec_
                    clear en_
                    have ea_ := Option.some.inj (hx164_5.symm.trans hx165_5)
                    injection ea_ with ea_ en_ ec_
                    subst ea_
                    subst ec_
                    clear en_
                    go_wp2
                    go_meet
                    case rel => exact ⟨_, (decide (((rd_T102 l0 x3_2).f1) > 3)), (by first | rfl | (simp; done) | (simp [*]; done)), H', ⟨by have := HJ1.out; have := HK2.out; first | omega | exact Nat.le_refl _⟩, ⟨by repeat (first | (with_reducible first | exact HB.out | apply below_alloc | apply pw_below_drewN | apply below_drew1) | exact HB.out)⟩⟩
                · rw [if_neg c8] at H
                  exact absurd H (by simp)
              case rest =>
                clear HC7
                try clear c1
                try clear p1
                try clear q1
                try clear hx1
                try clear qi1
                try clear p2
                try clear c3
                try clear c3b0
                try clear c3b1
                try clear c4
                try clear c4b0
                try clear c4b1
                try clear c5
                try clear c6
                try clear c6b0
                try clear c8
                try clear c8b0
                try clear c9
                try clear c9b0
                try clear hx163_0
                try clear hx163_1
                try clear hx163_2
                try clear hx163_3
                try clear hx163_4
                try clear hx163_5
                try clear hx164_0
                try clear hx164_1
                try clear hx164_2
                try clear hx164_3
                try clear hx164_4
                try clear hx164_5
                try clear hx165_0
                try clear hx165_1
                try clear hx165_2
                try clear hx165_3
                try clear hx165_4
                try clear hx165_5
                try clear p1
                try clear p163
                try clear p164
                try clear p165
                try clear p2
                try clear q1
                try clear q163
                try clear q164
                try clear q165
                obtain ⟨kq, x34_6, rfl, HA, HJ6, HB⟩ := hcut
                cases kq with
                | zero => exact absurd HA.out (by simp [semblanceref10_may.j2])
                | succ kj6 =>
                  have H := HA.out
                  clear HA
                  simp only [semblanceref10_may.j2] at H
                  by_cases c10 : x34_6 = true
                  · subst c10
                    have H1 : (some false) = some r := by rw [if_pos rfl] at H; exact H
                    clear H
                    have H := H1
                    clear H1
                    obtain rfl := Option.some.inj H
                    go_wp2
                    go_ret
                    exact ⟨by first | rfl | (simp [errW_none, errW_some] <;> rfl) | (simp [*, errW_none, errW_some] <;> rfl), by repeat (first | (with_reducible first | exact HB.out | apply below_alloc | apply pw_below_drewN | apply below_drew1) | exact HB.out)⟩
                  · replace c10 := Bool.eq_false_iff.mpr c10
                    subst c10
                    have H1 : (if x3_2 = 0 then (semblanceref10_may.l0 kj6 l0 (wrap64 (x3_2 + 1))) else (if 0 ≤ x3_2 then (if x3_2 < (l0.length : Int) then (if ((rd_T102 l0 x3_2).f2) < 0 then (some false) else (if ((rd_T102 l0 x3_2).f2) ≥ x3_2 then (some false) else (if 0 ≤ ((rd_T102 l0 x3_2).f2) then (if ((rd_T102 l0 x3_2).f2) < (l0.length : Int) then (if ((rd_T102 l0 ((rd_T102 l0 x3_2).f2)).f1) = 1 then (some false) else (if ((rd_T102 l0 x3_2).f2) = (wrap64 (x3_2 - 1)) then (semblanceref10_may.l0 kj6 l0 (wrap64 (x3_2 + 1))) else ((semblanceref10_Above.f kj6 l0 (wrap64 (x3_2 - 1))).bind fun t168 => ((semblanceref10_In.f kj6 t168 ((rd_T102 l0 x3_2).f2)).bind fun t171 => (if t171 = true then (semblanceref10_may.l0 kj6 l0 (wrap64 (x3_2 + 1))) else (some false)))))) else (none)) else (none)))) else (none)) else (none))) = some r := by rw [if_neg (show ¬ (false = true) by decide)] at H; exact H
                    clear H
                    have H := H1
                    clear H1
                    by_cases c11 : x3_2 = 0
                    · rw [if_pos c11] at H
                      have c11b0 : (x3_2 == 0) = true := beq_iff_eq.mpr c11
                      have c11b1 : (x3_2 != 0) = false := bne_eq_false_iff_eq.mpr c11
                      clear c11
                      have H' := Aside0.mk H
                      clear H
                      go_wp2
                      go_roundg kj6
                      case measure => have := HJ1.out; have := HK2.out; have := HJ6.out; omega
                      case rel => exact ⟨(wrap64 (x3_2 + 1)), (by first | rfl | (simp; done) | (simp [*]; done)), H', ⟨by have := HJ1.out; have := HK2.out; have := HJ6.out; omega⟩, ⟨by repeat (first | (with_reducible first | exact HB.out | apply below_alloc | apply pw_below_drewN | apply below_drew1) | exact HB.out)⟩⟩
                    · rw [if_neg c11] at H
                      have c11b0 : (x3_2 == 0) = false := beq_eq_false_iff_ne.mpr c11
                      have c11b1 : (x3_2 != 0) = true := bne_iff_ne.mpr c11
                      by_cases c12 : 0 ≤ x3_2
                      · rw [if_pos c12] at H
                        have c12b0 : decide (0 ≤ x3_2) = true := decide_eq_true c12
                        clear c12
                        by_cases c13 : x3_2 < (l0.length : Int)
                        · rw [if_pos c13] at H
                          have c13b0 : decide (x3_2 < (l0.length : Int)) = true := decide_eq_true c13
                          clear c13
                          by_cases c14 : ((rd_T102 l0 x3_2).f2) < 0
                          · rw [if_pos c14] at H
                            have c14b0 : decide (((rd_T102 l0 x3_2).f2) < 0) = true := decide_eq_true c14
                            clear c14
                            obtain rfl := Option.some.inj H
                            have p166 : 0 ≤ (x3_2 : Int) := of_decide_eq_true (by first | (with_reducible assumption) | assumption)
                            have q166 : x3_2 < (l0.length : Int) := of_decide_eq_true (by first | (with_reducible assumption) | assumption)
                            obtain ⟨ad166, A166_3, c166_3, A166_4, c166_4, A166_5, c166_5, e166, hx166_0, hx166_1, hx166_2, hx166_3, hx166_4, hx166_5, hl166_3, hi166_3, hl166_4, hi166_4, hl166_5, hi166_5⟩ := at_T102 HR0.out x3_2 p166 q166
                            cases e166
                            replace hx166_0 := (HB.out.cell (World.block_lt_of_cell? w _ hx166_0)).trans hx166_0
                            replace hx166_1 := (HB.out.cell (World.block_lt_of_cell? w _ hx166_1)).trans hx166_1
                            replace hx166_2 := (HB.out.cell (World.block_lt_of_cell? w _ hx166_2)).trans hx166_2
                            replace hx166_3 := (HB.out.cell (World.block_lt_of_cell? w _ hx166_3)).trans hx166_3
                            replace hx166_4 := (HB.out.cell (World.block_lt_of_cell? w _ hx166_4)).trans hx166_4
                            replace hx166_5 := (HB.out.cell (World.block_lt_of_cell? w _ hx166_5)).trans hx166_5
                            have HR166_3 := Aside0.mk hi166_3
                            have HC166_3 := Aside0.mk hl166_3
                            clear hi166_3 hl166_3
                            have HR166_4 := Aside0.mk hi166_4
                            have HC166_4 := Aside0.mk hl166_4
                            clear hi166_4 hl166_4
                            have HR166_5 := Aside0.mk hi166_5
                            have HC166_5 := Aside0.mk hl166_5
                            clear hi166_5 hl166_5
                            replace p166 := eq_true p166
                            replace q166 := eq_true q166
                            go_wp2
                            go_ret
                            exact ⟨by first | rfl | (simp [errW_none, errW_some] <;> rfl) | (simp [*, errW_none, errW_some] <;> rfl), by repeat (first | (with_reducible first | exact HB.out | apply below_alloc | apply pw_below_drewN | apply below_drew1) | exact HB.out)⟩
                          · rw [if_neg c14] at H
                            have c14b0 : decide (((rd_T102 l0 x3_2).f2) < 0) = false := decide_eq_false c14
                            clear c14
                            by_cases c15 : ((rd_T102 l0 x3_2).f2) ≥ x3_2
                            · rw [if_pos c15] at H
                              have c15b0 : decide (x3_2 ≤ ((rd_T102 l0 x3_2).f2)) = true := decide_eq_true c15
                              clear c15
                              obtain rfl := Option.some.inj H
                              have p166 : 0 ≤ (x3_2 : Int) := of_decide_eq_true (by first | (with_reducible assumption) | assumption)
                              have q166 : x3_2 < (l0.length : Int) := of_decide_eq_true (by first | (with_reducible assumption) | assumption)
                              obtain ⟨ad166, A166_3, c166_3, A166_4, c166_4, A166_5, c166_5, e166, hx166_0, hx166_1, hx166_2, hx166_3, hx166_4, hx166_5, hl166_3, hi166_3, hl166_4, hi166_4, hl166_5, hi166_5⟩ := at_T102 HR0.out x3_2 p166 q166
                              cases e166
                              replace hx166_0 := (HB.out.cell (World.block_lt_of_cell? w _ hx166_0)).trans hx166_0
                              replace hx166_1 := (HB.out.cell (World.block_lt_of_cell? w _ hx166_1)).trans hx166_1
                              replace hx166_2 := (HB.out.cell (World.block_lt_of_cell? w _ hx166_2)).trans hx166_2
                              replace hx166_3 := (HB.out.cell (World.block_lt_of_cell? w _ hx166_3)).trans hx166_3
                              replace hx166_4 := (HB.out.cell (World.block_lt_of_cell? w _ hx166_4)).trans hx166_4
                              replace hx166_5 := (HB.out.cell (World.block_lt_of_cell? w _ hx166_5)).trans hx166_5
                              have HR166_3 := Aside0.mk hi166_3
                              have HC166_3 := Aside0.mk hl166_3
                              clear hi166_3 hl166_3
                              have HR166_4 := Aside0.mk hi166_4
                              have HC166_4 := Aside0.mk hl166_4
                              clear hi166_4 hl166_4
                              have HR166_5 := Aside0.mk hi166_5
                              have HC166_5 := Aside0.mk hl166_5
                              clear hi166_5 hl166_5
                              replace p166 := eq_true p166
                              replace q166 := eq_true q166
                              go_wp2
                              go_ret
                              exact ⟨by first | rfl | (simp [errW_none, errW_some] <;> rfl) | (simp [*, errW_none, errW_some] <;> rfl), by repeat (first | (with_reducible first | exact HB.out | apply below_alloc | apply pw_below_drewN | apply below_drew1) | exact HB.out)⟩
                            · rw [if_neg c15] at H
                              have c15b0 : decide (x3_2 ≤ ((rd_T102 l0 x3_2).f2)) = false := decide_eq_false c15
                              clear c15
                              by_cases c16 : 0 ≤ ((rd_T102 l0 x3_2).f2)
                              · rw [if_pos c16] at H
                                have c16b0 : decide (0 ≤ ((rd_T102 l0 x3_2).f2)) = true := decide_eq_true c16
                                clear c16
                                by_cases c17 : ((rd_T102 l0 x3_2).f2) < (l0.length : Int)
                                · rw [if_pos c17] at H
                                  have c17b0 : decide (((rd_T102 l0 x3_2).f2) < (l0.length : Int)) = true := decide_eq_true c17
                                  clear c17
                                  by_cases c18 : ((rd_T102 l0 ((rd_T102 l0 x3_2).f2)).f1) = 1
                                  · rw [if_pos c18] at H
                                    have c18b0 : (((rd_T102 l0 ((rd_T102 l0 x3_2).f2)).f1) == 1) = true := beq_iff_eq.mpr c18
                                    have c18b1 : (((rd_T102 l0 ((rd_T102 l0 x3_2).f2)).f1) != 1) = false := bne_eq_false_iff_eq.mpr c18
                                    clear c18
                                    obtain rfl := Option.some.inj H
                                    have p166 : 0 ≤ (x3_2 : Int) := of_decide_eq_true (by first | (with_reducible assumption) | assumption)
                                    have q166 : x3_2 < (l0.length : Int) := of_decide_eq_true (by first | (with_reducible assumption) | assumption)
                                    obtain ⟨ad166, A166_3, c166_3, A166_4, c166_4, A166_5, c166_5, e166, hx166_0, hx166_1, hx166_2, hx166_3, hx166_4, hx166_5, hl166_3, hi166_3, hl166_4, hi166_4, hl166_5, hi166_5⟩ := at_T102 HR0.out x3_2 p166 q166
                                    cases e166
                                    replace hx166_0 := (HB.out.cell (World.block_lt_of_cell? w _ hx166_0)).trans hx166_0
                                    replace hx166_1 := (HB.out.cell (World.block_lt_of_cell? w _ hx166_1)).trans hx166_1
                                    replace hx166_2 := (HB.out.cell (World.block_lt_of_cell? w _ hx166_2)).trans hx166_2
                                    replace hx166_3 := (HB.out.cell (World.block_lt_of_cell? w _ hx166_3)).trans hx166_3
                                    replace hx166_4 := (HB.out.cell (World.block_lt_of_cell? w _ hx166_4)).trans hx166_4
                                    replace hx166_5 := (HB.out.cell (World.block_lt_of_cell? w _ hx166_5)).trans hx166_5
                                    have HR166_3 := Aside0.mk hi166_3
                                    have HC166_3 := Aside0.mk hl166_3
                                    clear hi166_3 hl166_3
                                    have HR166_4 := Aside0.mk hi166_4
                                    have HC166_4 := Aside0.mk hl166_4
                                    clear hi166_4 hl166_4
                                    have HR166_5 := Aside0.mk hi166_5
                                    have HC166_5 := Aside0.mk hl166_5
                                    clear hi166_5 hl166_5
                                    replace p166 := eq_true p166
                                    replace q166 := eq_true q166
                                    have p167 : 0 ≤ (((rd_T102 l0 x3_2).f2) : Int) := of_decide_eq_true (by first | (with_reducible assumption) | assumption)
                                    have q167 : ((rd_T102 l0 x3_2).f2) < (l0.length : Int) := of_decide_eq_true (by first | (with_reducible assumption) | assumption)
                                    obtain ⟨ad167, A167_3, c167_3, A167_4, c167_4, A167_5, c167_5, e167, hx167_0, hx167_1, hx167_2, hx167_3, hx167_4, hx167_5, hl167_3, hi167_3, hl167_4, hi167_4, hl167_5, hi167_5⟩ := at_T102 HR0.out ((rd_T102 l0 x3_2).f2) p167 q167
                                    obtain rfl : ad166 = ad167 := (by injection e167)
                                    replace hx167_0 := (HB.out.cell (World.block_lt_of_cell? w _ hx167_0)).trans hx167_0
                                    replace hx167_1 := (HB.out.cell (World.block_lt_of_cell? w _ hx167_1)).trans hx167_1
                                    replace hx167_2 := (HB.out.cell (World.block_lt_of_cell? w _ hx167_2)).trans hx167_2
                                    replace hx167_3 := (HB.out.cell (World.block_lt_of_cell? w _ hx167_3)).trans hx167_3
                                    replace hx167_4 := (HB.out.cell (World.block_lt_of_cell? w _ hx167_4)).trans hx167_4
                                    replace hx167_5 := (HB.out.cell (World.block_lt_of_cell? w _ hx167_5)).trans hx167_5
                                    have HR167_3 := Aside0.mk hi167_3
                                    have HC167_3 := Aside0.mk hl167_3
                                    clear hi167_3 hl167_3
                                    have HR167_4 := Aside0.mk hi167_4
                                    have HC167_4 := Aside0.mk hl167_4
                                    clear hi167_4 hl167_4
                                    have HR167_5 := Aside0.mk hi167_5
                                    have HC167_5 := Aside0.mk hl167_5
                                    clear hi167_5 hl167_5
                                    replace p167 := eq_true p167
                                    replace q167 := eq_true q167
                                    go_wp2
                                    go_ret
                                    exact ⟨by first | rfl | (simp [errW_none, errW_some] <;> rfl) | (simp [*, errW_none, errW_some] <;> rfl), by repeat (first | (with_reducible first | exact HB.out | apply below_alloc | apply pw_below_drewN | apply below_drew1) | exact HB.out)⟩
                                  · rw [if_neg c18] at H
                                    have c18b0 : (((rd_T102 l0 ((rd_T102 l0 x3_2).f2)).f1) == 1) = false := beq_eq_false_iff_ne.mpr c18
                                    have c18b1 : (((rd_T102 l0 ((rd_T102 l0 x3_2).f2)).f1) != 1) = true := bne_iff_ne.mpr c18
                                    by_cases c19 : ((rd_T102 l0 x3_2).f2) = (wrap64 (x3_2 - 1))
                                    · rw [if_pos c19] at H
                                      have c19b0 : (((rd_T102 l0 x3_2).f2) == (wrap64 (x3_2 - 1))) = true := beq_iff_eq.mpr c19
                                      have c19b1 : (((rd_T102 l0 x3_2).f2) != (wrap64 (x3_2 - 1))) = false := bne_eq_false_iff_eq.mpr c19
                                      clear c19
                                      have H' := Aside0.mk H
                                      clear H
                                      have p166 : 0 ≤ (x3_2 : Int) := of_decide_eq_true (by first | (with_reducible assumption) | assumption)
                                      have q166 : x3_2 < (l0.length : Int) := of_decide_eq_true (by first | (with_reducible assumption) | assumption)
                                      obtain ⟨ad166, A166_3, c166_3, A166_4, c166_4, A166_5, c166_5, e166, hx166_0, hx166_1, hx166_2, hx166_3, hx166_4, hx166_5, hl166_3, hi166_3, hl166_4, hi166_4, hl166_5, hi166_5⟩ := at_T102 HR0.out x3_2 p166 q166
                                      cases e166
                                      replace hx166_0 := (HB.out.cell (World.block_lt_of_cell? w _ hx166_0)).trans hx166_0
                                      replace hx166_1 := (HB.out.cell (World.block_lt_of_cell? w _ hx166_1)).trans hx166_1
                                      replace hx166_2 := (HB.out.cell (World.block_lt_of_cell? w _ hx166_2)).trans hx166_2
                                      replace hx166_3 := (HB.out.cell (World.block_lt_of_cell? w _ hx166_3)).trans hx166_3
                                      replace hx166_4 := (HB.out.cell (World.block_lt_of_cell? w _ hx166_4)).trans hx166_4
                                      replace hx166_5 := (HB.out.cell (World.block_lt_of_cell? w _ hx166_5)).trans hx166_5
                                      have HR166_3 := Aside0.mk hi166_3
                                      have HC166_3 := Aside0.mk hl166_3
                                      clear hi166_3 hl166_3
                                      have HR166_4 := Aside0.mk hi166_4
                                      have HC166_4 := Aside0.mk hl166_4
                                      clear hi166_4 hl166_4
                                      have HR166_5 := Aside0.mk hi166_5
                                      have HC166_5 := Aside0.mk hl166_5
                                      clear hi166_5 hl166_5
                                      replace p166 := eq_true p166
                                      replace q166 := eq_true q166
                                      have p167 : 0 ≤ (((rd_T102 l0 x3_2).f2) : Int) := of_decide_eq_true (by first | (with_reducible assumption) | assumption)
                                      have q167 : ((rd_T102 l0 x3_2).f2) < (l0.length : Int) := of_decide_eq_true (by first | (with_reducible assumption) | assumption)
                                      obtain ⟨ad167, A167_3, c167_3, A167_4, c167_4, A167_5, c167_5, e167, hx167_0, hx167_1, hx167_2, hx167_3, hx167_4, hx167_5, hl167_3, hi167_3, hl167_4, hi167_4, hl167_5, hi167_5⟩ := at_T102 HR0.out ((rd_T102 l0 x3_2).f2) p167 q167
                                      obtain rfl : ad166 = ad167 := (by injection e167)
                                      replace hx167_0 := (HB.out.cell (World.block_lt_of_cell? w _ hx167_0)).trans hx167_0
                                      replace hx167_1 := (HB.out.cell (World.block_lt_of_cell? w _ hx167_1)).trans hx167_1
                                      replace hx167_2 := (HB.out.cell (World.block_lt_of_cell? w _ hx167_2)).trans hx167_2
                                      replace hx167_3 := (HB.out.cell (World.block_lt_of_cell? w _ hx167_3)).trans hx167_3
                                      replace hx167_4 := (HB.out.cell (World.block_lt_of_cell? w _ hx167_4)).trans hx167_4
                                      replace hx167_5 := (HB.out.cell (World.block_lt_of_cell? w _ hx167_5)).trans hx167_5
                                      have HR167_3 := Aside0.mk hi167_3
                                      have HC167_3 := Aside0.mk hl167_3
                                      clear hi167_3 hl167_3
                                      have HR167_4 := Aside0.mk hi167_4
                                      have HC167_4 := Aside0.mk hl167_4
                                      clear hi167_4 hl167_4
                                      have HR167_5 := Aside0.mk hi167_5
                                      have HC167_5 := Aside0.mk hl167_5
                                      clear hi167_5 hl167_5
                                      replace p167 := eq_true p167
                                      replace q167 := eq_true q167
                                      go_wp2
                                      go_roundg kj6
                                      case measure => have := HJ1.out; have := HK2.out; have := HJ6.out; omega
                                      case rel => exact ⟨(wrap64 (x3_2 + 1)), (by first | rfl | (simp; done) | (simp [*]; done)), H', ⟨by have := HJ1.out; have := HK2.out; have := HJ6.out; omega⟩, ⟨by repeat (first | (with_reducible first | exact HB.out | apply below_alloc | apply pw_below_drewN | apply below_drew1) | exact HB.out)⟩⟩
                                    · rw [if_neg c19] at H
                                      have c19b0 : (((rd_T102 l0 x3_2).f2) == (wrap64 (x3_2 - 1))) = false := beq_eq_false_iff_ne.mpr c19
                                      have c19b1 : (((rd_T102 l0 x3_2).f2) != (wrap64 (x3_2 - 1))) = true := bne_iff_ne.mpr c19
                                      replace H := Option.bind_eq_some_iff.mp H
                                      obtain ⟨t168, A200, H⟩ := H
                                      replace H : ((semblanceref10_In.f kj6 t168 ((rd_T102 l0 x3_2).f2)).bind fun t171 => (if t171 = true then (semblanceref10_may.l0 kj6 l0 (wrap64 (x3_2 + 1))) else (some false))) = some r := H
                                      have A20 := Aside0.mk A200
                                      clear A200
                                      replace H := Option.bind_eq_some_iff.mp H
                                      obtain ⟨t171, A210, H⟩ := H
                                      replace H : (if t171 = true then (semblanceref10_may.l0 kj6 l0 (wrap64 (x3_2 + 1))) else (some false)) = some r := H
                                      have A21 := Aside0.mk A210
                                      clear A210
                                      by_cases c22 : t171 = true
                                      · subst c22
                                        have H1 : (semblanceref10_may.l0 kj6 l0 (wrap64 (x3_2 + 1))) = some r := by rw [if_pos rfl] at H; exact H
                                        clear H
                                        have H := H1
                                        clear H1
                                        have H' := Aside0.mk H
                                        clear H
                                        have p166 : 0 ≤ (x3_2 : Int) := of_decide_eq_true (by first | (with_reducible assumption) | assumption)
                                        have q166 : x3_2 < (l0.length : Int) := of_decide_eq_true (by first | (with_reducible assumption) | assumption)
                                        obtain ⟨ad166, A166_3, c166_3, A166_4, c166_4, A166_5, c166_5, e166, hx166_0, hx166_1, hx166_2, hx166_3, hx166_4, hx166_5, hl166_3, hi166_3, hl166_4, hi166_4, hl166_5, hi166_5⟩ := at_T102 HR0.out x3_2 p166 q166
                                        cases e166
                                        replace hx166_0 := (HB.out.cell (World.block_lt_of_cell? w _ hx166_0)).trans hx166_0
                                        replace hx166_1 := (HB.out.cell (World.block_lt_of_cell? w _ hx166_1)).trans hx166_1
                                        replace hx166_2 := (HB.out.cell (World.block_lt_of_cell? w _ hx166_2)).trans hx166_2
                                        replace hx166_3 := (HB.out.cell (World.block_lt_of_cell? w _ hx166_3)).trans hx166_3
                                        replace hx166_4 := (HB.out.cell (World.block_lt_of_cell? w _ hx166_4)).trans hx166_4
                                        replace hx166_5 := (HB.out.cell (World.block_lt_of_cell? w _ hx166_5)).trans hx166_5
                                        have HR166_3 := Aside0.mk hi166_3
                                        have HC166_3 := Aside0.mk hl166_3
                                        clear hi166_3 hl166_3
                                        have HR166_4 := Aside0.mk hi166_4
                                        have HC166_4 := Aside0.mk hl166_4
                                        clear hi166_4 hl166_4
                                        have HR166_5 := Aside0.mk hi166_5
                                        have HC166_5 := Aside0.mk hl166_5
                                        clear hi166_5 hl166_5
                                        replace p166 := eq_true p166
                                        replace q166 := eq_true q166
                                        have p167 : 0 ≤ (((rd_T102 l0 x3_2).f2) : Int) := of_decide_eq_true (by first | (with_reducible assumption) | assumption)
                                        have q167 : ((rd_T102 l0 x3_2).f2) < (l0.length : Int) := of_decide_eq_true (by first | (with_reducible assumption) | assumption)
                                        obtain ⟨ad167, A167_3, c167_3, A167_4, c167_4, A167_5, c167_5, e167, hx167_0, hx167_1, hx167_2, hx167_3, hx167_4, hx167_5, hl167_3, hi167_3, hl167_4, hi167_4, hl167_5, hi167_5⟩ := at_T102 HR0.out ((rd_T102 l0 x3_2).f2) p167 q167
                                        obtain rfl : ad166 = ad167 := (by injection e167)
                                        replace hx167_0 := (HB.out.cell (World.block_lt_of_cell? w _ hx167_0)).trans hx167_0
                                        replace hx167_1 := (HB.out.cell (World.block_lt_of_cell? w _ hx167_1)).trans hx167_1
                                        replace hx167_2 := (HB.out.cell (World.block_lt_of_cell? w _ hx167_2)).trans hx167_2
                                        replace hx167_3 := (HB.out.cell (World.block_lt_of_cell? w _ hx167_3)).trans hx167_3
                                        replace hx167_4 := (HB.out.cell (World.block_lt_of_cell? w _ hx167_4)).trans hx167_4
                                        replace hx167_5 := (HB.out.cell (World.block_lt_of_cell? w _ hx167_5)).trans hx167_5
                                        have HR167_3 := Aside0.mk hi167_3
                                        have HC167_3 := Aside0.mk hl167_3
                                        clear hi167_3 hl167_3
                                        have HR167_4 := Aside0.mk hi167_4
                                        have HC167_4 := Aside0.mk hl167_4
                                        clear hi167_4 hl167_4
                                        have HR167_5 := Aside0.mk hi167_5
                                        have HC167_5 := Aside0.mk hl167_5
                                        clear hi167_5 hl167_5
                                        replace p167 := eq_true p167
                                        replace q167 := eq_true q167
                                        go_wp2_with (first | (go_at_call 45; (with_reducible refine (semblanceref10_Above.calls kj6 _ _ l0 (wrap64 (x3_2 - 1)) t168 _ ?side1 ?side2 A20.out).mono ?_); (case side1 => repeat (first | exact (Kd.C_below HR0.out HB.out) | (with_reducible refine Kd.C_alloc ?_ _) | (with_reducible refine Kd.C_drewN ?_ _) | (with_reducible refine Kd.C_drew ?_))); (case side2 => exact HC0.out); rintro e w23 ⟨v169, rfl, ho0, hb⟩; have n0_ := Aside0.mk (Kd.R_lower ho0 (below_size (by repeat (first | (with_reducible first | exact HB.out | apply below_alloc | apply pw_below_drewN | apply below_drew1) | exact HB.out)))); have n1_ := Aside0.mk (below_step (by repeat (first | (with_reducible first | exact HB.out | apply below_alloc | apply pw_below_drewN | apply below_drew1) | exact HB.out)) hb); clear HB; have HO170 := n0_; have HB := n1_; clear n0_ n1_; (try clear hb); (try clear hb2); (try clear hk); (try clear hi); (try clear ho0); obtain ⟨Ao24, co24, eo24⟩ := Kd.R_slice HO170.out; subst eo24) | (go_at_call 85; (with_reducible refine (semblanceref10_In.calls kj6 _ _ t168 ((rd_T102 l0 x3_2).f2) true _ ?side1 ?side2 A21.out).mono ?_); (case side1 => repeat (first | exact (Kd.R_reads' HO170.out).2.2 | (with_reducible refine Kd.C_alloc ?_ _) | (with_reducible refine Kd.C_drewN ?_ _) | (with_reducible refine Kd.C_drew ?_))); (case side2 => exact (Kd.R_reads' HO170.out).2.1); rintro e w' ⟨rfl, ⟨nd, rfl⟩⟩))
                                        go_roundg kj6
                                        case measure => have := HJ1.out; have := HK2.out; have := HJ6.out; omega
                                        case rel => exact ⟨(wrap64 (x3_2 + 1)), (by first | rfl | (simp; done) | (simp [*]; done)), H', ⟨by have := HJ1.out; have := HK2.out; have := HJ6.out; omega⟩, ⟨by repeat (first | (with_reducible first | exact HB.out | apply below_alloc | apply pw_below_drewN | apply below_drew1) | exact HB.out)⟩⟩
                                      · replace c22 := Bool.eq_false_iff.mpr c22
                                        subst c22
                                        have H1 : (some false) = some r := by rw [if_neg (show ¬ (false = true) by decide)] at H; exact H
                                        clear H
                                        have H := H1
                                        clear H1
                                        obtain rfl := Option.some.inj H
                                        have p166 : 0 ≤ (x3_2 : Int) := of_decide_eq_true (by first | (with_reducible assumption) | assumption)
                                        have q166 : x3_2 < (l0.length : Int) := of_decide_eq_true (by first | (with_reducible assumption) | assumption)
                                        obtain ⟨ad166, A166_3, c166_3, A166_4, c166_4, A166_5, c166_5, e166, hx166_0, hx166_1, hx166_2, hx166_3, hx166_4, hx166_5, hl166_3, hi166_3, hl166_4, hi166_4, hl166_5, hi166_5⟩ := at_T102 HR0.out x3_2 p166 q166
                                        cases e166
                                        replace hx166_0 := (HB.out.cell (World.block_lt_of_cell? w _ hx166_0)).trans hx166_0
                                        replace hx166_1 := (HB.out.cell (World.block_lt_of_cell? w _ hx166_1)).trans hx166_1
                                        replace hx166_2 := (HB.out.cell (World.block_lt_of_cell? w _ hx166_2)).trans hx166_2
                                        replace hx166_3 := (HB.out.cell (World.block_lt_of_cell? w _ hx166_3)).trans hx166_3
                                        replace hx166_4 := (HB.out.cell (World.block_lt_of_cell? w _ hx166_4)).trans hx166_4
                                        replace hx166_5 := (HB.out.cell (World.block_lt_of_cell? w _ hx166_5)).trans hx166_5
                                        have HR166_3 := Aside0.mk hi166_3
                                        have HC166_3 := Aside0.mk hl166_3
                                        clear hi166_3 hl166_3
                                        have HR166_4 := Aside0.mk hi166_4
                                        have HC166_4 := Aside0.mk hl166_4
                                        clear hi166_4 hl166_4
                                        have HR166_5 := Aside0.mk hi166_5
                                        have HC166_5 := Aside0.mk hl166_5
                                        clear hi166_5 hl166_5
                                        replace p166 := eq_true p166
                                        replace q166 := eq_true q166
                                        have p167 : 0 ≤ (((rd_T102 l0 x3_2).f2) : Int) := of_decide_eq_true (by first | (with_reducible assumption) | assumption)
                                        have q167 : ((rd_T102 l0 x3_2).f2) < (l0.length : Int) := of_decide_eq_true (by first | (with_reducible assumption) | assumption)
                                        obtain ⟨ad167, A167_3, c167_3, A167_4, c167_4, A167_5, c167_5, e167, hx167_0, hx167_1, hx167_2, hx167_3, hx167_4, hx167_5, hl167_3, hi167_3, hl167_4, hi167_4, hl167_5, hi167_5⟩ := at_T102 HR0.out ((rd_T102 l0 x3_2).f2) p167 q167
                                        obtain rfl : ad166 = ad167 := (by injection e167)
                                        replace hx167_0 := (HB.out.cell (World.block_lt_of_cell? w _ hx167_0)).trans hx167_0
                                        replace hx167_1 := (HB.out.cell (World.block_lt_of_cell? w _ hx167_1)).trans hx167_1
                                        replace hx167_2 := (HB.out.cell (World.block_lt_of_cell? w _ hx167_2)).trans hx167_2
                                        replace hx167_3 := (HB.out.cell (World.block_lt_of_cell? w _ hx167_3)).trans hx167_3
                                        replace hx167_4 := (HB.out.cell (World.block_lt_of_cell? w _ hx167_4)).trans hx167_4
                                        replace hx167_5 := (HB.out.cell (World.block_lt_of_cell? w _ hx167_5)).trans hx167_5
                                        have HR167_3 := Aside0.mk hi167_3
                                        have HC167_3 := Aside0.mk hl167_3
                                        clear hi167_3 hl167_3
                                        have HR167_4 := Aside0.mk hi167_4
                                        have HC167_4 := Aside0.mk hl167_4
                                        clear hi167_4 hl167_4
                                        have HR167_5 := Aside0.mk hi167_5
                                        have HC167_5 := Aside0.mk hl167_5
                                        clear hi167_5 hl167_5
                                        replace p167 := eq_true p167
                                        replace q167 := eq_true q167
                                        go_wp2_with (first | (go_at_call 45; (with_reducible refine (semblanceref10_Above.calls kj6 _ _ l0 (wrap64 (x3_2 - 1)) t168 _ ?side1 ?side2 A20.out).mono ?_); (case side1 => repeat (first | exact (Kd.C_below HR0.out HB.out) | (with_reducible refine Kd.C_alloc ?_ _) | (with_reducible refine Kd.C_drewN ?_ _) | (with_reducible refine Kd.C_drew ?_))); (case side2 => exact HC0.out); rintro e w25 ⟨v169, rfl, ho0, hb⟩; have n0_ := Aside0.mk (Kd.R_lower ho0 (below_size (by repeat (first | (with_reducible first | exact HB.out | apply below_alloc | apply pw_below_drewN | apply below_drew1) | exact HB.out)))); have n1_ := Aside0.mk (below_step (by repeat (first | (with_reducible first | exact HB.out | apply below_alloc | apply pw_below_drewN | apply below_drew1) | exact HB.out)) hb); clear HB; have HO170 := n0_; have HB := n1_; clear n0_ n1_; (try clear hb); (try clear hb2); (try clear hk); (try clear hi); (try clear ho0); obtain ⟨Ao26, co26, eo26⟩ := Kd.R_slice HO170.out; subst eo26) | (go_at_call 85; (with_reducible refine (semblanceref10_In.calls kj6 _ _ t168 ((rd_T102 l0 x3_2).f2) false _ ?side1 ?side2 A21.out).mono ?_); (case side1 => repeat (first | exact (Kd.R_reads' HO170.out).2.2 | (with_reducible refine Kd.C_alloc ?_ _) | (with_reducible refine Kd.C_drewN ?_ _) | (with_reducible refine Kd.C_drew ?_))); (case side2 => exact (Kd.R_reads' HO170.out).2.1); rintro e w' ⟨rfl, ⟨nd, rfl⟩⟩))
                                        go_ret
                                        exact ⟨by first | rfl | (simp [errW_none, errW_some] <;> rfl) | (simp [*, errW_none, errW_some] <;> rfl), by repeat (first | (with_reducible first | exact HB.out | apply below_alloc | apply pw_below_drewN | apply below_drew1) | exact HB.out)⟩
                                · rw [if_neg c17] at H
                                  exact absurd H (by simp)
                              · rw [if_neg c16] at H
                                exact absurd H (by simp)
                        · rw [if_neg c13] at H
                          exact absurd H (by simp)
                      · rw [if_neg c12] at H
                        exact absurd H (by simp)
            · rw [if_neg c6] at H
              have c6b0 : decide (x3_2 < (l0.length : Int)) = false := decide_eq_false c6
              clear c6
              obtain rfl := Option.some.inj H
              go_wp2
              go_ret
              exact ⟨by first | rfl | (simp [errW_none, errW_some] <;> rfl) | (simp [*, errW_none, errW_some] <;> rfl), by repeat (first | (with_reducible first | exact HB.out | apply below_alloc | apply pw_below_drewN | apply below_drew1) | exact HB.out)⟩

end Go.Proofs.Ytbiegkifpkeaoaa.XS
