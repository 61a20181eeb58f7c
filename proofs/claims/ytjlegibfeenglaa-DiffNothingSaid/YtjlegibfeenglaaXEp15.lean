-- written by wip/xprint.py out of the translation
import Derived.Test.YtjlegibfeenglaaXEp0
import Derived.Test.YtjlegibfeenglaaXEp13
import Derived.Test.YtjlegibfeenglaaXEp14
namespace Go.Proofs.Ytjlegibfeenglaa.XE
open Go.Proofs.Ytjlegibfeenglaa.XGrow Go.RowKit Go.Proofs.YtjlegibfeenglaaW.PrintWords Go.Proofs.YtjlegibfeenglaaW.PrintLast Go.Proofs.YtjlegibfeenglaaW.PrintMore
attribute [local go_sem] max2_int min2_int max_two min_two max_three min_three max_four min_four   -- for this text's walks alone
set_option linter.unusedVariables false
set_option linter.unusedSimpArgs false

/-! ### semblanceref11_States: function 77 -/
def semblanceref11_States.l0 : Nat → List (S99) → List (S99) → Int → Option (Bool)
  | 0, _, _, _ => none
  | k + 1, x0, x1, x5 => if x5 < (x0.length : Int) then (if 0 ≤ x5 then (if x5 < (x1.length : Int) then (if ((rd_T99 x0 x5).f0).toList = ((rd_T99 x1 x5).f0).toList then (if ((rd_T99 x0 x5).f1) = ((rd_T99 x1 x5).f1) then (if ((rd_T99 x0 x5).f2) = ((rd_T99 x1 x5).f2) then ((semblanceref08_Same.f k ((rd_T99 x0 x5).f3) ((rd_T99 x1 x5).f3)).bind fun t354 => (if t354 = true then ((semblanceref08_Same.f k ((rd_T99 x0 x5).f4) ((rd_T99 x1 x5).f4)).bind fun t355 => (if t355 = true then ((semblanceref09_All.f k ((rd_T99 x0 x5).f5) ((rd_T99 x1 x5).f5)).bind fun t356 => (if t356 = true then (semblanceref11_States.l0 k x0 x1 (wrap64 (x5 + 1))) else (some false))) else (some false))) else (some false))) else (some false)) else (some false)) else (some false)) else (none)) else (none)) else (some true)
def semblanceref11_States.f (k : Nat) (l0 : List (S99)) (l1 : List (S99)) : Option (Bool) := if (l0.length : Int) = (l1.length : Int) then (semblanceref11_States.l0 k l0 l1 0) else (some false)
theorem semblanceref11_States.mono_l : ∀ k, (∀ y0 y1 y2, LeO (semblanceref11_States.l0 k y0 y1 y2) (semblanceref11_States.l0 (k + 1) y0 y1 y2))
  | 0 => fun _ _ _ r h => by simp [semblanceref11_States.l0] at h
  | k + 1 => by
    have ih0 := semblanceref11_States.mono_l k
    · intro y0 y1 y2
      unfold semblanceref11_States.l0
      repeat' first
      | (with_reducible exact ih0 _ _ _)
      | (with_reducible exact semblanceref08_Same.mono _ _ _)
      | (with_reducible exact semblanceref09_All.mono _ _ _)
      | (with_reducible exact LeO.refl _)
      | (with_reducible exact LeO.none _)
      | (with_reducible refine LeO.ite ?_ ?_)
      | (with_reducible refine LeO.bind ?_ (fun _ => ?_))
      | exact ih0 _ _ _
      | exact semblanceref08_Same.mono _ _ _
      | exact semblanceref09_All.mono _ _ _
      | exact LeO.none _
      | refine LeO.ite ?_ ?_
      | refine LeO.bind ?_ (fun _ => ?_)
theorem semblanceref11_States.mono : ∀ a0 a1 k, LeO (semblanceref11_States.f k a0 a1) (semblanceref11_States.f (k + 1) a0 a1) := by
  intro a0 a1 k
  have ih0 := semblanceref11_States.mono_l k
  unfold semblanceref11_States.f
  repeat' first
      | (with_reducible exact ih0 _ _ _)
      | (with_reducible exact semblanceref08_Same.mono _ _ _)
      | (with_reducible exact semblanceref09_All.mono _ _ _)
      | (with_reducible exact LeO.refl _)
      | (with_reducible exact LeO.none _)
      | (with_reducible refine LeO.ite ?_ ?_)
      | (with_reducible refine LeO.bind ?_ (fun _ => ?_))
      | exact ih0 _ _ _
      | exact semblanceref08_Same.mono _ _ _
      | exact semblanceref09_All.mono _ _ _
      | exact LeO.none _
      | refine LeO.ite ?_ ?_
      | refine LeO.bind ?_ (fun _ => ?_)
def semblanceref11_States.T6 : Bool × List (List Nat × List Nat) := (true, [([], []), ([], []), ([0, 1], [0, 1]), ([2], [2]), ([], []), ([], []), ([4, 5], [4, 5]), ([6], [6]), ([], []), ([], []), ([8, 3, 0, 1, 2, 3, 8, 9], [3, 8]), ([9, 7, 10, 0, 1, 2, 3, 4, 5, 6, 7, 8, 9, 10], [7, 9])])
def semblanceref11_States.B6 : List Nat := [0, 0, 3, 7, 0, 0, 48, 112, 0, 0, 783, 2047]
theorem semblanceref11_States.tab6 : rtab .any (opsOf Try.f77 6) = semblanceref11_States.T6 := by kernel_rfl
theorem semblanceref11_States.bits6 : waitsOk semblanceref11_States.T6.2 semblanceref11_States.B6 = true := by kernel_rfl
abbrev bw23_0 : Array Bool := #[false, false, false, false, false, false, false, false, false, false, false, false]
abbrev bw23_1 : Array Bool := #[true, false, false, false, false, false, false, false, false, false, false, false]
abbrev bw23_2 : Array Bool := #[true, true, false, false, false, false, false, false, false, false, false, false]
abbrev bw23_3 : Array Bool := #[true, true, true, false, false, false, false, false, false, false, false, false]
abbrev bw23_4 : Array Bool := #[true, true, true, false, true, false, false, false, false, false, false, false]
abbrev bw23_5 : Array Bool := #[true, true, true, false, true, true, false, false, false, false, false, false]
abbrev bw23_6 : Array Bool := #[true, true, true, false, true, true, true, false, false, false, false, false]
abbrev bw23_7 : Array Bool := #[true, true, true, true, true, true, true, false, false, false, false, false]
abbrev bw23_8 : Array Bool := #[true, true, true, true, true, true, true, true, false, false, false, false]
abbrev bw23_9 : Array Bool := #[true, true, true, true, true, true, true, true, true, true, false, false]
abbrev bw23_10 : Array Bool := #[true, true, true, true, true, true, true, true, true, false, false, false]
abbrev bw23_11 : Array Bool := #[true, true, true, true, true, true, true, true, false, true, false, false]
abbrev bw23_12 : Array Bool := #[true, true, true, true, true, true, true, true, true, true, true, false]
abbrev bw23_13 : Array Bool := #[true, true, true, true, true, true, true, true, true, true, true, true]
theorem hc23_ {w W : World} {a : Addr} {v : Value} (hb : Below w.heap.size w W) (h : w.cell? a = some v) : W.cell? a = some v := (hb.cell (World.block_lt_of_cell? w _ h)).trans h
theorem gy23_ {W : World} {a b : Addr} {v : Value} {g : Nat} (h : W.cell? a = some v) (hg : W.heap.size ≤ g) {W2 : World} {j0 j1 j2 j3 j4 j5 : Nat} {u0 u1 u2 u3 u4 u5 : Value} (e : b.block = a.block := by rfl) : ((((((W2.setCell ⟨g, j0, none⟩ u0).setCell ⟨g, j1, none⟩ u1).setCell ⟨g, j2, none⟩ u2).setCell ⟨g, j3, none⟩ u3).setCell ⟨g, j4, none⟩ u4).setCell ⟨g, j5, none⟩ u5).cell? b = W2.cell? b := by
  have hn : b.block ≠ g := by rw [e]; exact Nat.ne_of_lt (Nat.lt_of_lt_of_le (World.block_lt_of_cell? _ _ h) hg)
  rw [cell_far hn, cell_far hn, cell_far hn, cell_far hn, cell_far hn, cell_far hn]
theorem fz23_ {W : World} {a b : Addr} {v : Value} {g : Nat} (h : W.cell? a = some v) (hg : W.heap.size ≤ g) (e : b.block = a.block := by rfl) : b.block ≠ g := by rw [e]; exact Nat.ne_of_lt (Nat.lt_of_lt_of_le (World.block_lt_of_cell? _ _ h) hg)
set_option maxHeartbeats 8000000 in
set_option maxRecDepth 100000 in
theorem semblanceref11_States.calls (k : Nat) (A0 : Option Addr) (c0 : Nat) (l0 : List (S99)) (A1 : Option Addr) (c1 : Nat) (l1 : List (S99)) (r : Bool) (w : World) (hr0 : Kd.C k99 w A0 l0.length l0) (hc0 : l0.length ≤ c0) (hr1 : Kd.C k99 w A1 l1.length l1) (hc1 : l1.length ≤ c1) (h : semblanceref11_States.f k l0 l1 = some r) :
  Calls Try.prog 77 #[.slice A0 l0.length c0, .slice A1 l1.length c1] w fun e w' => e = .returned (.bool r) ∧ Below w.heap.size w w' := by
 have hu99 := Try.underlying99
 have HR0 := Aside0.mk hr0
 have HC0 := Aside0.mk hc0
 clear hr0 hc0
 have HR1 := Aside0.mk hr1
 have HC1 := Aside0.mk hc1
 clear hr1 hc1
 have HB := Aside0.mk (Below.refl w.heap.size w)
 have H : (if (l0.length : Int) = (l1.length : Int) then (semblanceref11_States.l0 k l0 l1 0) else (some false)) = some r := h
 clear h
 by_cases c3 : (l0.length : Int) = (l1.length : Int)
 rotate_left
 ·rw [if_neg c3] at H
  have c3b0 : ((l0.length : Int) == (l1.length : Int)) = false := beq_eq_false_iff_ne.mpr c3
  have c3b1 : ((l0.length : Int) != (l1.length : Int)) = true := bne_iff_ne.mpr c3
  have c3b2 : (l0.length == l1.length) = false := by first | simpa using c3 | (simp at c3 ⊢; omega)
  obtain rfl := Option.some.inj H
  go_enter Try.func77, Try.ntmps77
  go_wp2
  go_ret
  exact ⟨by first | rfl | (simp [errW_none, errW_some] <;> rfl) | (simp [*, errW_none, errW_some] <;> rfl), by repeat (first | (with_reducible first | exact HB.out | apply below_alloc | apply pw_below_drewN | apply below_drew1) | exact HB.out)⟩

 rw [if_pos c3] at H
 have c3b0 : ((l0.length : Int) == (l1.length : Int)) = true := beq_iff_eq.mpr c3
 have c3b1 : ((l0.length : Int) != (l1.length : Int)) = false := bne_eq_false_iff_eq.mpr c3
 have c3b2 : (l0.length == l1.length) = true := by first | simpa using c3 | (simp at c3 ⊢; omega)
 clear c3
 have H' := Aside0.mk H
 clear H
 go_enter Try.func77, Try.ntmps77
 go_wp2
 go_loopg [5] k (fun kq v5 w' => ∃ (x5_1 : Int), v5 = .int .i64 x5_1 ∧ Aside0 (semblanceref11_States.l0 kq l0 l1 x5_1 = some r) ∧ Aside0 (kq ≤ k) ∧ Aside0 (Below w.heap.size w w'))
 case atStart => exact ⟨(0), (by first | rfl | (simp; done) | (simp [*]; done)), H', ⟨Nat.le_refl _⟩, ⟨by repeat (first | (with_reducible first | exact HB.out | apply below_alloc | apply pw_below_drewN | apply below_drew1) | exact HB.out)⟩⟩
 case round =>
  clear H'
  try clear c1
  try clear p2
  try clear c3
  try clear c3b0
  try clear c3b1
  try clear c3b2
  obtain ⟨x5_1, rfl, HA, HK1, HB⟩ := hrel
  cases gk with
  | zero => exact absurd HA.out (by simp [semblanceref11_States.l0])
  | succ k1 =>
   have H := HA.out
   clear HA
   simp only [semblanceref11_States.l0] at H
   by_cases c4 : x5_1 < (l0.length : Int)
   rotate_left
   ·rw [if_neg c4] at H
    have c4b0 : decide (x5_1 < (l0.length : Int)) = false := decide_eq_false c4
    clear c4
    obtain rfl := Option.some.inj H
    go_wp2
    go_ret
    exact ⟨by first | rfl | (simp [errW_none, errW_some] <;> rfl) | (simp [*, errW_none, errW_some] <;> rfl), by repeat (first | (with_reducible first | exact HB.out | apply below_alloc | apply pw_below_drewN | apply below_drew1) | exact HB.out)⟩
   rw [if_pos c4] at H
   have c4b0 : decide (x5_1 < (l0.length : Int)) = true := decide_eq_true c4
   clear c4
   by_cases c5 : 0 ≤ x5_1
   rotate_left
   ·rw [if_neg c5] at H
    exact absurd H (by simp)
   rw [if_pos c5] at H
   have c5b0 : decide (0 ≤ x5_1) = true := decide_eq_true c5
   clear c5
   by_cases c6 : x5_1 < (l1.length : Int)
   rotate_left
   ·rw [if_neg c6] at H
    exact absurd H (by simp)
   rw [if_pos c6] at H
   have c6b0 : decide (x5_1 < (l1.length : Int)) = true := decide_eq_true c6
   clear c6
   have HZ_ := Aside0.mk H
   clear H
   try go_wp2
   have n0_ := Aside0.mk (below_drew1 HB.out)
   clear HB
   have HB := n0_
   clear n0_
   have p350 : 0 ≤ (x5_1 : Int) := of_decide_eq_true (by first | (with_reducible assumption) | assumption)
   have q350 : x5_1 < (l0.length : Int) := of_decide_eq_true (by first | (with_reducible assumption) | assumption)
   obtain ⟨ad350, A350_3, c350_3, A350_4, c350_4, A350_5, c350_5, e350, hx350_0, hx350_1, hx350_2, hx350_3, hx350_4, hx350_5, hl350_3, hi350_3, hl350_4, hi350_4, hl350_5, hi350_5⟩ := at_T99 HR0.out x5_1 p350 q350
   have hw350_5 := hx350_5
   have hw350_4 := hx350_4
   have hw350_3 := hx350_3
   have hw350_2 := hx350_2
   have hw350_1 := hx350_1
   have hw350_0 := hx350_0
   cases e350
   replace hx350_0 := hc23_ HB.out hx350_0
   replace hx350_1 := hc23_ HB.out hx350_1
   replace hx350_2 := hc23_ HB.out hx350_2
   replace hx350_3 := hc23_ HB.out hx350_3
   replace hx350_4 := hc23_ HB.out hx350_4
   replace hx350_5 := hc23_ HB.out hx350_5
   have HR350_3 := Aside0.mk hi350_3
   have HC350_3 := Aside0.mk hl350_3
   clear hi350_3 hl350_3
   have HR350_4 := Aside0.mk hi350_4
   have HC350_4 := Aside0.mk hl350_4
   clear hi350_4 hl350_4
   have HR350_5 := Aside0.mk hi350_5
   have HC350_5 := Aside0.mk hl350_5
   clear hi350_5 hl350_5
   replace p350 := eq_true p350
   replace q350 := eq_true q350
   have p351 : 0 ≤ (x5_1 : Int) := of_decide_eq_true (by first | (with_reducible assumption) | assumption)
   have q351 : x5_1 < (l1.length : Int) := of_decide_eq_true (by first | (with_reducible assumption) | assumption)
   obtain ⟨ad351, A351_3, c351_3, A351_4, c351_4, A351_5, c351_5, e351, hx351_0, hx351_1, hx351_2, hx351_3, hx351_4, hx351_5, hl351_3, hi351_3, hl351_4, hi351_4, hl351_5, hi351_5⟩ := at_T99 HR1.out x5_1 p351 q351
   have hw351_5 := hx351_5
   have hw351_4 := hx351_4
   have hw351_3 := hx351_3
   have hw351_2 := hx351_2
   have hw351_1 := hx351_1
   have hw351_0 := hx351_0
   cases e351
   replace hx351_0 := hc23_ HB.out hx351_0
   replace hx351_1 := hc23_ HB.out hx351_1
   replace hx351_2 := hc23_ HB.out hx351_2
   replace hx351_3 := hc23_ HB.out hx351_3
   replace hx351_4 := hc23_ HB.out hx351_4
   replace hx351_5 := hc23_ HB.out hx351_5
   have HR351_3 := Aside0.mk hi351_3
   have HC351_3 := Aside0.mk hl351_3
   clear hi351_3 hl351_3
   have HR351_4 := Aside0.mk hi351_4
   have HC351_4 := Aside0.mk hl351_4
   clear hi351_4 hl351_4
   have HR351_5 := Aside0.mk hi351_5
   have HC351_5 := Aside0.mk hl351_5
   clear hi351_5 hl351_5
   replace p351 := eq_true p351
   replace q351 := eq_true q351
   refine start_ (n := 12) (S := fun w' => w'.cell? (ad350.add ((x5_1).toNat * 6)) = some (.string ((rd_T99 l0 x5_1).f0)) ∧ w'.cell? ⟨(ad350.add ((x5_1).toNat * 6)).block, (ad350.add ((x5_1).toNat * 6)).off + 1, none⟩ = some (.int .i64 ((rd_T99 l0 x5_1).f1)) ∧ w'.cell? ⟨(ad350.add ((x5_1).toNat * 6)).block, (ad350.add ((x5_1).toNat * 6)).off + 2, none⟩ = some (.int .i64 ((rd_T99 l0 x5_1).f2)) ∧ w'.cell? ⟨(ad350.add ((x5_1).toNat * 6)).block, (ad350.add ((x5_1).toNat * 6)).off + 3, none⟩ = some (.slice A350_3 ((rd_T99 l0 x5_1).f3).length c350_3) ∧ w'.cell? ⟨(ad350.add ((x5_1).toNat * 6)).block, (ad350.add ((x5_1).toNat * 6)).off + 4, none⟩ = some (.slice A350_4 ((rd_T99 l0 x5_1).f4).length c350_4) ∧ w'.cell? ⟨(ad350.add ((x5_1).toNat * 6)).block, (ad350.add ((x5_1).toNat * 6)).off + 5, none⟩ = some (.slice A350_5 ((rd_T99 l0 x5_1).f5).length c350_5) ∧ w'.cell? (ad351.add ((x5_1).toNat * 6)) = some (.string ((rd_T99 l1 x5_1).f0)) ∧ w'.cell? ⟨(ad351.add ((x5_1).toNat * 6)).block, (ad351.add ((x5_1).toNat * 6)).off + 1, none⟩ = some (.int .i64 ((rd_T99 l1 x5_1).f1)) ∧ w'.cell? ⟨(ad351.add ((x5_1).toNat * 6)).block, (ad351.add ((x5_1).toNat * 6)).off + 2, none⟩ = some (.int .i64 ((rd_T99 l1 x5_1).f2)) ∧ w'.cell? ⟨(ad351.add ((x5_1).toNat * 6)).block, (ad351.add ((x5_1).toNat * 6)).off + 3, none⟩ = some (.slice A351_3 ((rd_T99 l1 x5_1).f3).length c351_3) ∧ w'.cell? ⟨(ad351.add ((x5_1).toNat * 6)).block, (ad351.add ((x5_1).toNat * 6)).off + 4, none⟩ = some (.slice A351_4 ((rd_T99 l1 x5_1).f4).length c351_4) ∧ w'.cell? ⟨(ad351.add ((x5_1).toNat * 6)).block, (ad351.add ((x5_1).toNat * 6)).off + 5, none⟩ = some (.slice A351_5 ((rd_T99 l1 x5_1).f5).length c351_5)) (ds := []) bw23_0 (by kernel_rfl) rfl rfl ⟨(hc23_ HB.out hw350_0 :), (hc23_ HB.out hw350_1 :), (hc23_ HB.out hw350_2 :), (hc23_ HB.out hw350_3 :), (hc23_ HB.out hw350_4 :), (hc23_ HB.out hw350_5 :), (hc23_ HB.out hw351_0 :), (hc23_ HB.out hw351_1 :), (hc23_ HB.out hw351_2 :), (hc23_ HB.out hw351_3 :), (hc23_ HB.out hw351_4 :), (hc23_ HB.out hw351_5 :)⟩ (fun hHeld => ?_); refine with_tabW semblanceref11_States.tab6 semblanceref11_States.bits6 (fun HT_ HW_ => ?_)
   generalize wr.drew = w16 at HB HR350_3 HR350_4 HR350_5 HR351_3 HR351_4 HR351_5 hx350_0 hx350_1 hx350_2 hx350_3 hx350_4 hx350_5 hx351_0 hx351_1 hx351_2 hx351_3 hx351_4 hx351_5 hHeld ⊢
   refine pure_ (i := 0) (N := some 19) (v := ?_) (a' := ?_) bw23_1 rfl rfl (any_of HT_.out (by kernel_rfl)) (fun _ _ _ h => h) (Or.inl ⟨by rfl, ?_⟩) ?_ ?_
   rotate_left
   ·intro w'
    go_simp
    with_reducible rfl
   rotate_left
   ·simp only [Act.put, sb_, s0_, s1_, i64_w, i32_w]
    rfl
   refine pure_ (i := 1) (N := some 20) (v := ?_) (a' := ?_) bw23_2 rfl rfl (any_of HT_.out (by kernel_rfl)) (fun _ _ _ h => h) (Or.inl ⟨by rfl, ?_⟩) ?_ ?_
   rotate_left
   ·intro w'
    go_simp
    with_reducible rfl
   rotate_left
   ·simp only [Act.put, sb_, s0_, s1_, i64_w, i32_w]
    rfl
   refine pure_ (i := 2) (N := some 21) (v := ?_) (a' := ?_) bw23_3 rfl rfl (any_of HT_.out (by kernel_rfl)) (fun _ _ _ h => h) (Or.inl ⟨by rfl, ?_⟩) ?_ ?_
   rotate_left
   ·intro w'
    go_simp
    with_reducible rfl
   rotate_left
   ·simp only [Act.put, sb_, s0_, s1_, i64_w, i32_w]
    rfl
   refine pure_ (i := 4) (N := some 23) (v := ?_) (a' := ?_) bw23_4 rfl rfl (any_of HT_.out (by kernel_rfl)) (fun _ _ _ h => h) (Or.inl ⟨by rfl, ?_⟩) ?_ ?_
   rotate_left
   ·intro w'
    go_simp
    with_reducible rfl
   rotate_left
   ·simp only [Act.put, sb_, s0_, s1_, i64_w, i32_w]
    rfl
   refine pure_ (i := 5) (N := some 24) (v := ?_) (a' := ?_) bw23_5 rfl rfl (any_of HT_.out (by kernel_rfl)) (fun _ _ _ h => h) (Or.inl ⟨by rfl, ?_⟩) ?_ ?_
   rotate_left
   ·intro w'
    go_simp
    with_reducible rfl
   rotate_left
   ·simp only [Act.put, sb_, s0_, s1_, i64_w, i32_w]
    rfl
   refine pure_ (i := 6) (N := some 25) (v := ?_) (a' := ?_) bw23_6 rfl rfl (any_of HT_.out (by kernel_rfl)) (fun _ _ _ h => h) (Or.inl ⟨by rfl, ?_⟩) ?_ ?_
   rotate_left
   ·intro w'
    go_simp
    with_reducible rfl
   rotate_left
   ·simp only [Act.put, sb_, s0_, s1_, i64_w, i32_w]
    rfl
   refine take_ (i := 3) (N := some 22) (v := ?_) (a' := ?_) bw23_7 rfl rfl (take_ofW HT_.out HW_.out (by kernel_rfl)) (fun _ _ _ h => h) (Or.inl ⟨by rfl, ?_⟩) hHeld ?_ ?_
   rotate_left
   ·rintro w' ⟨s0, s1, s2, s3, s4, s5, s6, s7, s8, s9, s10, s11⟩
    go_simp
    with_reducible rfl
   rotate_left
   ·simp only [Act.put, sb_, s0_, s1_, i64_w, i32_w]
    rfl
   refine take_ (i := 7) (N := some 26) (v := ?_) (a' := ?_) bw23_8 rfl rfl (take_ofW HT_.out HW_.out (by kernel_rfl)) (fun _ _ _ h => h) (Or.inl ⟨by rfl, ?_⟩) hHeld ?_ ?_
   rotate_left
   ·rintro w' ⟨s0, s1, s2, s3, s4, s5, s6, s7, s8, s9, s10, s11⟩
    go_simp
    with_reducible rfl
   rotate_left
   ·simp only [Act.put, sb_, s0_, s1_, i64_w, i32_w]
    rfl
   refine join_ (σ := Nat × Nat) 2 bw23_9 (fun s_ => [(6, .pointer (some ⟨s_.1, 0, none⟩)), (7, .pointer (some ⟨s_.2, 0, none⟩))]) (fun s_ w' => (w'.cell? (ad350.add ((x5_1).toNat * 6)) = some (.string ((rd_T99 l0 x5_1).f0)) ∧ w'.cell? ⟨(ad350.add ((x5_1).toNat * 6)).block, (ad350.add ((x5_1).toNat * 6)).off + 1, none⟩ = some (.int .i64 ((rd_T99 l0 x5_1).f1)) ∧ w'.cell? ⟨(ad350.add ((x5_1).toNat * 6)).block, (ad350.add ((x5_1).toNat * 6)).off + 2, none⟩ = some (.int .i64 ((rd_T99 l0 x5_1).f2)) ∧ w'.cell? ⟨(ad350.add ((x5_1).toNat * 6)).block, (ad350.add ((x5_1).toNat * 6)).off + 3, none⟩ = some (.slice A350_3 ((rd_T99 l0 x5_1).f3).length c350_3) ∧ w'.cell? ⟨(ad350.add ((x5_1).toNat * 6)).block, (ad350.add ((x5_1).toNat * 6)).off + 4, none⟩ = some (.slice A350_4 ((rd_T99 l0 x5_1).f4).length c350_4) ∧ w'.cell? ⟨(ad350.add ((x5_1).toNat * 6)).block, (ad350.add ((x5_1).toNat * 6)).off + 5, none⟩ = some (.slice A350_5 ((rd_T99 l0 x5_1).f5).length c350_5) ∧ w'.cell? (ad351.add ((x5_1).toNat * 6)) = some (.string ((rd_T99 l1 x5_1).f0)) ∧ w'.cell? ⟨(ad351.add ((x5_1).toNat * 6)).block, (ad351.add ((x5_1).toNat * 6)).off + 1, none⟩ = some (.int .i64 ((rd_T99 l1 x5_1).f1)) ∧ w'.cell? ⟨(ad351.add ((x5_1).toNat * 6)).block, (ad351.add ((x5_1).toNat * 6)).off + 2, none⟩ = some (.int .i64 ((rd_T99 l1 x5_1).f2)) ∧ w'.cell? ⟨(ad351.add ((x5_1).toNat * 6)).block, (ad351.add ((x5_1).toNat * 6)).off + 3, none⟩ = some (.slice A351_3 ((rd_T99 l1 x5_1).f3).length c351_3) ∧ w'.cell? ⟨(ad351.add ((x5_1).toNat * 6)).block, (ad351.add ((x5_1).toNat * 6)).off + 4, none⟩ = some (.slice A351_4 ((rd_T99 l1 x5_1).f4).length c351_4) ∧ w'.cell? ⟨(ad351.add ((x5_1).toNat * 6)).block, (ad351.add ((x5_1).toNat * 6)).off + 5, none⟩ = some (.slice A351_5 ((rd_T99 l1 x5_1).f5).length c351_5)) ∧ (w'.heap[s_.1]? = some (.cells #[.string (⟨#[]⟩ : ByteArray), .int .i64 0, .int .i64 0, .slice none 0 0, .slice none 0 0, .slice none 0 0] 99 (0, 0))) ∧ (w'.heap[s_.2]? = some (.cells #[.string (⟨#[]⟩ : ByteArray), .int .i64 0, .int .i64 0, .slice none 0 0, .slice none 0 0, .slice none 0 0] 99 (0, 0))) ∧ (w.heap.size ≤ s_.1) ∧ (w.heap.size ≤ s_.1) ∧ (s_.2 ≠ s_.1) ∧ (s_.1 ≠ s_.2) ∧ (w.heap.size ≤ s_.2) ∧ (w.heap.size ≤ s_.2) ∧ (Below w.heap.size w w')) ?_ ?_
   rotate_left
   ·intro hCont
    refine two_ (i := 8) (j := 9) (Ni := some 6) (Nj := some 7) bw23_10 bw23_11 rfl rfl rfl rfl (two_of HT_.out (by kernel_rfl)) (by decide) (by decide) (fun K hK => ?_) (fun K hK => ?_)
    ·skip
     refine box_step ?hg (N := 6) ?hd (cs := #[.string (⟨#[]⟩ : ByteArray), .int .i64 0, .int .i64 0, .slice none 0 0, .slice none 0 0, .slice none 0 0]) (t := 99) ?hr ?_; (case hd => rfl); (case hg => rfl); (case hr => first | (go_simp; done) | (go_simp; rfl))
     intro gb352 hg w17 hbox hb
     have n0_ := Aside0.mk (below_step (brw HB.out) hb)
     have n1_ := Aside0.mk (hbox)
     have n2_ := Aside0.mk ((by rw [hg]; exact (below_size (brw HB.out)) : w.heap.size ≤ gb352))
     have n3_ := Aside0.mk ((by rw [hg]; exact (below_size (brw HB.out)) : w.heap.size ≤ gb352))
     clear HB
     have HB := n0_
     have BK352 := n1_
     have GW352 := n2_
     have GE352 := n3_
     clear n0_ n1_ n2_ n3_
     clear hb hbox hg
     refine hK.out _ _ ⟨(hc23_ HB.out hw350_0 :), (hc23_ HB.out hw350_1 :), (hc23_ HB.out hw350_2 :), (hc23_ HB.out hw350_3 :), (hc23_ HB.out hw350_4 :), (hc23_ HB.out hw350_5 :), (hc23_ HB.out hw351_0 :), (hc23_ HB.out hw351_1 :), (hc23_ HB.out hw351_2 :), (hc23_ HB.out hw351_3 :), (hc23_ HB.out hw351_4 :), (hc23_ HB.out hw351_5 :)⟩ (fun hHeld => ?_)
     clear hK K
     refine norm_ (a' := ?_) ?_ ?_
     rotate_left
     ·show Act.put _ (some 6) _ = _
      simp only [Act.put, sb_, s0_, s1_, i64_w, i32_w]
      rfl
     refine one_ (i := 9) (N := some 7) bw23_9 rfl rfl (one_of HT_.out (by kernel_rfl)) (by decide) (fun K hK => ?_)
     refine box_step ?hg (N := 7) ?hd (cs := #[.string (⟨#[]⟩ : ByteArray), .int .i64 0, .int .i64 0, .slice none 0 0, .slice none 0 0, .slice none 0 0]) (t := 99) ?hr ?_; (case hd => rfl); (case hg => rfl); (case hr => first | (go_simp; done) | (go_simp; rfl))
     intro gb353 hg w18 hbox hb
     have n0_ := Aside0.mk (blk_below (g := gb352) (o := .cells #[.string (⟨#[]⟩ : ByteArray), .int .i64 0, .int .i64 0, .slice none 0 0, .slice none 0 0, .slice none 0 0] 99 (0, 0)) (grw BK352.out) hb)
     have n1_ := Aside0.mk (below_step (by repeat (first | (with_reducible first | exact HB.out | apply below_alloc | apply pw_below_drewN | apply below_drew1 | refine below_set ?_ GE352.out) | exact HB.out)) hb)
     have n2_ := Aside0.mk (hbox)
     have n3_ := Aside0.mk ((by rw [hg]; exact (below_size (by repeat (first | (with_reducible first | exact HB.out | apply below_alloc | apply pw_below_drewN | apply below_drew1 | refine below_set ?_ GE352.out) | exact HB.out))) : w.heap.size ≤ gb353))
     have n4_ := Aside0.mk ((by rw [hg]; exact (below_size (by repeat (first | (with_reducible first | exact HB.out | apply below_alloc | apply pw_below_drewN | apply below_drew1 | refine below_set ?_ GE352.out) | exact HB.out))) : w.heap.size ≤ gb353))
     have n5_ := Aside0.mk ((by rw [hg]; exact Nat.ne_of_lt (blk_lt (g := gb352) (o := .cells #[.string (⟨#[]⟩ : ByteArray), .int .i64 0, .int .i64 0, .slice none 0 0, .slice none 0 0, .slice none 0 0] 99 (0, 0)) (grw BK352.out)) : gb352 ≠ gb353))
     have n6_ := Aside0.mk ((by rw [hg]; exact Nat.ne_of_gt (blk_lt (g := gb352) (o := .cells #[.string (⟨#[]⟩ : ByteArray), .int .i64 0, .int .i64 0, .slice none 0 0, .slice none 0 0, .slice none 0 0] 99 (0, 0)) (grw BK352.out)) : gb353 ≠ gb352))
     clear BK352
     clear HB
     have BK352 := n0_
     have HB := n1_
     have BK353 := n2_
     have GW353 := n3_
     have GE353 := n4_
     have NB352_353 := n5_
     have NB353_352 := n6_
     clear n0_ n1_ n2_ n3_ n4_ n5_ n6_
     clear hb hbox hg
     refine hK.out _ _ ⟨(hc23_ HB.out hw350_0 :), (hc23_ HB.out hw350_1 :), (hc23_ HB.out hw350_2 :), (hc23_ HB.out hw350_3 :), (hc23_ HB.out hw350_4 :), (hc23_ HB.out hw350_5 :), (hc23_ HB.out hw351_0 :), (hc23_ HB.out hw351_1 :), (hc23_ HB.out hw351_2 :), (hc23_ HB.out hw351_3 :), (hc23_ HB.out hw351_4 :), (hc23_ HB.out hw351_5 :)⟩ (fun hHeld => ?_)
     clear hK K
     refine norm_ (a' := ?_) ?_ ?_
     rotate_left
     ·show Act.put _ (some 7) _ = _
      simp only [Act.put, sb_, s0_, s1_, i64_w, i32_w]
      rfl
     exact norm_ (by simp only [putAll, Act.put, sb_, s0_, s1_]) (hCont (gb352, gb353) _ ⟨hHeld, (grw BK352.out), (grw BK353.out), GW352.out, GE352.out, NB353_352.out, NB352_353.out, GW353.out, GE353.out, (by repeat (first | (with_reducible first | exact HB.out | apply below_alloc | apply pw_below_drewN | apply below_drew1 | refine below_set ?_ GE352.out | refine below_set ?_ GE353.out) | exact HB.out))⟩)
    ·skip
     refine box_step ?hg (N := 7) ?hd (cs := #[.string (⟨#[]⟩ : ByteArray), .int .i64 0, .int .i64 0, .slice none 0 0, .slice none 0 0, .slice none 0 0]) (t := 99) ?hr ?_; (case hd => rfl); (case hg => rfl); (case hr => first | (go_simp; done) | (go_simp; rfl))
     intro gb353 hg w17 hbox hb
     have n0_ := Aside0.mk (below_step (brw HB.out) hb)
     have n1_ := Aside0.mk (hbox)
     have n2_ := Aside0.mk ((by rw [hg]; exact (below_size (brw HB.out)) : w.heap.size ≤ gb353))
     have n3_ := Aside0.mk ((by rw [hg]; exact (below_size (brw HB.out)) : w.heap.size ≤ gb353))
     clear HB
     have HB := n0_
     have BK353 := n1_
     have GW353 := n2_
     have GE353 := n3_
     clear n0_ n1_ n2_ n3_
     clear hb hbox hg
     refine hK.out _ _ ⟨(hc23_ HB.out hw350_0 :), (hc23_ HB.out hw350_1 :), (hc23_ HB.out hw350_2 :), (hc23_ HB.out hw350_3 :), (hc23_ HB.out hw350_4 :), (hc23_ HB.out hw350_5 :), (hc23_ HB.out hw351_0 :), (hc23_ HB.out hw351_1 :), (hc23_ HB.out hw351_2 :), (hc23_ HB.out hw351_3 :), (hc23_ HB.out hw351_4 :), (hc23_ HB.out hw351_5 :)⟩ (fun hHeld => ?_)
     clear hK K
     refine norm_ (a' := ?_) ?_ ?_
     rotate_left
     ·show Act.put _ (some 7) _ = _
      simp only [Act.put, sb_, s0_, s1_, i64_w, i32_w]
      rfl
     refine one_ (i := 8) (N := some 6) bw23_9 rfl rfl (one_of HT_.out (by kernel_rfl)) (by decide) (fun K hK => ?_)
     refine box_step ?hg (N := 6) ?hd (cs := #[.string (⟨#[]⟩ : ByteArray), .int .i64 0, .int .i64 0, .slice none 0 0, .slice none 0 0, .slice none 0 0]) (t := 99) ?hr ?_; (case hd => rfl); (case hg => rfl); (case hr => first | (go_simp; done) | (go_simp; rfl))
     intro gb352 hg w18 hbox hb
     have n0_ := Aside0.mk (blk_below (g := gb353) (o := .cells #[.string (⟨#[]⟩ : ByteArray), .int .i64 0, .int .i64 0, .slice none 0 0, .slice none 0 0, .slice none 0 0] 99 (0, 0)) (grw BK353.out) hb)
     have n1_ := Aside0.mk (below_step (by repeat (first | (with_reducible first | exact HB.out | apply below_alloc | apply pw_below_drewN | apply below_drew1 | refine below_set ?_ GE353.out) | exact HB.out)) hb)
     have n2_ := Aside0.mk (hbox)
     have n3_ := Aside0.mk ((by rw [hg]; exact (below_size (by repeat (first | (with_reducible first | exact HB.out | apply below_alloc | apply pw_below_drewN | apply below_drew1 | refine below_set ?_ GE353.out) | exact HB.out))) : w.heap.size ≤ gb352))
     have n4_ := Aside0.mk ((by rw [hg]; exact (below_size (by repeat (first | (with_reducible first | exact HB.out | apply below_alloc | apply pw_below_drewN | apply below_drew1 | refine below_set ?_ GE353.out) | exact HB.out))) : w.heap.size ≤ gb352))
     have n5_ := Aside0.mk ((by rw [hg]; exact Nat.ne_of_lt (blk_lt (g := gb353) (o := .cells #[.string (⟨#[]⟩ : ByteArray), .int .i64 0, .int .i64 0, .slice none 0 0, .slice none 0 0, .slice none 0 0] 99 (0, 0)) (grw BK353.out)) : gb353 ≠ gb352))
     have n6_ := Aside0.mk ((by rw [hg]; exact Nat.ne_of_gt (blk_lt (g := gb353) (o := .cells #[.string (⟨#[]⟩ : ByteArray), .int .i64 0, .int .i64 0, .slice none 0 0, .slice none 0 0, .slice none 0 0] 99 (0, 0)) (grw BK353.out)) : gb352 ≠ gb353))
     clear BK353
     clear HB
     have BK353 := n0_
     have HB := n1_
     have BK352 := n2_
     have GW352 := n3_
     have GE352 := n4_
     have NB353_352 := n5_
     have NB352_353 := n6_
     clear n0_ n1_ n2_ n3_ n4_ n5_ n6_
     clear hb hbox hg
     refine hK.out _ _ ⟨(hc23_ HB.out hw350_0 :), (hc23_ HB.out hw350_1 :), (hc23_ HB.out hw350_2 :), (hc23_ HB.out hw350_3 :), (hc23_ HB.out hw350_4 :), (hc23_ HB.out hw350_5 :), (hc23_ HB.out hw351_0 :), (hc23_ HB.out hw351_1 :), (hc23_ HB.out hw351_2 :), (hc23_ HB.out hw351_3 :), (hc23_ HB.out hw351_4 :), (hc23_ HB.out hw351_5 :)⟩ (fun hHeld => ?_)
     clear hK K
     refine norm_ (a' := ?_) ?_ ?_
     rotate_left
     ·show Act.put _ (some 6) _ = _
      simp only [Act.put, sb_, s0_, s1_, i64_w, i32_w]
      rfl
     exact norm_ (by simp only [putAll, Act.put, sb_, s0_, s1_]) (hCont (gb352, gb353) _ ⟨hHeld, (grw BK352.out), (grw BK353.out), GW352.out, GE352.out, NB353_352.out, NB352_353.out, GW353.out, GE353.out, (by repeat (first | (with_reducible first | exact HB.out | apply below_alloc | apply pw_below_drewN | apply below_drew1 | refine below_set ?_ GE353.out | refine below_set ?_ GE352.out) | exact HB.out))⟩)
   rintro ⟨gb352, gb353⟩ w19 ⟨hS_, h0_, h1_, h2_, h3_, h4_, h5_, h6_, h7_, h8_⟩
   have n0_ : Aside0 (w19.heap[gb352]? = some (.cells #[.string (⟨#[]⟩ : ByteArray), .int .i64 0, .int .i64 0, .slice none 0 0, .slice none 0 0, .slice none 0 0] 99 (0, 0))) := ⟨h0_⟩
   have n1_ : Aside0 (w19.heap[gb353]? = some (.cells #[.string (⟨#[]⟩ : ByteArray), .int .i64 0, .int .i64 0, .slice none 0 0, .slice none 0 0, .slice none 0 0] 99 (0, 0))) := ⟨h1_⟩
   have n2_ : Aside0 (w.heap.size ≤ gb352) := ⟨h2_⟩
   have n3_ : Aside0 (w.heap.size ≤ gb352) := ⟨h3_⟩
   have n4_ : Aside0 (gb353 ≠ gb352) := ⟨h4_⟩
   have n5_ : Aside0 (gb352 ≠ gb353) := ⟨h5_⟩
   have n6_ : Aside0 (w.heap.size ≤ gb353) := ⟨h6_⟩
   have n7_ : Aside0 (w.heap.size ≤ gb353) := ⟨h7_⟩
   have n8_ : Aside0 (Below w.heap.size w w19) := ⟨h8_⟩
   clear HB
   clear h0_ h1_ h2_ h3_ h4_ h5_ h6_ h7_ h8_
   have BK352 := n0_
   have BK353 := n1_
   have GW352 := n2_
   have GE352 := n3_
   have NB353_352 := n4_
   have NB352_353 := n5_
   have GW353 := n6_
   have GE353 := n7_
   have HB := n8_
   clear n0_ n1_ n2_ n3_ n4_ n5_ n6_ n7_ n8_
   have hHeld : w19.cell? (ad350.add ((x5_1).toNat * 6)) = some (.string ((rd_T99 l0 x5_1).f0)) ∧ w19.cell? ⟨(ad350.add ((x5_1).toNat * 6)).block, (ad350.add ((x5_1).toNat * 6)).off + 1, none⟩ = some (.int .i64 ((rd_T99 l0 x5_1).f1)) ∧ w19.cell? ⟨(ad350.add ((x5_1).toNat * 6)).block, (ad350.add ((x5_1).toNat * 6)).off + 2, none⟩ = some (.int .i64 ((rd_T99 l0 x5_1).f2)) ∧ w19.cell? ⟨(ad350.add ((x5_1).toNat * 6)).block, (ad350.add ((x5_1).toNat * 6)).off + 3, none⟩ = some (.slice A350_3 ((rd_T99 l0 x5_1).f3).length c350_3) ∧ w19.cell? ⟨(ad350.add ((x5_1).toNat * 6)).block, (ad350.add ((x5_1).toNat * 6)).off + 4, none⟩ = some (.slice A350_4 ((rd_T99 l0 x5_1).f4).length c350_4) ∧ w19.cell? ⟨(ad350.add ((x5_1).toNat * 6)).block, (ad350.add ((x5_1).toNat * 6)).off + 5, none⟩ = some (.slice A350_5 ((rd_T99 l0 x5_1).f5).length c350_5) ∧ w19.cell? (ad351.add ((x5_1).toNat * 6)) = some (.string ((rd_T99 l1 x5_1).f0)) ∧ w19.cell? ⟨(ad351.add ((x5_1).toNat * 6)).block, (ad351.add ((x5_1).toNat * 6)).off + 1, none⟩ = some (.int .i64 ((rd_T99 l1 x5_1).f1)) ∧ w19.cell? ⟨(ad351.add ((x5_1).toNat * 6)).block, (ad351.add ((x5_1).toNat * 6)).off + 2, none⟩ = some (.int .i64 ((rd_T99 l1 x5_1).f2)) ∧ w19.cell? ⟨(ad351.add ((x5_1).toNat * 6)).block, (ad351.add ((x5_1).toNat * 6)).off + 3, none⟩ = some (.slice A351_3 ((rd_T99 l1 x5_1).f3).length c351_3) ∧ w19.cell? ⟨(ad351.add ((x5_1).toNat * 6)).block, (ad351.add ((x5_1).toNat * 6)).off + 4, none⟩ = some (.slice A351_4 ((rd_T99 l1 x5_1).f4).length c351_4) ∧ w19.cell? ⟨(ad351.add ((x5_1).toNat * 6)).block, (ad351.add ((x5_1).toNat * 6)).off + 5, none⟩ = some (.slice A351_5 ((rd_T99 l1 x5_1).f5).length c351_5) := hS_
   refine norm_ (a' := ?_) ?_ ?_
   rotate_left
   ·simp only [putAll, Act.put, sb_, s0_, s1_]
    rfl
   refine one_ (i := 10) (N := none) bw23_12 rfl rfl (one_of HT_.out (by kernel_rfl)) (by decide) (fun K hK => ?_)
   have hs20 : w19.cell? ⟨gb352, 0, none⟩ = some (.string (⟨#[]⟩ : ByteArray)) := (blk_cell BK352.out 0).trans rfl
   have hfs20 := blk_frozen BK352.out 0
   have hns20_1 := NB353_352.out
   have hms20_1 := NB352_353.out
   have hs21 : w19.cell? ⟨gb352, 1, none⟩ = some (.int .i64 0) := (blk_cell BK352.out 1).trans rfl
   have hfs21 := blk_frozen BK352.out 1
   have hns21_1 := NB353_352.out
   have hms21_1 := NB352_353.out
   have hs22 : w19.cell? ⟨gb352, 2, none⟩ = some (.int .i64 0) := (blk_cell BK352.out 2).trans rfl
   have hfs22 := blk_frozen BK352.out 2
   have hns22_1 := NB353_352.out
   have hms22_1 := NB352_353.out
   have hs23 : w19.cell? ⟨gb352, 3, none⟩ = some (.slice none 0 0) := (blk_cell BK352.out 3).trans rfl
   have hfs23 := blk_frozen BK352.out 3
   have hns23_1 := NB353_352.out
   have hms23_1 := NB352_353.out
   have hs24 : w19.cell? ⟨gb352, 4, none⟩ = some (.slice none 0 0) := (blk_cell BK352.out 4).trans rfl
   have hfs24 := blk_frozen BK352.out 4
   have hns24_1 := NB353_352.out
   have hms24_1 := NB352_353.out
   have hs25 : w19.cell? ⟨gb352, 5, none⟩ = some (.slice none 0 0) := (blk_cell BK352.out 5).trans rfl
   have hfs25 := blk_frozen BK352.out 5
   have hns25_1 := NB353_352.out
   have hms25_1 := NB352_353.out
   refine skip_ (w1 := ?_) (by rfl) rfl ?_ ?_
   rotate_left
   ·go_simp
    rfl
   refine hK.out _ _ ⟨((((((((((((gy23_ (g := gb352) hw350_0 GW352.out).trans (hHeld.1)))))))))))), ((((((((((((gy23_ (g := gb352) hw350_1 GW352.out).trans (hHeld.2.1)))))))))))), ((((((((((((gy23_ (g := gb352) hw350_2 GW352.out).trans (hHeld.2.2.1)))))))))))), ((((((((((((gy23_ (g := gb352) hw350_3 GW352.out).trans (hHeld.2.2.2.1)))))))))))), ((((((((((((gy23_ (g := gb352) hw350_4 GW352.out).trans (hHeld.2.2.2.2.1)))))))))))), ((((((((((((gy23_ (g := gb352) hw350_5 GW352.out).trans (hHeld.2.2.2.2.2.1)))))))))))), ((((((((((((gy23_ (g := gb352) hw351_0 GW352.out).trans (hHeld.2.2.2.2.2.2.1)))))))))))), ((((((((((((gy23_ (g := gb352) hw351_1 GW352.out).trans (hHeld.2.2.2.2.2.2.2.1)))))))))))), ((((((((((((gy23_ (g := gb352) hw351_2 GW352.out).trans (hHeld.2.2.2.2.2.2.2.2.1)))))))))))), ((((((((((((gy23_ (g := gb352) hw351_3 GW352.out).trans (hHeld.2.2.2.2.2.2.2.2.2.1)))))))))))), ((((((((((((gy23_ (g := gb352) hw351_4 GW352.out).trans (hHeld.2.2.2.2.2.2.2.2.2.2.1)))))))))))), ((((((((((((gy23_ (g := gb352) hw351_5 GW352.out).trans (hHeld.2.2.2.2.2.2.2.2.2.2.2))))))))))))⟩ (fun hHeld => ?_)
   clear hK K
   refine one_ (i := 11) (N := none) bw23_13 rfl rfl (one_of HT_.out (by kernel_rfl)) (by decide) (fun K hK => ?_)
   have hs26 : w19.cell? ⟨gb353, 0, none⟩ = some (.string (⟨#[]⟩ : ByteArray)) := (blk_cell BK353.out 0).trans rfl
   have hfs26 := blk_frozen BK353.out 0
   have hns26_0 := NB352_353.out
   have hms26_0 := NB353_352.out
   have hs27 : w19.cell? ⟨gb353, 1, none⟩ = some (.int .i64 0) := (blk_cell BK353.out 1).trans rfl
   have hfs27 := blk_frozen BK353.out 1
   have hns27_0 := NB352_353.out
   have hms27_0 := NB353_352.out
   have hs28 : w19.cell? ⟨gb353, 2, none⟩ = some (.int .i64 0) := (blk_cell BK353.out 2).trans rfl
   have hfs28 := blk_frozen BK353.out 2
   have hns28_0 := NB352_353.out
   have hms28_0 := NB353_352.out
   have hs29 : w19.cell? ⟨gb353, 3, none⟩ = some (.slice none 0 0) := (blk_cell BK353.out 3).trans rfl
   have hfs29 := blk_frozen BK353.out 3
   have hns29_0 := NB352_353.out
   have hms29_0 := NB353_352.out
   have hs30 : w19.cell? ⟨gb353, 4, none⟩ = some (.slice none 0 0) := (blk_cell BK353.out 4).trans rfl
   have hfs30 := blk_frozen BK353.out 4
   have hns30_0 := NB352_353.out
   have hms30_0 := NB353_352.out
   have hs31 : w19.cell? ⟨gb353, 5, none⟩ = some (.slice none 0 0) := (blk_cell BK353.out 5).trans rfl
   have hfs31 := blk_frozen BK353.out 5
   have hns31_0 := NB352_353.out
   have hms31_0 := NB353_352.out
   refine skip_ (w1 := ?_) (by rfl) rfl ?_ ?_
   rotate_left
   ·go_simp
    rfl
   refine hK.out _ _ ⟨((((((((((((gy23_ (g := gb353) hw350_0 GW353.out).trans (hHeld.1)))))))))))), ((((((((((((gy23_ (g := gb353) hw350_1 GW353.out).trans (hHeld.2.1)))))))))))), ((((((((((((gy23_ (g := gb353) hw350_2 GW353.out).trans (hHeld.2.2.1)))))))))))), ((((((((((((gy23_ (g := gb353) hw350_3 GW353.out).trans (hHeld.2.2.2.1)))))))))))), ((((((((((((gy23_ (g := gb353) hw350_4 GW353.out).trans (hHeld.2.2.2.2.1)))))))))))), ((((((((((((gy23_ (g := gb353) hw350_5 GW353.out).trans (hHeld.2.2.2.2.2.1)))))))))))), ((((((((((((gy23_ (g := gb353) hw351_0 GW353.out).trans (hHeld.2.2.2.2.2.2.1)))))))))))), ((((((((((((gy23_ (g := gb353) hw351_1 GW353.out).trans (hHeld.2.2.2.2.2.2.2.1)))))))))))), ((((((((((((gy23_ (g := gb353) hw351_2 GW353.out).trans (hHeld.2.2.2.2.2.2.2.2.1)))))))))))), ((((((((((((gy23_ (g := gb353) hw351_3 GW353.out).trans (hHeld.2.2.2.2.2.2.2.2.2.1)))))))))))), ((((((((((((gy23_ (g := gb353) hw351_4 GW353.out).trans (hHeld.2.2.2.2.2.2.2.2.2.2.1)))))))))))), ((((((((((((gy23_ (g := gb353) hw351_5 GW353.out).trans (hHeld.2.2.2.2.2.2.2.2.2.2.2))))))))))))⟩ (fun hHeld => ?_)
   clear hK K
   refine done_ (done_of HT_.out (by kernel_rfl)) ?_
   have hnb32 := NB352_353.out
   have hnc32 := NB353_352.out
   obtain ⟨hcz33_0, hcz33_1, hcz33_2, hcz33_3, hcz33_4, hcz33_5⟩ := cz6_ BK352.out
   obtain ⟨hfz33_0, hfz33_1, hfz33_2, hfz33_3, hfz33_4, hfz33_5⟩ := cf6_ BK352.out
   obtain ⟨hcz34_0, hcz34_1, hcz34_2, hcz34_3, hcz34_4, hcz34_5⟩ := cz6_ BK353.out
   obtain ⟨hfz34_0, hfz34_1, hfz34_2, hfz34_3, hfz34_4, hfz34_5⟩ := cf6_ BK353.out
   have H := HZ_.out
   clear HZ_
   by_cases c7 : ((rd_T99 l0 x5_1).f0).toList = ((rd_T99 l1 x5_1).f0).toList
   rotate_left
   ·rw [if_neg c7] at H
    have c7b0 : (((rd_T99 l0 x5_1).f0).toList == ((rd_T99 l1 x5_1).f0).toList) = false := beq_eq_false_iff_ne.mpr c7
    have c7b1 : (((rd_T99 l0 x5_1).f0).toList != ((rd_T99 l1 x5_1).f0).toList) = true := bne_iff_ne.mpr c7
    obtain rfl := Option.some.inj H
    try go_wp2
    go_ret
    exact ⟨by first | rfl | (simp [errW_none, errW_some] <;> rfl) | (simp [*, errW_none, errW_some] <;> rfl), by repeat (first | (with_reducible first | exact HB.out | apply below_alloc | apply pw_below_drewN | apply below_drew1 | refine below_set ?_ GE352.out | refine below_set ?_ GE353.out) | exact HB.out)⟩
   rw [if_pos c7] at H
   have c7b0 : (((rd_T99 l0 x5_1).f0).toList == ((rd_T99 l1 x5_1).f0).toList) = true := beq_iff_eq.mpr c7
   have c7b1 : (((rd_T99 l0 x5_1).f0).toList != ((rd_T99 l1 x5_1).f0).toList) = false := bne_eq_false_iff_eq.mpr c7
   clear c7
   by_cases c8 : ((rd_T99 l0 x5_1).f1) = ((rd_T99 l1 x5_1).f1)
   rotate_left
   ·rw [if_neg c8] at H
    have c8b0 : (((rd_T99 l0 x5_1).f1) == ((rd_T99 l1 x5_1).f1)) = false := beq_eq_false_iff_ne.mpr c8
    have c8b1 : (((rd_T99 l0 x5_1).f1) != ((rd_T99 l1 x5_1).f1)) = true := bne_iff_ne.mpr c8
    obtain rfl := Option.some.inj H
    try go_wp2
    go_ret
    exact ⟨by first | rfl | (simp [errW_none, errW_some] <;> rfl) | (simp [*, errW_none, errW_some] <;> rfl), by repeat (first | (with_reducible first | exact HB.out | apply below_alloc | apply pw_below_drewN | apply below_drew1 | refine below_set ?_ GE352.out | refine below_set ?_ GE353.out) | exact HB.out)⟩
   rw [if_pos c8] at H
   have c8b0 : (((rd_T99 l0 x5_1).f1) == ((rd_T99 l1 x5_1).f1)) = true := beq_iff_eq.mpr c8
   have c8b1 : (((rd_T99 l0 x5_1).f1) != ((rd_T99 l1 x5_1).f1)) = false := bne_eq_false_iff_eq.mpr c8
   clear c8
   by_cases c9 : ((rd_T99 l0 x5_1).f2) = ((rd_T99 l1 x5_1).f2)
   rotate_left
   ·rw [if_neg c9] at H
    have c9b0 : (((rd_T99 l0 x5_1).f2) == ((rd_T99 l1 x5_1).f2)) = false := beq_eq_false_iff_ne.mpr c9
    have c9b1 : (((rd_T99 l0 x5_1).f2) != ((rd_T99 l1 x5_1).f2)) = true := bne_iff_ne.mpr c9
    obtain rfl := Option.some.inj H
    try go_wp2
    go_ret
    exact ⟨by first | rfl | (simp [errW_none, errW_some] <;> rfl) | (simp [*, errW_none, errW_some] <;> rfl), by repeat (first | (with_reducible first | exact HB.out | apply below_alloc | apply pw_below_drewN | apply below_drew1 | refine below_set ?_ GE352.out | refine below_set ?_ GE353.out) | exact HB.out)⟩
   rw [if_pos c9] at H
   have c9b0 : (((rd_T99 l0 x5_1).f2) == ((rd_T99 l1 x5_1).f2)) = true := beq_iff_eq.mpr c9
   have c9b1 : (((rd_T99 l0 x5_1).f2) != ((rd_T99 l1 x5_1).f2)) = false := bne_eq_false_iff_eq.mpr c9
   clear c9
   replace H := Option.bind_eq_some_iff.mp H
   obtain ⟨t354, A100, H⟩ := H
   replace H : (if t354 = true then ((semblanceref08_Same.f k1 ((rd_T99 l0 x5_1).f4) ((rd_T99 l1 x5_1).f4)).bind fun t355 => (if t355 = true then ((semblanceref09_All.f k1 ((rd_T99 l0 x5_1).f5) ((rd_T99 l1 x5_1).f5)).bind fun t356 => (if t356 = true then (semblanceref11_States.l0 k1 l0 l1 (wrap64 (x5_1 + 1))) else (some false))) else (some false))) else (some false)) = some r := H
   have A10 := Aside0.mk A100
   clear A100
   by_cases c11 : t354 = true
   rotate_left
   ·replace c11 := Bool.eq_false_iff.mpr c11
    subst c11
    have H1 : (some false) = some r := by rw [if_neg (show ¬ (false = true) by decide)] at H; exact H
    clear H
    have H := H1
    clear H1
    obtain rfl := Option.some.inj H
    try go_wp2_with (first | (go_at_call 72; (with_reducible refine (semblanceref08_Same.calls k1 _ _ ((rd_T99 l0 x5_1).f3) _ _ ((rd_T99 l1 x5_1).f3) false _ ?side1 ?side2 ?side3 ?side4 A10.out).mono ?_); (case side1 => exact Kd.C_below HR350_3.out (by repeat (first | (with_reducible first | exact HB.out | apply below_alloc | apply pw_below_drewN | apply below_drew1 | refine below_set ?_ GE352.out | refine below_set ?_ GE353.out) | exact HB.out))); (case side2 => exact HC350_3.out); (case side3 => exact Kd.C_below HR351_3.out (by repeat (first | (with_reducible first | exact HB.out | apply below_alloc | apply pw_below_drewN | apply below_drew1 | refine below_set ?_ GE352.out | refine below_set ?_ GE353.out) | exact HB.out))); (case side4 => exact HC351_3.out); rintro e w110 ⟨rfl, hb⟩; have n0_ := Aside0.mk (blk_below (g := gb352) (o := .cells #[.string ((rd_T99 l0 x5_1).f0), .int .i64 ((rd_T99 l0 x5_1).f1), .int .i64 ((rd_T99 l0 x5_1).f2), .slice A350_3 ((rd_T99 l0 x5_1).f3).length c350_3, .slice A350_4 ((rd_T99 l0 x5_1).f4).length c350_4, .slice A350_5 ((rd_T99 l0 x5_1).f5).length c350_5] 99 (0, 0)) (by refine grO ?_; refine blk_far ?_ NB352_353.out _; refine grO ?_; refine blk_far ?_ NB352_353.out _; refine grO ?_; refine blk_far ?_ NB352_353.out _; refine grO ?_; refine blk_far ?_ NB352_353.out _; refine grO ?_; refine blk_far ?_ NB352_353.out _; refine grO ?_; refine blk_far ?_ NB352_353.out _; refine grO ?_; refine blk_put (cs := #[.string ((rd_T99 l0 x5_1).f0), .int .i64 ((rd_T99 l0 x5_1).f1), .int .i64 ((rd_T99 l0 x5_1).f2), .slice A350_3 ((rd_T99 l0 x5_1).f3).length c350_3, .slice A350_4 ((rd_T99 l0 x5_1).f4).length c350_4, .slice none 0 0]) ?_ 5 _ rfl; refine grO ?_; refine blk_put (cs := #[.string ((rd_T99 l0 x5_1).f0), .int .i64 ((rd_T99 l0 x5_1).f1), .int .i64 ((rd_T99 l0 x5_1).f2), .slice A350_3 ((rd_T99 l0 x5_1).f3).length c350_3, .slice none 0 0, .slice none 0 0]) ?_ 4 _ rfl; refine grO ?_; refine blk_put (cs := #[.string ((rd_T99 l0 x5_1).f0), .int .i64 ((rd_T99 l0 x5_1).f1), .int .i64 ((rd_T99 l0 x5_1).f2), .slice none 0 0, .slice none 0 0, .slice none 0 0]) ?_ 3 _ rfl; refine grO ?_; refine blk_put (cs := #[.string ((rd_T99 l0 x5_1).f0), .int .i64 ((rd_T99 l0 x5_1).f1), .int .i64 0, .slice none 0 0, .slice none 0 0, .slice none 0 0]) ?_ 2 _ rfl; refine grO ?_; refine blk_put (cs := #[.string ((rd_T99 l0 x5_1).f0), .int .i64 0, .int .i64 0, .slice none 0 0, .slice none 0 0, .slice none 0 0]) ?_ 1 _ rfl; refine grO ?_; refine blk_put (cs := #[.string (⟨#[]⟩ : ByteArray), .int .i64 0, .int .i64 0, .slice none 0 0, .slice none 0 0, .slice none 0 0]) ?_ 0 _ rfl; refine grO ?_; exact BK352.out) hb); have n1_ := Aside0.mk (blk_below (g := gb353) (o := .cells #[.string ((rd_T99 l1 x5_1).f0), .int .i64 ((rd_T99 l1 x5_1).f1), .int .i64 ((rd_T99 l1 x5_1).f2), .slice A351_3 ((rd_T99 l1 x5_1).f3).length c351_3, .slice A351_4 ((rd_T99 l1 x5_1).f4).length c351_4, .slice A351_5 ((rd_T99 l1 x5_1).f5).length c351_5] 99 (0, 0)) (by refine grO ?_; refine blk_put (cs := #[.string ((rd_T99 l1 x5_1).f0), .int .i64 ((rd_T99 l1 x5_1).f1), .int .i64 ((rd_T99 l1 x5_1).f2), .slice A351_3 ((rd_T99 l1 x5_1).f3).length c351_3, .slice A351_4 ((rd_T99 l1 x5_1).f4).length c351_4, .slice none 0 0]) ?_ 5 _ rfl; refine grO ?_; refine blk_put (cs := #[.string ((rd_T99 l1 x5_1).f0), .int .i64 ((rd_T99 l1 x5_1).f1), .int .i64 ((rd_T99 l1 x5_1).f2), .slice A351_3 ((rd_T99 l1 x5_1).f3).length c351_3, .slice none 0 0, .slice none 0 0]) ?_ 4 _ rfl; refine grO ?_; refine blk_put (cs := #[.string ((rd_T99 l1 x5_1).f0), .int .i64 ((rd_T99 l1 x5_1).f1), .int .i64 ((rd_T99 l1 x5_1).f2), .slice none 0 0, .slice none 0 0, .slice none 0 0]) ?_ 3 _ rfl; refine grO ?_; refine blk_put (cs := #[.string ((rd_T99 l1 x5_1).f0), .int .i64 ((rd_T99 l1 x5_1).f1), .int .i64 0, .slice none 0 0, .slice none 0 0, .slice none 0 0]) ?_ 2 _ rfl; refine grO ?_; refine blk_put (cs := #[.string ((rd_T99 l1 x5_1).f0), .int .i64 0, .int .i64 0, .slice none 0 0, .slice none 0 0, .slice none 0 0]) ?_ 1 _ rfl; refine grO ?_; refine blk_put (cs := #[.string (⟨#[]⟩ : ByteArray), .int .i64 0, .int .i64 0, .slice none 0 0, .slice none 0 0, .slice none 0 0]) ?_ 0 _ rfl; refine grO ?_; refine blk_far ?_ NB353_352.out _; refine grO ?_; refine blk_far ?_ NB353_352.out _; refine grO ?_; refine blk_far ?_ NB353_352.out _; refine grO ?_; refine blk_far ?_ NB353_352.out _; refine grO ?_; refine blk_far ?_ NB353_352.out _; refine grO ?_; refine blk_far ?_ NB353_352.out _; refine grO ?_; exact BK353.out) hb); have n2_ := Aside0.mk (below_step (by repeat (first | (with_reducible first | exact HB.out | apply below_alloc | apply pw_below_drewN | apply below_drew1 | refine below_set ?_ GE352.out | refine below_set ?_ GE353.out) | exact HB.out)) hb); clear BK352; clear BK353; clear HB; have BK352 := n0_; have BK353 := n1_; have HB := n2_; clear n0_ n1_ n2_; (try clear hb); (try clear hb2); (try clear hk); (try clear hi)))
    go_ret
    exact ⟨by first | rfl | (simp [errW_none, errW_some] <;> rfl) | (simp [*, errW_none, errW_some] <;> rfl), by repeat (first | (with_reducible first | exact HB.out | apply below_alloc | apply pw_below_drewN | apply below_drew1 | refine below_set ?_ GE352.out | refine below_set ?_ GE353.out) | exact HB.out)⟩
   subst c11
   have H1 : ((semblanceref08_Same.f k1 ((rd_T99 l0 x5_1).f4) ((rd_T99 l1 x5_1).f4)).bind fun t355 => (if t355 = true then ((semblanceref09_All.f k1 ((rd_T99 l0 x5_1).f5) ((rd_T99 l1 x5_1).f5)).bind fun t356 => (if t356 = true then (semblanceref11_States.l0 k1 l0 l1 (wrap64 (x5_1 + 1))) else (some false))) else (some false))) = some r := by rw [if_pos rfl] at H; exact H
   clear H
   have H := H1
   clear H1
   replace H := Option.bind_eq_some_iff.mp H
   obtain ⟨t355, A120, H⟩ := H
   replace H : (if t355 = true then ((semblanceref09_All.f k1 ((rd_T99 l0 x5_1).f5) ((rd_T99 l1 x5_1).f5)).bind fun t356 => (if t356 = true then (semblanceref11_States.l0 k1 l0 l1 (wrap64 (x5_1 + 1))) else (some false))) else (some false)) = some r := H
   have A12 := Aside0.mk A120
   clear A120
   by_cases c13 : t355 = true
   rotate_left
   ·replace c13 := Bool.eq_false_iff.mpr c13
    subst c13
    have H1 : (some false) = some r := by rw [if_neg (show ¬ (false = true) by decide)] at H; exact H
    clear H
    have H := H1
    clear H1
    obtain rfl := Option.some.inj H
    try go_wp2_with (first | (go_at_call 72; (with_reducible refine (semblanceref08_Same.calls k1 _ _ ((rd_T99 l0 x5_1).f3) _ _ ((rd_T99 l1 x5_1).f3) true _ ?side1 ?side2 ?side3 ?side4 A10.out).mono ?_); (case side1 => exact Kd.C_below HR350_3.out (by repeat (first | (with_reducible first | exact HB.out | apply below_alloc | apply pw_below_drewN | apply below_drew1 | refine below_set ?_ GE352.out | refine below_set ?_ GE353.out) | exact HB.out))); (case side2 => exact HC350_3.out); (case side3 => exact Kd.C_below HR351_3.out (by repeat (first | (with_reducible first | exact HB.out | apply below_alloc | apply pw_below_drewN | apply below_drew1 | refine below_set ?_ GE352.out | refine below_set ?_ GE353.out) | exact HB.out))); (case side4 => exact HC351_3.out); rintro e w87 ⟨rfl, hb⟩; have n0_ := Aside0.mk (blk_below (g := gb352) (o := .cells #[.string ((rd_T99 l0 x5_1).f0), .int .i64 ((rd_T99 l0 x5_1).f1), .int .i64 ((rd_T99 l0 x5_1).f2), .slice A350_3 ((rd_T99 l0 x5_1).f3).length c350_3, .slice A350_4 ((rd_T99 l0 x5_1).f4).length c350_4, .slice A350_5 ((rd_T99 l0 x5_1).f5).length c350_5] 99 (0, 0)) (by refine grO ?_; refine blk_far ?_ NB352_353.out _; refine grO ?_; refine blk_far ?_ NB352_353.out _; refine grO ?_; refine blk_far ?_ NB352_353.out _; refine grO ?_; refine blk_far ?_ NB352_353.out _; refine grO ?_; refine blk_far ?_ NB352_353.out _; refine grO ?_; refine blk_far ?_ NB352_353.out _; refine grO ?_; refine blk_put (cs := #[.string ((rd_T99 l0 x5_1).f0), .int .i64 ((rd_T99 l0 x5_1).f1), .int .i64 ((rd_T99 l0 x5_1).f2), .slice A350_3 ((rd_T99 l0 x5_1).f3).length c350_3, .slice A350_4 ((rd_T99 l0 x5_1).f4).length c350_4, .slice none 0 0]) ?_ 5 _ rfl; refine grO ?_; refine blk_put (cs := #[.string ((rd_T99 l0 x5_1).f0), .int .i64 ((rd_T99 l0 x5_1).f1), .int .i64 ((rd_T99 l0 x5_1).f2), .slice A350_3 ((rd_T99 l0 x5_1).f3).length c350_3, .slice none 0 0, .slice none 0 0]) ?_ 4 _ rfl; refine grO ?_; refine blk_put (cs := #[.string ((rd_T99 l0 x5_1).f0), .int .i64 ((rd_T99 l0 x5_1).f1), .int .i64 ((rd_T99 l0 x5_1).f2), .slice none 0 0, .slice none 0 0, .slice none 0 0]) ?_ 3 _ rfl; refine grO ?_; refine blk_put (cs := #[.string ((rd_T99 l0 x5_1).f0), .int .i64 ((rd_T99 l0 x5_1).f1), .int .i64 0, .slice none 0 0, .slice none 0 0, .slice none 0 0]) ?_ 2 _ rfl; refine grO ?_; refine blk_put (cs := #[.string ((rd_T99 l0 x5_1).f0), .int .i64 0, .int .i64 0, .slice none 0 0, .slice none 0 0, .slice none 0 0]) ?_ 1 _ rfl; refine grO ?_; refine blk_put (cs := #[.string (⟨#[]⟩ : ByteArray), .int .i64 0, .int .i64 0, .slice none 0 0, .slice none 0 0, .slice none 0 0]) ?_ 0 _ rfl; refine grO ?_; exact BK352.out) hb); have n1_ := Aside0.mk (blk_below (g := gb353) (o := .cells #[.string ((rd_T99 l1 x5_1).f0), .int .i64 ((rd_T99 l1 x5_1).f1), .int .i64 ((rd_T99 l1 x5_1).f2), .slice A351_3 ((rd_T99 l1 x5_1).f3).length c351_3, .slice A351_4 ((rd_T99 l1 x5_1).f4).length c351_4, .slice A351_5 ((rd_T99 l1 x5_1).f5).length c351_5] 99 (0, 0)) (by refine grO ?_; refine blk_put (cs := #[.string ((rd_T99 l1 x5_1).f0), .int .i64 ((rd_T99 l1 x5_1).f1), .int .i64 ((rd_T99 l1 x5_1).f2), .slice A351_3 ((rd_T99 l1 x5_1).f3).length c351_3, .slice A351_4 ((rd_T99 l1 x5_1).f4).length c351_4, .slice none 0 0]) ?_ 5 _ rfl; refine grO ?_; refine blk_put (cs := #[.string ((rd_T99 l1 x5_1).f0), .int .i64 ((rd_T99 l1 x5_1).f1), .int .i64 ((rd_T99 l1 x5_1).f2), .slice A351_3 ((rd_T99 l1 x5_1).f3).length c351_3, .slice none 0 0, .slice none 0 0]) ?_ 4 _ rfl; refine grO ?_; refine blk_put (cs := #[.string ((rd_T99 l1 x5_1).f0), .int .i64 ((rd_T99 l1 x5_1).f1), .int .i64 ((rd_T99 l1 x5_1).f2), .slice none 0 0, .slice none 0 0, .slice none 0 0]) ?_ 3 _ rfl; refine grO ?_; refine blk_put (cs := #[.string ((rd_T99 l1 x5_1).f0), .int .i64 ((rd_T99 l1 x5_1).f1), .int .i64 0, .slice none 0 0, .slice none 0 0, .slice none 0 0]) ?_ 2 _ rfl; refine grO ?_; refine blk_put (cs := #[.string ((rd_T99 l1 x5_1).f0), .int .i64 0, .int .i64 0, .slice none 0 0, .slice none 0 0, .slice none 0 0]) ?_ 1 _ rfl; refine grO ?_; refine blk_put (cs := #[.string (⟨#[]⟩ : ByteArray), .int .i64 0, .int .i64 0, .slice none 0 0, .slice none 0 0, .slice none 0 0]) ?_ 0 _ rfl; refine grO ?_; refine blk_far ?_ NB353_352.out _; refine grO ?_; refine blk_far ?_ NB353_352.out _; refine grO ?_; refine blk_far ?_ NB353_352.out _; refine grO ?_; refine blk_far ?_ NB353_352.out _; refine grO ?_; refine blk_far ?_ NB353_352.out _; refine grO ?_; refine blk_far ?_ NB353_352.out _; refine grO ?_; exact BK353.out) hb); have n2_ := Aside0.mk (below_step (by repeat (first | (with_reducible first | exact HB.out | apply below_alloc | apply pw_below_drewN | apply below_drew1 | refine below_set ?_ GE352.out | refine below_set ?_ GE353.out) | exact HB.out)) hb); clear BK352; clear BK353; clear HB; have BK352 := n0_; have BK353 := n1_; have HB := n2_; clear n0_ n1_ n2_; (try clear hb); (try clear hb2); (try clear hk); (try clear hi); obtain ⟨hcz88_0, hcz88_1, hcz88_2, hcz88_3, hcz88_4, hcz88_5⟩ := cz6_ BK352.out; obtain ⟨hfz88_0, hfz88_1, hfz88_2, hfz88_3, hfz88_4, hfz88_5⟩ := cf6_ BK352.out; obtain ⟨hcz89_0, hcz89_1, hcz89_2, hcz89_3, hcz89_4, hcz89_5⟩ := cz6_ BK353.out; obtain ⟨hfz89_0, hfz89_1, hfz89_2, hfz89_3, hfz89_4, hfz89_5⟩ := cf6_ BK353.out) | (go_at_call 72; (with_reducible refine (semblanceref08_Same.calls k1 _ _ ((rd_T99 l0 x5_1).f4) _ _ ((rd_T99 l1 x5_1).f4) false _ ?side1 ?side2 ?side3 ?side4 A12.out).mono ?_); (case side1 => repeat (first | exact (Kd.C_below HR350_4.out HB.out) | (with_reducible refine Kd.C_alloc ?_ _) | (with_reducible refine Kd.C_drewN ?_ _) | (with_reducible refine Kd.C_drew ?_))); (case side2 => exact HC350_4.out); (case side3 => repeat (first | exact (Kd.C_below HR351_4.out HB.out) | (with_reducible refine Kd.C_alloc ?_ _) | (with_reducible refine Kd.C_drewN ?_ _) | (with_reducible refine Kd.C_drew ?_))); (case side4 => exact HC351_4.out); rintro e w90 ⟨rfl, hb⟩; have n0_ := Aside0.mk (blk_below (grw BK352.out) hb); have n1_ := Aside0.mk (blk_below (grw BK353.out) hb); have n2_ := Aside0.mk (below_step (by repeat (first | (with_reducible first | exact HB.out | apply below_alloc | apply pw_below_drewN | apply below_drew1 | refine below_set ?_ GE352.out | refine below_set ?_ GE353.out) | exact HB.out)) hb); clear BK352; clear BK353; clear HB; have BK352 := n0_; have BK353 := n1_; have HB := n2_; clear n0_ n1_ n2_; (try clear hb); (try clear hb2); (try clear hk); (try clear hi)))
    go_ret
    exact ⟨by first | rfl | (simp [errW_none, errW_some] <;> rfl) | (simp [*, errW_none, errW_some] <;> rfl), by repeat (first | (with_reducible first | exact HB.out | apply below_alloc | apply pw_below_drewN | apply below_drew1 | refine below_set ?_ GE352.out | refine below_set ?_ GE353.out) | exact HB.out)⟩
   subst c13
   have H1 : ((semblanceref09_All.f k1 ((rd_T99 l0 x5_1).f5) ((rd_T99 l1 x5_1).f5)).bind fun t356 => (if t356 = true then (semblanceref11_States.l0 k1 l0 l1 (wrap64 (x5_1 + 1))) else (some false))) = some r := by rw [if_pos rfl] at H; exact H
   clear H
   have H := H1
   clear H1
   replace H := Option.bind_eq_some_iff.mp H
   obtain ⟨t356, A140, H⟩ := H
   replace H : (if t356 = true then (semblanceref11_States.l0 k1 l0 l1 (wrap64 (x5_1 + 1))) else (some false)) = some r := H
   have A14 := Aside0.mk A140
   clear A140
   by_cases c15 : t356 = true
   rotate_left
   ·replace c15 := Bool.eq_false_iff.mpr c15
    subst c15
    have H1 : (some false) = some r := by rw [if_neg (show ¬ (false = true) by decide)] at H; exact H
    clear H
    have H := H1
    clear H1
    obtain rfl := Option.some.inj H
    try go_wp2_with (first | (go_at_call 72; (with_reducible refine (semblanceref08_Same.calls k1 _ _ ((rd_T99 l0 x5_1).f3) _ _ ((rd_T99 l1 x5_1).f3) true _ ?side1 ?side2 ?side3 ?side4 A10.out).mono ?_); (case side1 => exact Kd.C_below HR350_3.out (by repeat (first | (with_reducible first | exact HB.out | apply below_alloc | apply pw_below_drewN | apply below_drew1 | refine below_set ?_ GE352.out | refine below_set ?_ GE353.out) | exact HB.out))); (case side2 => exact HC350_3.out); (case side3 => exact Kd.C_below HR351_3.out (by repeat (first | (with_reducible first | exact HB.out | apply below_alloc | apply pw_below_drewN | apply below_drew1 | refine below_set ?_ GE352.out | refine below_set ?_ GE353.out) | exact HB.out))); (case side4 => exact HC351_3.out); rintro e w61 ⟨rfl, hb⟩; have n0_ := Aside0.mk (blk_below (g := gb352) (o := .cells #[.string ((rd_T99 l0 x5_1).f0), .int .i64 ((rd_T99 l0 x5_1).f1), .int .i64 ((rd_T99 l0 x5_1).f2), .slice A350_3 ((rd_T99 l0 x5_1).f3).length c350_3, .slice A350_4 ((rd_T99 l0 x5_1).f4).length c350_4, .slice A350_5 ((rd_T99 l0 x5_1).f5).length c350_5] 99 (0, 0)) (by refine grO ?_; refine blk_far ?_ NB352_353.out _; refine grO ?_; refine blk_far ?_ NB352_353.out _; refine grO ?_; refine blk_far ?_ NB352_353.out _; refine grO ?_; refine blk_far ?_ NB352_353.out _; refine grO ?_; refine blk_far ?_ NB352_353.out _; refine grO ?_; refine blk_far ?_ NB352_353.out _; refine grO ?_; refine blk_put (cs := #[.string ((rd_T99 l0 x5_1).f0), .int .i64 ((rd_T99 l0 x5_1).f1), .int .i64 ((rd_T99 l0 x5_1).f2), .slice A350_3 ((rd_T99 l0 x5_1).f3).length c350_3, .slice A350_4 ((rd_T99 l0 x5_1).f4).length c350_4, .slice none 0 0]) ?_ 5 _ rfl; refine grO ?_; refine blk_put (cs := #[.string ((rd_T99 l0 x5_1).f0), .int .i64 ((rd_T99 l0 x5_1).f1), .int .i64 ((rd_T99 l0 x5_1).f2), .slice A350_3 ((rd_T99 l0 x5_1).f3).length c350_3, .slice none 0 0, .slice none 0 0]) ?_ 4 _ rfl; refine grO ?_; refine blk_put (cs := #[.string ((rd_T99 l0 x5_1).f0), .int .i64 ((rd_T99 l0 x5_1).f1), .int .i64 ((rd_T99 l0 x5_1).f2), .slice none 0 0, .slice none 0 0, .slice none 0 0]) ?_ 3 _ rfl; refine grO ?_; refine blk_put (cs := #[.string ((rd_T99 l0 x5_1).f0), .int .i64 ((rd_T99 l0 x5_1).f1), .int .i64 0, .slice none 0 0, .slice none 0 0, .slice none 0 0]) ?_ 2 _ rfl; refine grO ?_; refine blk_put (cs := #[.string ((rd_T99 l0 x5_1).f0), .int .i64 0, .int .i64 0, .slice none 0 0, .slice none 0 0, .slice none 0 0]) ?_ 1 _ rfl; refine grO ?_; refine blk_put (cs := #[.string (⟨#[]⟩ : ByteArray), .int .i64 0, .int .i64 0, .slice none 0 0, .slice none 0 0, .slice none 0 0]) ?_ 0 _ rfl; refine grO ?_; exact BK352.out) hb); have n1_ := Aside0.mk (blk_below (g := gb353) (o := .cells #[.string ((rd_T99 l1 x5_1).f0), .int .i64 ((rd_T99 l1 x5_1).f1), .int .i64 ((rd_T99 l1 x5_1).f2), .slice A351_3 ((rd_T99 l1 x5_1).f3).length c351_3, .slice A351_4 ((rd_T99 l1 x5_1).f4).length c351_4, .slice A351_5 ((rd_T99 l1 x5_1).f5).length c351_5] 99 (0, 0)) (by refine grO ?_; refine blk_put (cs := #[.string ((rd_T99 l1 x5_1).f0), .int .i64 ((rd_T99 l1 x5_1).f1), .int .i64 ((rd_T99 l1 x5_1).f2), .slice A351_3 ((rd_T99 l1 x5_1).f3).length c351_3, .slice A351_4 ((rd_T99 l1 x5_1).f4).length c351_4, .slice none 0 0]) ?_ 5 _ rfl; refine grO ?_; refine blk_put (cs := #[.string ((rd_T99 l1 x5_1).f0), .int .i64 ((rd_T99 l1 x5_1).f1), .int .i64 ((rd_T99 l1 x5_1).f2), .slice A351_3 ((rd_T99 l1 x5_1).f3).length c351_3, .slice none 0 0, .slice none 0 0]) ?_ 4 _ rfl; refine grO ?_; refine blk_put (cs := #[.string ((rd_T99 l1 x5_1).f0), .int .i64 ((rd_T99 l1 x5_1).f1), .int .i64 ((rd_T99 l1 x5_1).f2), .slice none 0 0, .slice none 0 0, .slice none 0 0]) ?_ 3 _ rfl; refine grO ?_; refine blk_put (cs := #[.string ((rd_T99 l1 x5_1).f0), .int .i64 ((rd_T99 l1 x5_1).f1), .int .i64 0, .slice none 0 0, .slice none 0 0, .slice none 0 0]) ?_ 2 _ rfl; refine grO ?_; refine blk_put (cs := #[.string ((rd_T99 l1 x5_1).f0), .int .i64 0, .int .i64 0, .slice none 0 0, .slice none 0 0, .slice none 0 0]) ?_ 1 _ rfl; refine grO ?_; refine blk_put (cs := #[.string (⟨#[]⟩ : ByteArray), .int .i64 0, .int .i64 0, .slice none 0 0, .slice none 0 0, .slice none 0 0]) ?_ 0 _ rfl; refine grO ?_; refine blk_far ?_ NB353_352.out _; refine grO ?_; refine blk_far ?_ NB353_352.out _; refine grO ?_; refine blk_far ?_ NB353_352.out _; refine grO ?_; refine blk_far ?_ NB353_352.out _; refine grO ?_; refine blk_far ?_ NB353_352.out _; refine grO ?_; refine blk_far ?_ NB353_352.out _; refine grO ?_; exact BK353.out) hb); have n2_ := Aside0.mk (below_step (by repeat (first | (with_reducible first | exact HB.out | apply below_alloc | apply pw_below_drewN | apply below_drew1 | refine below_set ?_ GE352.out | refine below_set ?_ GE353.out) | exact HB.out)) hb); clear BK352; clear BK353; clear HB; have BK352 := n0_; have BK353 := n1_; have HB := n2_; clear n0_ n1_ n2_; (try clear hb); (try clear hb2); (try clear hk); (try clear hi); obtain ⟨hcz62_0, hcz62_1, hcz62_2, hcz62_3, hcz62_4, hcz62_5⟩ := cz6_ BK352.out; obtain ⟨hfz62_0, hfz62_1, hfz62_2, hfz62_3, hfz62_4, hfz62_5⟩ := cf6_ BK352.out; obtain ⟨hcz63_0, hcz63_1, hcz63_2, hcz63_3, hcz63_4, hcz63_5⟩ := cz6_ BK353.out; obtain ⟨hfz63_0, hfz63_1, hfz63_2, hfz63_3, hfz63_4, hfz63_5⟩ := cf6_ BK353.out) | (go_at_call 72; (with_reducible refine (semblanceref08_Same.calls k1 _ _ ((rd_T99 l0 x5_1).f4) _ _ ((rd_T99 l1 x5_1).f4) true _ ?side1 ?side2 ?side3 ?side4 A12.out).mono ?_); (case side1 => repeat (first | exact (Kd.C_below HR350_4.out HB.out) | (with_reducible refine Kd.C_alloc ?_ _) | (with_reducible refine Kd.C_drewN ?_ _) | (with_reducible refine Kd.C_drew ?_))); (case side2 => exact HC350_4.out); (case side3 => repeat (first | exact (Kd.C_below HR351_4.out HB.out) | (with_reducible refine Kd.C_alloc ?_ _) | (with_reducible refine Kd.C_drewN ?_ _) | (with_reducible refine Kd.C_drew ?_))); (case side4 => exact HC351_4.out); rintro e w64 ⟨rfl, hb⟩; have n0_ := Aside0.mk (blk_below (grw BK352.out) hb); have n1_ := Aside0.mk (blk_below (grw BK353.out) hb); have n2_ := Aside0.mk (below_step (by repeat (first | (with_reducible first | exact HB.out | apply below_alloc | apply pw_below_drewN | apply below_drew1 | refine below_set ?_ GE352.out | refine below_set ?_ GE353.out) | exact HB.out)) hb); clear BK352; clear BK353; clear HB; have BK352 := n0_; have BK353 := n1_; have HB := n2_; clear n0_ n1_ n2_; (try clear hb); (try clear hb2); (try clear hk); (try clear hi); obtain ⟨hcz65_0, hcz65_1, hcz65_2, hcz65_3, hcz65_4, hcz65_5⟩ := cz6_ BK352.out; obtain ⟨hfz65_0, hfz65_1, hfz65_2, hfz65_3, hfz65_4, hfz65_5⟩ := cf6_ BK352.out; obtain ⟨hcz66_0, hcz66_1, hcz66_2, hcz66_3, hcz66_4, hcz66_5⟩ := cz6_ BK353.out; obtain ⟨hfz66_0, hfz66_1, hfz66_2, hfz66_3, hfz66_4, hfz66_5⟩ := cf6_ BK353.out) | (go_at_call 73; (with_reducible refine (semblanceref09_All.calls k1 _ _ ((rd_T99 l0 x5_1).f5) _ _ ((rd_T99 l1 x5_1).f5) false _ ?side1 ?side2 ?side3 ?side4 A14.out).mono ?_); (case side1 => repeat (first | exact (Kd.C_below HR350_5.out HB.out) | (with_reducible refine Kd.C_alloc ?_ _) | (with_reducible refine Kd.C_drewN ?_ _) | (with_reducible refine Kd.C_drew ?_))); (case side2 => exact HC350_5.out); (case side3 => repeat (first | exact (Kd.C_below HR351_5.out HB.out) | (with_reducible refine Kd.C_alloc ?_ _) | (with_reducible refine Kd.C_drewN ?_ _) | (with_reducible refine Kd.C_drew ?_))); (case side4 => exact HC351_5.out); rintro e w67 ⟨rfl, hb⟩; have n0_ := Aside0.mk (blk_below (grw BK352.out) hb); have n1_ := Aside0.mk (blk_below (grw BK353.out) hb); have n2_ := Aside0.mk (below_step (by repeat (first | (with_reducible first | exact HB.out | apply below_alloc | apply pw_below_drewN | apply below_drew1 | refine below_set ?_ GE352.out | refine below_set ?_ GE353.out) | exact HB.out)) hb); clear BK352; clear BK353; clear HB; have BK352 := n0_; have BK353 := n1_; have HB := n2_; clear n0_ n1_ n2_; (try clear hb); (try clear hb2); (try clear hk); (try clear hi)))
    go_ret
    exact ⟨by first | rfl | (simp [errW_none, errW_some] <;> rfl) | (simp [*, errW_none, errW_some] <;> rfl), by repeat (first | (with_reducible first | exact HB.out | apply below_alloc | apply pw_below_drewN | apply below_drew1 | refine below_set ?_ GE352.out | refine below_set ?_ GE353.out) | exact HB.out)⟩
   subst c15
   have H1 : (semblanceref11_States.l0 k1 l0 l1 (wrap64 (x5_1 + 1))) = some r := by rw [if_pos rfl] at H; exact H
   clear H
   have H := H1
   clear H1
   have H' := Aside0.mk H
   clear H
   try go_wp2_with (first | (go_at_call 72; (with_reducible refine (semblanceref08_Same.calls k1 _ _ ((rd_T99 l0 x5_1).f3) _ _ ((rd_T99 l1 x5_1).f3) true _ ?side1 ?side2 ?side3 ?side4 A10.out).mono ?_); (case side1 => exact Kd.C_below HR350_3.out (by repeat (first | (with_reducible first | exact HB.out | apply below_alloc | apply pw_below_drewN | apply below_drew1 | refine below_set ?_ GE352.out | refine below_set ?_ GE353.out) | exact HB.out))); (case side2 => exact HC350_3.out); (case side3 => exact Kd.C_below HR351_3.out (by repeat (first | (with_reducible first | exact HB.out | apply below_alloc | apply pw_below_drewN | apply below_drew1 | refine below_set ?_ GE352.out | refine below_set ?_ GE353.out) | exact HB.out))); (case side4 => exact HC351_3.out); rintro e w35 ⟨rfl, hb⟩; have n0_ := Aside0.mk (blk_below (g := gb352) (o := .cells #[.string ((rd_T99 l0 x5_1).f0), .int .i64 ((rd_T99 l0 x5_1).f1), .int .i64 ((rd_T99 l0 x5_1).f2), .slice A350_3 ((rd_T99 l0 x5_1).f3).length c350_3, .slice A350_4 ((rd_T99 l0 x5_1).f4).length c350_4, .slice A350_5 ((rd_T99 l0 x5_1).f5).length c350_5] 99 (0, 0)) (by refine grO ?_; refine blk_far ?_ NB352_353.out _; refine grO ?_; refine blk_far ?_ NB352_353.out _; refine grO ?_; refine blk_far ?_ NB352_353.out _; refine grO ?_; refine blk_far ?_ NB352_353.out _; refine grO ?_; refine blk_far ?_ NB352_353.out _; refine grO ?_; refine blk_far ?_ NB352_353.out _; refine grO ?_; refine blk_put (cs := #[.string ((rd_T99 l0 x5_1).f0), .int .i64 ((rd_T99 l0 x5_1).f1), .int .i64 ((rd_T99 l0 x5_1).f2), .slice A350_3 ((rd_T99 l0 x5_1).f3).length c350_3, .slice A350_4 ((rd_T99 l0 x5_1).f4).length c350_4, .slice none 0 0]) ?_ 5 _ rfl; refine grO ?_; refine blk_put (cs := #[.string ((rd_T99 l0 x5_1).f0), .int .i64 ((rd_T99 l0 x5_1).f1), .int .i64 ((rd_T99 l0 x5_1).f2), .slice A350_3 ((rd_T99 l0 x5_1).f3).length c350_3, .slice none 0 0, .slice none 0 0]) ?_ 4 _ rfl; refine grO ?_; refine blk_put (cs := #[.string ((rd_T99 l0 x5_1).f0), .int .i64 ((rd_T99 l0 x5_1).f1), .int .i64 ((rd_T99 l0 x5_1).f2), .slice none 0 0, .slice none 0 0, .slice none 0 0]) ?_ 3 _ rfl; refine grO ?_; refine blk_put (cs := #[.string ((rd_T99 l0 x5_1).f0), .int .i64 ((rd_T99 l0 x5_1).f1), .int .i64 0, .slice none 0 0, .slice none 0 0, .slice none 0 0]) ?_ 2 _ rfl; refine grO ?_; refine blk_put (cs := #[.string ((rd_T99 l0 x5_1).f0), .int .i64 0, .int .i64 0, .slice none 0 0, .slice none 0 0, .slice none 0 0]) ?_ 1 _ rfl; refine grO ?_; refine blk_put (cs := #[.string (⟨#[]⟩ : ByteArray), .int .i64 0, .int .i64 0, .slice none 0 0, .slice none 0 0, .slice none 0 0]) ?_ 0 _ rfl; refine grO ?_; exact BK352.out) hb); have n1_ := Aside0.mk (blk_below (g := gb353) (o := .cells #[.string ((rd_T99 l1 x5_1).f0), .int .i64 ((rd_T99 l1 x5_1).f1), .int .i64 ((rd_T99 l1 x5_1).f2), .slice A351_3 ((rd_T99 l1 x5_1).f3).length c351_3, .slice A351_4 ((rd_T99 l1 x5_1).f4).length c351_4, .slice A351_5 ((rd_T99 l1 x5_1).f5).length c351_5] 99 (0, 0)) (by refine grO ?_; refine blk_put (cs := #[.string ((rd_T99 l1 x5_1).f0), .int .i64 ((rd_T99 l1 x5_1).f1), .int .i64 ((rd_T99 l1 x5_1).f2), .slice A351_3 ((rd_T99 l1 x5_1).f3).length c351_3, .slice A351_4 ((rd_T99 l1 x5_1).f4).length c351_4, .slice none 0 0]) ?_ 5 _ rfl; refine grO ?_; refine blk_put (cs := #[.string ((rd_T99 l1 x5_1).f0), .int .i64 ((rd_T99 l1 x5_1).f1), .int .i64 ((rd_T99 l1 x5_1).f2), .slice A351_3 ((rd_T99 l1 x5_1).f3).length c351_3, .slice none 0 0, .slice none 0 0]) ?_ 4 _ rfl; refine grO ?_; refine blk_put (cs := #[.string ((rd_T99 l1 x5_1).f0), .int .i64 ((rd_T99 l1 x5_1).f1), .int .i64 ((rd_T99 l1 x5_1).f2), .slice none 0 0, .slice none 0 0, .slice none 0 0]) ?_ 3 _ rfl; refine grO ?_; refine blk_put (cs := #[.string ((rd_T99 l1 x5_1).f0), .int .i64 ((rd_T99 l1 x5_1).f1), .int .i64 0, .slice none 0 0, .slice none 0 0, .slice none 0 0]) ?_ 2 _ rfl; refine grO ?_; refine blk_put (cs := #[.string ((rd_T99 l1 x5_1).f0), .int .i64 0, .int .i64 0, .slice none 0 0, .slice none 0 0, .slice none 0 0]) ?_ 1 _ rfl; refine grO ?_; refine blk_put (cs := #[.string (⟨#[]⟩ : ByteArray), .int .i64 0, .int .i64 0, .slice none 0 0, .slice none 0 0, .slice none 0 0]) ?_ 0 _ rfl; refine grO ?_; refine blk_far ?_ NB353_352.out _; refine grO ?_; refine blk_far ?_ NB353_352.out _; refine grO ?_; refine blk_far ?_ NB353_352.out _; refine grO ?_; refine blk_far ?_ NB353_352.out _; refine grO ?_; refine blk_far ?_ NB353_352.out _; refine grO ?_; refine blk_far ?_ NB353_352.out _; refine grO ?_; exact BK353.out) hb); have n2_ := Aside0.mk (below_step (by repeat (first | (with_reducible first | exact HB.out | apply below_alloc | apply pw_below_drewN | apply below_drew1 | refine below_set ?_ GE352.out | refine below_set ?_ GE353.out) | exact HB.out)) hb); clear BK352; clear BK353; clear HB; have BK352 := n0_; have BK353 := n1_; have HB := n2_; clear n0_ n1_ n2_; (try clear hb); (try clear hb2); (try clear hk); (try clear hi); obtain ⟨hcz36_0, hcz36_1, hcz36_2, hcz36_3, hcz36_4, hcz36_5⟩ := cz6_ BK352.out; obtain ⟨hfz36_0, hfz36_1, hfz36_2, hfz36_3, hfz36_4, hfz36_5⟩ := cf6_ BK352.out; obtain ⟨hcz37_0, hcz37_1, hcz37_2, hcz37_3, hcz37_4, hcz37_5⟩ := cz6_ BK353.out; obtain ⟨hfz37_0, hfz37_1, hfz37_2, hfz37_3, hfz37_4, hfz37_5⟩ := cf6_ BK353.out) | (go_at_call 72; (with_reducible refine (semblanceref08_Same.calls k1 _ _ ((rd_T99 l0 x5_1).f4) _ _ ((rd_T99 l1 x5_1).f4) true _ ?side1 ?side2 ?side3 ?side4 A12.out).mono ?_); (case side1 => repeat (first | exact (Kd.C_below HR350_4.out HB.out) | (with_reducible refine Kd.C_alloc ?_ _) | (with_reducible refine Kd.C_drewN ?_ _) | (with_reducible refine Kd.C_drew ?_))); (case side2 => exact HC350_4.out); (case side3 => repeat (first | exact (Kd.C_below HR351_4.out HB.out) | (with_reducible refine Kd.C_alloc ?_ _) | (with_reducible refine Kd.C_drewN ?_ _) | (with_reducible refine Kd.C_drew ?_))); (case side4 => exact HC351_4.out); rintro e w38 ⟨rfl, hb⟩; have n0_ := Aside0.mk (blk_below (grw BK352.out) hb); have n1_ := Aside0.mk (blk_below (grw BK353.out) hb); have n2_ := Aside0.mk (below_step (by repeat (first | (with_reducible first | exact HB.out | apply below_alloc | apply pw_below_drewN | apply below_drew1 | refine below_set ?_ GE352.out | refine below_set ?_ GE353.out) | exact HB.out)) hb); clear BK352; clear BK353; clear HB; have BK352 := n0_; have BK353 := n1_; have HB := n2_; clear n0_ n1_ n2_; (try clear hb); (try clear hb2); (try clear hk); (try clear hi); obtain ⟨hcz39_0, hcz39_1, hcz39_2, hcz39_3, hcz39_4, hcz39_5⟩ := cz6_ BK352.out; obtain ⟨hfz39_0, hfz39_1, hfz39_2, hfz39_3, hfz39_4, hfz39_5⟩ := cf6_ BK352.out; obtain ⟨hcz40_0, hcz40_1, hcz40_2, hcz40_3, hcz40_4, hcz40_5⟩ := cz6_ BK353.out; obtain ⟨hfz40_0, hfz40_1, hfz40_2, hfz40_3, hfz40_4, hfz40_5⟩ := cf6_ BK353.out) | (go_at_call 73; (with_reducible refine (semblanceref09_All.calls k1 _ _ ((rd_T99 l0 x5_1).f5) _ _ ((rd_T99 l1 x5_1).f5) true _ ?side1 ?side2 ?side3 ?side4 A14.out).mono ?_); (case side1 => repeat (first | exact (Kd.C_below HR350_5.out HB.out) | (with_reducible refine Kd.C_alloc ?_ _) | (with_reducible refine Kd.C_drewN ?_ _) | (with_reducible refine Kd.C_drew ?_))); (case side2 => exact HC350_5.out); (case side3 => repeat (first | exact (Kd.C_below HR351_5.out HB.out) | (with_reducible refine Kd.C_alloc ?_ _) | (with_reducible refine Kd.C_drewN ?_ _) | (with_reducible refine Kd.C_drew ?_))); (case side4 => exact HC351_5.out); rintro e w41 ⟨rfl, hb⟩; have n0_ := Aside0.mk (blk_below (grw BK352.out) hb); have n1_ := Aside0.mk (blk_below (grw BK353.out) hb); have n2_ := Aside0.mk (below_step (by repeat (first | (with_reducible first | exact HB.out | apply below_alloc | apply pw_below_drewN | apply below_drew1 | refine below_set ?_ GE352.out | refine below_set ?_ GE353.out) | exact HB.out)) hb); clear BK352; clear BK353; clear HB; have BK352 := n0_; have BK353 := n1_; have HB := n2_; clear n0_ n1_ n2_; (try clear hb); (try clear hb2); (try clear hk); (try clear hi)))
   go_roundg k1
   case measure => have := HK1.out; omega
   case rel => exact ⟨(wrap64 (x5_1 + 1)), (by first | rfl | (simp; done) | (simp [*]; done)), H', ⟨by have := HK1.out; omega⟩, ⟨by repeat (first | (with_reducible first | exact HB.out | apply below_alloc | apply pw_below_drewN | apply below_drew1 | refine below_set ?_ GE352.out | refine below_set ?_ GE353.out) | exact HB.out)⟩⟩
end Go.Proofs.Ytjlegibfeenglaa.XE
