-- written by wip/xprint.py out of the translation
import Derived.Test.YtoeioigpkfgppaaXRp0
import Derived.Test.YtoeioigpkfgppaaXRp7
namespace Go.Proofs.Ytoeioigpkfgppaa.XR
open Go.Proofs.Ytoeioigpkfgppaa.XGrow Go.RowKit Go.Proofs.YtoeioigpkfgppaaW.PrintWords Go.Proofs.YtoeioigpkfgppaaW.PrintLast Go.Proofs.YtoeioigpkfgppaaW.PrintMore
attribute [local go_sem] max2_int min2_int max_two min_two max_three min_three max_four min_four   -- for this text's walks alone
set_option linter.unusedVariables false
set_option linter.unusedSimpArgs false

/-! ### shape_there: function 98 -/
-- USES semblance/shape.Check
-- USES slices.ContainsFunc[[]int,int]
/-- a place that is none -/
def shape_there.off (n : Nat) (i : Int) : Bool := decide (i < 0) || decide ((n : Int) ≤ i)
def shape_there.f (l0 : List (S55)) (l1 : List Int) : Option Bool :=
  if l1.length ≤ 9223372036854775807 then some (decide (shape_Check.f l0 = some 0) && !(l1.any (shape_there.off l0.length))) else none
set_option maxHeartbeats 2000000 in
theorem shape_there.lit (A0 : Option Addr) (n c0 : Nat) (B : Nat) (x : Int) (W : World) (hc : W.cell? ⟨B, 0, none⟩ = some (.slice A0 n c0)) :
    Calls Try.prog 114 #[.int .i64 x, .pointer (some ⟨B, 0, none⟩)] W fun e w' => e = .returned (.bool (shape_there.off n x)) ∧ W = w' := by
  unfold shape_there.off
  by_cases h0 : x < 0
  · have h0' : decide (x < 0) = true := decide_eq_true h0
    go_enter Try.func114, Try.ntmps114
    go_wp2
    go_ret
    exact ⟨by simp [h0], rfl⟩
  · have h0' : decide (x < 0) = false := decide_eq_false h0
    go_enter Try.func114, Try.ntmps114
    go_wp2
    go_ret
    exact ⟨by first | (simp; done) | (simp; omega), rfl⟩
set_option maxHeartbeats 2000000 in
theorem shape_there.calls (A0 : Option Addr) (c0 : Nat) (l0 : List (S55)) (A1 : Option Addr) (c1 : Nat) (l1 : List Int) (r : Bool) (w : World) (hr0 : Kd.C k55 w A0 l0.length l0) (hc0 : l0.length ≤ c0) (hr1 : Kd.C (Kd.int .i64) w A1 l1.length l1) (hc1 : l1.length ≤ c1) (h : shape_there.f l0 l1 = some r) :
    Calls Try.prog 98 #[.slice A0 l0.length c0, .slice A1 l1.length c1] w fun e w' => e = .returned (.bool r) ∧ Below w.heap.size w w' := by
  unfold shape_there.f at h
  split at h
  case isFalse => cases h
  case isTrue hbig =>
  have H := Option.some.inj h
  clear h
  obtain ⟨k, hk⟩ : ∃ k, shape_Check.f l0 = some k := ⟨_, rfl⟩
  rw [hk] at H
  have eg := Go.Proofs.enters_of Try.func114 (by kernel_rfl) rfl
  have hb0 : Below w.heap.size w (w.alloc (.cells #[.slice A0 l0.length c0] 24)) := (Below.refl _ _).alloc (Nat.le_refl _) _
  have hcell := cell_of_one (heap_alloc_new w (.cells #[.slice A0 l0.length c0] 24))
  have hcheck := shape_Check.calls A0 c0 l0 k (w.alloc (.cells #[.slice A0 l0.length c0] 24)) (Kd.C_below hr0 hb0) hc0 hk
  have hcont := fun W (hW : Below (w.alloc (.cells #[.slice A0 l0.length c0] 24)).heap.size (w.alloc (.cells #[.slice A0 l0.length c0] 24)) W) => ContainsFunc_int.calls (shape_there.off l0.length) 114 #[.pointer (some ⟨w.heap.size, 0, none⟩)] eg A1 c1 l1 W (Kd.C_below hr1 (hb0.trans (hW.mono (by simp)))) hbig
    (fun W2 h2 x => (shape_there.lit A0 l0.length c0 w.heap.size x W2 ((h2.cell (p := ⟨w.heap.size, 0, none⟩) (Nat.lt_of_lt_of_le (by simp) hW.size)).trans ((hW.cell (p := ⟨w.heap.size, 0, none⟩) (by simp)).trans hcell))).mono fun e w' ⟨he, hw⟩ => ⟨he, by subst hw; exact h2⟩)
  have HCH := Aside0.mk hcheck
  have HCO := Aside0.mk hcont
  clear hcheck hcont hr0 hr1 hk
  by_cases hk0 : k = 0
  · subst hk0
    generalize hany : l1.any (shape_there.off l0.length) = b at *
    have HH := Aside0.mk H
    clear H hany
    go_enter Try.func98, Try.ntmps98
    go_wp2_with (first | (go_at_call 112; refine HCH.out.mono ?_; rintro e w' ⟨rfl, hb1⟩) | (go_at_call 113; refine (HCO.out _ hb1).mono ?_; rintro e w' ⟨rfl, hb2⟩))
    go_ret
    refine ⟨?_, hb0.trans ((hb1.trans (hb2.mono hb1.size)).mono (by simp))⟩
    rw [← HH.out]
    simp
  · have hk1 : (k == 0) = false := beq_eq_false_iff_ne.mpr hk0
    have hr : r = false := by rw [← H]; simp [hk0]
    subst hr
    clear H
    go_enter Try.func98, Try.ntmps98
    go_wp2_with (go_at_call 112; refine HCH.out.mono ?_; rintro e w' ⟨rfl, hb1⟩)
    go_ret
    exact ⟨rfl, hb0.trans (hb1.mono (by simp))⟩


/-! ### shape_Kids: function 67 -/
def shape_Kids.l0 : Nat → Int → List Int → List (S55) → Int → Int → Option (List Int)
  | 0, _, _, _, _, _ => none
  | k + 1, x1, x5, x13, x14, x15 => if x15 < x14 then (if 0 ≤ x15 then (if x15 < (x13.length : Int) then (if ((rd_T55 x13 x15).f2) = x1 then (if x5.length < 17592186044416 then (shape_Kids.l0 k x1 (x5 ++ [x15]) x13 x14 (wrap64 (x15 + 1))) else (none)) else (shape_Kids.l0 k x1 x5 x13 x14 (wrap64 (x15 + 1)))) else (none)) else (none)) else (some x5)
def shape_Kids.f (k : Nat) (l0 : List (S55)) (a1 : Int) : Option (List Int) := (shape_there.f l0 (([a1] : List Int))).bind fun t183 => (if t183 = true then (shape_Kids.l0 k a1 ([] : List Int) l0 (l0.length : Int) 0) else (some ([] : List Int)))
theorem shape_Kids.mono_l : ∀ k, (∀ y0 y1 y2 y3 y4, LeO (shape_Kids.l0 k y0 y1 y2 y3 y4) (shape_Kids.l0 (k + 1) y0 y1 y2 y3 y4))
  | 0 => fun _ _ _ _ _ r h => by simp [shape_Kids.l0] at h
  | k + 1 => by
    have ih0 := shape_Kids.mono_l k
    · intro y0 y1 y2 y3 y4
      unfold shape_Kids.l0
      repeat' first
      | (with_reducible exact ih0 _ _ _ _ _)
      | (with_reducible exact LeO.refl _)
      | (with_reducible exact LeO.none _)
      | (with_reducible refine LeO.ite ?_ ?_)
      | (with_reducible refine LeO.bind ?_ (fun _ => ?_))
      | exact ih0 _ _ _ _ _
      | exact LeO.none _
      | refine LeO.ite ?_ ?_
      | refine LeO.bind ?_ (fun _ => ?_)
theorem shape_Kids.mono : ∀ a0 a1 k, LeO (shape_Kids.f k a0 a1) (shape_Kids.f (k + 1) a0 a1) := by
  intro a0 a1 k
  have ih0 := shape_Kids.mono_l k
  unfold shape_Kids.f
  repeat' first
      | (with_reducible exact ih0 _ _ _ _ _)
      | (with_reducible exact LeO.refl _)
      | (with_reducible exact LeO.none _)
      | (with_reducible refine LeO.ite ?_ ?_)
      | (with_reducible refine LeO.bind ?_ (fun _ => ?_))
      | exact ih0 _ _ _ _ _
      | exact LeO.none _
      | refine LeO.ite ?_ ?_
      | refine LeO.bind ?_ (fun _ => ?_)
theorem hc20_ {w W : World} {a : Addr} {v : Value} (hb : Below w.heap.size w W) (h : w.cell? a = some v) : W.cell? a = some v := (hb.cell (World.block_lt_of_cell? w _ h)).trans h
theorem bz20_ {W W2 w : World} (_ : Below W.heap.size W W2) (h : Below w.heap.size w W) : Below w.heap.size w W := h
set_option maxHeartbeats 8000000 in
set_option maxRecDepth 100000 in
theorem shape_Kids.calls (k : Nat) (A0 : Option Addr) (c0 : Nat) (l0 : List (S55)) (a1 : Int) (r : List Int) (w : World) (hr0 : Kd.C k55 w A0 l0.length l0) (hc0 : l0.length ≤ c0) (h : shape_Kids.f k l0 a1 = some r) :
  Calls Try.prog 67 #[.slice A0 l0.length c0, .int .i64 a1] w fun e w' => ∃ v0_ : Value, e = .returned (v0_) ∧ Kd.R (Kd.int .i64) 3 w' w.heap.size (fun _ => True) v0_ r ∧ Below w.heap.size w w' := by
 have hu55 := Try.underlying55
 have HR0 := Aside0.mk hr0
 have HC0 := Aside0.mk hc0
 clear hr0 hc0
 have HB := Aside0.mk (Below.refl w.heap.size w)
 have H : ((shape_there.f l0 (([a1] : List Int))).bind fun t183 => (if t183 = true then (shape_Kids.l0 k a1 ([] : List Int) l0 (l0.length : Int) 0) else (some ([] : List Int)))) = some r := h
 clear h
 obtain ⟨y180, hy180⟩ : ∃ y_ : List Int, y_ = (([a1] : List Int)) := ⟨_, rfl⟩
 replace H : ((shape_there.f l0 y180).bind fun t183 => (if t183 = true then (shape_Kids.l0 k a1 ([] : List Int) l0 (l0.length : Int) 0) else (some ([] : List Int)))) = some r := by first | (rw [hy180]; with_reducible exact H) | (have H2_ := (Option.bind_some _ _).symm.trans H; rw [hy180]; with_reducible exact H2_) | (have H2_ := (Option.bind_some _ _).symm.trans H; with_reducible exact H2_) | with_reducible exact H | (rw [hy180]; exact H) | exact H
 have Ny180 := Aside0.mk hy180
 clear hy180
 replace H := Option.bind_eq_some_iff.mp H
 obtain ⟨t183, A30, H⟩ := H
 replace H : (if t183 = true then (shape_Kids.l0 k a1 ([] : List Int) l0 (l0.length : Int) 0) else (some ([] : List Int))) = some r := H
 have A3 := Aside0.mk A30
 clear A30
 by_cases c4 : t183 = true
 rotate_left
 ·replace c4 := Bool.eq_false_iff.mpr c4
  subst c4
  have H1 : (some ([] : List Int)) = some r := by rw [if_neg (show ¬ (false = true) by decide)] at H; exact H
  clear H
  have H := H1
  clear H1
  obtain rfl := Option.some.inj H
  go_enter Try.func67, Try.ntmps67
  go_wp2_with (first | ((with_reducible refine gate_dst (N := 10) rfl ?_); refine Kd.R_lit (Kd.int .i64) _ 3 ?hg (N := 10) ?hd (xs := ([a1] : List Int)) (inner := [.int .i64 a1]) (ok := fun _ => True) (okp := fun _ => True) ?hr ?hp (fun _ hk => hk) trivial (Below.refl _ _) (Nat.le_refl _) (by simp) ?_; (case hd => rfl); (case hg => rfl); (case hr => first | (go_simp; done) | (go_simp; rfl)); (case hp => exact (Reps.one (show Kd.M (Kd.int .i64) _ _ _ a1 [.int .i64 a1] from rfl) (Reps.none _ _))); intro v181 w19 ho20 hb hg_ hnew_; clear hg_ hnew_; (first | rw [← Ny180.out] at ho20 | (simp only [Int.reduceToNat] at ho20; rw [← Ny180.out] at ho20)); have n0_ := Aside0.mk (Kd.R_lower ho20 (below_size (brw HB.out))); have n1_ := Aside0.mk (below_step (brw HB.out) hb); clear HB; have HO182 := n0_; have HB := n1_; clear n0_ n1_; clear hb ho20; obtain ⟨Ao21, co21, eo21⟩ := Kd.R_slice HO182.out; subst eo21) | ((with_reducible refine gate_callee (f := 98) rfl ?_); refine goesL_ (some 11) rfl rfl Try.func98 (by kernel_rfl) rfl #[.slice A0 l0.length c0, .slice Ao21 y180.length co21] rfl (by (try simp only [List.map_toArray, List.map_cons, List.map_nil]); first | done | rfl | (simp only [List.length_drop, List.length_take]; rfl)) ?_; (with_reducible refine (shape_there.calls _ _ l0 _ _ y180 false _ ?side1 ?side2 ?side3 ?side4 A3.out).mono ?_); (case side1 => repeat (first | exact (Kd.C_below HR0.out HB.out) | (with_reducible refine Kd.C_alloc ?_ _) | (with_reducible refine Kd.C_drewN ?_ _) | (with_reducible refine Kd.C_drew ?_))); (case side2 => exact HC0.out); (case side3 => repeat (first | exact (Kd.R_reads' HO182.out).2.2 | (with_reducible refine Kd.C_alloc ?_ _) | (with_reducible refine Kd.C_drewN ?_ _) | (with_reducible refine Kd.C_drew ?_))); (case side4 => exact (Kd.R_reads' HO182.out).2.1); rintro e w22 ⟨rfl, hb⟩; refine ⟨_, rfl, ?_⟩; have n0_ := Aside0.mk (Kd.R_below (by (with_reducible repeat (first | apply Kd.R_alloc | apply Kd.R_drewN | apply Kd.R_drew)); exact HO182.out) hb); have n1_ := Aside0.mk (below_step (brw HB.out) hb); clear HO182; clear HB; have HO182 := n0_; have HB := n1_; clear n0_ n1_; (try clear hb); (try clear hb2); (try clear hk); (try clear hi)))
  go_ret
  exact ⟨_, by first | rfl | (simp [errW_none, errW_some] <;> rfl) | (simp [*, errW_none, errW_some] <;> rfl), by first | exact Kd.R_nil _ _ _ _ _ | exact Kd.N_nil _ _ _ _ _ | exact Kd.V_nil _ _ _ _ _ | exact Kd.Q_nil _ _ _ _ _ | exact Kd.S_nil _ _ _ _ _, by repeat (first | (with_reducible first | exact HB.out | apply below_alloc | apply pw_below_drewN | apply below_drew1) | exact HB.out)⟩

 subst c4
 have H1 : (shape_Kids.l0 k a1 ([] : List Int) l0 (l0.length : Int) 0) = some r := by rw [if_pos rfl] at H; exact H
 clear H
 have H := H1
 clear H1
 have H' := Aside0.mk H
 clear H
 go_enter Try.func67, Try.ntmps67
 go_wp2_with (first | ((with_reducible refine gate_dst (N := 10) rfl ?_); refine Kd.R_lit (Kd.int .i64) _ 3 ?hg (N := 10) ?hd (xs := ([a1] : List Int)) (inner := [.int .i64 a1]) (ok := fun _ => True) (okp := fun _ => True) ?hr ?hp (fun _ hk => hk) trivial (Below.refl _ _) (Nat.le_refl _) (by simp) ?_; (case hd => rfl); (case hg => rfl); (case hr => first | (go_simp; done) | (go_simp; rfl)); (case hp => exact (Reps.one (show Kd.M (Kd.int .i64) _ _ _ a1 [.int .i64 a1] from rfl) (Reps.none _ _))); intro v181 w5 ho6 hb hg_ hnew_; clear hg_ hnew_; (first | rw [← Ny180.out] at ho6 | (simp only [Int.reduceToNat] at ho6; rw [← Ny180.out] at ho6)); have n0_ := Aside0.mk (Kd.R_lower ho6 (below_size (brw HB.out))); have n1_ := Aside0.mk (below_step (brw HB.out) hb); clear HB; have HO182 := n0_; have HB := n1_; clear n0_ n1_; clear hb ho6; obtain ⟨Ao7, co7, eo7⟩ := Kd.R_slice HO182.out; subst eo7) | ((with_reducible refine gate_callee (f := 98) rfl ?_); refine goesL_ (some 11) rfl rfl Try.func98 (by kernel_rfl) rfl #[.slice A0 l0.length c0, .slice Ao7 y180.length co7] rfl (by (try simp only [List.map_toArray, List.map_cons, List.map_nil]); first | done | rfl | (simp only [List.length_drop, List.length_take]; rfl)) ?_; (with_reducible refine (shape_there.calls _ _ l0 _ _ y180 true _ ?side1 ?side2 ?side3 ?side4 A3.out).mono ?_); (case side1 => repeat (first | exact (Kd.C_below HR0.out HB.out) | (with_reducible refine Kd.C_alloc ?_ _) | (with_reducible refine Kd.C_drewN ?_ _) | (with_reducible refine Kd.C_drew ?_))); (case side2 => exact HC0.out); (case side3 => repeat (first | exact (Kd.R_reads' HO182.out).2.2 | (with_reducible refine Kd.C_alloc ?_ _) | (with_reducible refine Kd.C_drewN ?_ _) | (with_reducible refine Kd.C_drew ?_))); (case side4 => exact (Kd.R_reads' HO182.out).2.1); rintro e w8 ⟨rfl, hb⟩; refine ⟨_, rfl, ?_⟩; have n0_ := Aside0.mk (Kd.R_below (by (with_reducible repeat (first | apply Kd.R_alloc | apply Kd.R_drewN | apply Kd.R_drew)); exact HO182.out) hb); have n1_ := Aside0.mk (below_step (brw HB.out) hb); clear HO182; clear HB; have HO182 := n0_; have HB := n1_; clear n0_ n1_; (try clear hb); (try clear hb2); (try clear hk); (try clear hi)))
 go_loopg [5, 15] k (fun kq v5 v15 w' => ∃ (x5_1 : List Int) (x15_1 : Int), v15 = .int .i64 x15_1 ∧ Aside0 (shape_Kids.l0 kq a1 x5_1 l0 (l0.length : Int) x15_1 = some r) ∧ Aside0 (kq ≤ k) ∧ Aside0 (Kd.R (Kd.int .i64) 3 w' w.heap.size (fun _ => True) v5 x5_1) ∧ Aside0 (Below w.heap.size w w'))
 case atStart => exact ⟨(([] : List Int)), (0), (by first | rfl | (simp; done) | (simp [*]; done)), H', ⟨Nat.le_refl _⟩, ⟨by first | exact Kd.R_nil _ _ _ _ _ | exact Kd.N_nil _ _ _ _ _ | exact Kd.V_nil _ _ _ _ _ | exact Kd.Q_nil _ _ _ _ _ | exact Kd.S_nil _ _ _ _ _⟩, ⟨by repeat (first | (with_reducible first | exact HB.out | apply below_alloc | apply pw_below_drewN | apply below_drew1) | exact HB.out)⟩⟩
 case round =>
  clear H'
  try clear p2
  try clear c4
  try clear c6
  obtain ⟨x5_1, x15_1, rfl, HA, HK1, HO_5, HB⟩ := hrel
  cases gk with
  | zero => exact absurd HA.out (by simp [shape_Kids.l0])
  | succ k1 =>
   have H := HA.out
   clear HA
   simp only [shape_Kids.l0] at H
   by_cases c9 : x15_1 < (l0.length : Int)
   rotate_left
   ·rw [if_neg c9] at H
    have c9b0 : decide (x15_1 < (l0.length : Int)) = false := decide_eq_false c9
    clear c9
    obtain rfl := Option.some.inj H
    go_wp2
    go_ret
    exact ⟨_, by first | rfl | (simp [errW_none, errW_some] <;> rfl) | (simp [*, errW_none, errW_some] <;> rfl), by (with_reducible repeat (first | apply Kd.R_alloc | apply Kd.R_drewN | apply Kd.R_drew)); exact HO_5.out, by repeat (first | (with_reducible first | exact HB.out | apply below_alloc | apply pw_below_drewN | apply below_drew1) | exact HB.out)⟩
   rw [if_pos c9] at H
   have c9b0 : decide (x15_1 < (l0.length : Int)) = true := decide_eq_true c9
   clear c9
   by_cases c10 : 0 ≤ x15_1
   rotate_left
   ·rw [if_neg c10] at H
    exact absurd H (by simp)
   rw [if_pos c10] at H
   have c10b0 : decide (0 ≤ x15_1) = true := decide_eq_true c10
   clear c10
   by_cases c11 : x15_1 < (l0.length : Int)
   rotate_left
   ·rw [if_neg c11] at H
    exact absurd H (by simp)
   rw [if_pos c11] at H
   have c11b0 : decide (x15_1 < (l0.length : Int)) = true := decide_eq_true c11
   clear c11
   have HZ_ := Aside0.mk H
   clear H
   have p184 : 0 ≤ (x15_1 : Int) := of_decide_eq_true (by first | (with_reducible assumption) | assumption)
   have q184 : x15_1 < (l0.length : Int) := of_decide_eq_true (by first | (with_reducible assumption) | assumption)
   obtain ⟨ad184, A184_3, c184_3, A184_4, c184_4, A184_5, c184_5, e184, hx184_0, hx184_1, hx184_2, hx184_3, hx184_4, hx184_5, hl184_3, hi184_3, hl184_4, hi184_4, hl184_5, hi184_5⟩ := at_T55 HR0.out x15_1 p184 q184
   cases e184
   replace hx184_0 := hc20_ HB.out hx184_0
   replace hx184_1 := hc20_ HB.out hx184_1
   replace hx184_2 := hc20_ HB.out hx184_2
   replace hx184_3 := hc20_ HB.out hx184_3
   replace hx184_4 := hc20_ HB.out hx184_4
   replace hx184_5 := hc20_ HB.out hx184_5
   have HR184_3 := Aside0.mk hi184_3
   have HC184_3 := Aside0.mk hl184_3
   clear hi184_3 hl184_3
   have HR184_4 := Aside0.mk hi184_4
   have HC184_4 := Aside0.mk hl184_4
   clear hi184_4 hl184_4
   have HR184_5 := Aside0.mk hi184_5
   have HC184_5 := Aside0.mk hl184_5
   clear hi184_5 hl184_5
   replace p184 := eq_true p184
   replace q184 := eq_true q184
   have H := HZ_.out
   clear HZ_
   by_cases c12 : ((rd_T55 l0 x15_1).f2) = a1
   rotate_left
   ·rw [if_neg c12] at H
    have c12b0 : (((rd_T55 l0 x15_1).f2) == a1) = false := beq_eq_false_iff_ne.mpr c12
    have c12b1 : (((rd_T55 l0 x15_1).f2) != a1) = true := bne_iff_ne.mpr c12
    have H' := Aside0.mk H
    clear H
    go_wp2_with (first | ((with_reducible refine gate_dst (N := 7) rfl ?_); refine box_event ?hg (N := 7) ?hd (cs := #[.string (⟨#[]⟩ : ByteArray), .int .i64 0, .int .i64 0, .slice none 0 0, .slice none 0 0, .slice none 0 0]) (t := 55) ?hr ?_; (case hd => rfl); (case hg => rfl); (case hr => first | (go_simp; done) | (go_simp; rfl)); intro gb185 hg w17 hbox hb; have hB_ := bz20_ hb (brw HB.out); have n0_ := Aside0.mk (Kd.R_below (by (with_reducible repeat (first | apply Kd.R_alloc | apply Kd.R_drewN | apply Kd.R_drew)); exact HO_5.out) hb); have n1_ := Aside0.mk (below_step hB_ hb); have n2_ := Aside0.mk (hbox); have n3_ := Aside0.mk ((by rw [hg]; exact (below_size hB_) : w.heap.size ≤ gb185)); have n4_ := Aside0.mk ((by rw [hg]; exact (below_size hB_) : w.heap.size ≤ gb185)); clear HO_5; clear HB; have HO_5 := n0_; have HB := n1_; have BK185 := n2_; have GW185 := n3_; have GE185 := n4_; clear n0_ n1_ n2_ n3_ n4_; clear hb hbox hg; obtain ⟨hcz18_0, hcz18_1, hcz18_2, hcz18_3, hcz18_4, hcz18_5⟩ := cz6_ BK185.out; obtain ⟨hfz18_0, hfz18_1, hfz18_2, hfz18_3, hfz18_4, hfz18_5⟩ := cf6_ BK185.out))
    go_roundg k1
    case measure => have := HK1.out; omega
    case rel => exact ⟨(x5_1), (wrap64 (x15_1 + 1)), (by first | rfl | (simp; done) | (simp [*]; done)), H', ⟨by have := HK1.out; omega⟩, ⟨by (with_reducible repeat (first | apply Kd.R_alloc | apply Kd.R_drewN | apply Kd.R_drew)); exact Kd.R_mono (Kd.R_far (p := ⟨gb185, 5, none⟩) (Kd.R_far (p := ⟨gb185, 4, none⟩) (Kd.R_far (p := ⟨gb185, 3, none⟩) (Kd.R_far (p := ⟨gb185, 2, none⟩) (Kd.R_far (p := ⟨gb185, 1, none⟩) (Kd.R_far (p := ⟨gb185, 0, none⟩) (Kd.R_types HO_5.out BK185.out (by decide)) (fun _ hk => hk.2) (.string ((rd_T55 l0 x15_1).f0))) (fun _ hk => hk.2) (.int .i64 ((rd_T55 l0 x15_1).f1))) (fun _ hk => hk.2) (.int .i64 ((rd_T55 l0 x15_1).f2))) (fun _ hk => hk.2) (.slice A184_3 ((rd_T55 l0 x15_1).f3).length c184_3)) (fun _ hk => hk.2) (.slice A184_4 ((rd_T55 l0 x15_1).f4).length c184_4)) (fun _ hk => hk.2) (.slice A184_5 ((rd_T55 l0 x15_1).f5).length c184_5)) (fun _ hk => trivial)⟩, ⟨by repeat (first | (with_reducible first | exact HB.out | apply below_alloc | apply pw_below_drewN | apply below_drew1 | refine below_set ?_ GE185.out) | exact HB.out)⟩⟩
   rw [if_pos c12] at H
   have c12b0 : (((rd_T55 l0 x15_1).f2) == a1) = true := beq_iff_eq.mpr c12
   have c12b1 : (((rd_T55 l0 x15_1).f2) != a1) = false := bne_eq_false_iff_eq.mpr c12
   clear c12
   by_cases c13 : x5_1.length < 17592186044416
   rotate_left
   ·rw [if_neg c13] at H
    exact absurd H (by simp)
   rw [if_pos c13] at H
   have LMc13 := Aside0.mk c13
   clear c13
   obtain ⟨y186, hy186⟩ : ∃ y_ : List Int, y_ = (x5_1 ++ [x15_1]) := ⟨_, rfl⟩
   replace H : (shape_Kids.l0 k1 a1 y186 l0 (l0.length : Int) (wrap64 (x15_1 + 1))) = some r := by first | (rw [hy186]; with_reducible exact H) | (have H2_ := (Option.bind_some _ _).symm.trans H; rw [hy186]; with_reducible exact H2_) | (have H2_ := (Option.bind_some _ _).symm.trans H; with_reducible exact H2_) | with_reducible exact H | (rw [hy186]; exact H) | exact H
   have Ny186 := Aside0.mk hy186
   clear hy186
   have H' := Aside0.mk H
   clear H
   go_wp2_with (first | ((with_reducible refine gate_dst (N := 7) rfl ?_); refine box_event ?hg (N := 7) ?hd (cs := #[.string (⟨#[]⟩ : ByteArray), .int .i64 0, .int .i64 0, .slice none 0 0, .slice none 0 0, .slice none 0 0]) (t := 55) ?hr ?_; (case hd => rfl); (case hg => rfl); (case hr => first | (go_simp; done) | (go_simp; rfl)); intro gb185 hg w14 hbox hb; have hB_ := bz20_ hb (brw HB.out); have n0_ := Aside0.mk (Kd.R_below (by (with_reducible repeat (first | apply Kd.R_alloc | apply Kd.R_drewN | apply Kd.R_drew)); exact HO_5.out) hb); have n1_ := Aside0.mk (below_step hB_ hb); have n2_ := Aside0.mk (hbox); have n3_ := Aside0.mk ((by rw [hg]; exact (below_size hB_) : w.heap.size ≤ gb185)); have n4_ := Aside0.mk ((by rw [hg]; exact (below_size hB_) : w.heap.size ≤ gb185)); clear HO_5; clear HB; have HO_5 := n0_; have HB := n1_; have BK185 := n2_; have GW185 := n3_; have GE185 := n4_; clear n0_ n1_ n2_ n3_ n4_; clear hb hbox hg; obtain ⟨hcz15_0, hcz15_1, hcz15_2, hcz15_3, hcz15_4, hcz15_5⟩ := cz6_ BK185.out; obtain ⟨hfz15_0, hfz15_1, hfz15_2, hfz15_3, hfz15_4, hfz15_5⟩ := cf6_ BK185.out) | ((with_reducible refine gate_builtin (b := .append) (xs := #[.tmp 24, .tmp 26]) rfl ?_); at_builtin; refine Kd.R_append (Kd.int .i64) (w0 := w) w.heap.size rfl (.tmp 24) (.tmp 26) 45 3 (.int .i64 0) 8 rfl Try.underlying45 info3 rfl (by decide) (by omega) u5 x5_1 x15_1 [.int .i64 x15_1] (fun _ => True) (fun _ => False) rfl (by first | (go_simp; done) | (go_simp; rfl)) ?aP (fun _ hk => hk.elim) ?aF ?aO ?aB ?aS ?aL ?_; (case aP => exact rfl); (case aB => exact (by repeat (first | (with_reducible first | exact HB.out | apply below_alloc | apply pw_below_drewN | apply below_drew1 | refine below_set ?_ GE185.out) | exact HB.out))); (case aF => exact (fun _ _ => trivial)); (case aO => exact (by (with_reducible repeat (first | apply Kd.R_alloc | apply Kd.R_drewN | apply Kd.R_drew)); exact Kd.R_mono (Kd.R_far (p := ⟨gb185, 5, none⟩) (Kd.R_far (p := ⟨gb185, 4, none⟩) (Kd.R_far (p := ⟨gb185, 3, none⟩) (Kd.R_far (p := ⟨gb185, 2, none⟩) (Kd.R_far (p := ⟨gb185, 1, none⟩) (Kd.R_far (p := ⟨gb185, 0, none⟩) (Kd.R_types HO_5.out BK185.out (by decide)) (fun _ hk => hk.2) (.string ((rd_T55 l0 x15_1).f0))) (fun _ hk => hk.2) (.int .i64 ((rd_T55 l0 x15_1).f1))) (fun _ hk => hk.2) (.int .i64 ((rd_T55 l0 x15_1).f2))) (fun _ hk => hk.2) (.slice A184_3 ((rd_T55 l0 x15_1).f3).length c184_3)) (fun _ hk => hk.2) (.slice A184_4 ((rd_T55 l0 x15_1).f4).length c184_4)) (fun _ hk => hk.2) (.slice A184_5 ((rd_T55 l0 x15_1).f5).length c184_5)) (fun _ hk => trivial))); (case aS => exact (below_size (by repeat (first | (with_reducible first | exact HB.out | apply below_alloc | apply pw_below_drewN | apply below_drew1 | refine below_set ?_ GE185.out) | exact HB.out)))); (case aL => have := LMc13.out; omega); intro v187 w16 ho hb hg hat; rw [← Ny186.out] at ho; have n0_ := Aside0.mk (blk_grown (g := gb185) (o := .cells #[.string ((rd_T55 l0 x15_1).f0), .int .i64 ((rd_T55 l0 x15_1).f1), .int .i64 ((rd_T55 l0 x15_1).f2), .slice A184_3 ((rd_T55 l0 x15_1).f3).length c184_3, .slice A184_4 ((rd_T55 l0 x15_1).f4).length c184_4, .slice A184_5 ((rd_T55 l0 x15_1).f5).length c184_5] 55 (0, 0)) (by refine grO ?_; refine blk_put (cs := #[.string ((rd_T55 l0 x15_1).f0), .int .i64 ((rd_T55 l0 x15_1).f1), .int .i64 ((rd_T55 l0 x15_1).f2), .slice A184_3 ((rd_T55 l0 x15_1).f3).length c184_3, .slice A184_4 ((rd_T55 l0 x15_1).f4).length c184_4, .slice none 0 0]) ?_ 5 _ rfl; refine grO ?_; refine blk_put (cs := #[.string ((rd_T55 l0 x15_1).f0), .int .i64 ((rd_T55 l0 x15_1).f1), .int .i64 ((rd_T55 l0 x15_1).f2), .slice A184_3 ((rd_T55 l0 x15_1).f3).length c184_3, .slice none 0 0, .slice none 0 0]) ?_ 4 _ rfl; refine grO ?_; refine blk_put (cs := #[.string ((rd_T55 l0 x15_1).f0), .int .i64 ((rd_T55 l0 x15_1).f1), .int .i64 ((rd_T55 l0 x15_1).f2), .slice none 0 0, .slice none 0 0, .slice none 0 0]) ?_ 3 _ rfl; refine grO ?_; refine blk_put (cs := #[.string ((rd_T55 l0 x15_1).f0), .int .i64 ((rd_T55 l0 x15_1).f1), .int .i64 0, .slice none 0 0, .slice none 0 0, .slice none 0 0]) ?_ 2 _ rfl; refine grO ?_; refine blk_put (cs := #[.string ((rd_T55 l0 x15_1).f0), .int .i64 0, .int .i64 0, .slice none 0 0, .slice none 0 0, .slice none 0 0]) ?_ 1 _ rfl; refine grO ?_; refine blk_put (cs := #[.string (⟨#[]⟩ : ByteArray), .int .i64 0, .int .i64 0, .slice none 0 0, .slice none 0 0, .slice none 0 0]) ?_ 0 _ rfl; refine grO ?_; exact BK185.out) hg (Kd.R_ne HO_5.out BK185.out (by decide))); have n1_ := Aside0.mk (hb); have n2_ := Aside0.mk (ho); clear BK185; clear HB; clear HO_5; have BK185 := n0_; have HB := n1_; have HO188 := n2_; clear n0_ n1_ n2_; clear ho hb hg hat))
   go_roundg k1
   case measure => have := HK1.out; omega
   case rel => exact ⟨(y186), (wrap64 (x15_1 + 1)), (by first | rfl | (simp; done) | (simp [*]; done)), H', ⟨by have := HK1.out; omega⟩, ⟨by (with_reducible repeat (first | apply Kd.R_alloc | apply Kd.R_drewN | apply Kd.R_drew)); exact HO188.out⟩, ⟨by repeat (first | (with_reducible first | exact HB.out | apply below_alloc | apply pw_below_drewN | apply below_drew1 | refine below_set ?_ GE185.out) | exact HB.out)⟩⟩
/-! ### rules_book_kids: function 36 -/
-- USES (*semblance/rules.book).ranges
-- USES semblance/shape.Kids
/-- has a state too few right below? -/
def rules_kid (x : S55) (n : Int) : Bool := (x.f1 == 2 && decide (n < 1)) || (x.f1 == 3 && decide (n < 2))
theorem rules_kid.cases (a n : Int) : ((a == 2) = true ∧ decide (n < 1) = true ∧ ((a == 2 && decide (n < 1)) || (a == 3 && decide (n < 2))) = true) ∨ ((a == 2) = true ∧ decide (n < 1) = false ∧ (a == 3) = false ∧ ((a == 2 && decide (n < 1)) || (a == 3 && decide (n < 2))) = false) ∨ ((a == 2) = false ∧ (a == 3) = true ∧ decide (n < 2) = true ∧ ((a == 2 && decide (n < 1)) || (a == 3 && decide (n < 2))) = true) ∨ ((a == 2) = false ∧ (a == 3) = true ∧ decide (n < 2) = false ∧ ((a == 2 && decide (n < 1)) || (a == 3 && decide (n < 2))) = false) ∨ ((a == 2) = false ∧ (a == 3) = false ∧ ((a == 2 && decide (n < 1)) || (a == 3 && decide (n < 2))) = false) := by
  by_cases h2 : a = 2
  · subst h2
    cases h : decide (n < 1)
    · exact .inr (.inl ⟨rfl, rfl, rfl, by simp⟩)
    · exact .inl ⟨rfl, rfl, by simp⟩
  · have h2' : (a == 2) = false := beq_eq_false_iff_ne.2 h2
    by_cases h3 : a = 3
    · have h3' : (a == 3) = true := beq_iff_eq.2 h3
      cases h : decide (n < 2)
      · exact .inr (.inr (.inr (.inl ⟨h2', h3', rfl, by simp [h2']⟩)))
      · exact .inr (.inr (.inl ⟨h2', h3', rfl, by simp [h3']⟩))
    · have h3' : (a == 3) = false := beq_eq_false_iff_ne.2 h3
      exact .inr (.inr (.inr (.inr ⟨h2', h3', by simp [h2', h3']⟩)))
def rules_kids.at_ (k : Nat) (b : rules_bk.Bk) (i : Nat) : List (S66) := if rules_kid (rd_T55 b.l3 (i : Int)) (((shape_Kids.f k b.l3 (i : Int)).getD []).length : Int) = true then [⟨b.rule, (i : Int), 0⟩] else []
def rules_kids.f (k : Nat) (b : rules_bk.Bk) : Option (List (S66)) := if ((List.range b.l3.length).all fun i => (shape_Kids.f k b.l3 (i : Int)).isSome) = true then some (rules_all b.l3.length (rules_kids.at_ k b)) else none
theorem rules_kids.parts {k : Nat} {b : rules_bk.Bk} {fl : List (S66)} (h : rules_kids.f k b = some fl) : (∀ i, i < b.l3.length → ∃ v, shape_Kids.f k b.l3 (i : Int) = some v) ∧ rules_all b.l3.length (rules_kids.at_ k b) = fl := by
  unfold rules_kids.f at h
  split at h
  case isFalse => cases h
  case isTrue hall => exact ⟨fun i hi => Option.isSome_iff_exists.1 (List.all_eq_true.1 hall i (List.mem_range.2 hi)), Option.some.inj h⟩
set_option maxHeartbeats 16000000 in
set_option maxRecDepth 100000 in
theorem rules_kids.calls (k : Nat) (w : World) (n₀ B : Nat) (b : rules_bk.Bk) (out : List (S66)) (vo : Value) (W : World) (hA : rules_bk.At w.heap.size n₀ W B b out vo) (hW : Below w.heap.size w W) (hr3 : Kd.C k55 w b.A3 b.l3.length b.l3) (hc3 : b.l3.length ≤ b.c3) (fl : List (S66)) (h : rules_kids.f k b = some fl)
    (hlen : (out ++ fl).length ≤ 1000000) :
    Calls Try.prog 36 #[.pointer (some ⟨B, 0, none⟩)] W fun e W' => (∃ u, e = .returned u) ∧ (∃ vo', rules_bk.At w.heap.size n₀ W' B b (out ++ fl) vo') ∧ rules_bk.Fr w.heap.size n₀ B W W' := by
  obtain ⟨hok, rfl⟩ := rules_kids.parts h
  have hmax := Kd.C_max hr3
  have hu := Try.underlying71
  have hu2 := Try.underlying26
  have hu3 := Try.underlying55
  obtain ⟨hc0, hc1, hc2, hc3', hc4, hc5, hc6, hc7⟩ := hA.cells
  have HR := Aside0.mk hr3
  have HA := Aside0.mk hA
  have HW := Aside0.mk hW
  have HL := Aside0.mk hlen
  have HOK := Aside0.mk hok
  clear hr3 hA hW hlen hc0 hc1 hc2 hc4 hc5 hc6 hc7 hok h
  go_enter Try.func36, Try.ntmps36
  go_wp2_with fail
  clear hc3'
  generalize hAS : b.A3 = AS3 at *
  have HAS := Aside0.mk hAS
  clear hAS
  go_loopg [11] b.l3.length (fun kq v9 wr => ∃ (i : Nat) (vo' : Value), Aside0 (b.l3.length - i = kq) ∧ Aside0 (i ≤ b.l3.length) ∧ v9 = .int .i64 (i : Int) ∧ Aside0 (rules_bk.At w.heap.size n₀ wr B b (out ++ rules_all i (rules_kids.at_ k b)) vo') ∧ Aside0 (rules_bk.Fr w.heap.size n₀ B W wr))
  case atStart => exact ⟨0, vo, ⟨rfl⟩, ⟨Nat.zero_le _⟩, rfl, ⟨by simpa [rules_all] using HA.out⟩, ⟨rules_bk.Fr.refl _ _ _ _⟩⟩
  case round =>
    obtain ⟨i, vo', HK, HI, rfl, HAt, HFr⟩ := hrel
    by_cases hi : i < b.l3.length
    · have hlt : decide ((i : Int) < (b.l3.length : Int)) = true := decide_eq_true (by omega)
      obtain ⟨ad, A3, c3, A4, c4, A5, c5, e1, hx0, hx1, hx2, hx3, hx4, hx5, hl3, hi3, hl4, hi4, hl5, hi5⟩ := at_T55 HR.out (i : Int) (by omega) (by omega)
      subst e1
      rw [Int.toNat_natCast] at hx0 hx1 hx2 hx3 hx4 hx5
      have HBR := Aside0.mk (HW.out.trans HFr.out.bel)
      replace hx0 := pw_cell_below HBR.out hx0
      replace hx1 := pw_cell_below HBR.out hx1
      replace hx2 := pw_cell_below HBR.out hx2
      replace hx3 := pw_cell_below HBR.out hx3
      replace hx4 := pw_cell_below HBR.out hx4
      replace hx5 := pw_cell_below HBR.out hx5
      have hle : (out ++ rules_all (i + 1) (rules_kids.at_ k b)).length ≤ 1000000 := by
        have h1 := HL.out
        have h2 := rules_all_le (rules_kids.at_ k b) (show i + 1 ≤ b.l3.length by omega)
        rw [List.length_append] at h1 ⊢
        omega
      have HLE := Aside0.mk hle
      have HI3 := Aside0.mk hi3
      have HI4 := Aside0.mk hi4
      have HI5 := Aside0.mk hi5
      have hok := HOK.out i hi
      clear hle hi3 hi4 hi5
      obtain ⟨ks, hks⟩ := hok
      have hat : rules_kids.at_ k b i = if rules_kid (rd_T55 b.l3 (i : Int)) (ks.length : Int) = true then [⟨b.rule, (i : Int), 0⟩] else [] := by unfold rules_kids.at_; rw [hks]; rfl
      generalize rd_T55 b.l3 (i : Int) = x at *
      have HKS := Aside0.mk hks
      unfold rules_kid at hat
      have hki : ((ks.length : Nat) : Int) = ((ks.length : Nat) : Int) := rfl
      clear hks hki
      rcases rules_kid.cases x.f1 (ks.length : Int) with ⟨hq1, hq2, hq0⟩ | ⟨hq1, hq2, hq3, hq0⟩ | ⟨hq1, hq3, hq4, hq0⟩ | ⟨hq1, hq3, hq4, hq0⟩ | ⟨hq1, hq3, hq0⟩ <;>
        (rw [hq0] at hat
         clear hq0
         have HAT := Aside0.mk hat
         clear hat
         go_wp2_with (first
          | ((with_reducible refine gate_dst (N := 3) rfl ?_); refine box_event ?hg (N := 3) ?hd (cs := #[.string (⟨#[]⟩ : ByteArray), .int .i64 0, .int .i64 0, .slice none 0 0, .slice none 0 0, .slice none 0 0]) (t := 55) ?hr ?_; (case hd => rfl); (case hg => rfl); (case hr => first | (go_simp; done) | (go_simp; rfl)); intro g hg w1 hbox hb; have HGE := Aside0.mk (Nat.le_of_eq hg.symm); clear hg)
          | (refine rules_store (n := wr.heap.size) (W0 := wr) (vs := #[.string x.f0, .int .i64 x.f1, .int .i64 x.f2, .slice A3 x.f3.length c3, .slice A4 x.f4.length c4, .slice A5 x.f5.length c5]) rfl rfl (.tmp 3) (.tmp 15) rfl rfl rfl hbox (by kernel_rfl) rfl (by simp [Value.oneCell']) hb HGE.out ?_; intro w2 hbox2 hb2; have HA2 := Aside0.mk (HAt.out.below hb2); have HF2 := Aside0.mk (HAt.out.fr hb2); have HBX := Aside0.mk hbox2; have hy3 := HA2.out.cells.2.2.2.1; rw [HAS.out] at hy3; clear hbox hb hbox2 hb2)
          | (go_at_call 67; refine (shape_Kids.calls k (some ad) b.c3 b.l3 (i : Int) ks w2 (Kd.C_below HR.out (HW.out.trans (HFr.out.bel.trans HF2.out.bel))) hc3 HKS.out).mono ?_; rintro e w4 ⟨v4, rfl, hR4, hb4⟩; obtain ⟨A9, c9, rfl⟩ := Kd.R_slice hR4; have HA4 := Aside0.mk (HA2.out.below hb4); have HF4 := Aside0.mk (HF2.out.trans (HA2.out.fr hb4)); obtain ⟨hz0, hz1, hz2, hz3, hz4, hz5⟩ := cz6_ (blk_below HBX.out hb4); clear hR4 hb4)
          | (go_at_call 66; refine (rules_bk.note w.heap.size n₀ B b _ vo' _ (i : Int) 0 w4 HA4.out (by have := HLE.out; rw [rules_all_succ, ← List.append_assoc, List.length_append] at this; omega)).mono ?_; rintro e w3 ⟨⟨u, rfl⟩, ⟨vo3, hA3⟩, hF3⟩; have HA3 := Aside0.mk hA3; have HF3 := Aside0.mk hF3; clear hA3 hF3))
         go_roundg (b.l3.length - (i + 1))
         case measure => have := HK.out; omega
         case rel => exact ⟨i + 1, vo3, ⟨rfl⟩, ⟨hi⟩, by go_num, ⟨by rw [rules_all_succ, ← List.append_assoc, HAT.out]; simpa using HA3.out⟩, ⟨HFr.out.trans (HF4.out.trans HF3.out)⟩⟩)
    · have hlt : decide ((i : Int) < (b.l3.length : Int)) = false := decide_eq_false (by omega)
      have hil : i = b.l3.length := by have := HI.out; omega
      have HIL := Aside0.mk hil
      clear hil
      go_wp2
      go_end0
      exact ⟨⟨_, rfl⟩, ⟨vo', by rw [HIL.out] at HAt; exact HAt.out⟩, HFr.out⟩


/-! ### api_Act_101: function 101 -/
open Go.Proofs.Ytoeioigpkfgppaa.XFind in
set_option maxHeartbeats 2000000 in
set_option maxRecDepth 100000 in
theorem IndexFunc_Act.calls (p : S93 → Bool) (g : Nat) (lb : Array Value) (eg : ∀ args w, (callFunc g args).run Try.prog w = .ok (.enter g args) w) (A0 : Option Addr) (c0 : Nat) (l0 : List (S93)) (w : World) (hr0 : Kd.C k93 w A0 l0.length l0)
    (hp : ∀ W, Below w.heap.size w W → ∀ (x : S93), x ∈ l0 → ∀ (A2 : Option Addr) (c2 : Nat), k93.K W x [.string x.f0, .bool x.f1, .slice A2 x.f2.length c2] → Calls Try.prog g (#[.agg #[.string x.f0, .bool x.f1, .slice A2 x.f2.length c2]] ++ lb) W fun e w' => e = .returned (.bool (p x)) ∧ Below w.heap.size w w') :
    Calls Try.prog 101 #[.slice A0 l0.length c0, .func (.func g) #[] lb] w fun e w' => e = .returned (.int .i64 (idxF p l0)) ∧ Below w.heap.size w w' := by
  have hbig := hr0.2.1
  have HR := Aside0.mk hr0
  have HPF := Aside0.mk hp
  clear hr0 hp
  have hu := Try.underlying93
  go_enter Try.func101, Try.ntmps101
  go_wp2
  go_loopg [8] l0.length (fun kq v8 wr => ∃ n : Nat, Aside0 (n ≤ l0.length) ∧ Aside0 (l0.length - n = kq) ∧ v8 = .int .i64 (n : Int) ∧ Aside0 (Below w.heap.size w wr) ∧ Aside0 (∀ j : Nat, j < n → p (l0.getD j z93) = false))
  case atStart => exact ⟨0, ⟨Nat.zero_le _⟩, ⟨by omega⟩, rfl, ⟨Below.refl _ _⟩, ⟨fun j hj => absurd hj (Nat.not_lt_zero _)⟩⟩
  case round =>
    obtain ⟨n, HN, HK, rfl, HB, HP⟩ := hrel
    by_cases hlt : n < l0.length
    · have hlt' : decide ((n : Int) < (l0.length : Int)) = true := decide_eq_true (by omega)
      have hC := Kd.C_below HR.out HB.out
      obtain ⟨ad, A2, c2, e1, hx0, hx1, hx2, hl2, hg2⟩ := at_T93 hC (n : Int) (by omega) (by omega)
      subst e1
      rw [Int.toNat_natCast] at hx0 hx1 hx2
      have hy0 : rd_T93 l0 (n : Int) = l0.getD n z93 := by unfold rd_T93; rw [Int.toNat_natCast]
      rw [hy0] at hx0 hx1 hx2 hl2 hg2
      have hmem : l0.getD n z93 ∈ l0 := by simp only [List.getD, List.getElem?_eq_getElem hlt, Option.getD_some]; exact List.getElem_mem hlt
      have hcall := HPF.out wr HB.out (l0.getD n z93) hmem A2 c2 (k93_mk _ _ hl2 hg2)
      generalize hy : l0.getD n z93 = y at *
      have HY := Aside0.mk hy
      clear hy hC hy0 hmem hl2 hg2
      cases hq : p y with
      | true =>
        rw [hq] at hcall
        have HC := Aside0.mk hcall
        have HQ := Aside0.mk hq
        clear hcall hq
        go_wp2_with fail
        refine HC.out.mono ?_
        rintro e w' ⟨rfl, hb'⟩
        go_wp2
        go_ret
        refine ⟨?_, hb'⟩
        rw [idxF_hit p l0 z93 n hlt (by rw [HY.out]; exact HQ.out) HP.out]
        rfl
      | false =>
        rw [hq] at hcall
        have HC := Aside0.mk hcall
        have HQ := Aside0.mk hq
        clear hcall hq
        go_wp2_with fail
        refine HC.out.mono ?_
        rintro e w' ⟨rfl, hb'⟩
        go_wp2
        go_roundg (l0.length - (n + 1))
        case measure => have := HK.out; omega
        case rel =>
          refine ⟨n + 1, ⟨hlt⟩, ⟨rfl⟩, by go_num, ⟨hb'⟩, ⟨fun j hj => ?_⟩⟩
          by_cases e : j = n
          · subst e; rw [HY.out]; exact HQ.out
          · exact HP.out j (by omega)
    · have hlt' : decide ((n : Int) < (l0.length : Int)) = false := decide_eq_false (by omega)
      have hn : n = l0.length := by have := HN.out; omega
      have HNN := Aside0.mk hn
      clear hn
      go_wp2
      go_ret
      exact ⟨by rw [idxF_miss p l0 z93 (fun j hj => HP.out j (by have := HNN.out; omega))]; rfl, HB.out⟩


/-! ### api_Act_70: function 70 -/
-- USES slices.IndexFunc[[]semblance/api.Act,semblance/api.Act]
open Go.Proofs.Ytoeioigpkfgppaa.XFind in
set_option maxHeartbeats 2000000 in
theorem ContainsFunc_Act.calls (p : S93 → Bool) (g : Nat) (lb : Array Value) (eg : ∀ args w, (callFunc g args).run Try.prog w = .ok (.enter g args) w) (A0 : Option Addr) (c0 : Nat) (l0 : List (S93)) (w : World) (hr0 : Kd.C k93 w A0 l0.length l0)
    (hp : ∀ W, Below w.heap.size w W → ∀ (x : S93), x ∈ l0 → ∀ (A2 : Option Addr) (c2 : Nat), k93.K W x [.string x.f0, .bool x.f1, .slice A2 x.f2.length c2] → Calls Try.prog g (#[.agg #[.string x.f0, .bool x.f1, .slice A2 x.f2.length c2]] ++ lb) W fun e w' => e = .returned (.bool (p x)) ∧ Below w.heap.size w w') :
    Calls Try.prog 70 #[.slice A0 l0.length c0, .func (.func g) #[] lb] w fun e w' => e = .returned (.bool (l0.any p)) ∧ Below w.heap.size w w' := by
  have hcall := IndexFunc_Act.calls p g lb eg A0 c0 l0 w hr0 hp
  have HANY := Aside0.mk (idxF_any p l0)
  generalize idxF p l0 = i at hcall HANY
  have HC := Aside0.mk hcall
  clear hp hr0 hcall
  go_enter Try.func70, Try.ntmps70
  go_wp2_with (go_at_call 101; refine HC.out.mono ?_; rintro e w' ⟨rfl, hb'⟩)
  go_ret
  exact ⟨by rw [← HANY.out]; rfl, hb'⟩


/-! ### term_Arity: function 46 -/
mutual
def term_Arity.j0 : Nat → Int → Bool → Option (Int)
  | 0, _, _ => none
  | k + 1, x0, x3 => if x3 = true then (some (-1)) else (if x0 = 3 then (term_Arity.j1 k x0 true) else (term_Arity.j1 k x0 (x0 == 12)))
def term_Arity.j1 : Nat → Int → Bool → Option (Int)
  | 0, _, _ => none
  | k + 1, x0, x10 => if x10 = true then (some 1) else (if x0 ≤ 2 then (some 0) else (if x0 ≥ 9 then (if x0 ≤ 11 then (some 0) else (some 2)) else (some 2)))
end
def term_Arity.f (k : Nat) (a0 : Int) : Option (Int) := if a0 < 1 then (term_Arity.j0 k a0 true) else (term_Arity.j0 k a0 (decide (a0 > 20)))
theorem term_Arity.mono_l : ∀ k, (∀ y0 y1, LeO (term_Arity.j0 k y0 y1) (term_Arity.j0 (k + 1) y0 y1)) ∧ (∀ y0 y1, LeO (term_Arity.j1 k y0 y1) (term_Arity.j1 (k + 1) y0 y1))
  | 0 => ⟨fun _ _ r h => by simp [term_Arity.j0] at h, fun _ _ r h => by simp [term_Arity.j1] at h⟩
  | k + 1 => by
    obtain ⟨ih0, ih1⟩ := term_Arity.mono_l k
    refine ⟨?_, ?_⟩
    · intro y0 y1
      unfold term_Arity.j0
      repeat' first
      | (with_reducible exact ih0 _ _)
      | (with_reducible exact ih1 _ _)
      | (with_reducible exact LeO.refl _)
      | (with_reducible exact LeO.none _)
      | (with_reducible refine LeO.ite ?_ ?_)
      | (with_reducible refine LeO.bind ?_ (fun _ => ?_))
      | exact ih0 _ _
      | exact ih1 _ _
      | exact LeO.none _
      | refine LeO.ite ?_ ?_
      | refine LeO.bind ?_ (fun _ => ?_)
    · intro y0 y1
      unfold term_Arity.j1
      repeat' first
      | (with_reducible exact ih0 _ _)
      | (with_reducible exact ih1 _ _)
      | (with_reducible exact LeO.refl _)
      | (with_reducible exact LeO.none _)
      | (with_reducible refine LeO.ite ?_ ?_)
      | (with_reducible refine LeO.bind ?_ (fun _ => ?_))
      | exact ih0 _ _
      | exact ih1 _ _
      | exact LeO.none _
      | refine LeO.ite ?_ ?_
      | refine LeO.bind ?_ (fun _ => ?_)
theorem term_Arity.mono : ∀ a0 k, LeO (term_Arity.f k a0) (term_Arity.f (k + 1) a0) := by
  intro a0 k
  obtain ⟨ih0, ih1⟩ := term_Arity.mono_l k
  unfold term_Arity.f
  repeat' first
      | (with_reducible exact ih0 _ _)
      | (with_reducible exact ih1 _ _)
      | (with_reducible exact LeO.refl _)
      | (with_reducible exact LeO.none _)
      | (with_reducible refine LeO.ite ?_ ?_)
      | (with_reducible refine LeO.bind ?_ (fun _ => ?_))
      | exact ih0 _ _
      | exact ih1 _ _
      | exact LeO.none _
      | refine LeO.ite ?_ ?_
      | refine LeO.bind ?_ (fun _ => ?_)
set_option maxHeartbeats 8000000 in
set_option maxRecDepth 100000 in
theorem term_Arity.calls (k : Nat) (a0 : Int) (r : Int) (w : World) (h : term_Arity.f k a0 = some r) :
  Calls Try.prog 46 #[.int .i64 a0] w fun e w' => e = .returned (.int .i64 r) ∧ Drawn0 w w' := by
 have H : (if a0 < 1 then (term_Arity.j0 k a0 true) else (term_Arity.j0 k a0 (decide (a0 > 20)))) = some r := h
 clear h
 have HC2 := Aside0.mk H
 clear H
 go_enter Try.func46, Try.ntmps46
 go_upto_region 1 with (fail)
 go_cut [3] (fun v3 wc => ∃ (kq : Nat) (x3_1 : Bool), v3 = .bool x3_1 ∧ Aside0 (term_Arity.j0 kq a0 x3_1 = some r) ∧ Aside0 (kq ≤ k) ∧ Drawn0 w wc)
 case first =>
  have H := HC2.out
  clear HC2
  by_cases c3 : a0 < 1
  ·rw [if_pos c3] at H
   have c3b0 : decide (a0 < 1) = true := decide_eq_true c3
   clear c3
   (first | rw [c3b0] | (simp only [i64_w, i32_w]; rw [c3b0]) | skip)
   have H' := Aside0.mk H
   clear H
   go_wp2
   go_meet
   case rel => exact ⟨_, (true), (by first | rfl | (simp; done) | (simp [*]; done)), H', ⟨by first | omega | exact Nat.le_refl _⟩, by repeat (first | exact Drawn0.refl _ | apply Drawn0.step)⟩
  rw [if_neg c3] at H
  have c3b0 : decide (a0 < 1) = false := decide_eq_false c3
  clear c3
  (first | rw [c3b0] | (simp only [i64_w, i32_w]; rw [c3b0]) | skip)
  have H' := Aside0.mk H
  clear H
  go_wp2
  go_meet
  case rel => exact ⟨_, (decide (a0 > 20)), (by first | rfl | (simp; done) | (simp [*]; done)), H', ⟨by first | omega | exact Nat.le_refl _⟩, by repeat (first | exact Drawn0.refl _ | apply Drawn0.step)⟩
 case rest =>
  clear HC2
  try clear p2
  try clear c3
  try clear c3b0
  obtain ⟨kq, x3_1, rfl, HA, HJ1, ⟨mc1, rfl⟩⟩ := hcut
  cases kq with
  | zero => exact absurd HA.out (by simp [term_Arity.j0])
  | succ kj1 =>
   have H := HA.out
   clear HA
   simp only [term_Arity.j0] at H
   by_cases c4 : x3_1 = true
   ·subst c4
    have H1 : (some (-1)) = some r := by rw [if_pos rfl] at H; exact H
    clear H
    have H := H1
    clear H1
    obtain rfl := Option.some.inj H
    go_wp2
    go_ret
    exact ⟨by first | rfl | (simp; done) | (simp [*]; done), by repeat (first | exact Drawn0.refl _ | apply Drawn0.step)⟩
   replace c4 := Bool.eq_false_iff.mpr c4
   subst c4
   have H1 : (if a0 = 3 then (term_Arity.j1 kj1 a0 true) else (term_Arity.j1 kj1 a0 (a0 == 12))) = some r := by rw [if_neg (show ¬ (false = true) by decide)] at H; exact H
   clear H
   have H := H1
   clear H1
   have HC5 := Aside0.mk H
   clear H
   go_upto_region 3 with (fail)
   go_cut [10] (fun v10 wc => ∃ (kq : Nat) (x10_4 : Bool), v10 = .bool x10_4 ∧ Aside0 (term_Arity.j1 kq a0 x10_4 = some r) ∧ Aside0 (kq ≤ kj1) ∧ Drawn0 w wc)
   case first =>
    have H := HC5.out
    clear HC5
    by_cases c6 : a0 = 3
    rotate_left
    ·rw [if_neg c6] at H
     have c6b0 : (a0 == 3) = false := beq_eq_false_iff_ne.mpr c6
     have c6b1 : (a0 != 3) = true := bne_iff_ne.mpr c6
     (first | rw [c6b0] | (simp only [i64_w, i32_w]; rw [c6b0]) | skip)
     have H' := Aside0.mk H
     clear H
     go_wp2
     go_meet
     case rel => exact ⟨_, ((a0 == 12)), (by first | rfl | (simp; done) | (simp [*]; done)), H', ⟨by have := HJ1.out; first | omega | exact Nat.le_refl _⟩, by repeat (first | exact Drawn0.refl _ | apply Drawn0.step)⟩
    rw [if_pos c6] at H
    have c6b0 : (a0 == 3) = true := beq_iff_eq.mpr c6
    have c6b1 : (a0 != 3) = false := bne_eq_false_iff_eq.mpr c6
    clear c6
    (first | rw [c6b0] | (simp only [i64_w, i32_w]; rw [c6b0]) | skip)
    have H' := Aside0.mk H
    clear H
    go_wp2
    go_meet
    case rel => exact ⟨_, (true), (by first | rfl | (simp; done) | (simp [*]; done)), H', ⟨by have := HJ1.out; first | omega | exact Nat.le_refl _⟩, by repeat (first | exact Drawn0.refl _ | apply Drawn0.step)⟩
   case rest =>
    clear HC5
    try clear c1
    try clear p2
    try clear c3
    try clear c3b0
    try clear c4
    try clear c6
    try clear c6b0
    try clear c6b1
    try clear p2
    obtain ⟨kq, x10_4, rfl, HA, HJ4, ⟨mc4, rfl⟩⟩ := hcut
    cases kq with
    | zero => exact absurd HA.out (by simp [term_Arity.j1])
    | succ kj4 =>
     have H := HA.out
     clear HA
     simp only [term_Arity.j1] at H
     by_cases c7 : x10_4 = true
     ·subst c7
      have H1 : (some 1) = some r := by rw [if_pos rfl] at H; exact H
      clear H
      have H := H1
      clear H1
      obtain rfl := Option.some.inj H
      go_wp2
      go_ret
      exact ⟨by first | rfl | (simp; done) | (simp [*]; done), by repeat (first | exact Drawn0.refl _ | apply Drawn0.step)⟩
     replace c7 := Bool.eq_false_iff.mpr c7
     subst c7
     have H1 : (if a0 ≤ 2 then (some 0) else (if a0 ≥ 9 then (if a0 ≤ 11 then (some 0) else (some 2)) else (some 2))) = some r := by rw [if_neg (show ¬ (false = true) by decide)] at H; exact H
     clear H
     have H := H1
     clear H1
     by_cases c8 : a0 ≤ 2
     ·rw [if_pos c8] at H
      have c8b0 : decide (a0 ≤ 2) = true := decide_eq_true c8
      clear c8
      obtain rfl := Option.some.inj H
      go_wp2
      go_ret
      exact ⟨by first | rfl | (simp; done) | (simp [*]; done), by repeat (first | exact Drawn0.refl _ | apply Drawn0.step)⟩
     rw [if_neg c8] at H
     have c8b0 : decide (a0 ≤ 2) = false := decide_eq_false c8
     clear c8
     by_cases c9 : a0 ≥ 9
     rotate_left
     ·rw [if_neg c9] at H
      have c9b0 : decide (9 ≤ a0) = false := decide_eq_false c9
      clear c9
      obtain rfl := Option.some.inj H
      go_wp2
      go_ret
      exact ⟨by first | rfl | (simp; done) | (simp [*]; done), by repeat (first | exact Drawn0.refl _ | apply Drawn0.step)⟩

     rw [if_pos c9] at H
     have c9b0 : decide (9 ≤ a0) = true := decide_eq_true c9
     clear c9
     by_cases c10 : a0 ≤ 11
     ·rw [if_pos c10] at H
      have c10b0 : decide (a0 ≤ 11) = true := decide_eq_true c10
      clear c10
      obtain rfl := Option.some.inj H
      go_wp2
      go_ret
      exact ⟨by first | rfl | (simp; done) | (simp [*]; done), by repeat (first | exact Drawn0.refl _ | apply Drawn0.step)⟩
     rw [if_neg c10] at H
     have c10b0 : decide (a0 ≤ 11) = false := decide_eq_false c10
     clear c10
     obtain rfl := Option.some.inj H
     go_wp2
     go_ret
     exact ⟨by first | rfl | (simp; done) | (simp [*]; done), by repeat (first | exact Drawn0.refl _ | apply Drawn0.step)⟩
/-! ### term_End: function 104 -/
def term_End.l0 : Nat → List (S47) → Int → Int → Option (Int)
  | 0, _, _, _ => none
  | k + 1, x0, x1, x5 => if x5 > 0 then (if x1 < 0 then (some (-1)) else (if x1 ≥ (x0.length : Int) then (some (-1)) else (if 0 ≤ x1 then (if x1 < (x0.length : Int) then ((term_Arity.f k ((rd_T47 x0 x1).f0)).bind fun t190 => (if t190 < 0 then (some (-1)) else ((term_Arity.f k ((rd_T47 x0 x1).f0)).bind fun t192 => (term_End.l0 k x0 (wrap64 (x1 + 1)) (wrap64 (x5 + (wrap64 (t192 - 1)))))))) else (none)) else (none)))) else (some x1)
def term_End.f (k : Nat) (l0 : List (S47)) (a1 : Int) : Option (Int) := term_End.l0 k l0 a1 1
theorem term_End.mono_l : ∀ k, (∀ y0 y1 y2, LeO (term_End.l0 k y0 y1 y2) (term_End.l0 (k + 1) y0 y1 y2))
  | 0 => fun _ _ _ r h => by simp [term_End.l0] at h
  | k + 1 => by
    have ih0 := term_End.mono_l k
    · intro y0 y1 y2
      unfold term_End.l0
      repeat' first
      | (with_reducible exact ih0 _ _ _)
      | (with_reducible exact term_Arity.mono _ _)
      | (with_reducible exact LeO.refl _)
      | (with_reducible exact LeO.none _)
      | (with_reducible refine LeO.ite ?_ ?_)
      | (with_reducible refine LeO.bind ?_ (fun _ => ?_))
      | exact ih0 _ _ _
      | exact term_Arity.mono _ _
      | exact LeO.none _
      | refine LeO.ite ?_ ?_
      | refine LeO.bind ?_ (fun _ => ?_)
theorem term_End.mono : ∀ a0 a1 k, LeO (term_End.f k a0 a1) (term_End.f (k + 1) a0 a1) := by
  intro a0 a1 k
  have ih0 := term_End.mono_l k
  unfold term_End.f
  repeat' first
      | (with_reducible exact ih0 _ _ _)
      | (with_reducible exact term_Arity.mono _ _)
      | (with_reducible exact LeO.refl _)
      | (with_reducible exact LeO.none _)
      | (with_reducible refine LeO.ite ?_ ?_)
      | (with_reducible refine LeO.bind ?_ (fun _ => ?_))
      | exact ih0 _ _ _
      | exact term_Arity.mono _ _
      | exact LeO.none _
      | refine LeO.ite ?_ ?_
      | refine LeO.bind ?_ (fun _ => ?_)
set_option maxHeartbeats 8000000 in
set_option maxRecDepth 100000 in
theorem term_End.calls (k : Nat) (A0 : Option Addr) (c0 : Nat) (l0 : List (S47)) (a1 : Int) (r : Int) (w : World) (hr0 : Kd.C k47 w A0 l0.length l0) (hc0 : l0.length ≤ c0) (h : term_End.f k l0 a1 = some r) :
  Calls Try.prog 104 #[.slice A0 l0.length c0, .int .i64 a1] w fun e w' => e = .returned (.int .i64 r) ∧ Drawn0 w w' := by
 have HR0 := Aside0.mk hr0
 have HC0 := Aside0.mk hc0
 clear hr0 hc0
 have H : (term_End.l0 k l0 a1 1) = some r := h
 clear h
 have H' := Aside0.mk H
 clear H
 go_enter Try.func104, Try.ntmps104
 go_wp2
 go_loopg [1, 5] k (fun kq v1 v5 w' => ∃ (x1_1 : Int) (x5_1 : Int), v1 = .int .i64 x1_1 ∧ v5 = .int .i64 x5_1 ∧ Aside0 (term_End.l0 kq l0 x1_1 x5_1 = some r) ∧ Aside0 (kq ≤ k) ∧ Drawn0 w w')
 case atStart => exact ⟨(a1), (1), (by first | rfl | (simp; done) | (simp [*]; done)), (by first | rfl | (simp; done) | (simp [*]; done)), H', ⟨Nat.le_refl _⟩, by repeat (first | exact Drawn0.refl _ | apply Drawn0.step)⟩
 case round =>
  clear H'
  try clear c1
  try clear p2
  obtain ⟨x1_1, x5_1, rfl, rfl, HA, HK1, ⟨m1, rfl⟩⟩ := hrel
  cases gk with
  | zero => exact absurd HA.out (by simp [term_End.l0])
  | succ k1 =>
   have H := HA.out
   clear HA
   simp only [term_End.l0] at H
   by_cases c3 : x5_1 > 0
   rotate_left
   ·rw [if_neg c3] at H
    have c3b0 : decide (0 < x5_1) = false := decide_eq_false c3
    clear c3
    obtain rfl := Option.some.inj H
    go_wp2
    go_ret
    exact ⟨by first | rfl | (simp; done) | (simp [*]; done), by repeat (first | exact Drawn0.refl _ | apply Drawn0.step)⟩

   rw [if_pos c3] at H
   have c3b0 : decide (0 < x5_1) = true := decide_eq_true c3
   clear c3
   by_cases c4 : x1_1 < 0
   ·rw [if_pos c4] at H
    have c4b0 : decide (x1_1 < 0) = true := decide_eq_true c4
    clear c4
    obtain rfl := Option.some.inj H
    go_wp2
    go_ret
    exact ⟨by first | rfl | (simp; done) | (simp [*]; done), by repeat (first | exact Drawn0.refl _ | apply Drawn0.step)⟩
   rw [if_neg c4] at H
   have c4b0 : decide (x1_1 < 0) = false := decide_eq_false c4
   clear c4
   by_cases c5 : x1_1 ≥ (l0.length : Int)
   ·rw [if_pos c5] at H
    have c5b0 : decide ((l0.length : Int) ≤ x1_1) = true := decide_eq_true c5
    clear c5
    obtain rfl := Option.some.inj H
    go_wp2
    go_ret
    exact ⟨by first | rfl | (simp; done) | (simp [*]; done), by repeat (first | exact Drawn0.refl _ | apply Drawn0.step)⟩
   rw [if_neg c5] at H
   have c5b0 : decide ((l0.length : Int) ≤ x1_1) = false := decide_eq_false c5
   clear c5
   by_cases c6 : 0 ≤ x1_1
   rotate_left
   ·rw [if_neg c6] at H
    exact absurd H (by simp)
   rw [if_pos c6] at H
   have c6b0 : decide (0 ≤ x1_1) = true := decide_eq_true c6
   clear c6
   by_cases c7 : x1_1 < (l0.length : Int)
   rotate_left
   ·rw [if_neg c7] at H
    exact absurd H (by simp)
   rw [if_pos c7] at H
   have c7b0 : decide (x1_1 < (l0.length : Int)) = true := decide_eq_true c7
   clear c7
   replace H := Option.bind_eq_some_iff.mp H
   obtain ⟨t190, A80, H⟩ := H
   replace H : (if t190 < 0 then (some (-1)) else ((term_Arity.f k1 ((rd_T47 l0 x1_1).f0)).bind fun t192 => (term_End.l0 k1 l0 (wrap64 (x1_1 + 1)) (wrap64 (x5_1 + (wrap64 (t192 - 1))))))) = some r := H
   have A8 := Aside0.mk A80
   clear A80
   by_cases c9 : t190 < 0
   ·rw [if_pos c9] at H
    have c9b0 : decide (t190 < 0) = true := decide_eq_true c9
    clear c9
    obtain rfl := Option.some.inj H
    have p189 : 0 ≤ (x1_1 : Int) := of_decide_eq_true (by first | (with_reducible assumption) | assumption)
    have q189 : x1_1 < (l0.length : Int) := of_decide_eq_true (by first | (with_reducible assumption) | assumption)
    obtain ⟨ad189, e189, hx189_0, hx189_1, hx189_2⟩ := at_T47 HR0.out x1_1 p189 q189
    cases e189
    replace p189 := eq_true p189
    replace q189 := eq_true q189
    go_wp2_with (first | (go_at_call 46; (with_reducible refine (term_Arity.calls k1 ((rd_T47 l0 x1_1).f0) t190 _ A8.out).mono ?_); rintro e w' ⟨rfl, ⟨nd, rfl⟩⟩))
    go_ret
    exact ⟨by first | rfl | (simp; done) | (simp [*]; done), by repeat (first | exact Drawn0.refl _ | apply Drawn0.step)⟩
   rw [if_neg c9] at H
   have c9b0 : decide (t190 < 0) = false := decide_eq_false c9
   clear c9
   replace H := Option.bind_eq_some_iff.mp H
   obtain ⟨t192, A100, H⟩ := H
   replace H : (term_End.l0 k1 l0 (wrap64 (x1_1 + 1)) (wrap64 (x5_1 + (wrap64 (t192 - 1))))) = some r := H
   have A10 := Aside0.mk A100
   clear A100
   have H' := Aside0.mk H
   clear H
   have p189 : 0 ≤ (x1_1 : Int) := of_decide_eq_true (by first | (with_reducible assumption) | assumption)
   have q189 : x1_1 < (l0.length : Int) := of_decide_eq_true (by first | (with_reducible assumption) | assumption)
   obtain ⟨ad189, e189, hx189_0, hx189_1, hx189_2⟩ := at_T47 HR0.out x1_1 p189 q189
   cases e189
   replace p189 := eq_true p189
   replace q189 := eq_true q189
   go_wp2_with (first | (go_at_call 46; (with_reducible refine (term_Arity.calls k1 ((rd_T47 l0 x1_1).f0) t190 _ A8.out).mono ?_); rintro e w' ⟨rfl, ⟨nd, rfl⟩⟩; have p191 : 0 ≤ (x1_1 : Int) := of_decide_eq_true (by first | (with_reducible assumption) | assumption); have q191 : x1_1 < (l0.length : Int) := of_decide_eq_true (by first | (with_reducible assumption) | assumption); obtain ⟨ad191, e191, hx191_0, hx191_1, hx191_2⟩ := at_T47 HR0.out x1_1 p191 q191; obtain rfl : ad189 = ad191 := (by injection e191); replace p191 := eq_true p191; replace q191 := eq_true q191) | ((with_reducible refine gate_callee (f := 46) rfl ?_); refine goesL_ (some 33) rfl rfl Try.func46 (by kernel_rfl) rfl #[.int .i64 ((rd_T47 l0 x1_1).f0)] rfl (by (try simp only [List.map_toArray, List.map_cons, List.map_nil]); first | done | rfl | (simp only [List.length_drop, List.length_take]; rfl)) ?_; (with_reducible refine (term_Arity.calls k1 ((rd_T47 l0 x1_1).f0) t192 _ A10.out).mono ?_); rintro e w' ⟨rfl, ⟨nd, rfl⟩⟩; refine ⟨_, rfl, ?_⟩))
   go_roundg k1
   case measure => have := HK1.out; omega
   case rel => exact ⟨(wrap64 (x1_1 + 1)), (wrap64 (x5_1 + (wrap64 (t192 - 1)))), (by first | rfl | (simp; done) | (simp [*]; done)), (by first | rfl | (simp; done) | (simp [*]; done)), H', ⟨by have := HK1.out; omega⟩, by repeat (first | exact Drawn0.refl _ | apply Drawn0.step)⟩
/-! ### term_whole: function 85 -/
def term_whole.f (k : Nat) (l0 : List (S47)) : Option (Bool) := if (l0.length : Int) > 0 then (if (l0.length : Int) ≤ 40 then ((term_End.f k l0 0).bind fun t193 => (some (t193 == (l0.length : Int)))) else (some false)) else (some false)
theorem term_whole.mono : ∀ a0 k, LeO (term_whole.f k a0) (term_whole.f (k + 1) a0) := by
  intro a0 k
  unfold term_whole.f
  repeat' first
      | (with_reducible exact term_End.mono _ _ _)
      | (with_reducible exact LeO.refl _)
      | (with_reducible exact LeO.none _)
      | (with_reducible refine LeO.ite ?_ ?_)
      | (with_reducible refine LeO.bind ?_ (fun _ => ?_))
      | exact term_End.mono _ _ _
      | exact LeO.none _
      | refine LeO.ite ?_ ?_
      | refine LeO.bind ?_ (fun _ => ?_)
set_option maxHeartbeats 8000000 in
set_option maxRecDepth 100000 in
theorem term_whole.calls (k : Nat) (A0 : Option Addr) (c0 : Nat) (l0 : List (S47)) (r : Bool) (w : World) (hr0 : Kd.C k47 w A0 l0.length l0) (hc0 : l0.length ≤ c0) (h : term_whole.f k l0 = some r) :
  Calls Try.prog 85 #[.slice A0 l0.length c0] w fun e w' => e = .returned (.bool r) ∧ Drawn0 w w' := by
 have HR0 := Aside0.mk hr0
 have HC0 := Aside0.mk hc0
 clear hr0 hc0
 have H : (if (l0.length : Int) > 0 then (if (l0.length : Int) ≤ 40 then ((term_End.f k l0 0).bind fun t193 => (some (t193 == (l0.length : Int)))) else (some false)) else (some false)) = some r := h
 clear h
 by_cases c2 : (l0.length : Int) > 0
 rotate_left
 ·rw [if_neg c2] at H
  have c2b0 : decide (0 < (l0.length : Int)) = false := decide_eq_false c2
  have c2b1 : decide (0 < l0.length) = false := decide_eq_false (by omega)
  clear c2
  obtain rfl := Option.some.inj H
  go_enter Try.func85, Try.ntmps85
  go_wp2
  go_ret
  exact ⟨by first | rfl | (simp; done) | (simp [*]; done), by repeat (first | exact Drawn0.refl _ | apply Drawn0.step)⟩

 rw [if_pos c2] at H
 have c2b0 : decide (0 < (l0.length : Int)) = true := decide_eq_true c2
 have c2b1 : decide (0 < l0.length) = true := decide_eq_true (by omega)
 clear c2
 by_cases c3 : (l0.length : Int) ≤ 40
 rotate_left
 ·rw [if_neg c3] at H
  have c3b0 : decide ((l0.length : Int) ≤ 40) = false := decide_eq_false c3
  have c3b1 : decide (l0.length ≤ 40) = false := decide_eq_false (by omega)
  clear c3
  obtain rfl := Option.some.inj H
  go_enter Try.func85, Try.ntmps85
  go_wp2
  go_ret
  exact ⟨by first | rfl | (simp; done) | (simp [*]; done), by repeat (first | exact Drawn0.refl _ | apply Drawn0.step)⟩
 rw [if_pos c3] at H
 have c3b0 : decide ((l0.length : Int) ≤ 40) = true := decide_eq_true c3
 have c3b1 : decide (l0.length ≤ 40) = true := decide_eq_true (by omega)
 clear c3
 replace H := Option.bind_eq_some_iff.mp H
 obtain ⟨t193, A40, H⟩ := H
 replace H : (some (t193 == (l0.length : Int))) = some r := H
 have A4 := Aside0.mk A40
 clear A40
 obtain rfl := Option.some.inj H
 go_enter Try.func85, Try.ntmps85
 go_wp2_with (first | (go_at_call 104; (with_reducible refine (term_End.calls k _ _ l0 0 t193 _ ?side1 ?side2 A4.out).mono ?_); (case side1 => repeat (first | exact HR0.out | (with_reducible refine Kd.C_alloc ?_ _) | (with_reducible refine Kd.C_drewN ?_ _) | (with_reducible refine Kd.C_drew ?_))); (case side2 => exact HC0.out); rintro e w' ⟨rfl, ⟨nd, rfl⟩⟩))
 go_ret
 exact ⟨by first | rfl | (simp; done) | (simp [*]; done), by repeat (first | exact Drawn0.refl _ | apply Drawn0.step)⟩
/-! ### bits_Mul32: function 122 -/
def bits_Mul32.f (a0 : Int) (a1 : Int) : Option (Int × Int) := some (((IntKind.u64.wrap ((IntKind.u64.wrap (a0)) * (IntKind.u64.wrap (a1)))) / 4294967296) % 4294967296, (IntKind.u64.wrap ((IntKind.u64.wrap (a0)) * (IntKind.u64.wrap (a1)))) % 4294967296)
set_option maxHeartbeats 8000000 in
set_option maxRecDepth 100000 in
theorem bits_Mul32.calls (a0 : Int) (a1 : Int) (r1 : Int) (r2 : Int) (w : World) (h : bits_Mul32.f a0 a1 = some (r1, r2)) :
    Calls Try.prog 122 #[.int .u32 a0, .int .u32 a1] w fun e w' => e = .returned (.tuple #[.int .u32 r1, .int .u32 r2]) ∧ Drawn0 w w' := by
  have H : (some (((IntKind.u64.wrap ((IntKind.u64.wrap (a0)) * (IntKind.u64.wrap (a1)))) / 4294967296) % 4294967296, (IntKind.u64.wrap ((IntKind.u64.wrap (a0)) * (IntKind.u64.wrap (a1)))) % 4294967296)) = some (r1, r2) := h
  clear h
  simp only [Option.some.injEq, Prod.mk.injEq] at H
  obtain ⟨rfl, rfl⟩ := H
  go_enter Try.func122, Try.ntmps122
  go_wp2
  go_ret2
  exact ⟨by first | rfl | (simp; done) | (simp [*]; done), by repeat (first | exact Drawn0.refl _ | apply Drawn0.step)⟩

/-! ### bits_Mul64: function 123 -/
def bits_Mul64.f (a0 : Int) (a1 : Int) : Option (Int × Int) := some (IntKind.u64.wrap ((IntKind.u64.wrap ((IntKind.u64.wrap ((a0 / 4294967296) * (a1 / 4294967296))) + ((IntKind.u64.wrap ((IntKind.u64.wrap ((a0 / 4294967296) * (Go.bits .and .u64 a1 4294967295))) + ((IntKind.u64.wrap ((Go.bits .and .u64 a0 4294967295) * (Go.bits .and .u64 a1 4294967295))) / 4294967296))) / 4294967296))) + ((IntKind.u64.wrap ((Go.bits .and .u64 (IntKind.u64.wrap ((IntKind.u64.wrap ((a0 / 4294967296) * (Go.bits .and .u64 a1 4294967295))) + ((IntKind.u64.wrap ((Go.bits .and .u64 a0 4294967295) * (Go.bits .and .u64 a1 4294967295))) / 4294967296))) 4294967295) + (IntKind.u64.wrap ((Go.bits .and .u64 a0 4294967295) * (a1 / 4294967296))))) / 4294967296)), IntKind.u64.wrap (a0 * a1))
set_option maxHeartbeats 8000000 in
set_option maxRecDepth 100000 in
theorem bits_Mul64.calls (a0 : Int) (a1 : Int) (r1 : Int) (r2 : Int) (w : World) (h : bits_Mul64.f a0 a1 = some (r1, r2)) :
    Calls Try.prog 123 #[.int .u64 a0, .int .u64 a1] w fun e w' => e = .returned (.tuple #[.int .u64 r1, .int .u64 r2]) ∧ Drawn0 w w' := by
  have H : (some (IntKind.u64.wrap ((IntKind.u64.wrap ((IntKind.u64.wrap ((a0 / 4294967296) * (a1 / 4294967296))) + ((IntKind.u64.wrap ((IntKind.u64.wrap ((a0 / 4294967296) * (Go.bits .and .u64 a1 4294967295))) + ((IntKind.u64.wrap ((Go.bits .and .u64 a0 4294967295) * (Go.bits .and .u64 a1 4294967295))) / 4294967296))) / 4294967296))) + ((IntKind.u64.wrap ((Go.bits .and .u64 (IntKind.u64.wrap ((IntKind.u64.wrap ((a0 / 4294967296) * (Go.bits .and .u64 a1 4294967295))) + ((IntKind.u64.wrap ((Go.bits .and .u64 a0 4294967295) * (Go.bits .and .u64 a1 4294967295))) / 4294967296))) 4294967295) + (IntKind.u64.wrap ((Go.bits .and .u64 a0 4294967295) * (a1 / 4294967296))))) / 4294967296)), IntKind.u64.wrap (a0 * a1))) = some (r1, r2) := h
  clear h
  simp only [Option.some.injEq, Prod.mk.injEq] at H
  obtain ⟨rfl, rfl⟩ := H
  go_enter Try.func123, Try.ntmps123
  go_wp2
  go_ret2
  exact ⟨by first | rfl | (simp; done) | (simp [*]; done), by repeat (first | exact Drawn0.refl _ | apply Drawn0.step)⟩

/-! ### bits_Mul: function 117 -/
def bits_Mul.f (a0 : Int) (a1 : Int) : Option (Int × Int) := (bits_Mul64.f a0 a1).bind fun bt194 => (some (bt194.1, bt194.2))
set_option maxHeartbeats 8000000 in
set_option maxRecDepth 100000 in
theorem bits_Mul.calls (a0 : Int) (a1 : Int) (r1 : Int) (r2 : Int) (w : World) (h : bits_Mul.f a0 a1 = some (r1, r2)) :
    Calls Try.prog 117 #[.int .u64 a0, .int .u64 a1] w fun e w' => e = .returned (.tuple #[.int .u64 r1, .int .u64 r2]) ∧ Drawn0 w w' := by
  have H : ((bits_Mul64.f a0 a1).bind fun bt194 => (some (bt194.1, bt194.2))) = some (r1, r2) := h
  clear h
  replace H := Option.bind_eq_some_iff.mp H
  obtain ⟨⟨t194, t195⟩, A30, H⟩ := H
  replace H : (some (t194, t195)) = some (r1, r2) := H
  have A3 := Aside0.mk A30
  clear A30
  simp only [Option.some.injEq, Prod.mk.injEq] at H
  obtain ⟨rfl, rfl⟩ := H
  go_enter Try.func117, Try.ntmps117
  go_wp2_with (first | ((with_reducible refine gate_callee (f := 123) rfl ?_); refine goesL_ (some 25) rfl rfl Try.func123 (by kernel_rfl) rfl #[.int .u64 a0, .int .u64 a1] rfl (by (try simp only [List.map_toArray, List.map_cons, List.map_nil]); first | done | rfl | (simp only [List.length_drop, List.length_take]; rfl)) ?_; (with_reducible refine (bits_Mul64.calls a0 a1 t194 t195 _ A3.out).mono ?_); rintro e w' ⟨rfl, ⟨nd, rfl⟩⟩; refine ⟨_, rfl, ?_⟩))
  go_ret2
  exact ⟨by first | rfl | (simp; done) | (simp [*]; done), by repeat (first | exact Drawn0.refl _ | apply Drawn0.step)⟩

/-! ### slices_Repeat_int_int: function 109 -/
-- USES math/bits.Mul
/-- so many zeros, as they lie -/
def Repeat_int.zeros (n : Nat) : List Value := List.replicate n (.int .i64 0)
theorem Repeat_int.made (n : Nat) : madeCells #[.int .i64 0] n = (Repeat_int.zeros n).toArray := by
  apply Array.ext
  · simp [Repeat_int.zeros, size_madeCells]
  · intro i h1 h2
    simp [Repeat_int.zeros, madeCells, Nat.mod_one]
theorem Repeat_int.spliced (n off m : Nat) (h : off + m ≤ n) : splice (Repeat_int.zeros n) off (Repeat_int.zeros m) = Repeat_int.zeros n := by
  unfold splice Repeat_int.zeros
  rw [List.length_replicate]
  apply List.ext_getElem
  · simp; omega
  · intro i h1 h2
    simp only [List.getElem_replicate]
    by_cases hi : i < off
    · rw [List.getElem_append_left (by simp; omega)]; simp
    · rw [List.getElem_append_right (by simp; omega)]
      by_cases hj : i < off + m
      · rw [List.getElem_append_left (by simp; omega)]; simp
      · rw [List.getElem_append_right (by simp; omega)]; simp
theorem Repeat_int.mul : ∀ n : Nat, n ≤ 40 → bits_Mul.f 1 (n : Int) = some (0, (n : Int)) := by
  have h : ∀ n : Fin 41, bits_Mul.f 1 ((n.val : Nat) : Int) = some (0, ((n.val : Nat) : Int)) := by decide +kernel
  intro n hn
  exact h ⟨n, by omega⟩
theorem Repeat_int.cell {W : World} {g n : Nat} (h : W.heap[g]? = some (.cells (Repeat_int.zeros n).toArray 3 (0, 0))) (j : Nat) (hj : j < n) : W.cell? ⟨g, j, none⟩ = some (.int .i64 0) := by
  simp [World.cell?, h, Repeat_int.zeros, hj]
theorem Repeat_int.setRow_same {W : World} {g : Nat} {cs : Array Value} {t : TypeId} (h : W.heap[g]? = some (.cells cs t (0, 0))) : W.setRow g cs = W := by
  unfold World.setRow
  congr 1
  apply Array.ext
  · simp
  · intro i h1 h2
    rw [Array.getElem_modify]
    split
    · rename_i e
      subst e
      have : W.heap[g] = .cells cs t (0, 0) := by
        rw [Array.getElem?_eq_getElem h2] at h
        exact Option.some.inj h
      rw [this]
    · rfl
theorem Repeat_int.copied (W : World) (g n p : Nat) (hp : p ≤ n) (h : W.heap[g]? = some (.cells (Repeat_int.zeros n).toArray 3 (0, 0))) (hs1 : (Try.prog.info? 3).map (·.size) = some 1) :
    Sem.run Try.prog (Builtin.copy_ #[45, 45] 3 #[.slice (some ⟨g, p, none⟩) (n - p) (n - p), .slice (some ⟨g, 0, none⟩) p n]) W = .ok (.int .i64 ((Nat.min p (n - p) : Nat) : Int)) W := by
  have hk : Nat.min p (n - p) ≤ p := Nat.min_le_left _ _
  have hk2 : Nat.min p (n - p) ≤ n - p := Nat.min_le_right _ _
  generalize hkk : Nat.min p (n - p) = k at *
  have hr := run_copy_row (P := Try.prog) W 45 45 3 3 g p (n - p) (n - p) ⟨g, 0, none⟩ p n (Repeat_int.zeros n).toArray 3 (Repeat_int.zeros k) Try.underlying45 hs1 h (by simp [Repeat_int.zeros, hkk])
    (fun j v hj => by
      have hjk : j < k := by have := (List.getElem?_eq_some_iff.1 hj).1; simpa [Repeat_int.zeros] using this
      have hv : v = .int .i64 0 := by
        have := (List.getElem?_eq_some_iff.1 hj).2; simp [Repeat_int.zeros] at this; exact this.symm
      rw [Addr.add_lit, Nat.zero_add, Repeat_int.cell h j (by omega), hv])
    (by simp [Repeat_int.zeros]; omega) (fun v hv => by simp [Repeat_int.zeros] at hv; rw [hv.2]; rfl)
  rw [hr]
  have hsp : ((Repeat_int.zeros n).toArray.toList.take p ++ Repeat_int.zeros k ++ (Repeat_int.zeros n).toArray.toList.drop (p + (Repeat_int.zeros k).length)).toArray = (Repeat_int.zeros n).toArray := by
    have := Repeat_int.spliced n p k (by omega)
    unfold splice at this
    simp only [List.append_assoc]
    rw [this]
  rw [hsp, Repeat_int.setRow_same h]
  simp [Repeat_int.zeros, goInt]
set_option maxHeartbeats 2000000 in
set_option maxRecDepth 100000 in
theorem Repeat_int.calls (a : Addr) (c n : Nat) (w : World) (h1 : 1 ≤ n) (hn : n ≤ 40) (hc : w.cell? a = some (.int .i64 0)) :
    Calls Try.prog 109 #[.slice (some a) 1 c, .int .i64 (n : Int)] w fun e w' => ∃ g, e = .returned (.slice (some ⟨g, 0, none⟩) n n) ∧ w.heap.size ≤ g ∧ w'.heap[g]? = some (.cells (Repeat_int.zeros n).toArray 3 (0, 0)) ∧ Below w.heap.size w w' := by
  have hmk := print_make (P := Try.prog) 45 3 .i64 8 Try.underlying45 info3 (by omega) n (by omega)
  rw [Repeat_int.made] at hmk
  have HM := Aside0.mk (Repeat_int.mul n hn)
  generalize hz : (Repeat_int.zeros n).toArray = zs at hmk
  have HZ := Aside0.mk hz
  clear hz
  go_enter Try.func109, Try.ntmps109
  have hs1 : (Try.prog.info? 3).map (·.size) = some 1 := by kernel_rfl
  go_wp2_with (first | (go_at_call 117; refine (bits_Mul.calls 1 (n : Int) 0 (n : Int) _ HM.out).mono ?_; rintro e w' ⟨rfl, ⟨m, rfl⟩⟩) | (with_reducible refine wpList_copy_splice rfl (.tmp 31) (.tmp 32) 45 45 rfl 3 Try.underlying45 hs1 _ _ _ _ _ _ rfl rfl w.heap.size 0 (Repeat_int.zeros n) 3 ?hg [.int .i64 0] ?hn ?hpos ?hfit ?h1 w.heap.size w ?hb (Nat.le_refl _) ?h))
  case hg => rw [← HZ.out]; exact heap_alloc_new _ _
  case hn => simp [Nat.min_eq_left h1]
  case hpos =>
    intro j v hj
    match j, hj with
    | 0, hj => simp at hj; subst hj; rw [Addr.add_zero']; exact pw_cell_below ((pw_below_drewN (Below.refl _ _) m).alloc (Nat.le_refl _) _) hc
  case hfit => simp [Repeat_int.zeros]; omega
  case h1 => intro v hv; simp at hv; subst hv; rfl
  case hb => exact (pw_below_drewN (Below.refl _ _) m).alloc (Nat.le_refl _) _
  case h =>
    intro W1 hh1 hB1
    have hg1 : Aside0 (W1.heap[w.heap.size]? = some (.cells (Repeat_int.zeros n).toArray 3 (0, 0))) := by
      have := hh1.out
      rw [show ([.int .i64 0] : List Value) = Repeat_int.zeros 1 from rfl, Repeat_int.spliced n 0 1 (by omega)] at this
      exact ⟨this⟩
    have HB1 := Aside0.mk hB1
    have HN := Aside0.mk hn
    have H1 := Aside0.mk h1
    clear hh1 hB1 HM hs1
    go_wp2_with fail
    go_loopg [8] (n - 1) (fun kq v8 wr => ∃ p : Nat, v8 = .int .i64 (p : Int) ∧ Aside0 (n - p = kq) ∧ Aside0 (1 ≤ p ∧ p ≤ n) ∧ Aside0 (wr.heap[w.heap.size]? = some (.cells (Repeat_int.zeros n).toArray 3 (0, 0))) ∧ Aside0 (Below w.heap.size w wr))
    case atStart => exact ⟨1, rfl, ⟨rfl⟩, ⟨Nat.le_refl _, h1⟩, hg1, HB1⟩
    case round =>
      clear hg1 HB1
      obtain ⟨p, rfl, HK, HP, HG, HB⟩ := hrel
      have hp1 := HP.out.1
      have hp2 := HP.out.2
      by_cases hlt : p < n
      · have hlt' : decide ((p : Int) < (n : Int)) = true := decide_eq_true (by omega)
        have hcp : Sem.run Try.prog (Builtin.copy_ #[45, 45] 3 #[.slice (some ⟨w.heap.size, p, none⟩) (n - p) (n - p), .slice (some ⟨w.heap.size, 0, none⟩) p n]) wr.drew = _ := Repeat_int.copied wr.drew w.heap.size n p hp2 HG.out (by kernel_rfl)
        have hnp : ¬ (n = p) := by omega
        have hk1 : 1 ≤ Nat.min p (n - p) := by show 1 ≤ min p (n - p); omega
        have hk2 : p + Nat.min p (n - p) ≤ n := by show p + min p (n - p) ≤ n; omega
        generalize Nat.min p (n - p) = k at hcp hk1 hk2
        go_wp2_with fail
        go_region
        all_goals
          go_wp2
          go_roundg (n - (p + k))
          case measure => have := HK.out; omega
          case rel => exact ⟨p + k, by go_num, ⟨rfl⟩, ⟨by omega, by omega⟩, HG, ⟨below_drew HB.out⟩⟩
      · have hlt' : decide ((p : Int) < (n : Int)) = false := decide_eq_false (by omega)
        go_wp2
        go_ret
        exact ⟨_, rfl, Nat.le_refl _, HZ.out ▸ HG.out, HB.out⟩


end Go.Proofs.Ytoeioigpkfgppaa.XR
