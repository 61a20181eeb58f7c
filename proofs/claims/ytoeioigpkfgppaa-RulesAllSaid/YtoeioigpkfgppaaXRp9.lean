-- written by wip/xprint.py out of the translation
import Derived.Test.YtoeioigpkfgppaaXRp0
import Derived.Test.YtoeioigpkfgppaaXRp7
import Derived.Test.YtoeioigpkfgppaaXRp8
namespace Go.Proofs.Ytoeioigpkfgppaa.XR
open Go.Proofs.Ytoeioigpkfgppaa.XGrow Go.RowKit Go.Proofs.YtoeioigpkfgppaaW.PrintWords Go.Proofs.YtoeioigpkfgppaaW.PrintLast Go.Proofs.YtoeioigpkfgppaaW.PrintMore
attribute [local go_sem] max2_int min2_int max_two min_two max_three min_three max_four min_four   -- for this text's walks alone
set_option linter.unusedVariables false
set_option linter.unusedSimpArgs false

/-! ### term_Below: function 110 -/
def term_Below.l0 : Nat → List (S47) → Int → List Int → Int → Option (List Int)
  | 0, _, _, _, _ => none
  | k + 1, x0, x1, x5, x6 => if 0 ≤ x1 then (if x1 < (x0.length : Int) then ((term_Arity.f k ((rd_T47 x0 x1).f0)).bind fun t198 => (if (x5.length : Int) < t198 then (if x5.length < 17592186044416 then ((term_End.f k x0 x6).bind fun t202 => (term_Below.l0 k x0 x1 (x5 ++ [x6]) t202)) else (none)) else (some x5))) else (none)) else (none)
def term_Below.f (k : Nat) (l0 : List (S47)) (a1 : Int) : Option (List Int) := (term_End.f k l0 a1).bind fun t196 => (if t196 < 0 then (some ([] : List Int)) else (term_Below.l0 k l0 a1 ([] : List Int) (wrap64 (a1 + 1))))
theorem term_Below.mono_l : ∀ k, (∀ y0 y1 y2 y3, LeO (term_Below.l0 k y0 y1 y2 y3) (term_Below.l0 (k + 1) y0 y1 y2 y3))
  | 0 => fun _ _ _ _ r h => by simp [term_Below.l0] at h
  | k + 1 => by
    have ih0 := term_Below.mono_l k
    · intro y0 y1 y2 y3
      unfold term_Below.l0
      repeat' first
      | (with_reducible exact ih0 _ _ _ _)
      | (with_reducible exact term_Arity.mono _ _)
      | (with_reducible exact term_End.mono _ _ _)
      | (with_reducible exact LeO.refl _)
      | (with_reducible exact LeO.none _)
      | (with_reducible refine LeO.ite ?_ ?_)
      | (with_reducible refine LeO.bind ?_ (fun _ => ?_))
      | exact ih0 _ _ _ _
      | exact term_Arity.mono _ _
      | exact term_End.mono _ _ _
      | exact LeO.none _
      | refine LeO.ite ?_ ?_
      | refine LeO.bind ?_ (fun _ => ?_)
theorem term_Below.mono : ∀ a0 a1 k, LeO (term_Below.f k a0 a1) (term_Below.f (k + 1) a0 a1) := by
  intro a0 a1 k
  have ih0 := term_Below.mono_l k
  unfold term_Below.f
  repeat' first
      | (with_reducible exact ih0 _ _ _ _)
      | (with_reducible exact term_Arity.mono _ _)
      | (with_reducible exact term_End.mono _ _ _)
      | (with_reducible exact LeO.refl _)
      | (with_reducible exact LeO.none _)
      | (with_reducible refine LeO.ite ?_ ?_)
      | (with_reducible refine LeO.bind ?_ (fun _ => ?_))
      | exact ih0 _ _ _ _
      | exact term_Arity.mono _ _
      | exact term_End.mono _ _ _
      | exact LeO.none _
      | refine LeO.ite ?_ ?_
      | refine LeO.bind ?_ (fun _ => ?_)
theorem hc24_ {w W : World} {a : Addr} {v : Value} (hb : Below w.heap.size w W) (h : w.cell? a = some v) : W.cell? a = some v := (hb.cell (World.block_lt_of_cell? w _ h)).trans h
set_option maxHeartbeats 8000000 in
set_option maxRecDepth 100000 in
theorem term_Below.calls (k : Nat) (A0 : Option Addr) (c0 : Nat) (l0 : List (S47)) (a1 : Int) (r : List Int) (w : World) (hr0 : Kd.C k47 w A0 l0.length l0) (hc0 : l0.length ≤ c0) (h : term_Below.f k l0 a1 = some r) :
  Calls Try.prog 110 #[.slice A0 l0.length c0, .int .i64 a1] w fun e w' => ∃ v0_ : Value, e = .returned (v0_) ∧ Kd.R (Kd.int .i64) 3 w' w.heap.size (fun _ => True) v0_ r ∧ Below w.heap.size w w' := by
 have HR0 := Aside0.mk hr0
 have HC0 := Aside0.mk hc0
 clear hr0 hc0
 have HB := Aside0.mk (Below.refl w.heap.size w)
 have H : ((term_End.f k l0 a1).bind fun t196 => (if t196 < 0 then (some ([] : List Int)) else (term_Below.l0 k l0 a1 ([] : List Int) (wrap64 (a1 + 1))))) = some r := h
 clear h
 replace H := Option.bind_eq_some_iff.mp H
 obtain ⟨t196, A30, H⟩ := H
 replace H : (if t196 < 0 then (some ([] : List Int)) else (term_Below.l0 k l0 a1 ([] : List Int) (wrap64 (a1 + 1)))) = some r := H
 have A3 := Aside0.mk A30
 clear A30
 by_cases c4 : t196 < 0
 ·rw [if_pos c4] at H
  have c4b0 : decide (t196 < 0) = true := decide_eq_true c4
  clear c4
  obtain rfl := Option.some.inj H
  go_enter Try.func110, Try.ntmps110
  go_wp2_with (first | ((with_reducible refine gate_callee (f := 104) rfl ?_); refine goesL_ (some 9) rfl rfl Try.func104 (by kernel_rfl) rfl #[.slice A0 l0.length c0, .int .i64 a1] rfl (by (try simp only [List.map_toArray, List.map_cons, List.map_nil]); first | done | rfl | (simp only [List.length_drop, List.length_take]; rfl)) ?_; (with_reducible refine (term_End.calls k _ _ l0 a1 t196 _ ?side1 ?side2 A3.out).mono ?_); (case side1 => repeat (first | exact HR0.out | (with_reducible refine Kd.C_alloc ?_ _) | (with_reducible refine Kd.C_drewN ?_ _) | (with_reducible refine Kd.C_drew ?_))); (case side2 => exact HC0.out); rintro e w' ⟨rfl, ⟨nd, rfl⟩⟩; refine ⟨_, rfl, ?_⟩))
  go_ret
  exact ⟨_, by first | rfl | (simp [errW_none, errW_some] <;> rfl) | (simp [*, errW_none, errW_some] <;> rfl), by first | exact Kd.R_nil _ _ _ _ _ | exact Kd.N_nil _ _ _ _ _ | exact Kd.V_nil _ _ _ _ _ | exact Kd.Q_nil _ _ _ _ _ | exact Kd.S_nil _ _ _ _ _, by repeat (first | (with_reducible first | exact HB.out | apply below_alloc | apply pw_below_drewN | apply below_drew1) | exact HB.out)⟩
 rw [if_neg c4] at H
 have c4b0 : decide (t196 < 0) = false := decide_eq_false c4
 clear c4
 have H' := Aside0.mk H
 clear H
 go_enter Try.func110, Try.ntmps110
 go_wp2_with (first | ((with_reducible refine gate_callee (f := 104) rfl ?_); refine goesL_ (some 9) rfl rfl Try.func104 (by kernel_rfl) rfl #[.slice A0 l0.length c0, .int .i64 a1] rfl (by (try simp only [List.map_toArray, List.map_cons, List.map_nil]); first | done | rfl | (simp only [List.length_drop, List.length_take]; rfl)) ?_; (with_reducible refine (term_End.calls k _ _ l0 a1 t196 _ ?side1 ?side2 A3.out).mono ?_); (case side1 => repeat (first | exact HR0.out | (with_reducible refine Kd.C_alloc ?_ _) | (with_reducible refine Kd.C_drewN ?_ _) | (with_reducible refine Kd.C_drew ?_))); (case side2 => exact HC0.out); rintro e w' ⟨rfl, ⟨nd, rfl⟩⟩; refine ⟨_, rfl, ?_⟩))
 go_loopg [5, 6] k (fun kq v5 v6 w' => ∃ (x5_1 : List Int) (x6_1 : Int), v6 = .int .i64 x6_1 ∧ Aside0 (term_Below.l0 kq l0 a1 x5_1 x6_1 = some r) ∧ Aside0 (kq ≤ k) ∧ Aside0 (Kd.R (Kd.int .i64) 3 w' w.heap.size (fun _ => True) v5 x5_1) ∧ Aside0 (Below w.heap.size w w'))
 case atStart => exact ⟨(([] : List Int)), (wrap64 (a1 + 1)), (by first | rfl | (simp; done) | (simp [*]; done)), H', ⟨Nat.le_refl _⟩, ⟨by first | exact Kd.R_nil _ _ _ _ _ | exact Kd.N_nil _ _ _ _ _ | exact Kd.V_nil _ _ _ _ _ | exact Kd.Q_nil _ _ _ _ _ | exact Kd.S_nil _ _ _ _ _⟩, ⟨by repeat (first | (with_reducible first | exact HB.out | apply below_alloc | apply pw_below_drewN | apply below_drew1) | exact HB.out)⟩⟩
 case round =>
  clear H'
  try clear c1
  try clear p2
  try clear c4
  try clear c4b0
  obtain ⟨x5_1, x6_1, rfl, HA, HK1, HO_5, HB⟩ := hrel
  cases gk with
  | zero => exact absurd HA.out (by simp [term_Below.l0])
  | succ k1 =>
   have H := HA.out
   clear HA
   simp only [term_Below.l0] at H
   by_cases c5 : 0 ≤ a1
   rotate_left
   ·rw [if_neg c5] at H
    exact absurd H (by simp)

   rw [if_pos c5] at H
   have c5b0 : decide (0 ≤ a1) = true := decide_eq_true c5
   clear c5
   by_cases c6 : a1 < (l0.length : Int)
   rotate_left
   ·rw [if_neg c6] at H
    exact absurd H (by simp)
   rw [if_pos c6] at H
   have c6b0 : decide (a1 < (l0.length : Int)) = true := decide_eq_true c6
   clear c6
   replace H := Option.bind_eq_some_iff.mp H
   obtain ⟨t198, A70, H⟩ := H
   replace H : (if (x5_1.length : Int) < t198 then (if x5_1.length < 17592186044416 then ((term_End.f k1 l0 x6_1).bind fun t202 => (term_Below.l0 k1 l0 a1 (x5_1 ++ [x6_1]) t202)) else (none)) else (some x5_1)) = some r := H
   have A7 := Aside0.mk A70
   clear A70
   by_cases c8 : (x5_1.length : Int) < t198
   rotate_left
   ·rw [if_neg c8] at H
    have c8b0 : decide ((x5_1.length : Int) < t198) = false := decide_eq_false c8
    clear c8
    obtain rfl := Option.some.inj H
    obtain ⟨Ao13, co13, eo13⟩ := Kd.R_slice HO_5.out
    subst eo13
    have p197 : 0 ≤ (a1 : Int) := of_decide_eq_true (by first | (with_reducible assumption) | assumption)
    have q197 : a1 < (l0.length : Int) := of_decide_eq_true (by first | (with_reducible assumption) | assumption)
    obtain ⟨ad197, e197, hx197_0, hx197_1, hx197_2⟩ := at_T47 HR0.out a1 p197 q197
    cases e197
    replace hx197_0 := hc24_ HB.out hx197_0
    replace hx197_1 := hc24_ HB.out hx197_1
    replace hx197_2 := hc24_ HB.out hx197_2
    replace p197 := eq_true p197
    replace q197 := eq_true q197
    go_wp2_with (first | ((with_reducible refine gate_callee (f := 46) rfl ?_); refine goesL_ (some 20) rfl rfl Try.func46 (by kernel_rfl) rfl #[.int .i64 ((rd_T47 l0 a1).f0)] rfl (by (try simp only [List.map_toArray, List.map_cons, List.map_nil]); first | done | rfl | (simp only [List.length_drop, List.length_take]; rfl)) ?_; (with_reducible refine (term_Arity.calls k1 ((rd_T47 l0 a1).f0) t198 _ A7.out).mono ?_); rintro e w' ⟨rfl, ⟨nd, rfl⟩⟩; refine ⟨_, rfl, ?_⟩))
    go_ret
    exact ⟨_, by first | rfl | (simp [errW_none, errW_some] <;> rfl) | (simp [*, errW_none, errW_some] <;> rfl), by (with_reducible repeat (first | apply Kd.R_alloc | apply Kd.R_drewN | apply Kd.R_drew)); exact HO_5.out, by repeat (first | (with_reducible first | exact HB.out | apply below_alloc | apply pw_below_drewN | apply below_drew1) | exact HB.out)⟩
   rw [if_pos c8] at H
   have c8b0 : decide ((x5_1.length : Int) < t198) = true := decide_eq_true c8
   clear c8
   by_cases c9 : x5_1.length < 17592186044416
   rotate_left
   ·rw [if_neg c9] at H
    exact absurd H (by simp)
   rw [if_pos c9] at H
   have LMc9 := Aside0.mk c9
   clear c9
   obtain ⟨y199, hy199⟩ : ∃ y_ : List Int, y_ = (x5_1 ++ [x6_1]) := ⟨_, rfl⟩
   replace H : ((term_End.f k1 l0 x6_1).bind fun t202 => (term_Below.l0 k1 l0 a1 y199 t202)) = some r := by first | (rw [hy199]; with_reducible exact H) | (have H2_ := (Option.bind_some _ _).symm.trans H; rw [hy199]; with_reducible exact H2_) | (have H2_ := (Option.bind_some _ _).symm.trans H; with_reducible exact H2_) | with_reducible exact H | (rw [hy199]; exact H) | exact H
   have Ny199 := Aside0.mk hy199
   clear hy199
   replace H := Option.bind_eq_some_iff.mp H
   obtain ⟨t202, A100, H⟩ := H
   replace H : (term_Below.l0 k1 l0 a1 y199 t202) = some r := H
   have A10 := Aside0.mk A100
   clear A100
   have H' := Aside0.mk H
   clear H
   obtain ⟨Ao11, co11, eo11⟩ := Kd.R_slice HO_5.out
   subst eo11
   have p197 : 0 ≤ (a1 : Int) := of_decide_eq_true (by first | (with_reducible assumption) | assumption)
   have q197 : a1 < (l0.length : Int) := of_decide_eq_true (by first | (with_reducible assumption) | assumption)
   obtain ⟨ad197, e197, hx197_0, hx197_1, hx197_2⟩ := at_T47 HR0.out a1 p197 q197
   cases e197
   replace hx197_0 := hc24_ HB.out hx197_0
   replace hx197_1 := hc24_ HB.out hx197_1
   replace hx197_2 := hc24_ HB.out hx197_2
   replace p197 := eq_true p197
   replace q197 := eq_true q197
   go_wp2_with (first | ((with_reducible refine gate_callee (f := 46) rfl ?_); refine goesL_ (some 20) rfl rfl Try.func46 (by kernel_rfl) rfl #[.int .i64 ((rd_T47 l0 a1).f0)] rfl (by (try simp only [List.map_toArray, List.map_cons, List.map_nil]); first | done | rfl | (simp only [List.length_drop, List.length_take]; rfl)) ?_; (with_reducible refine (term_Arity.calls k1 ((rd_T47 l0 a1).f0) t198 _ A7.out).mono ?_); rintro e w' ⟨rfl, ⟨nd, rfl⟩⟩; refine ⟨_, rfl, ?_⟩) | ((with_reducible refine gate_builtin (b := .append) (xs := #[.tmp 25, .tmp 27]) rfl ?_); at_builtin; refine Kd.R_append (Kd.int .i64) (w0 := w) w.heap.size rfl (.tmp 25) (.tmp 27) 45 3 (.int .i64 0) 8 rfl Try.underlying45 info3 rfl (by decide) (by omega) (.slice Ao11 x5_1.length co11) x5_1 x6_1 [.int .i64 x6_1] (fun _ => True) (fun _ => False) rfl rfl ?aP (fun _ hk => hk.elim) ?aF ?aO ?aB ?aS ?aL ?_; (case aP => exact rfl); (case aB => exact (brw HB.out)); (case aF => exact (fun _ _ => trivial)); (case aO => exact (by (with_reducible repeat (first | apply Kd.R_alloc | apply Kd.R_drewN | apply Kd.R_drew)); exact HO_5.out)); (case aS => exact (below_size (brw HB.out))); (case aL => have := LMc9.out; omega); intro v200 w12 ho hb hg hat; rw [← Ny199.out] at ho; have n0_ := Aside0.mk (hb); have n1_ := Aside0.mk (ho); clear HB; clear HO_5; have HB := n0_; have HO201 := n1_; clear n0_ n1_; clear ho hb hg hat) | ((with_reducible refine gate_callee (f := 104) rfl ?_); refine goesL_ (some 24) rfl rfl Try.func104 (by kernel_rfl) rfl #[.slice (some ad197) l0.length c0, .int .i64 x6_1] rfl (by (try simp only [List.map_toArray, List.map_cons, List.map_nil]); first | done | rfl | (simp only [List.length_drop, List.length_take]; rfl)) ?_; (with_reducible refine (term_End.calls k1 _ _ l0 x6_1 t202 _ ?side1 ?side2 A10.out).mono ?_); (case side1 => repeat (first | exact (Kd.C_below HR0.out HB.out) | (with_reducible refine Kd.C_alloc ?_ _) | (with_reducible refine Kd.C_drewN ?_ _) | (with_reducible refine Kd.C_drew ?_))); (case side2 => exact HC0.out); rintro e w' ⟨rfl, ⟨nd, rfl⟩⟩; refine ⟨_, rfl, ?_⟩))
   go_roundg k1
   case measure => have := HK1.out; omega
   case rel => exact ⟨(y199), (t202), (by first | rfl | (simp; done) | (simp [*]; done)), H', ⟨by have := HK1.out; omega⟩, ⟨by (with_reducible repeat (first | apply Kd.R_alloc | apply Kd.R_drewN | apply Kd.R_drew)); exact HO201.out⟩, ⟨by repeat (first | (with_reducible first | exact HB.out | apply below_alloc | apply pw_below_drewN | apply below_drew1) | exact HB.out)⟩⟩
/-! ### term_fold: function 90 -/
-- USES slices.Repeat[[]int,int]
/-- what those below came to -/
def term_fold.vals (come bl : List Int) : Option (List Int) :=
  if bl.length ≤ 100 then (if (bl.all fun x => decide (0 ≤ x) && decide (x < come.length)) = true then some (bl.map (rd come)) else none) else none
def term_fold.go (k : Nat) (mk : Int → List Int → Option Int) (l : List (S47)) : Nat → List Int → Option (List Int)
  | 0, come => some come
  | n + 1, come => (term_Below.f k l (n : Int)).bind fun bl => (term_fold.vals come bl).bind fun vs => (mk (rd_T47 l (n : Int)).f0 vs).bind fun r => term_fold.go k mk l n (come.set n r)
def term_fold.f (k : Nat) (mk : Int → List Int → Option Int) (l : List (S47)) : Option Int :=
  (term_whole.f k l).bind fun b => if b = true then (if 1 ≤ l.length ∧ l.length ≤ 40 then (term_fold.go k mk l l.length (List.replicate l.length 0)).bind fun come => some (rd come 0) else none) else some 0
theorem term_fold.go_mono (k : Nat) (mk mk' : Int → List Int → Option Int) (h : ∀ op vs, LeO (mk op vs) (mk' op vs)) (l : List (S47)) : ∀ n come, LeO (term_fold.go k mk l n come) (term_fold.go (k + 1) mk' l n come)
  | 0, come => LeO.refl _
  | n + 1, come => LeO.bind (term_Below.mono l n k) (fun bl => LeO.bind (LeO.refl _) (fun vs => LeO.bind (h _ _) (fun r => term_fold.go_mono k mk mk' h l n _)))
theorem term_fold.mono (k : Nat) (mk mk' : Int → List Int → Option Int) (h : ∀ op vs, LeO (mk op vs) (mk' op vs)) (l : List (S47)) : LeO (term_fold.f k mk l) (term_fold.f (k + 1) mk' l) := by
  unfold term_fold.f
  refine LeO.bind (term_whole.mono l k) (fun b => LeO.ite (LeO.ite (LeO.bind (term_fold.go_mono k mk mk' h l _ _) (fun _ => LeO.refl _)) (LeO.refl _)) (LeO.refl _))
/-- the numbers that were come to, as they lie -/
def term_fold.At (W : World) (g : Nat) (come : List Int) : Prop := W.heap[g]? = some (.cells (come.map (Value.int .i64)).toArray 3 (0, 0))
theorem term_fold.At.cell {W : World} {g : Nat} {come : List Int} (h : term_fold.At W g come) (i : Int) (h0 : 0 ≤ i) (hi : i < come.length) : W.cell? ⟨g, i.toNat, none⟩ = some (.int .i64 (rd come i)) ∧ W.frozen? ⟨g, i.toNat, none⟩ = false := by
  have h1 : i.toNat < come.length := by omega
  unfold term_fold.At at h
  constructor
  · simp [World.cell?, h, rd, h1]
  · simp [World.frozen?, h]
theorem term_fold.At.set {W : World} {g : Nat} {come : List Int} (h : term_fold.At W g come) (i : Nat) (r : Int) : term_fold.At (W.setCell ⟨g, i, none⟩ (.int .i64 r)) g (come.set i r) := by
  unfold term_fold.At at h ⊢
  rw [List.map_set, ← List.setIfInBounds_toArray]
  exact blk_set h i _
theorem term_fold.At.below {W W1 : World} {g : Nat} {come : List Int} (h : term_fold.At W g come) {B : Nat} (hb : Below B W W1) (hg : g < B) : term_fold.At W1 g come := (hb.block g hg).trans h
set_option maxHeartbeats 4000000 in
set_option maxRecDepth 100000 in
theorem term_fold.calls (k : Nat) (mk : Int → List Int → Option Int) (g : Nat) (eg : ∀ args w, (callFunc g args).run Try.prog w = .ok (.enter g args) w)
    (hmk : ∀ (W : World) (base : Nat) (op : Int) (v : Value) (vs : List Int) (r : Int), base ≤ W.heap.size → vs.length ≤ 100 → Kd.R (Kd.int .i64) 3 W base (fun _ => True) v vs → mk op vs = some r → Calls Try.prog g #[.int .i64 op, v] W fun e w' => e = .returned (.int .i64 r) ∧ W.grownBy w' v.ownBlock)
    (A0 : Option Addr) (c0 : Nat) (l0 : List (S47)) (r : Int) (w : World) (hr0 : Kd.C k47 w A0 l0.length l0) (hc0 : l0.length ≤ c0) (h : term_fold.f k mk l0 = some r) :
    Calls Try.prog 90 #[.slice A0 l0.length c0, .func (.func g) #[] #[]] w fun e w' => e = .returned (.int .i64 r) ∧ Below w.heap.size w w' := by
  unfold term_fold.f at h
  cases hw : term_whole.f k l0 with
  | none => rw [hw] at h; cases h
  | some b =>
    rw [hw, Option.bind_some] at h
    have HW := Aside0.mk hw
    have HR := Aside0.mk hr0
    have HMK := Aside0.mk hmk
    clear hw hr0 hmk
    cases b with
    | false =>
      have H := Option.some.inj h
      subst H
      clear h
      go_enter Try.func90, Try.ntmps90
      go_wp2_with (go_at_call 85; refine (term_whole.calls k A0 c0 l0 false _ HR.out hc0 HW.out).mono ?_; rintro e w' ⟨rfl, hd⟩)
      go_ret
      exact ⟨rfl, hd.below⟩
    | true =>
      rw [if_pos rfl] at h
      by_cases hl : 1 ≤ l0.length ∧ l0.length ≤ 40
      · rw [if_pos hl] at h
        obtain ⟨hl1, hl2⟩ := hl
        cases hgo : term_fold.go k mk l0 l0.length (List.replicate l0.length 0) with
        | none => rw [hgo] at h; cases h
        | some come =>
          rw [hgo, Option.bind_some] at h
          have H := Option.some.inj h
          have HGO := Aside0.mk hgo
          have HH := Aside0.mk H
          clear h H hgo
          go_enter Try.func90, Try.ntmps90
          go_wp2_with (go_at_call 85; refine (term_whole.calls k A0 c0 l0 true _ HR.out hc0 HW.out).mono ?_; rintro e w' ⟨rfl, ⟨m, rfl⟩⟩)
          refine (Repeat_int.calls ⟨w.heap.size, 0, none⟩ 1 l0.length _ hl1 hl2 ?rc).mono ?_
          case rc => exact cell_of_one (heap_alloc_new _ _)
          rintro e w1 ⟨g0, rfl, hg1, hg2, hb1⟩
          have hsz : w.heap.size ≤ g0 := Nat.le_trans (show w.heap.size ≤ ((w.drewN m).alloc _).heap.size by rw [World.size_alloc]; exact Nat.le_succ _) hg1
          have hAt : term_fold.At w1 g0 (List.replicate l0.length 0) := by
            unfold term_fold.At
            rw [hg2]; simp [Repeat_int.zeros]
          have hB : Below w.heap.size w w1 := ((pw_below_drewN (Below.refl _ _) m).alloc (Nat.le_refl _) _).trans (hb1.mono (show w.heap.size ≤ ((w.drewN m).alloc _).heap.size by rw [World.size_alloc]; exact Nat.le_succ _))
          have HA := Aside0.mk hAt
          have HB := Aside0.mk hB
          clear hAt hB hb1 hg2
          go_wp2_with fail
          have HSZ := Aside0.mk hsz
          have hg1' : g0 < w1.heap.size := lt_of_block HA.out
          clear hsz hg1 hg1'
          go_loopg [6] l0.length (fun kq v6 wr => ∃ (n : Nat) (cm : List Int), Aside0 (kq = n) ∧ Aside0 (n ≤ l0.length) ∧ Aside0 (cm.length = l0.length) ∧ v6 = .int .i64 ((n : Int) - 1) ∧ Aside0 (term_fold.go k mk l0 n cm = some come) ∧ Aside0 (term_fold.At wr g0 cm) ∧ Aside0 (Below w.heap.size w wr))
          case atStart => exact ⟨l0.length, _, ⟨rfl⟩, ⟨Nat.le_refl _⟩, ⟨List.length_replicate⟩, rfl, HGO, HA, HB⟩
          case round =>
            clear HGO HA HB
            obtain ⟨n, cm, HK, HN, HC, rfl, HGO, HA, HB⟩ := hrel
            have hC := Kd.C_below HR.out HB.out
            cases n with
            | zero =>
              have hlt : decide ((0 : Int) ≤ ((0 : Nat) : Int) - 1) = false := decide_eq_false (by omega)
              have hcm : cm = come := by have := HGO.out; simp only [term_fold.go] at this; exact Option.some.inj this
              subst hcm
              obtain ⟨hc0', -⟩ := HA.out.cell 0 (Int.le_refl _) (by have := HC.out; omega)
              rw [HH.out] at hc0'
              have hlpos : (0 : Int) < (l0.length : Int) := by omega
              have hlpos' : 0 < l0.length := by omega
              clear hC
              have hc1 : wr.cell? ⟨g0, 0, none⟩ = some (.int .i64 r) := hc0'
              clear hc0'
              go_wp2
              go_ret
              exact ⟨rfl, HB.out⟩
            | succ n =>
              have hnl : n < l0.length := by have := HN.out; omega
              have hi1 : ((n + 1 : Nat) : Int) - 1 = (n : Int) := by omega
              rw [hi1]
              clear hi1
              have hlt : decide ((0 : Int) ≤ (n : Int)) = true := decide_eq_true (by omega)
              have hgo := HGO.out
              simp only [term_fold.go] at hgo
              obtain ⟨bl, hbl, hgo⟩ := Option.bind_eq_some_iff.mp hgo
              obtain ⟨vs, hvs, hgo⟩ := Option.bind_eq_some_iff.mp hgo
              obtain ⟨x, hx, hgo⟩ := Option.bind_eq_some_iff.mp hgo
              have HBL := Aside0.mk hbl
              have HVS := Aside0.mk hvs
              have HX := Aside0.mk hx
              have HGO2 := Aside0.mk hgo
              have HCC := Aside0.mk hC
              clear hbl hvs hx hgo HGO hC
              go_wp2_with (go_at_call 110; refine (term_Below.calls k A0 c0 l0 (n : Int) bl _ HCC.out hc0 HBL.out).mono ?_; rintro e w2 ⟨vb, rfl, hrow, hb2⟩; obtain ⟨Ab, cb, rfl, hlb, hCb⟩ := Kd.R_reads hrow; have HRW := Aside0.mk hCb; have HB2 := Aside0.mk hb2; clear hrow hb2 hCb)
              have hg0 : g0 < wr.heap.size := lt_of_block HA.out
              have HA2 := Aside0.mk (HA.out.below HB2.out hg0)
              have hvals := HVS.out
              unfold term_fold.vals at hvals
              split at hvals
              case isFalse => cases hvals
              case isTrue hbl100 =>
              split at hvals
              case isFalse => cases hvals
              case isTrue hall =>
              have hvs := Option.some.inj hvals
              have HVV := Aside0.mk hvs
              have HALL := Aside0.mk (List.all_eq_true.1 hall)
              clear hvals hall hvs hlb
              go_loopg [7, 28] bl.length (fun kq v7' v28 wi' => ∃ (v7 : Value) (wi : World) (j : Nat) (xs : List Int), v7 = v7' ∧ wi = wi' ∧ Aside0 (bl.length - j = kq) ∧ Aside0 (j ≤ bl.length) ∧ v28 = .int .i64 (j : Int) ∧ Aside0 (xs = (bl.take j).map (rd cm)) ∧ Aside0 (Kd.R (Kd.int .i64) 3 wi w2.heap.size (fun _ => True) v7 xs) ∧ Aside0 (Below w2.heap.size w2 wi))
              case atStart => exact ⟨_, _, 0, [], rfl, rfl, ⟨rfl⟩, ⟨Nat.zero_le _⟩, rfl, ⟨by simp⟩, ⟨Kd.R_nil _ _ _ _ _⟩, ⟨Below.refl _ _⟩⟩
              case round =>
                obtain ⟨v7, wi, j, xs, rfl, rfl, HJ, HJL, rfl, HXS, HO, HBI⟩ := hrel
                by_cases hj : j < bl.length
                · have hlt2 : decide ((j : Int) < (bl.length : Int)) = true := decide_eq_true (by omega)
                  have hCb := Kd.C_below HRW.out HBI.out
                  obtain ⟨adb, e1, hx0⟩ := Kd.at_int hCb (j : Int) (by omega) (by omega)
                  subst e1
                  rw [Int.toNat_natCast] at hx0
                  have hmem : rd bl (j : Int) ∈ bl := by simp only [rd, Int.toNat_natCast, List.getD, List.getElem?_eq_getElem hj, Option.getD_some]; exact List.getElem_mem hj
                  have hin := HALL.out _ hmem
                  simp only [Bool.and_eq_true, decide_eq_true_eq] at hin
                  obtain ⟨hin1, hin2⟩ := hin
                  have hin3 : rd bl (j : Int) < (l0.length : Int) := by have := HC.out; omega
                  obtain ⟨hcc, -⟩ := (HA2.out.below HBI.out (Nat.lt_of_lt_of_le hg0 HB2.out.size)).cell (rd bl (j : Int)) hin1 hin2
                  have hxs : xs ++ [rd cm (rd bl (j : Int))] = (bl.take (j + 1)).map (rd cm) := by
                    rw [HXS.out, List.take_succ_eq_append_getElem hj, List.map_append]
                    simp [rd, hj]
                  have HXS2 := Aside0.mk hxs
                  have hxl : xs.length ≤ 100 := by rw [HXS.out]; simp; omega
                  generalize rd bl (j : Int) = q at *
                  clear hmem hCb hxs
                  obtain ⟨A7, c7, e7⟩ := Kd.R_slice HO.out
                  subst e7
                  have hbi := HBI.out.size
                  go_wp2_with ((with_reducible refine gate_builtin (b := .append) (xs := #[.tmp 32, .tmp 37]) rfl ?_); at_builtin; refine Kd.R_append (Kd.int .i64) (w0 := w2) w2.heap.size rfl (.tmp 32) (.tmp 37) 45 3 (.int .i64 0) 8 rfl Try.underlying45 info3 rfl (by decide) (by omega) (.slice A7 xs.length c7) xs (rd cm q) [.int .i64 (rd cm q)] (fun _ => True) (fun _ => False) rfl rfl ?aP (fun _ hk => hk.elim) ?aF ?aO ?aB ?aS ?aL ?aK)
                  case aP => exact rfl
                  case aF => exact fun _ _ => trivial
                  case aO => exact HO.out
                  case aB => exact HBI.out
                  case aS => exact hbi
                  case aL => omega
                  case aK =>
                    intro v1 w3 ho hb hg hat
                    rw [HXS2.out] at ho
                    have HO3 := Aside0.mk ho
                    have HB3 := Aside0.mk hb
                    clear ho hb hg hat
                    go_wp2
                    go_roundg (bl.length - (j + 1))
                    case measure => have := HJ.out; omega
                    case rel => exact ⟨_, _, j + 1, _, rfl, rfl, ⟨rfl⟩, ⟨hj⟩, by go_num, ⟨rfl⟩, HO3, HB3⟩
                · have hlt2 : decide ((j : Int) < (bl.length : Int)) = false := decide_eq_false (by omega)
                  have hxs : xs = vs := by
                    rw [HXS.out, ← HVV.out, List.take_of_length_le (by omega)]
                  subst hxs
                  have hx100 : xs.length ≤ 100 := by rw [HXS.out]; simp; omega
                  have hCl := Kd.C_below HCC.out (HB2.out.trans (HBI.out.mono HB2.out.size))
                  obtain ⟨adl, el, hy0, hy1, hy2⟩ := at_T47 hCl (n : Int) (by omega) (by omega)
                  subst el
                  rw [Int.toNat_natCast] at hy0 hy1 hy2
                  have HAI := Aside0.mk (HA2.out.below HBI.out (Nat.lt_of_lt_of_le hg0 HB2.out.size))
                  have HMC := Aside0.mk (HMK.out wi w2.heap.size (rd_T47 l0 (n : Int)).f0 v7 xs x HBI.out.size hx100 HO.out HX.out)
                  generalize (rd_T47 l0 (n : Int)).f0 = opn at *
                  clear hCl hy1 hy2
                  have hnc : (n : Int) < (l0.length : Int) := by omega
                  go_wp2_with fail
                  refine HMC.out.mono ?_
                  rintro e w3 ⟨rfl, hgr⟩
                  have hne : some g0 ≠ v7.ownBlock := by
                    intro e
                    have h1 := (Kd.R_own HO.out).elim (fun inner ho => ho.lt g0 e.symm)
                    have h2 := HB2.out.size
                    omega
                  have hA3 : term_fold.At w3 g0 cm := (hgr.block g0 (lt_of_block HAI.out) hne).trans HAI.out
                  obtain ⟨hs1, hs2⟩ := hA3.cell (n : Int) (by omega) (by have := HC.out; omega)
                  rw [Int.toNat_natCast] at hs1 hs2
                  have hB3 : Below w.heap.size w w3 := by
                    have h2 : Below w2.heap.size w2 w3 := HBI.out.grown hgr HBI.out.size (fun k hk => (Kd.R_own HO.out).elim (fun inner ho => (ho.lt k hk).1))
                    exact (HB.out.trans (HB2.out.mono HB.out.size)).trans (h2.mono (Nat.le_trans HB.out.size HB2.out.size))
                  have HA3 := Aside0.mk hA3
                  have HB3 := Aside0.mk hB3
                  clear hA3 hB3 hgr hne
                  go_wp2
                  go_roundg n
                  case measure => have := HK.out; omega
                  case rel => exact ⟨n, cm.set n x, ⟨rfl⟩, ⟨by omega⟩, ⟨by rw [List.length_set]; exact HC.out⟩, rfl, HGO2, ⟨HA3.out.set n x⟩, ⟨HB3.out.setCell (p := ⟨g0, n, none⟩) HSZ.out _⟩⟩
      · rw [if_neg hl] at h; cases h


/-! ### term_all: function 111 -/
-- USES slices.ContainsFunc[[]int,int]
def term_all.f (l0 : List Int) (a1 : Int) : Option Bool := some (!(l0.any fun x => x != a1))
set_option maxHeartbeats 2000000 in
theorem term_all.lit (a1 : Int) (B : Nat) (x : Int) (W : World) (hc : W.cell? ⟨B, 0, none⟩ = some (.int .i64 a1)) :
    Calls Try.prog 118 #[.int .i64 x, .pointer (some ⟨B, 0, none⟩)] W fun e w' => e = .returned (.bool (x != a1)) ∧ W = w' := by
  go_enter Try.func118, Try.ntmps118
  go_wp2
  go_ret
  exact ⟨rfl, rfl⟩
set_option maxHeartbeats 2000000 in
theorem term_all.calls (A0 : Option Addr) (c0 : Nat) (l0 : List Int) (a1 : Int) (r : Bool) (w : World) (hr0 : Kd.C (Kd.int .i64) w A0 l0.length l0) (hc0 : l0.length ≤ c0) (h : term_all.f l0 a1 = some r) :
    Calls Try.prog 111 #[.slice A0 l0.length c0, .int .i64 a1] w fun e w' => e = .returned (.bool r) ∧ Below w.heap.size w w' := by
  have H := Option.some.inj h
  clear h
  have eg := Go.Proofs.enters_of Try.func118 (by kernel_rfl) rfl
  have hb0 : Below w.heap.size w (w.alloc (.cells #[.int .i64 a1] 3)) := (Below.refl _ _).alloc (Nat.le_refl _) _
  have hcell := cell_of_one (heap_alloc_new w (.cells #[.int .i64 a1] 3))
  have hcont := ContainsFunc_int.calls (fun x => x != a1) 118 #[.pointer (some ⟨w.heap.size, 0, none⟩)] eg A0 c0 l0 (w.alloc (.cells #[.int .i64 a1] 3)) (Kd.C_below hr0 hb0) hr0.2.1
    (fun W2 h2 x => (term_all.lit a1 w.heap.size x W2 ((h2.cell (p := ⟨w.heap.size, 0, none⟩) (by simp)).trans hcell)).mono fun e w' ⟨he, hw⟩ => ⟨he, by subst hw; exact h2⟩)
  have HCO := Aside0.mk hcont
  have HH := Aside0.mk H
  clear hcont hr0 H
  go_enter Try.func111, Try.ntmps111
  go_wp2_with (go_at_call 113; refine HCO.out.mono ?_; rintro e w' ⟨rfl, hb2⟩)
  go_ret
  exact ⟨by rw [← HH.out]; rfl, hb0.trans (hb2.mono (by simp))⟩


/-! ### term_typed: function 91 -/
def term_typed.j0 : Nat → List Int → Int → Int → Bool → Option (Int)
  | 0, _, _, _, _ => none
  | k + 1, x1, x5, x6, x10 => if x10 = true then ((term_all.f x1 2).bind fun t204 => (if t204 = true then (some x6) else (some 0))) else ((term_all.f x1 x5).bind fun t205 => (if t205 = true then (some x6) else (some 0)))
def term_typed.f (k : Nat) (a0 : Int) (l1 : List Int) : Option (Int) := if a0 ≤ 8 then ((term_all.f l1 1).bind fun t203 => (if t203 = true then (some 1) else (some 0))) else (if a0 ≤ 12 then (term_typed.j0 k l1 1 2 true) else (term_typed.j0 k l1 1 2 (decide (a0 ≥ 19))))
theorem term_typed.mono_l : ∀ k, (∀ y0 y1 y2 y3, LeO (term_typed.j0 k y0 y1 y2 y3) (term_typed.j0 (k + 1) y0 y1 y2 y3))
  | 0 => fun _ _ _ _ r h => by simp [term_typed.j0] at h
  | k + 1 => by
    have ih0 := term_typed.mono_l k
    · intro y0 y1 y2 y3
      unfold term_typed.j0
      repeat' first
      | (with_reducible exact ih0 _ _ _ _)
      | (with_reducible exact LeO.refl _)
      | (with_reducible exact LeO.none _)
      | (with_reducible refine LeO.ite ?_ ?_)
      | (with_reducible refine LeO.bind ?_ (fun _ => ?_))
      | exact ih0 _ _ _ _
      | exact LeO.none _
      | refine LeO.ite ?_ ?_
      | refine LeO.bind ?_ (fun _ => ?_)
theorem term_typed.mono : ∀ a0 a1 k, LeO (term_typed.f k a0 a1) (term_typed.f (k + 1) a0 a1) := by
  intro a0 a1 k
  have ih0 := term_typed.mono_l k
  unfold term_typed.f
  repeat' first
      | (with_reducible exact ih0 _ _ _ _)
      | (with_reducible exact LeO.refl _)
      | (with_reducible exact LeO.none _)
      | (with_reducible refine LeO.ite ?_ ?_)
      | (with_reducible refine LeO.bind ?_ (fun _ => ?_))
      | exact ih0 _ _ _ _
      | exact LeO.none _
      | refine LeO.ite ?_ ?_
      | refine LeO.bind ?_ (fun _ => ?_)
set_option maxHeartbeats 8000000 in
set_option maxRecDepth 100000 in
theorem term_typed.calls (k : Nat) (a0 : Int) (A1 : Option Addr) (c1 : Nat) (l1 : List Int) (r : Int) (w : World) (hr1 : Kd.C (Kd.int .i64) w A1 l1.length l1) (hc1 : l1.length ≤ c1) (h : term_typed.f k a0 l1 = some r) :
  Calls Try.prog 91 #[.int .i64 a0, .slice A1 l1.length c1] w fun e w' => e = .returned (.int .i64 r) ∧ Below w.heap.size w w' := by
 have HR1 := Aside0.mk hr1
 have HC1 := Aside0.mk hc1
 clear hr1 hc1
 have HB := Aside0.mk (Below.refl w.heap.size w)
 have H : (if a0 ≤ 8 then ((term_all.f l1 1).bind fun t203 => (if t203 = true then (some 1) else (some 0))) else (if a0 ≤ 12 then (term_typed.j0 k l1 1 2 true) else (term_typed.j0 k l1 1 2 (decide (a0 ≥ 19))))) = some r := h
 clear h
 by_cases c3 : a0 ≤ 8
 ·rw [if_pos c3] at H
  have c3b0 : decide (a0 ≤ 8) = true := decide_eq_true c3
  clear c3
  replace H := Option.bind_eq_some_iff.mp H
  obtain ⟨t203, A40, H⟩ := H
  replace H : (if t203 = true then (some 1) else (some 0)) = some r := H
  have A4 := Aside0.mk A40
  clear A40
  by_cases c5 : t203 = true
  ·subst c5
   have H1 : (some 1) = some r := by rw [if_pos rfl] at H; exact H
   clear H
   have H := H1
   clear H1
   obtain rfl := Option.some.inj H
   go_enter Try.func91, Try.ntmps91
   go_wp2_with (first | ((with_reducible refine gate_callee (f := 111) rfl ?_); refine goesL_ (some 19) rfl rfl Try.func111 (by kernel_rfl) rfl #[.slice A1 l1.length c1, .int .i64 1] rfl (by (try simp only [List.map_toArray, List.map_cons, List.map_nil]); first | done | rfl | (simp only [List.length_drop, List.length_take]; rfl)) ?_; (with_reducible refine (term_all.calls _ _ l1 1 true _ ?side1 ?side2 A4.out).mono ?_); (case side1 => repeat (first | exact HR1.out | (with_reducible refine Kd.C_alloc ?_ _) | (with_reducible refine Kd.C_drewN ?_ _) | (with_reducible refine Kd.C_drew ?_))); (case side2 => exact HC1.out); rintro e w6 ⟨rfl, hb⟩; refine ⟨_, rfl, ?_⟩; have n0_ := Aside0.mk (below_step (brw HB.out) hb); clear HB; have HB := n0_; clear n0_; (try clear hb); (try clear hb2); (try clear hk); (try clear hi)))
   go_ret
   exact ⟨by first | rfl | (simp [errW_none, errW_some] <;> rfl) | (simp [*, errW_none, errW_some] <;> rfl), by repeat (first | (with_reducible first | exact HB.out | apply below_alloc | apply pw_below_drewN | apply below_drew1) | exact HB.out)⟩
  replace c5 := Bool.eq_false_iff.mpr c5
  subst c5
  have H1 : (some 0) = some r := by rw [if_neg (show ¬ (false = true) by decide)] at H; exact H
  clear H
  have H := H1
  clear H1
  obtain rfl := Option.some.inj H
  go_enter Try.func91, Try.ntmps91
  go_wp2_with (first | ((with_reducible refine gate_callee (f := 111) rfl ?_); refine goesL_ (some 19) rfl rfl Try.func111 (by kernel_rfl) rfl #[.slice A1 l1.length c1, .int .i64 1] rfl (by (try simp only [List.map_toArray, List.map_cons, List.map_nil]); first | done | rfl | (simp only [List.length_drop, List.length_take]; rfl)) ?_; (with_reducible refine (term_all.calls _ _ l1 1 false _ ?side1 ?side2 A4.out).mono ?_); (case side1 => repeat (first | exact HR1.out | (with_reducible refine Kd.C_alloc ?_ _) | (with_reducible refine Kd.C_drewN ?_ _) | (with_reducible refine Kd.C_drew ?_))); (case side2 => exact HC1.out); rintro e w7 ⟨rfl, hb⟩; refine ⟨_, rfl, ?_⟩; have n0_ := Aside0.mk (below_step (brw HB.out) hb); clear HB; have HB := n0_; clear n0_; (try clear hb); (try clear hb2); (try clear hk); (try clear hi)))
  go_ret
  exact ⟨by first | rfl | (simp [errW_none, errW_some] <;> rfl) | (simp [*, errW_none, errW_some] <;> rfl), by repeat (first | (with_reducible first | exact HB.out | apply below_alloc | apply pw_below_drewN | apply below_drew1) | exact HB.out)⟩
 rw [if_neg c3] at H
 have c3b0 : decide (a0 ≤ 8) = false := decide_eq_false c3
 clear c3
 have HC8 := Aside0.mk H
 clear H
 go_enter Try.func91, Try.ntmps91
 go_upto_region 4 with (fail)
 go_cut [10] (fun v10 wc => ∃ (kq : Nat) (x10_7 : Bool), v10 = .bool x10_7 ∧ Aside0 (term_typed.j0 kq l1 1 2 x10_7 = some r) ∧ Aside0 (kq ≤ k) ∧ Aside0 (Below w.heap.size w wc))
 case first =>
  have H := HC8.out
  clear HC8
  by_cases c9 : a0 ≤ 12
  ·rw [if_pos c9] at H
   have c9b0 : decide (a0 ≤ 12) = true := decide_eq_true c9
   clear c9
   (first | rw [c9b0] | (simp only [i64_w, i32_w]; rw [c9b0]) | skip)
   have H' := Aside0.mk H
   clear H
   go_wp2
   go_meet
   case rel => exact ⟨_, (true), (by first | rfl | (simp; done) | (simp [*]; done)), H', ⟨by first | omega | exact Nat.le_refl _⟩, ⟨by repeat (first | (with_reducible first | exact HB.out | apply below_alloc | apply pw_below_drewN | apply below_drew1) | exact HB.out)⟩⟩
  rw [if_neg c9] at H
  have c9b0 : decide (a0 ≤ 12) = false := decide_eq_false c9
  clear c9
  (first | rw [c9b0] | (simp only [i64_w, i32_w]; rw [c9b0]) | skip)
  have H' := Aside0.mk H
  clear H
  go_wp2
  go_meet
  case rel => exact ⟨_, (decide (a0 ≥ 19)), (by first | rfl | (simp; done) | (simp [*]; done)), H', ⟨by first | omega | exact Nat.le_refl _⟩, ⟨by repeat (first | (with_reducible first | exact HB.out | apply below_alloc | apply pw_below_drewN | apply below_drew1) | exact HB.out)⟩⟩
 case rest =>
  clear HC8
  try clear c1
  try clear p2
  try clear c3
  try clear c3b0
  try clear c5
  try clear c9
  try clear c9b0
  obtain ⟨kq, x10_7, rfl, HA, HJ7, HB⟩ := hcut
  cases kq with
  | zero => exact absurd HA.out (by simp [term_typed.j0])
  | succ kj7 =>
   have H := HA.out
   clear HA
   simp only [term_typed.j0] at H
   by_cases c10 : x10_7 = true
   ·subst c10
    have H1 : ((term_all.f l1 2).bind fun t204 => (if t204 = true then (some 2) else (some 0))) = some r := by rw [if_pos rfl] at H; exact H
    clear H
    have H := H1
    clear H1
    replace H := Option.bind_eq_some_iff.mp H
    obtain ⟨t204, A110, H⟩ := H
    replace H : (if t204 = true then (some 2) else (some 0)) = some r := H
    have A11 := Aside0.mk A110
    clear A110
    by_cases c12 : t204 = true
    ·subst c12
     have H1 : (some 2) = some r := by rw [if_pos rfl] at H; exact H
     clear H
     have H := H1
     clear H1
     obtain rfl := Option.some.inj H
     go_wp2_with (first | ((with_reducible refine gate_callee (f := 111) rfl ?_); refine goesL_ (some 19) rfl rfl Try.func111 (by kernel_rfl) rfl #[.slice A1 l1.length c1, .int .i64 2] rfl (by (try simp only [List.map_toArray, List.map_cons, List.map_nil]); first | done | rfl | (simp only [List.length_drop, List.length_take]; rfl)) ?_; (with_reducible refine (term_all.calls _ _ l1 2 true _ ?side1 ?side2 A11.out).mono ?_); (case side1 => repeat (first | exact (Kd.C_below HR1.out HB.out) | (with_reducible refine Kd.C_alloc ?_ _) | (with_reducible refine Kd.C_drewN ?_ _) | (with_reducible refine Kd.C_drew ?_))); (case side2 => exact HC1.out); rintro e w13 ⟨rfl, hb⟩; refine ⟨_, rfl, ?_⟩; have n0_ := Aside0.mk (below_step (brw HB.out) hb); clear HB; have HB := n0_; clear n0_; (try clear hb); (try clear hb2); (try clear hk); (try clear hi)))
     go_ret
     exact ⟨by first | rfl | (simp [errW_none, errW_some] <;> rfl) | (simp [*, errW_none, errW_some] <;> rfl), by repeat (first | (with_reducible first | exact HB.out | apply below_alloc | apply pw_below_drewN | apply below_drew1) | exact HB.out)⟩
    replace c12 := Bool.eq_false_iff.mpr c12
    subst c12
    have H1 : (some 0) = some r := by rw [if_neg (show ¬ (false = true) by decide)] at H; exact H
    clear H
    have H := H1
    clear H1
    obtain rfl := Option.some.inj H
    go_wp2_with (first | ((with_reducible refine gate_callee (f := 111) rfl ?_); refine goesL_ (some 19) rfl rfl Try.func111 (by kernel_rfl) rfl #[.slice A1 l1.length c1, .int .i64 2] rfl (by (try simp only [List.map_toArray, List.map_cons, List.map_nil]); first | done | rfl | (simp only [List.length_drop, List.length_take]; rfl)) ?_; (with_reducible refine (term_all.calls _ _ l1 2 false _ ?side1 ?side2 A11.out).mono ?_); (case side1 => repeat (first | exact (Kd.C_below HR1.out HB.out) | (with_reducible refine Kd.C_alloc ?_ _) | (with_reducible refine Kd.C_drewN ?_ _) | (with_reducible refine Kd.C_drew ?_))); (case side2 => exact HC1.out); rintro e w14 ⟨rfl, hb⟩; refine ⟨_, rfl, ?_⟩; have n0_ := Aside0.mk (below_step (brw HB.out) hb); clear HB; have HB := n0_; clear n0_; (try clear hb); (try clear hb2); (try clear hk); (try clear hi)))
    go_ret
    exact ⟨by first | rfl | (simp [errW_none, errW_some] <;> rfl) | (simp [*, errW_none, errW_some] <;> rfl), by repeat (first | (with_reducible first | exact HB.out | apply below_alloc | apply pw_below_drewN | apply below_drew1) | exact HB.out)⟩
   replace c10 := Bool.eq_false_iff.mpr c10
   subst c10
   have H1 : ((term_all.f l1 1).bind fun t205 => (if t205 = true then (some 2) else (some 0))) = some r := by rw [if_neg (show ¬ (false = true) by decide)] at H; exact H
   clear H
   have H := H1
   clear H1
   replace H := Option.bind_eq_some_iff.mp H
   obtain ⟨t205, A150, H⟩ := H
   replace H : (if t205 = true then (some 2) else (some 0)) = some r := H
   have A15 := Aside0.mk A150
   clear A150
   by_cases c16 : t205 = true
   rotate_left
   ·replace c16 := Bool.eq_false_iff.mpr c16
    subst c16
    have H1 : (some 0) = some r := by rw [if_neg (show ¬ (false = true) by decide)] at H; exact H
    clear H
    have H := H1
    clear H1
    obtain rfl := Option.some.inj H
    go_wp2_with (first | ((with_reducible refine gate_callee (f := 111) rfl ?_); refine goesL_ (some 19) rfl rfl Try.func111 (by kernel_rfl) rfl #[.slice A1 l1.length c1, .int .i64 1] rfl (by (try simp only [List.map_toArray, List.map_cons, List.map_nil]); first | done | rfl | (simp only [List.length_drop, List.length_take]; rfl)) ?_; (with_reducible refine (term_all.calls _ _ l1 1 false _ ?side1 ?side2 A15.out).mono ?_); (case side1 => repeat (first | exact (Kd.C_below HR1.out HB.out) | (with_reducible refine Kd.C_alloc ?_ _) | (with_reducible refine Kd.C_drewN ?_ _) | (with_reducible refine Kd.C_drew ?_))); (case side2 => exact HC1.out); rintro e w18 ⟨rfl, hb⟩; refine ⟨_, rfl, ?_⟩; have n0_ := Aside0.mk (below_step (brw HB.out) hb); clear HB; have HB := n0_; clear n0_; (try clear hb); (try clear hb2); (try clear hk); (try clear hi)))
    go_ret
    exact ⟨by first | rfl | (simp [errW_none, errW_some] <;> rfl) | (simp [*, errW_none, errW_some] <;> rfl), by repeat (first | (with_reducible first | exact HB.out | apply below_alloc | apply pw_below_drewN | apply below_drew1) | exact HB.out)⟩

   subst c16
   have H1 : (some 2) = some r := by rw [if_pos rfl] at H; exact H
   clear H
   have H := H1
   clear H1
   obtain rfl := Option.some.inj H
   go_wp2_with (first | ((with_reducible refine gate_callee (f := 111) rfl ?_); refine goesL_ (some 19) rfl rfl Try.func111 (by kernel_rfl) rfl #[.slice A1 l1.length c1, .int .i64 1] rfl (by (try simp only [List.map_toArray, List.map_cons, List.map_nil]); first | done | rfl | (simp only [List.length_drop, List.length_take]; rfl)) ?_; (with_reducible refine (term_all.calls _ _ l1 1 true _ ?side1 ?side2 A15.out).mono ?_); (case side1 => repeat (first | exact (Kd.C_below HR1.out HB.out) | (with_reducible refine Kd.C_alloc ?_ _) | (with_reducible refine Kd.C_drewN ?_ _) | (with_reducible refine Kd.C_drew ?_))); (case side2 => exact HC1.out); rintro e w17 ⟨rfl, hb⟩; refine ⟨_, rfl, ?_⟩; have n0_ := Aside0.mk (below_step (brw HB.out) hb); clear HB; have HB := n0_; clear n0_; (try clear hb); (try clear hb2); (try clear hk); (try clear hi)))
   go_ret
   exact ⟨by first | rfl | (simp [errW_none, errW_some] <;> rfl) | (simp [*, errW_none, errW_some] <;> rfl), by repeat (first | (with_reducible first | exact HB.out | apply below_alloc | apply pw_below_drewN | apply below_drew1) | exact HB.out)⟩
/-! ### term_Type: function 52 -/
-- USES semblance/term.fold
def term_Type.f (k : Nat) (l0 : List (S47)) : Option Int := term_fold.f k (fun op vs => term_typed.f k op vs) l0
theorem term_Type.mono : ∀ a0 k, LeO (term_Type.f k a0) (term_Type.f (k + 1) a0) := fun a0 k => term_fold.mono k _ _ (fun op vs => term_typed.mono op vs k) a0
set_option maxHeartbeats 2000000 in
theorem term_Type.calls (k : Nat) (A0 : Option Addr) (c0 : Nat) (l0 : List (S47)) (r : Int) (w : World) (hr0 : Kd.C k47 w A0 l0.length l0) (hc0 : l0.length ≤ c0) (h : term_Type.f k l0 = some r) :
    Calls Try.prog 52 #[.slice A0 l0.length c0] w fun e w' => e = .returned (.int .i64 r) ∧ Below w.heap.size w w' := by
  have HC := Aside0.mk (term_fold.calls k (fun op vs => term_typed.f k op vs) 91 (Go.Proofs.enters_of Try.func91 (by kernel_rfl) rfl)
    (fun W base op v vs r hb hn hr h => by
      obtain ⟨A1, c1, rfl, hl1, hC1⟩ := Kd.R_reads hr
      exact (term_typed.calls k op A1 c1 vs r W hC1 hl1 h).mono fun e w' ⟨he, hw⟩ => ⟨he, grown_of_below hw _⟩) A0 c0 l0 r w hr0 hc0 h)
  clear hr0 h
  go_enter Try.func52, Try.ntmps52
  go_wp2_with fail
  refine HC.out.mono ?_
  rintro e w' ⟨rfl, hb⟩
  go_wp2
  go_ret
  exact ⟨rfl, hb⟩


/-! ### term_Names: function 54 -/
def term_Names.l0 : Nat → Int → List ByteArray → List (S47) → Int → Int → Option (List ByteArray)
  | 0, _, _, _, _, _ => none
  | k + 1, x1, x5, x8, x9, x10 => if x10 < x9 then (if 0 ≤ x10 then (if x10 < (x8.length : Int) then (if ((rd_T47 x8 x10).f0) = x1 then (if x5.length < 8796093022208 then (term_Names.l0 k x1 (x5 ++ [(rd_T47 x8 x10).f2]) x8 x9 (wrap64 (x10 + 1))) else (none)) else (term_Names.l0 k x1 x5 x8 x9 (wrap64 (x10 + 1)))) else (none)) else (none)) else (some x5)
def term_Names.f (k : Nat) (l0 : List (S47)) (a1 : Int) : Option (List ByteArray) := term_Names.l0 k a1 ([] : List ByteArray) l0 (l0.length : Int) 0
theorem term_Names.mono_l : ∀ k, (∀ y0 y1 y2 y3 y4, LeO (term_Names.l0 k y0 y1 y2 y3 y4) (term_Names.l0 (k + 1) y0 y1 y2 y3 y4))
  | 0 => fun _ _ _ _ _ r h => by simp [term_Names.l0] at h
  | k + 1 => by
    have ih0 := term_Names.mono_l k
    · intro y0 y1 y2 y3 y4
      unfold term_Names.l0
      repeat' first
      | (with_reducible exact ih0 _ _ _ _ _)
      | (with_reducible exact LeO.refl _)
      | (with_reducible exact LeO.none _)
      | (with_reducible refine LeO.ite ?_ ?_)
      | (with_reducible refine LeO.bind ?_ (fun _ => ?_))
      | exact ih0 _ _ _ _ _
      | exact LeO.none _
      | refine LeO.ite ?_ ?_
      | refine LeO.bind ?_ (fun _ => ?_)
theorem term_Names.mono : ∀ a0 a1 k, LeO (term_Names.f k a0 a1) (term_Names.f (k + 1) a0 a1) := by
  intro a0 a1 k
  have ih0 := term_Names.mono_l k
  unfold term_Names.f
  repeat' first
      | (with_reducible exact ih0 _ _ _ _ _)
      | (with_reducible exact LeO.refl _)
      | (with_reducible exact LeO.none _)
      | (with_reducible refine LeO.ite ?_ ?_)
      | (with_reducible refine LeO.bind ?_ (fun _ => ?_))
      | exact ih0 _ _ _ _ _
      | exact LeO.none _
      | refine LeO.ite ?_ ?_
      | refine LeO.bind ?_ (fun _ => ?_)
theorem hc26_ {w W : World} {a : Addr} {v : Value} (hb : Below w.heap.size w W) (h : w.cell? a = some v) : W.cell? a = some v := (hb.cell (World.block_lt_of_cell? w _ h)).trans h
theorem bz26_ {W W2 w : World} (_ : Below W.heap.size W W2) (h : Below w.heap.size w W) : Below w.heap.size w W := h
set_option maxHeartbeats 8000000 in
set_option maxRecDepth 100000 in
theorem term_Names.calls (k : Nat) (A0 : Option Addr) (c0 : Nat) (l0 : List (S47)) (a1 : Int) (r : List ByteArray) (w : World) (hr0 : Kd.C k47 w A0 l0.length l0) (hc0 : l0.length ≤ c0) (h : term_Names.f k l0 a1 = some r) :
  Calls Try.prog 54 #[.slice A0 l0.length c0, .int .i64 a1] w fun e w' => ∃ v0_ : Value, e = .returned (v0_) ∧ Kd.R Kd.string 9 w' w.heap.size (fun _ => True) v0_ r ∧ Below w.heap.size w w' := by
 have hu47 := Try.underlying47
 have HR0 := Aside0.mk hr0
 have HC0 := Aside0.mk hc0
 clear hr0 hc0
 have HB := Aside0.mk (Below.refl w.heap.size w)
 have H : (term_Names.l0 k a1 ([] : List ByteArray) l0 (l0.length : Int) 0) = some r := h
 clear h
 have H' := Aside0.mk H
 clear H
 go_enter Try.func54, Try.ntmps54
 go_wp2
 go_loopg [5, 10] k (fun kq v5 v10 w' => ∃ (x5_1 : List ByteArray) (x10_1 : Int), v10 = .int .i64 x10_1 ∧ Aside0 (term_Names.l0 kq a1 x5_1 l0 (l0.length : Int) x10_1 = some r) ∧ Aside0 (kq ≤ k) ∧ Aside0 (Kd.R Kd.string 9 w' w.heap.size (fun _ => True) v5 x5_1) ∧ Aside0 (Below w.heap.size w w'))
 case atStart => exact ⟨(([] : List ByteArray)), (0), (by first | rfl | (simp; done) | (simp [*]; done)), H', ⟨Nat.le_refl _⟩, ⟨by first | exact Kd.R_nil _ _ _ _ _ | exact Kd.N_nil _ _ _ _ _ | exact Kd.V_nil _ _ _ _ _ | exact Kd.Q_nil _ _ _ _ _ | exact Kd.S_nil _ _ _ _ _⟩, ⟨by repeat (first | (with_reducible first | exact HB.out | apply below_alloc | apply pw_below_drewN | apply below_drew1) | exact HB.out)⟩⟩
 case round =>
  clear H'
  try clear p2
  obtain ⟨x5_1, x10_1, rfl, HA, HK1, HO_5, HB⟩ := hrel
  cases gk with
  | zero => exact absurd HA.out (by simp [term_Names.l0])
  | succ k1 =>
   have H := HA.out
   clear HA
   simp only [term_Names.l0] at H
   by_cases c3 : x10_1 < (l0.length : Int)
   rotate_left
   ·rw [if_neg c3] at H
    have c3b0 : decide (x10_1 < (l0.length : Int)) = false := decide_eq_false c3
    clear c3
    obtain rfl := Option.some.inj H
    go_wp2
    go_ret
    exact ⟨_, by first | rfl | (simp [errW_none, errW_some] <;> rfl) | (simp [*, errW_none, errW_some] <;> rfl), by (with_reducible repeat (first | apply Kd.R_alloc | apply Kd.R_drewN | apply Kd.R_drew)); exact HO_5.out, by repeat (first | (with_reducible first | exact HB.out | apply below_alloc | apply pw_below_drewN | apply below_drew1) | exact HB.out)⟩

   rw [if_pos c3] at H
   have c3b0 : decide (x10_1 < (l0.length : Int)) = true := decide_eq_true c3
   clear c3
   by_cases c4 : 0 ≤ x10_1
   rotate_left
   ·rw [if_neg c4] at H
    exact absurd H (by simp)
   rw [if_pos c4] at H
   have c4b0 : decide (0 ≤ x10_1) = true := decide_eq_true c4
   clear c4
   by_cases c5 : x10_1 < (l0.length : Int)
   rotate_left
   ·rw [if_neg c5] at H
    exact absurd H (by simp)
   rw [if_pos c5] at H
   have c5b0 : decide (x10_1 < (l0.length : Int)) = true := decide_eq_true c5
   clear c5
   by_cases c6 : ((rd_T47 l0 x10_1).f0) = a1
   rotate_left
   ·rw [if_neg c6] at H
    have c6b0 : (((rd_T47 l0 x10_1).f0) == a1) = false := beq_eq_false_iff_ne.mpr c6
    have c6b1 : (((rd_T47 l0 x10_1).f0) != a1) = true := bne_iff_ne.mpr c6
    have H' := Aside0.mk H
    clear H
    have p206 : 0 ≤ (x10_1 : Int) := of_decide_eq_true (by first | (with_reducible assumption) | assumption)
    have q206 : x10_1 < (l0.length : Int) := of_decide_eq_true (by first | (with_reducible assumption) | assumption)
    obtain ⟨ad206, e206, hx206_0, hx206_1, hx206_2⟩ := at_T47 HR0.out x10_1 p206 q206
    cases e206
    replace hx206_0 := hc26_ HB.out hx206_0
    replace hx206_1 := hc26_ HB.out hx206_1
    replace hx206_2 := hc26_ HB.out hx206_2
    replace p206 := eq_true p206
    replace q206 := eq_true q206
    go_wp2_with (first | ((with_reducible refine gate_dst (N := 7) rfl ?_); refine box_event ?hg (N := 7) ?hd (cs := #[.int .i64 0, .int .i64 0, .string (⟨#[]⟩ : ByteArray)]) (t := 47) ?hr ?_; (case hd => rfl); (case hg => rfl); (case hr => first | (go_simp; done) | (go_simp; rfl)); intro gb207 hg w11 hbox hb; have hB_ := bz26_ hb (brw HB.out); have n0_ := Aside0.mk (Kd.R_below (by (with_reducible repeat (first | apply Kd.R_alloc | apply Kd.R_drewN | apply Kd.R_drew)); exact HO_5.out) hb); have n1_ := Aside0.mk (below_step hB_ hb); have n2_ := Aside0.mk (hbox); have n3_ := Aside0.mk ((by rw [hg]; exact (below_size hB_) : w.heap.size ≤ gb207)); have n4_ := Aside0.mk ((by rw [hg]; exact (below_size hB_) : w.heap.size ≤ gb207)); clear HO_5; clear HB; have HO_5 := n0_; have HB := n1_; have BK207 := n2_; have GW207 := n3_; have GE207 := n4_; clear n0_ n1_ n2_ n3_ n4_; clear hb hbox hg; obtain ⟨hcz12_0, hcz12_1, hcz12_2⟩ := cz3_ BK207.out; obtain ⟨hfz12_0, hfz12_1, hfz12_2⟩ := cf3_ BK207.out))
    go_roundg k1
    case measure => have := HK1.out; omega
    case rel => exact ⟨(x5_1), (wrap64 (x10_1 + 1)), (by first | rfl | (simp; done) | (simp [*]; done)), H', ⟨by have := HK1.out; omega⟩, ⟨by (with_reducible repeat (first | apply Kd.R_alloc | apply Kd.R_drewN | apply Kd.R_drew)); exact Kd.R_mono (Kd.R_far (p := ⟨gb207, 2, none⟩) (Kd.R_far (p := ⟨gb207, 1, none⟩) (Kd.R_far (p := ⟨gb207, 0, none⟩) (Kd.R_types HO_5.out BK207.out (by decide)) (fun _ hk => hk.2) (.int .i64 ((rd_T47 l0 x10_1).f0))) (fun _ hk => hk.2) (.int .i64 ((rd_T47 l0 x10_1).f1))) (fun _ hk => hk.2) (.string ((rd_T47 l0 x10_1).f2))) (fun _ hk => trivial)⟩, ⟨by repeat (first | (with_reducible first | exact HB.out | apply below_alloc | apply pw_below_drewN | apply below_drew1 | refine below_set ?_ GE207.out) | exact HB.out)⟩⟩
   rw [if_pos c6] at H
   have c6b0 : (((rd_T47 l0 x10_1).f0) == a1) = true := beq_iff_eq.mpr c6
   have c6b1 : (((rd_T47 l0 x10_1).f0) != a1) = false := bne_eq_false_iff_eq.mpr c6
   clear c6
   by_cases c7 : x5_1.length < 8796093022208
   rotate_left
   ·rw [if_neg c7] at H
    exact absurd H (by simp)
   rw [if_pos c7] at H
   have LMc7 := Aside0.mk c7
   clear c7
   obtain ⟨y208, hy208⟩ : ∃ y_ : List ByteArray, y_ = (x5_1 ++ [(rd_T47 l0 x10_1).f2]) := ⟨_, rfl⟩
   replace H : (term_Names.l0 k1 a1 y208 l0 (l0.length : Int) (wrap64 (x10_1 + 1))) = some r := by first | (rw [hy208]; with_reducible exact H) | (have H2_ := (Option.bind_some _ _).symm.trans H; rw [hy208]; with_reducible exact H2_) | (have H2_ := (Option.bind_some _ _).symm.trans H; with_reducible exact H2_) | with_reducible exact H | (rw [hy208]; exact H) | exact H
   have Ny208 := Aside0.mk hy208
   clear hy208
   have H' := Aside0.mk H
   clear H
   have p206 : 0 ≤ (x10_1 : Int) := of_decide_eq_true (by first | (with_reducible assumption) | assumption)
   have q206 : x10_1 < (l0.length : Int) := of_decide_eq_true (by first | (with_reducible assumption) | assumption)
   obtain ⟨ad206, e206, hx206_0, hx206_1, hx206_2⟩ := at_T47 HR0.out x10_1 p206 q206
   cases e206
   replace hx206_0 := hc26_ HB.out hx206_0
   replace hx206_1 := hc26_ HB.out hx206_1
   replace hx206_2 := hc26_ HB.out hx206_2
   replace p206 := eq_true p206
   replace q206 := eq_true q206
   go_wp2_with (first | ((with_reducible refine gate_dst (N := 7) rfl ?_); refine box_event ?hg (N := 7) ?hd (cs := #[.int .i64 0, .int .i64 0, .string (⟨#[]⟩ : ByteArray)]) (t := 47) ?hr ?_; (case hd => rfl); (case hg => rfl); (case hr => first | (go_simp; done) | (go_simp; rfl)); intro gb207 hg w8 hbox hb; have hB_ := bz26_ hb (brw HB.out); have n0_ := Aside0.mk (Kd.R_below (by (with_reducible repeat (first | apply Kd.R_alloc | apply Kd.R_drewN | apply Kd.R_drew)); exact HO_5.out) hb); have n1_ := Aside0.mk (below_step hB_ hb); have n2_ := Aside0.mk (hbox); have n3_ := Aside0.mk ((by rw [hg]; exact (below_size hB_) : w.heap.size ≤ gb207)); have n4_ := Aside0.mk ((by rw [hg]; exact (below_size hB_) : w.heap.size ≤ gb207)); clear HO_5; clear HB; have HO_5 := n0_; have HB := n1_; have BK207 := n2_; have GW207 := n3_; have GE207 := n4_; clear n0_ n1_ n2_ n3_ n4_; clear hb hbox hg; obtain ⟨hcz9_0, hcz9_1, hcz9_2⟩ := cz3_ BK207.out; obtain ⟨hfz9_0, hfz9_1, hfz9_2⟩ := cf3_ BK207.out) | ((with_reducible refine gate_builtin (b := .append) (xs := #[.tmp 18, .tmp 21]) rfl ?_); at_builtin; refine Kd.R_append Kd.string (w0 := w) w.heap.size rfl (.tmp 18) (.tmp 21) 22 9 (.string ⟨#[]⟩) 16 rfl Try.underlying22 info9 rfl (by decide) (by omega) u5 x5_1 ((rd_T47 l0 x10_1).f2) [.string ((rd_T47 l0 x10_1).f2)] (fun _ => True) (fun _ => False) rfl (by first | (go_simp; done) | (go_simp; rfl)) ?aP (fun _ hk => hk.elim) ?aF ?aO ?aB ?aS ?aL ?_; (case aP => exact rfl); (case aB => exact (by repeat (first | (with_reducible first | exact HB.out | apply below_alloc | apply pw_below_drewN | apply below_drew1 | refine below_set ?_ GE207.out) | exact HB.out))); (case aF => exact (fun _ _ => trivial)); (case aO => exact (by (with_reducible repeat (first | apply Kd.R_alloc | apply Kd.R_drewN | apply Kd.R_drew)); exact Kd.R_mono (Kd.R_far (p := ⟨gb207, 2, none⟩) (Kd.R_far (p := ⟨gb207, 1, none⟩) (Kd.R_far (p := ⟨gb207, 0, none⟩) (Kd.R_types HO_5.out BK207.out (by decide)) (fun _ hk => hk.2) (.int .i64 ((rd_T47 l0 x10_1).f0))) (fun _ hk => hk.2) (.int .i64 ((rd_T47 l0 x10_1).f1))) (fun _ hk => hk.2) (.string ((rd_T47 l0 x10_1).f2))) (fun _ hk => trivial))); (case aS => exact (below_size (by repeat (first | (with_reducible first | exact HB.out | apply below_alloc | apply pw_below_drewN | apply below_drew1 | refine below_set ?_ GE207.out) | exact HB.out)))); (case aL => have := LMc7.out; omega); intro v209 w10 ho hb hg hat; rw [← Ny208.out] at ho; have n0_ := Aside0.mk (blk_grown (g := gb207) (o := .cells #[.int .i64 ((rd_T47 l0 x10_1).f0), .int .i64 ((rd_T47 l0 x10_1).f1), .string ((rd_T47 l0 x10_1).f2)] 47 (0, 0)) (by refine grO ?_; refine blk_put (cs := #[.int .i64 ((rd_T47 l0 x10_1).f0), .int .i64 ((rd_T47 l0 x10_1).f1), .string (⟨#[]⟩ : ByteArray)]) ?_ 2 _ rfl; refine grO ?_; refine blk_put (cs := #[.int .i64 ((rd_T47 l0 x10_1).f0), .int .i64 0, .string (⟨#[]⟩ : ByteArray)]) ?_ 1 _ rfl; refine grO ?_; refine blk_put (cs := #[.int .i64 0, .int .i64 0, .string (⟨#[]⟩ : ByteArray)]) ?_ 0 _ rfl; refine grO ?_; exact BK207.out) hg (Kd.R_ne HO_5.out BK207.out (by decide))); have n1_ := Aside0.mk (hb); have n2_ := Aside0.mk (ho); clear BK207; clear HB; clear HO_5; have BK207 := n0_; have HB := n1_; have HO210 := n2_; clear n0_ n1_ n2_; clear ho hb hg hat))
   go_roundg k1
   case measure => have := HK1.out; omega
   case rel => exact ⟨(y208), (wrap64 (x10_1 + 1)), (by first | rfl | (simp; done) | (simp [*]; done)), H', ⟨by have := HK1.out; omega⟩, ⟨by (with_reducible repeat (first | apply Kd.R_alloc | apply Kd.R_drewN | apply Kd.R_drew)); exact HO210.out⟩, ⟨by repeat (first | (with_reducible first | exact HB.out | apply below_alloc | apply pw_below_drewN | apply below_drew1 | refine below_set ?_ GE207.out) | exact HB.out)⟩⟩
/-! ### slices_IndexFunc_string_string: function 92 -/
/-- the first place of which p holds; -1: none -/
def IndexFunc_str.f (p : ByteArray → Bool) (l : List ByteArray) : Int := match l.findIdx? p with | none => -1 | some i => i
theorem IndexFunc_str.hit (p : ByteArray → Bool) (l : List ByteArray) (n : Nat) (hn : n < l.length) (hx : p (rdOf ByteArray.empty l n) = true) (h : ∀ j : Nat, j < n → p (rdOf ByteArray.empty l j) = false) : IndexFunc_str.f p l = n := by
  have : l.findIdx? p = some n := by
    rw [List.findIdx?_eq_some_iff_getElem]
    refine ⟨hn, by simpa [rdOf, hn] using hx, fun j hj => ?_⟩
    have := h j hj
    simpa [rdOf, show j < l.length by omega] using this
  simp [IndexFunc_str.f, this]
theorem IndexFunc_str.miss (p : ByteArray → Bool) (l : List ByteArray) (h : ∀ j : Nat, j < l.length → p (rdOf ByteArray.empty l j) = false) : IndexFunc_str.f p l = -1 := by
  have : l.findIdx? p = none := by
    rw [List.findIdx?_eq_none_iff]
    intro x hx
    obtain ⟨j, hj, rfl⟩ := List.getElem_of_mem hx
    have := h j hj
    simpa [rdOf, hj] using this
  simp [IndexFunc_str.f, this]
set_option maxHeartbeats 2000000 in
theorem IndexFunc_str.calls (p : ByteArray → Bool) (g : Nat) (lb : Array Value) (eg : ∀ args w, (callFunc g args).run Try.prog w = .ok (.enter g args) w) (A0 : Option Addr) (c0 : Nat) (l0 : List ByteArray) (w : World) (hr0 : Kd.C Kd.string w A0 l0.length l0) (hbig : l0.length ≤ 9223372036854775807)
    (hp : ∀ W, Below w.heap.size w W → ∀ x : ByteArray, Calls Try.prog g (#[.string x] ++ lb) W fun e w' => e = .returned (.bool (p x)) ∧ Below w.heap.size w w') :
    Calls Try.prog 92 #[.slice A0 l0.length c0, .func (.func g) #[] lb] w fun e w' => e = .returned (.int .i64 (IndexFunc_str.f p l0)) ∧ Below w.heap.size w w' := by
  have HR := Aside0.mk hr0
  have HPF := Aside0.mk hp
  clear hr0 hp
  go_enter Try.func92, Try.ntmps92
  go_wp2
  go_loopg [8] l0.length (fun kq v8 wr => ∃ n : Nat, Aside0 (n ≤ l0.length) ∧ Aside0 (l0.length - n = kq) ∧ v8 = .int .i64 (n : Int) ∧ Aside0 (Below w.heap.size w wr) ∧ Aside0 (∀ j : Nat, j < n → p (rdOf ByteArray.empty l0 j) = false))
  case atStart => exact ⟨0, ⟨Nat.zero_le _⟩, ⟨by omega⟩, rfl, ⟨Below.refl _ _⟩, ⟨fun j hj => absurd hj (Nat.not_lt_zero _)⟩⟩
  case round =>
    obtain ⟨n, HN, HK, rfl, HB, HP⟩ := hrel
    by_cases hlt : n < l0.length
    · have hlt' : decide ((n : Int) < (l0.length : Int)) = true := decide_eq_true (by omega)
      have hC := Kd.C_below HR.out HB.out
      obtain ⟨ad, e1, hx0⟩ := Kd.at_string hC (n : Int) (by omega) (by omega)
      subst e1
      rw [Int.toNat_natCast] at hx0
      have hcall := HPF.out wr HB.out (rdOf ByteArray.empty l0 (n : Int))
      generalize hy : rdOf ByteArray.empty l0 (n : Int) = y at hx0 hcall
      have HY := Aside0.mk hy
      clear hy hC
      cases hq : p y with
      | true =>
        rw [hq] at hcall
        have HC := Aside0.mk hcall
        have HQ := Aside0.mk hq
        clear hcall hq
        go_wp2_with fail
        refine HC.out.mono ?_
        rintro e w' ⟨rfl, hb'⟩
        go_wp2
        go_ret
        refine ⟨?_, hb'⟩
        rw [IndexFunc_str.hit p l0 n hlt (by rw [HY.out]; exact HQ.out) HP.out]
        rfl
      | false =>
        rw [hq] at hcall
        have HC := Aside0.mk hcall
        have HQ := Aside0.mk hq
        clear hcall hq
        go_wp2_with fail
        refine HC.out.mono ?_
        rintro e w' ⟨rfl, hb'⟩
        go_wp2
        go_roundg (l0.length - (n + 1))
        case measure => have := HK.out; omega
        case rel =>
          refine ⟨n + 1, ⟨hlt⟩, ⟨rfl⟩, by go_num, ⟨hb'⟩, ⟨fun j hj => ?_⟩⟩
          by_cases e : j = n
          · subst e; rw [HY.out]; exact HQ.out
          · exact HP.out j (by omega)
    · have hlt' : decide ((n : Int) < (l0.length : Int)) = false := decide_eq_false (by omega)
      have hn : n = l0.length := by have := HN.out; omega
      have HNN := Aside0.mk hn
      clear hn
      go_wp2
      go_ret
      exact ⟨by rw [IndexFunc_str.miss p l0 (fun j hj => HP.out j (by have := HNN.out; omega))]; rfl, HB.out⟩


/-! ### slices_ContainsFunc_string_string: function 53 -/
-- USES slices.IndexFunc[[]string,string]
theorem ContainsFunc_str.any (p : ByteArray → Bool) (l : List ByteArray) : decide (0 ≤ IndexFunc_str.f p l) = l.any p := by
  unfold IndexFunc_str.f
  cases h : l.findIdx? p with
  | none =>
    rw [List.findIdx?_eq_none_iff] at h
    have : l.any p = false := by simpa using h
    simp [this]
  | some i =>
    rw [List.findIdx?_eq_some_iff_getElem] at h
    obtain ⟨hi, hp, _⟩ := h
    have : l.any p = true := List.any_eq_true.2 ⟨_, List.getElem_mem hi, hp⟩
    simp [this]
set_option maxHeartbeats 2000000 in
theorem ContainsFunc_str.calls (p : ByteArray → Bool) (g : Nat) (lb : Array Value) (eg : ∀ args w, (callFunc g args).run Try.prog w = .ok (.enter g args) w) (A0 : Option Addr) (c0 : Nat) (l0 : List ByteArray) (w : World) (hr0 : Kd.C Kd.string w A0 l0.length l0) (hbig : l0.length ≤ 9223372036854775807)
    (hp : ∀ W, Below w.heap.size w W → ∀ x : ByteArray, Calls Try.prog g (#[.string x] ++ lb) W fun e w' => e = .returned (.bool (p x)) ∧ Below w.heap.size w w') :
    Calls Try.prog 53 #[.slice A0 l0.length c0, .func (.func g) #[] lb] w fun e w' => e = .returned (.bool (l0.any p)) ∧ Below w.heap.size w w' := by
  have hcall := IndexFunc_str.calls p g lb eg A0 c0 l0 w hr0 hbig hp
  have HANY := Aside0.mk (ContainsFunc_str.any p l0)
  generalize IndexFunc_str.f p l0 = i at hcall HANY
  have HC := Aside0.mk hcall
  clear hp hr0 hcall
  go_enter Try.func53, Try.ntmps53
  go_wp2_with (go_at_call 92; refine HC.out.mono ?_; rintro e w' ⟨rfl, hb'⟩)
  go_ret
  exact ⟨by rw [← HANY.out]; rfl, hb'⟩


/-! ### slices_Index_string_string: function 103 -/
def slices_Index_string_string.l0 : Nat → List ByteArray → ByteArray → Int → Int → Option (Int)
  | 0, _, _, _, _ => none
  | k + 1, x0, x1, x7, x8 => if x8 < x7 then (if 0 ≤ x8 then (if x8 < (x0.length : Int) then (if x1.toList = (rdOf ByteArray.empty x0 x8).toList then (some x8) else (slices_Index_string_string.l0 k x0 x1 x7 (wrap64 (x8 + 1)))) else (none)) else (none)) else (some (-1))
def slices_Index_string_string.f (k : Nat) (l0 : List ByteArray) (a1 : ByteArray) : Option (Int) := slices_Index_string_string.l0 k l0 a1 (l0.length : Int) 0
theorem slices_Index_string_string.mono_l : ∀ k, (∀ y0 y1 y2 y3, LeO (slices_Index_string_string.l0 k y0 y1 y2 y3) (slices_Index_string_string.l0 (k + 1) y0 y1 y2 y3))
  | 0 => fun _ _ _ _ r h => by simp [slices_Index_string_string.l0] at h
  | k + 1 => by
    have ih0 := slices_Index_string_string.mono_l k
    · intro y0 y1 y2 y3
      unfold slices_Index_string_string.l0
      repeat' first
      | (with_reducible exact ih0 _ _ _ _)
      | (with_reducible exact LeO.refl _)
      | (with_reducible exact LeO.none _)
      | (with_reducible refine LeO.ite ?_ ?_)
      | (with_reducible refine LeO.bind ?_ (fun _ => ?_))
      | exact ih0 _ _ _ _
      | exact LeO.none _
      | refine LeO.ite ?_ ?_
      | refine LeO.bind ?_ (fun _ => ?_)
theorem slices_Index_string_string.mono : ∀ a0 a1 k, LeO (slices_Index_string_string.f k a0 a1) (slices_Index_string_string.f (k + 1) a0 a1) := by
  intro a0 a1 k
  have ih0 := slices_Index_string_string.mono_l k
  unfold slices_Index_string_string.f
  repeat' first
      | (with_reducible exact ih0 _ _ _ _)
      | (with_reducible exact LeO.refl _)
      | (with_reducible exact LeO.none _)
      | (with_reducible refine LeO.ite ?_ ?_)
      | (with_reducible refine LeO.bind ?_ (fun _ => ?_))
      | exact ih0 _ _ _ _
      | exact LeO.none _
      | refine LeO.ite ?_ ?_
      | refine LeO.bind ?_ (fun _ => ?_)
set_option maxHeartbeats 8000000 in
set_option maxRecDepth 100000 in
theorem slices_Index_string_string.calls (k : Nat) (A0 : Option Addr) (c0 : Nat) (l0 : List ByteArray) (a1 : ByteArray) (r : Int) (w : World) (hr0 : Kd.C Kd.string w A0 l0.length l0) (hc0 : l0.length ≤ c0) (h : slices_Index_string_string.f k l0 a1 = some r) :
  Calls Try.prog 103 #[.slice A0 l0.length c0, .string a1] w fun e w' => e = .returned (.int .i64 r) ∧ Drawn0 w w' := by
 have HR0 := Aside0.mk hr0
 have HC0 := Aside0.mk hc0
 clear hr0 hc0
 have H : (slices_Index_string_string.l0 k l0 a1 (l0.length : Int) 0) = some r := h
 clear h
 have H' := Aside0.mk H
 clear H
 go_enter Try.func103, Try.ntmps103
 go_wp2
 go_loopg [8] k (fun kq v8 w' => ∃ (x8_1 : Int), v8 = .int .i64 x8_1 ∧ Aside0 (slices_Index_string_string.l0 kq l0 a1 (l0.length : Int) x8_1 = some r) ∧ Aside0 (kq ≤ k) ∧ Drawn0 w w')
 case atStart => exact ⟨(0), (by first | rfl | (simp; done) | (simp [*]; done)), H', ⟨Nat.le_refl _⟩, by repeat (first | exact Drawn0.refl _ | apply Drawn0.step)⟩
 case round =>
  clear H'
  try clear c1
  try clear p2
  obtain ⟨x8_1, rfl, HA, HK1, ⟨m1, rfl⟩⟩ := hrel
  cases gk with
  | zero => exact absurd HA.out (by simp [slices_Index_string_string.l0])
  | succ k1 =>
   have H := HA.out
   clear HA
   simp only [slices_Index_string_string.l0] at H
   by_cases c3 : x8_1 < (l0.length : Int)
   rotate_left
   ·rw [if_neg c3] at H
    have c3b0 : decide (x8_1 < (l0.length : Int)) = false := decide_eq_false c3
    clear c3
    obtain rfl := Option.some.inj H
    go_wp2
    go_ret
    exact ⟨by first | rfl | (simp; done) | (simp [*]; done), by repeat (first | exact Drawn0.refl _ | apply Drawn0.step)⟩

   rw [if_pos c3] at H
   have c3b0 : decide (x8_1 < (l0.length : Int)) = true := decide_eq_true c3
   clear c3
   by_cases c4 : 0 ≤ x8_1
   rotate_left
   ·rw [if_neg c4] at H
    exact absurd H (by simp)
   rw [if_pos c4] at H
   have c4b0 : decide (0 ≤ x8_1) = true := decide_eq_true c4
   clear c4
   by_cases c5 : x8_1 < (l0.length : Int)
   rotate_left
   ·rw [if_neg c5] at H
    exact absurd H (by simp)
   rw [if_pos c5] at H
   have c5b0 : decide (x8_1 < (l0.length : Int)) = true := decide_eq_true c5
   clear c5
   by_cases c6 : a1.toList = (rdOf ByteArray.empty l0 x8_1).toList
   ·rw [if_pos c6] at H
    have c6b0 : (a1.toList == (rdOf ByteArray.empty l0 x8_1).toList) = true := beq_iff_eq.mpr c6
    have c6b1 : (a1.toList != (rdOf ByteArray.empty l0 x8_1).toList) = false := bne_eq_false_iff_eq.mpr c6
    clear c6
    obtain rfl := Option.some.inj H
    have p211 : 0 ≤ (x8_1 : Int) := of_decide_eq_true (by first | (with_reducible assumption) | assumption)
    have q211 : x8_1 < (l0.length : Int) := of_decide_eq_true (by first | (with_reducible assumption) | assumption)
    obtain ⟨ad211, e211, hx211_0⟩ := Kd.at_string HR0.out x8_1 p211 q211
    cases e211
    replace p211 := eq_true p211
    replace q211 := eq_true q211
    go_wp2
    go_ret
    exact ⟨by first | rfl | (simp; done) | (simp [*]; done), by repeat (first | exact Drawn0.refl _ | apply Drawn0.step)⟩
   rw [if_neg c6] at H
   have c6b0 : (a1.toList == (rdOf ByteArray.empty l0 x8_1).toList) = false := beq_eq_false_iff_ne.mpr c6
   have c6b1 : (a1.toList != (rdOf ByteArray.empty l0 x8_1).toList) = true := bne_iff_ne.mpr c6
   have H' := Aside0.mk H
   clear H
   have p211 : 0 ≤ (x8_1 : Int) := of_decide_eq_true (by first | (with_reducible assumption) | assumption)
   have q211 : x8_1 < (l0.length : Int) := of_decide_eq_true (by first | (with_reducible assumption) | assumption)
   obtain ⟨ad211, e211, hx211_0⟩ := Kd.at_string HR0.out x8_1 p211 q211
   cases e211
   replace p211 := eq_true p211
   replace q211 := eq_true q211
   go_wp2
   go_roundg k1
   case measure => have := HK1.out; omega
   case rel => exact ⟨(wrap64 (x8_1 + 1)), (by first | rfl | (simp; done) | (simp [*]; done)), H', ⟨by have := HK1.out; omega⟩, by repeat (first | exact Drawn0.refl _ | apply Drawn0.step)⟩
/-! ### names_Place: function 80 -/
def names_Place.f (k : Nat) (l0 : List ByteArray) (a1 : ByteArray) : Option (Int) := (slices_Index_string_string.f k l0 a1).bind fun t212 => (some t212)
theorem names_Place.mono : ∀ a0 a1 k, LeO (names_Place.f k a0 a1) (names_Place.f (k + 1) a0 a1) := by
  intro a0 a1 k
  unfold names_Place.f
  repeat' first
      | (with_reducible exact slices_Index_string_string.mono _ _ _)
      | (with_reducible exact LeO.refl _)
      | (with_reducible exact LeO.none _)
      | (with_reducible refine LeO.ite ?_ ?_)
      | (with_reducible refine LeO.bind ?_ (fun _ => ?_))
      | exact slices_Index_string_string.mono _ _ _
      | exact LeO.none _
      | refine LeO.ite ?_ ?_
      | refine LeO.bind ?_ (fun _ => ?_)
set_option maxHeartbeats 8000000 in
set_option maxRecDepth 100000 in
theorem names_Place.calls (k : Nat) (A0 : Option Addr) (c0 : Nat) (l0 : List ByteArray) (a1 : ByteArray) (r : Int) (w : World) (hr0 : Kd.C Kd.string w A0 l0.length l0) (hc0 : l0.length ≤ c0) (h : names_Place.f k l0 a1 = some r) :
    Calls Try.prog 80 #[.slice A0 l0.length c0, .string a1] w fun e w' => e = .returned (.int .i64 r) ∧ Drawn0 w w' := by
  have HR0 := Aside0.mk hr0
  have HC0 := Aside0.mk hc0
  clear hr0 hc0
  have H : ((slices_Index_string_string.f k l0 a1).bind fun t212 => (some t212)) = some r := h
  clear h
  replace H := Option.bind_eq_some_iff.mp H
  obtain ⟨t212, A30, H⟩ := H
  replace H : (some t212) = some r := H
  have A3 := Aside0.mk A30
  clear A30
  obtain rfl := Option.some.inj H
  go_enter Try.func80, Try.ntmps80
  go_wp2_with (first | ((with_reducible refine gate_callee (f := 103) rfl ?_); refine goesL_ (some 7) rfl rfl Try.func103 (by kernel_rfl) rfl #[.slice A0 l0.length c0, .string a1] rfl (by (try simp only [List.map_toArray, List.map_cons, List.map_nil]); first | done | rfl | (simp only [List.length_drop, List.length_take]; rfl)) ?_; (with_reducible refine (slices_Index_string_string.calls k _ _ l0 a1 t212 _ ?side1 ?side2 A3.out).mono ?_); (case side1 => repeat (first | exact HR0.out | (with_reducible refine Kd.C_alloc ?_ _) | (with_reducible refine Kd.C_drewN ?_ _) | (with_reducible refine Kd.C_drew ?_))); (case side2 => exact HC0.out); rintro e w' ⟨rfl, ⟨nd, rfl⟩⟩; refine ⟨_, rfl, ?_⟩))
  go_ret
  exact ⟨by first | rfl | (simp; done) | (simp [*]; done), by repeat (first | exact Drawn0.refl _ | apply Drawn0.step)⟩

/-! ### rules_none: function 115 -/
-- USES semblance/names.Place
-- USES slices.ContainsFunc[[]string,string]
/-- the texts are the same -/
def rules_hit (s t : ByteArray) : Bool := t.toList == s.toList
/-- where a text stands -/
def rules_at (l : List ByteArray) (s : ByteArray) : Int := Go.Proofs.Ytoeioigpkfgppaa.XFind.idxF (rules_hit s) l
open Go.Proofs.Ytoeioigpkfgppaa.XFind Go.Proofs.Ytoeioigpkfgppaa.XFuel in
theorem rules_at.steps (xs : List ByteArray) (s : ByteArray) (hx : xs.length ≤ 100000) : ∀ (d n : Nat), xs.length - n = d → n ≤ xs.length → (∀ j : Nat, j < n → rules_hit s (xs.getD j ByteArray.empty) = false) →
    Ev (fun k => slices_Index_string_string.l0 k xs s (xs.length : Int) n) (rules_at xs s) := by
  unfold rules_at
  intro d
  induction d with
  | zero =>
    intro n hd hn hp
    have h1 : ¬ ((n : Int) < (xs.length : Int)) := by omega
    rw [idxF_miss (rules_hit s) xs ByteArray.empty (fun j hj => hp j (by omega))]
    apply Ev.succ
    simp only [slices_Index_string_string.l0, h1, if_false]
    exact Ev.now _
  | succ d ih =>
    intro n hd hn hp
    have h1 : (n : Int) < (xs.length : Int) := by omega
    have h2 : (0 : Int) ≤ (n : Int) := by omega
    have hr : rdOf ByteArray.empty xs (n : Int) = xs.getD n ByteArray.empty := by simp [rdOf]
    have hw : wrap64 ((n : Int) + 1) = ((n + 1 : Nat) : Int) := by unfold wrap64; omega
    by_cases h : s.toList = (xs.getD n ByteArray.empty).toList
    · have hh : rules_hit s (xs.getD n ByteArray.empty) = true := beq_iff_eq.2 h.symm
      rw [idxF_hit (rules_hit s) xs ByteArray.empty n (by omega) hh hp]
      apply Ev.succ
      simp only [slices_Index_string_string.l0, h1, h2, hr, if_true]
      exact Ev.congr (fun k => if_pos h) (Ev.now _)
    · have hh : rules_hit s (xs.getD n ByteArray.empty) = false := beq_eq_false_iff_ne.2 (fun e => h e.symm)
      apply Ev.succ
      simp only [slices_Index_string_string.l0, h1, h2, hr, h, if_true, if_false]
      rw [hw]
      exact ih (n + 1) (by omega) (by omega) (fun j hj => by
        by_cases e : j = n
        · subst e; exact hh
        · exact hp j (by omega))
theorem rules_at.place (A : Option Addr) (c : Nat) (l : List ByteArray) (s : ByteArray) (W : World) (hr : Kd.C Kd.string W A l.length l) (hc : l.length ≤ c) (hx : l.length ≤ 100000) :
    Calls Try.prog 80 #[.slice A l.length c, .string s] W fun e w' => e = .returned (.int .i64 (rules_at l s)) ∧ Drawn0 W w' := by
  obtain ⟨K, hK⟩ := rules_at.steps l s hx l.length 0 (by omega) (by omega) (fun j hj => absurd hj (by omega))
  refine names_Place.calls K A c l s (rules_at l s) W hr hc ?_
  unfold names_Place.f slices_Index_string_string.f
  have := hK K (Nat.le_refl _)
  simp only [Int.natCast_zero] at this
  rw [show slices_Index_string_string.l0 K l s (l.length : Int) 0 = some (rules_at l s) from this]
  rfl
/-- is some text of l not in all? -/
def rules_none.f (l all : List ByteArray) : Bool := l.any fun s => decide (rules_at all s < 0)
set_option maxHeartbeats 2000000 in
theorem rules_none.lit (g : Nat) (A1 : Option Addr) (c1 : Nat) (l1 : List ByteArray) (s : ByteArray) (W : World) (hr1 : Kd.C Kd.string W A1 l1.length l1) (hc1 : l1.length ≤ c1) (hx : l1.length ≤ 100000) (hb : W.cell? ⟨g, 0, none⟩ = some (.slice A1 l1.length c1)) :
    Calls Try.prog 121 #[.string s, .pointer (some ⟨g, 0, none⟩)] W fun e w' => e = .returned (.bool (decide (rules_at l1 s < 0))) ∧ Below W.heap.size W w' := by
  have HC := Aside0.mk (rules_at.place A1 c1 l1 s W hr1 hc1 hx)
  clear hr1
  go_enter Try.func121, Try.ntmps121
  go_wp2_with (go_at_call 80; refine HC.out.mono ?_; rintro e w' ⟨rfl, hd⟩)
  go_ret
  exact ⟨rfl, hd.below⟩
set_option maxHeartbeats 2000000 in
theorem rules_none.calls (A0 : Option Addr) (c0 : Nat) (l0 : List ByteArray) (A1 : Option Addr) (c1 : Nat) (l1 : List ByteArray) (W : World) (hr0 : Kd.C Kd.string W A0 l0.length l0) (hr1 : Kd.C Kd.string W A1 l1.length l1) (hc1 : l1.length ≤ c1) (hx : l1.length ≤ 100000) :
    Calls Try.prog 115 #[.slice A0 l0.length c0, .slice A1 l1.length c1] W fun e w' => e = .returned (.bool (rules_none.f l0 l1)) ∧ Below W.heap.size W w' := by
  have eg := Go.Proofs.enters_of Try.func121 (by kernel_rfl) rfl
  have hb1 : Below W.heap.size W (W.alloc (.cells #[.slice A1 l1.length c1] 22)) := (Below.refl _ _).alloc (Nat.le_refl _) _
  have hcs := cell_of_one (heap_alloc_new W (.cells #[.slice A1 l1.length c1] 22))
  have HC := Aside0.mk (ContainsFunc_str.calls (fun s => decide (rules_at l1 s < 0)) 121 #[.pointer (some ⟨W.heap.size, 0, none⟩)] eg A0 c0 l0 _ (Kd.C_below hr0 hb1) hr0.2.1
    (fun W2 h2 s => (rules_none.lit W.heap.size A1 c1 l1 s W2 (Kd.C_below (Kd.C_below hr1 hb1) h2) hc1 hx ((h2.cell (p := ⟨W.heap.size, 0, none⟩) (by simp)).trans hcs)).mono fun e w' ⟨he, hw⟩ => ⟨he, h2.trans (hw.mono h2.size)⟩))
  have HB := Aside0.mk hb1
  clear hr0 hr1 hcs hb1
  go_enter Try.func115, Try.ntmps115
  go_wp2_with (go_at_call 53; refine HC.out.mono ?_; rintro e w' ⟨rfl, hb⟩)
  go_ret
  exact ⟨rfl, HB.out.trans (hb.mono HB.out.size)⟩


end Go.Proofs.Ytoeioigpkfgppaa.XR
