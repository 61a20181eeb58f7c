-- written by wip/xprint.py out of the translation
import Derived.Test.YtbkaiojofgmbnaaGreatXShort
import Derived.Test.YtbkaiojofgmbnaaGreatXSp0
namespace Go.Proofs.YtbkaiojofgmbnaaGreat.XS
open Go.Proofs.YtbkaiojofgmbnaaGreat.XShort Go.Proofs.YtbkaiojofgmbnaaGreat.XReg Go.Proofs.YtbkaiojofgmbnaaGreat.XGrow Go.RowKit Go.Proofs.YtbkaiojofgmbnaaGreatW.PrintWords Go.Proofs.YtbkaiojofgmbnaaGreatW.PrintLast Go.Proofs.YtbkaiojofgmbnaaGreatW.PrintMore
attribute [local go_sem] max2_int min2_int max_two min_two max_three min_three max_four min_four   -- for this text's walks alone
set_option linter.unusedVariables false
set_option linter.unusedSimpArgs false

/-! ### semblanceref02_Place: function 39 -/
def semblanceref02_Place.l0 : Nat → List ByteArray → ByteArray → Int → Option (Int)
  | 0, _, _, _ => none
  | k + 1, x0, x1, x5 => if x5 < (x0.length : Int) then (if 0 ≤ x5 then (if (rdOf ByteArray.empty x0 x5).toList = x1.toList then (some x5) else (semblanceref02_Place.l0 k x0 x1 (wrap64 (x5 + 1)))) else (none)) else (some (-1))
def semblanceref02_Place.f (k : Nat) (l0 : List ByteArray) (a1 : ByteArray) : Option (Int) := semblanceref02_Place.l0 k l0 a1 0
theorem semblanceref02_Place.mono_l : ∀ k, (∀ y0 y1 y2, LeO (semblanceref02_Place.l0 k y0 y1 y2) (semblanceref02_Place.l0 (k + 1) y0 y1 y2))
  | 0 => fun _ _ _ r h => by simp [semblanceref02_Place.l0] at h
  | k + 1 => by
    have ih0 := semblanceref02_Place.mono_l k
    · intro y0 y1 y2
      unfold semblanceref02_Place.l0
      exact mo_
theorem semblanceref02_Place.mono : ∀ a0 a1 k, LeO (semblanceref02_Place.f k a0 a1) (semblanceref02_Place.f (k + 1) a0 a1) := by
  intro a0 a1 k
  have ih0 := semblanceref02_Place.mono_l k
  unfold semblanceref02_Place.f
  exact mo_
instance semblanceref02_Place.lc : ∀ a0 a1 k, LeC (semblanceref02_Place.f k a0 a1) (semblanceref02_Place.f (k + 1) a0 a1) := fun a0 a1 k => ⟨semblanceref02_Place.mono a0 a1 k⟩
set_option maxHeartbeats 8000000 in
set_option maxRecDepth 100000 in
theorem semblanceref02_Place.calls (k : Nat) (A0 : Option Addr) (c0 : Nat) (l0 : List ByteArray) (a1 : ByteArray) (r : Int) (w : World) (hr0 : Kd.C Kd.string w A0 l0.length l0) (hc0 : l0.length ≤ c0) (h : semblanceref02_Place.f k l0 a1 = some r) :
  Calls Tryz.prog 39 #[.slice A0 l0.length c0, .string a1] w fun e w' => e = .returned (.int .i64 r) ∧ Drawn0 w w' := by
 have HR0 := Aside0.mk hr0
 have HC0 := Aside0.mk hc0
 clear hr0 hc0
 unfold semblanceref02_Place.f at h
 have H := h
 clear h
 have H' := Aside0.mk H
 clear H
 go_enter Tryz.func39, Tryz.ntmps39
 go_wp2
 go_loopg [5] k (fun kq v5 w' => ∃ (x5_1 : Int), v5 = .int .i64 x5_1 ∧ Aside0 (semblanceref02_Place.l0 kq l0 a1 x5_1 = some r) ∧ Aside0 (kq ≤ k) ∧ Drawn0 w w')
 case atStart => exact ⟨(0), rl_, H', ⟨Nat.le_refl _⟩, dw_⟩
 case round =>
  clear H'
  obtain ⟨x5_1, rfl, HA, HK1, ⟨m1, rfl⟩⟩ := hrel
  cases gk with
  | zero => exact absurd HA.out (by simp [semblanceref02_Place.l0])
  | succ k1 =>
   have H := HA.out
   clear HA
   simp only [semblanceref02_Place.l0] at H
   replace H := it_ H; obtain ⟨c3b0, H⟩ | ⟨c3b0, H⟩ := H
   ·obtain rfl := Option.some.inj H
    go_wp2
    go_ret
    exact ⟨rl_, dw_⟩

   replace H := is_ H; obtain ⟨c4b0, H⟩ := H
   replace H := id_ H; obtain ⟨c5, H⟩ | ⟨c5, H⟩ := H
   ·have c5b0 : ((rdOf ByteArray.empty l0 x5_1).toList == a1.toList) = true := beq_iff_eq.mpr c5
    have c5b1 : ((rdOf ByteArray.empty l0 x5_1).toList != a1.toList) = false := bne_eq_false_iff_eq.mpr c5
    clear c5
    obtain rfl := Option.some.inj H
    have p101 : 0 ≤ (x5_1 : Int) := of_decide_eq_true (by first | (with_reducible assumption) | assumption)
    have q101 : x5_1 < (l0.length : Int) := of_decide_eq_true (by first | (with_reducible assumption) | assumption)
    obtain ⟨ad101, e101, hx101_0⟩ := Kd.at_string HR0.out x5_1 p101 q101
    cases e101
    replace p101 := eq_true p101
    replace q101 := eq_true q101
    go_wp2
    go_ret
    exact ⟨rl_, dw_⟩
   have c5b0 : ((rdOf ByteArray.empty l0 x5_1).toList == a1.toList) = false := beq_eq_false_iff_ne.mpr c5
   have c5b1 : ((rdOf ByteArray.empty l0 x5_1).toList != a1.toList) = true := bne_iff_ne.mpr c5
   have H' := Aside0.mk H
   clear H
   have p101 : 0 ≤ (x5_1 : Int) := of_decide_eq_true (by first | (with_reducible assumption) | assumption)
   have q101 : x5_1 < (l0.length : Int) := of_decide_eq_true (by first | (with_reducible assumption) | assumption)
   obtain ⟨ad101, e101, hx101_0⟩ := Kd.at_string HR0.out x5_1 p101 q101
   cases e101
   replace p101 := eq_true p101
   replace q101 := eq_true q101
   go_wp2
   go_roundg k1
   case measure => have := HK1.out; omega
   case rel => exact ⟨(wrap64 (x5_1 + 1)), rl_, H', ⟨kn_ HK1⟩, dw_⟩
/-! ### semblanceref02_Keywords: function 60 -/
def semblanceref02_Keywords.f  : Option (List ByteArray) := some (([(⟨#[99, 104, 97, 114, 116]⟩ : ByteArray), (⟨#[101, 118, 101, 110, 116]⟩ : ByteArray), (⟨#[118, 97, 114]⟩ : ByteArray), (⟨#[108, 101, 97, 102]⟩ : ByteArray), (⟨#[111, 114]⟩ : ByteArray), (⟨#[97, 110, 100]⟩ : ByteArray), (⟨#[101, 110, 116, 101, 114]⟩ : ByteArray), (⟨#[101, 120, 105, 116]⟩ : ByteArray), (⟨#[111, 110]⟩ : ByteArray), (⟨#[97, 117, 116, 111]⟩ : ByteArray), (⟨#[97, 110, 121]⟩ : ByteArray), (⟨#[105, 110]⟩ : ByteArray), (⟨#[109, 105, 110]⟩ : ByteArray), (⟨#[109, 97, 120]⟩ : ByteArray), (⟨#[110, 111, 116]⟩ : ByteArray), (⟨#[116, 114, 117, 101]⟩ : ByteArray), (⟨#[102, 97, 108, 115, 101]⟩ : ByteArray)] : List ByteArray))
set_option maxHeartbeats 8000000 in
set_option maxRecDepth 100000 in
theorem semblanceref02_Keywords.calls  (r : List ByteArray) (w : World) (h : semblanceref02_Keywords.f  = some r) :
  Calls Tryz.prog 60 #[] w fun e w' => ∃ v0_ : Value, e = .returned (v0_) ∧ Kd.R Kd.string 9 w' w.heap.size (fun _ => True) v0_ r ∧ Below w.heap.size w w' := by
 have HB := Aside0.mk (Below.refl w.heap.size w)
 unfold semblanceref02_Keywords.f at h
 have H := h
 clear h
 obtain ⟨y102, hy102⟩ : ∃ y_ : List ByteArray, y_ = (([(⟨#[99, 104, 97, 114, 116]⟩ : ByteArray), (⟨#[101, 118, 101, 110, 116]⟩ : ByteArray), (⟨#[118, 97, 114]⟩ : ByteArray), (⟨#[108, 101, 97, 102]⟩ : ByteArray), (⟨#[111, 114]⟩ : ByteArray), (⟨#[97, 110, 100]⟩ : ByteArray), (⟨#[101, 110, 116, 101, 114]⟩ : ByteArray), (⟨#[101, 120, 105, 116]⟩ : ByteArray), (⟨#[111, 110]⟩ : ByteArray), (⟨#[97, 117, 116, 111]⟩ : ByteArray), (⟨#[97, 110, 121]⟩ : ByteArray), (⟨#[105, 110]⟩ : ByteArray), (⟨#[109, 105, 110]⟩ : ByteArray), (⟨#[109, 97, 120]⟩ : ByteArray), (⟨#[110, 111, 116]⟩ : ByteArray), (⟨#[116, 114, 117, 101]⟩ : ByteArray), (⟨#[102, 97, 108, 115, 101]⟩ : ByteArray)] : List ByteArray)) := ⟨_, rfl⟩
 replace H : (some y102) = some r := by first | (rw [hy102]; with_reducible exact H) | (have H2_ := (Option.bind_some _ _).symm.trans H; rw [hy102]; with_reducible exact H2_) | (have H2_ := (Option.bind_some _ _).symm.trans H; with_reducible exact H2_) | with_reducible exact H | (rw [hy102]; exact H) | exact H
 have Ny102 := Aside0.mk hy102
 clear hy102
 obtain rfl := Option.some.inj H
 go_enter Tryz.func60, Tryz.ntmps60
 go_wp2_with (first | ((with_reducible refine gate_dst (N := 1) rfl ?_); refine Kd.R_lit Kd.string _ 9 ?hg (N := 1) ?hd (xs := ([(⟨#[99, 104, 97, 114, 116]⟩ : ByteArray), (⟨#[101, 118, 101, 110, 116]⟩ : ByteArray), (⟨#[118, 97, 114]⟩ : ByteArray), (⟨#[108, 101, 97, 102]⟩ : ByteArray), (⟨#[111, 114]⟩ : ByteArray), (⟨#[97, 110, 100]⟩ : ByteArray), (⟨#[101, 110, 116, 101, 114]⟩ : ByteArray), (⟨#[101, 120, 105, 116]⟩ : ByteArray), (⟨#[111, 110]⟩ : ByteArray), (⟨#[97, 117, 116, 111]⟩ : ByteArray), (⟨#[97, 110, 121]⟩ : ByteArray), (⟨#[105, 110]⟩ : ByteArray), (⟨#[109, 105, 110]⟩ : ByteArray), (⟨#[109, 97, 120]⟩ : ByteArray), (⟨#[110, 111, 116]⟩ : ByteArray), (⟨#[116, 114, 117, 101]⟩ : ByteArray), (⟨#[102, 97, 108, 115, 101]⟩ : ByteArray)] : List ByteArray)) (inner := [.string (⟨#[99, 104, 97, 114, 116]⟩ : ByteArray), .string (⟨#[101, 118, 101, 110, 116]⟩ : ByteArray), .string (⟨#[118, 97, 114]⟩ : ByteArray), .string (⟨#[108, 101, 97, 102]⟩ : ByteArray), .string (⟨#[111, 114]⟩ : ByteArray), .string (⟨#[97, 110, 100]⟩ : ByteArray), .string (⟨#[101, 110, 116, 101, 114]⟩ : ByteArray), .string (⟨#[101, 120, 105, 116]⟩ : ByteArray), .string (⟨#[111, 110]⟩ : ByteArray), .string (⟨#[97, 117, 116, 111]⟩ : ByteArray), .string (⟨#[97, 110, 121]⟩ : ByteArray), .string (⟨#[105, 110]⟩ : ByteArray), .string (⟨#[109, 105, 110]⟩ : ByteArray), .string (⟨#[109, 97, 120]⟩ : ByteArray), .string (⟨#[110, 111, 116]⟩ : ByteArray), .string (⟨#[116, 114, 117, 101]⟩ : ByteArray), .string (⟨#[102, 97, 108, 115, 101]⟩ : ByteArray)]) (ok := fun _ => True) (okp := fun _ => True) ?hr ?hp (fun _ hk => hk) trivial (Below.refl _ _) (Nat.le_refl _) (by simp) ?_; (case hd => rfl); (case hg => rfl); (case hr => first | (go_simp; done) | (go_simp; rfl)); (case hp => exact (Reps.one (show Kd.M Kd.string _ _ _ (⟨#[99, 104, 97, 114, 116]⟩ : ByteArray) [.string (⟨#[99, 104, 97, 114, 116]⟩ : ByteArray)] from rfl) (Reps.one (show Kd.M Kd.string _ _ _ (⟨#[101, 118, 101, 110, 116]⟩ : ByteArray) [.string (⟨#[101, 118, 101, 110, 116]⟩ : ByteArray)] from rfl) (Reps.one (show Kd.M Kd.string _ _ _ (⟨#[118, 97, 114]⟩ : ByteArray) [.string (⟨#[118, 97, 114]⟩ : ByteArray)] from rfl) (Reps.one (show Kd.M Kd.string _ _ _ (⟨#[108, 101, 97, 102]⟩ : ByteArray) [.string (⟨#[108, 101, 97, 102]⟩ : ByteArray)] from rfl) (Reps.one (show Kd.M Kd.string _ _ _ (⟨#[111, 114]⟩ : ByteArray) [.string (⟨#[111, 114]⟩ : ByteArray)] from rfl) (Reps.one (show Kd.M Kd.string _ _ _ (⟨#[97, 110, 100]⟩ : ByteArray) [.string (⟨#[97, 110, 100]⟩ : ByteArray)] from rfl) (Reps.one (show Kd.M Kd.string _ _ _ (⟨#[101, 110, 116, 101, 114]⟩ : ByteArray) [.string (⟨#[101, 110, 116, 101, 114]⟩ : ByteArray)] from rfl) (Reps.one (show Kd.M Kd.string _ _ _ (⟨#[101, 120, 105, 116]⟩ : ByteArray) [.string (⟨#[101, 120, 105, 116]⟩ : ByteArray)] from rfl) (Reps.one (show Kd.M Kd.string _ _ _ (⟨#[111, 110]⟩ : ByteArray) [.string (⟨#[111, 110]⟩ : ByteArray)] from rfl) (Reps.one (show Kd.M Kd.string _ _ _ (⟨#[97, 117, 116, 111]⟩ : ByteArray) [.string (⟨#[97, 117, 116, 111]⟩ : ByteArray)] from rfl) (Reps.one (show Kd.M Kd.string _ _ _ (⟨#[97, 110, 121]⟩ : ByteArray) [.string (⟨#[97, 110, 121]⟩ : ByteArray)] from rfl) (Reps.one (show Kd.M Kd.string _ _ _ (⟨#[105, 110]⟩ : ByteArray) [.string (⟨#[105, 110]⟩ : ByteArray)] from rfl) (Reps.one (show Kd.M Kd.string _ _ _ (⟨#[109, 105, 110]⟩ : ByteArray) [.string (⟨#[109, 105, 110]⟩ : ByteArray)] from rfl) (Reps.one (show Kd.M Kd.string _ _ _ (⟨#[109, 97, 120]⟩ : ByteArray) [.string (⟨#[109, 97, 120]⟩ : ByteArray)] from rfl) (Reps.one (show Kd.M Kd.string _ _ _ (⟨#[110, 111, 116]⟩ : ByteArray) [.string (⟨#[110, 111, 116]⟩ : ByteArray)] from rfl) (Reps.one (show Kd.M Kd.string _ _ _ (⟨#[116, 114, 117, 101]⟩ : ByteArray) [.string (⟨#[116, 114, 117, 101]⟩ : ByteArray)] from rfl) (Reps.one (show Kd.M Kd.string _ _ _ (⟨#[102, 97, 108, 115, 101]⟩ : ByteArray) [.string (⟨#[102, 97, 108, 115, 101]⟩ : ByteArray)] from rfl) (Reps.none _ _))))))))))))))))))); intro v103 w1 ho2 hb hg_ hnew_; clear hg_ hnew_; (first | rw [← Ny102.out] at ho2 | (simp only [Int.reduceToNat] at ho2; rw [← Ny102.out] at ho2)); have HO104 := Aside0.mk (Kd.R_lower ho2 (below_size (brw HB.out))); replace HB := ts_ HB hb; clear hb ho2))
 go_ret
 exact ⟨_, rv_, by (with_reducible repeat (first | apply Kd.R_alloc | apply Kd.R_drewN | apply Kd.R_drew)); exact HO104.out, by repeat (first | (with_reducible first | exact HB.out | apply below_alloc | apply pw_below_drewN | apply below_drew1) | exact HB.out)⟩

/-! ### semblanceref02_Is: function 28 -/
mutual
def semblanceref02_Is.j0 : Nat → ByteArray → Bool → Option (Bool)
  | 0, _, _ => none
  | k + 1, x0, x18 => if x18 = true then (some false) else (semblanceref02_Is.l0 k x0 0)
def semblanceref02_Is.l0 : Nat → ByteArray → Int → Option (Bool)
  | 0, _, _ => none
  | k + 1, x0, x3 => if x3 < (x0.size : Int) then (if 0 ≤ x3 then (if (wrap64 (bt x0 x3)) ≥ 97 then (semblanceref02_Is.j2 k x0 x3 (wrap64 (bt x0 x3)) (decide ((wrap64 (bt x0 x3)) ≤ 122))) else (semblanceref02_Is.j2 k x0 x3 (wrap64 (bt x0 x3)) false)) else (none)) else (some true)
def semblanceref02_Is.j2 : Nat → ByteArray → Int → Int → Bool → Option (Bool)
  | 0, _, _, _, _ => none
  | k + 1, x0, x3, x4, x34 => if x34 = true then (semblanceref02_Is.l0 k x0 (wrap64 (x3 + 1))) else (if x3 = 0 then (some false) else (if x4 = 95 then (semblanceref02_Is.l0 k x0 (wrap64 (x3 + 1))) else (if x4 < 48 then (some false) else (if x4 > 57 then (some false) else (semblanceref02_Is.l0 k x0 (wrap64 (x3 + 1)))))))
end
def semblanceref02_Is.f (k : Nat) (a0 : ByteArray) : Option (Bool) := if (a0.size : Int) < 1 then (semblanceref02_Is.j0 k a0 true) else (if (a0.size : Int) > 12 then (semblanceref02_Is.j0 k a0 true) else ((semblanceref02_Keywords.f).bind fun t105 => ((semblanceref02_Place.f k t105 a0).bind fun t108 => (semblanceref02_Is.j0 k a0 (decide (t108 ≥ 0))))))
theorem semblanceref02_Is.mono_l : ∀ k, (∀ y0 y1, LeO (semblanceref02_Is.j0 k y0 y1) (semblanceref02_Is.j0 (k + 1) y0 y1)) ∧ (∀ y0 y1, LeO (semblanceref02_Is.l0 k y0 y1) (semblanceref02_Is.l0 (k + 1) y0 y1)) ∧ (∀ y0 y1 y2 y3, LeO (semblanceref02_Is.j2 k y0 y1 y2 y3) (semblanceref02_Is.j2 (k + 1) y0 y1 y2 y3))
  | 0 => ⟨fun _ _ r h => by simp [semblanceref02_Is.j0] at h, fun _ _ r h => by simp [semblanceref02_Is.l0] at h, fun _ _ _ _ r h => by simp [semblanceref02_Is.j2] at h⟩
  | k + 1 => by
    obtain ⟨ih0, ih1, ih2⟩ := semblanceref02_Is.mono_l k
    refine ⟨?_, ?_, ?_⟩
    · intro y0 y1
      unfold semblanceref02_Is.j0
      exact mo_
    · intro y0 y1
      unfold semblanceref02_Is.l0
      exact mo_
    · intro y0 y1 y2 y3
      unfold semblanceref02_Is.j2
      exact mo_
theorem semblanceref02_Is.mono : ∀ a0 k, LeO (semblanceref02_Is.f k a0) (semblanceref02_Is.f (k + 1) a0) := by
  intro a0 k
  obtain ⟨ih0, ih1, ih2⟩ := semblanceref02_Is.mono_l k
  unfold semblanceref02_Is.f
  exact mo_
instance semblanceref02_Is.lc : ∀ a0 k, LeC (semblanceref02_Is.f k a0) (semblanceref02_Is.f (k + 1) a0) := fun a0 k => ⟨semblanceref02_Is.mono a0 k⟩
set_option maxHeartbeats 8000000 in
set_option maxRecDepth 100000 in
theorem semblanceref02_Is.calls (k : Nat) (a0 : ByteArray) (r : Bool) (w : World) (h : semblanceref02_Is.f k a0 = some r) :
  Calls Tryz.prog 28 #[.string a0] w fun e w' => e = .returned (.bool r) ∧ Below w.heap.size w w' := by
 have HB := Aside0.mk (Below.refl w.heap.size w)
 unfold semblanceref02_Is.f at h
 have HC2 := Aside0.mk h
 clear h
 go_enter Tryz.func28, Tryz.ntmps28
 go_upto_region 1 with (fail)
 go_cut [18] (fun v18 wc => ∃ (kq : Nat) (x18_1 : Bool), v18 = .bool x18_1 ∧ Aside0 (semblanceref02_Is.j0 kq a0 x18_1 = some r) ∧ Aside0 (kq ≤ k) ∧ Aside0 (Below w.heap.size w wc))
 case first =>
  have H := HC2.out
  clear HC2
  replace H := id_ H; obtain ⟨c3, H⟩ | ⟨c3, H⟩ := H
  ·have c3b0 : decide ((a0.size : Int) < 1) = true := decide_eq_true c3
   have c3b1 : decide (a0.size < 1) = true := decide_eq_true (by omega)
   clear c3
   (first | rw [c3b0] | (simp only [i64_w, i32_w]; rw [c3b0]) | rw [c3b1] | skip)
   have H' := Aside0.mk H
   clear H
   go_wp2
   go_meet
   case rel => exact ⟨_, (true), rl_, H', ⟨km_⟩, ⟨bw_⟩⟩
  have c3b0 : decide ((a0.size : Int) < 1) = false := decide_eq_false c3
  have c3b1 : decide (a0.size < 1) = false := decide_eq_false (by omega)
  clear c3
  (first | rw [c3b0] | (simp only [i64_w, i32_w]; rw [c3b0]) | rw [c3b1] | skip)
  replace H := id_ H; obtain ⟨c4, H⟩ | ⟨c4, H⟩ := H
  ·have c4b0 : decide (12 < (a0.size : Int)) = true := decide_eq_true c4
   have c4b1 : decide (12 < a0.size) = true := decide_eq_true (by omega)
   clear c4
   have H' := Aside0.mk H
   clear H
   go_wp2
   go_meet
   case rel => exact ⟨_, (true), rl_, H', ⟨km_⟩, ⟨bw_⟩⟩
  have c4b0 : decide (12 < (a0.size : Int)) = false := decide_eq_false c4
  have c4b1 : decide (12 < a0.size) = false := decide_eq_false (by omega)
  clear c4
  replace H := bi_ H; obtain ⟨t105, A5, H⟩ := H
  replace H := bi_ H; obtain ⟨t108, A6, H⟩ := H
  have H' := Aside0.mk H
  clear H
  go_wp2_with (first | (go_at_call 60; (with_reducible refine (semblanceref02_Keywords.calls  t105 _ A5.out).mono ?_); rintro e w7 ⟨v106, rfl, ho0, hb⟩; have hB_ := bu_ HB hb; have HO107 := Aside0.mk (Kd.R_lower ho0 (below_size hB_)); replace HB := Aside0.mk (below_step hB_ hb); clear hb; (try clear ho0); obtain ⟨Ao8, co8, eo8⟩ := Kd.R_slice HO107.out; subst eo8) | (go_at_call 39; (with_reducible refine (semblanceref02_Place.calls k _ _ t105 a0 t108 _ (kg_ (Kd.R_reads' HO107.out).2.2) (Kd.R_reads' HO107.out).2.1 A6.out).mono ?_); rintro e w' ⟨rfl, ⟨nd, rfl⟩⟩))
  go_meet
  case rel => exact ⟨_, (decide (t108 ≥ 0)), rl_, H', ⟨km_⟩, ⟨bw_⟩⟩
 case rest =>
  clear HC2
  obtain ⟨kq, x18_1, rfl, HA, HJ1, HB⟩ := hcut
  cases kq with
  | zero => exact absurd HA.out (by simp [semblanceref02_Is.j0])
  | succ kj1 =>
   have H := HA.out
   clear HA
   simp only [semblanceref02_Is.j0] at H
   replace H := ie_ H; obtain ⟨rfl, H⟩ | ⟨rfl, H⟩ := H
   ·obtain rfl := Option.some.inj H
    go_wp2
    go_ret
    exact ⟨rv_, bw_⟩
   have H' := Aside0.mk H
   clear H
   go_wp2
   go_loopg [3] kj1 (fun kq v3 w' => ∃ (x3_2 : Int), v3 = .int .i64 x3_2 ∧ Aside0 (semblanceref02_Is.l0 kq a0 x3_2 = some r) ∧ Aside0 (kq ≤ kj1) ∧ Aside0 (Below w.heap.size w w'))
   case atStart => exact ⟨(0), rl_, H', ⟨Nat.le_refl _⟩, ⟨bw_⟩⟩
   case round =>
    clear H'
    try clear c9
    obtain ⟨x3_2, rfl, HA, HK2, HB⟩ := hrel
    cases gk with
    | zero => exact absurd HA.out (by simp [semblanceref02_Is.l0])
    | succ k2 =>
     have H := HA.out
     clear HA
     simp only [semblanceref02_Is.l0] at H
     replace H := it_ H; obtain ⟨c10b0, H⟩ | ⟨c10b0, H⟩ := H
     ·obtain rfl := Option.some.inj H
      go_wp2
      go_ret
      exact ⟨rv_, bw_⟩

     replace H := is_ H; obtain ⟨c11b0, H⟩ := H
     have HC13 := Aside0.mk H
     clear H
     have p12 : 0 ≤ (x3_2 : Int) := of_decide_eq_true (by first | (with_reducible assumption) | assumption)
     have q12 : x3_2 < (a0.size : Int) := of_decide_eq_true (by first | (with_reducible assumption) | assumption)
     have hx12 := bt_at a0 x3_2
     replace p12 := eq_true p12
     replace q12 := eq_true q12
     go_upto_region 7 with (fail)
     go_cut [34] (fun v34 wc => ∃ (kq : Nat) (x34_12 : Bool), v34 = .bool x34_12 ∧ Aside0 (semblanceref02_Is.j2 kq a0 x3_2 (wrap64 (bt a0 x3_2)) x34_12 = some r) ∧ Aside0 (kq ≤ k2) ∧ Aside0 (Below w.heap.size w wc))
     case first =>
      have H := HC13.out
      clear HC13
      replace H := id_ H; obtain ⟨c14, H⟩ | ⟨c14, H⟩ := H
      ·have c14b0 : decide (97 ≤ (wrap64 (bt a0 x3_2))) = true := decide_eq_true c14
       clear c14
       (first | rw [c14b0] | (simp only [i64_w, i32_w]; rw [c14b0]) | skip)
       have H' := Aside0.mk H
       clear H
       go_wp2
       go_meet
       case rel => exact ⟨_, (decide ((wrap64 (bt a0 x3_2)) ≤ 122)), rl_, H', ⟨by have := HJ1.out; have := HK2.out; first | omega | exact Nat.le_refl _⟩, ⟨bw_⟩⟩
      have c14b0 : decide (97 ≤ (wrap64 (bt a0 x3_2))) = false := decide_eq_false c14
      clear c14
      (first | rw [c14b0] | (simp only [i64_w, i32_w]; rw [c14b0]) | skip)
      have H' := Aside0.mk H
      clear H
      go_wp2
      go_meet
      case rel => exact ⟨_, (false), rl_, H', ⟨by have := HJ1.out; have := HK2.out; first | omega | exact Nat.le_refl _⟩, ⟨bw_⟩⟩
     case rest =>
      clear HC13
      try clear c9
      try clear c10b0
      try clear c11b0
      try clear p12
      try clear q12
      try clear hx12
      try clear p12
      try clear q12
      obtain ⟨kq, x34_12, rfl, HA, HJ12, HB⟩ := hcut
      cases kq with
      | zero => exact absurd HA.out (by simp [semblanceref02_Is.j2])
      | succ kj12 =>
       have H := HA.out
       clear HA
       simp only [semblanceref02_Is.j2] at H
       replace H := ie_ H; obtain ⟨rfl, H⟩ | ⟨rfl, H⟩ := H
       ·have H' := Aside0.mk H
        clear H
        go_wp2
        go_roundg kj12
        case measure => have := HJ1.out; have := HK2.out; have := HJ12.out; omega
        case rel => exact ⟨(wrap64 (x3_2 + 1)), rl_, H', ⟨by have := HJ1.out; have := HK2.out; have := HJ12.out; omega⟩, ⟨bw_⟩⟩
       replace H := id_ H; obtain ⟨c16, H⟩ | ⟨c16, H⟩ := H
       ·have c16b0 : (x3_2 == 0) = true := beq_iff_eq.mpr c16
        have c16b1 : (x3_2 != 0) = false := bne_eq_false_iff_eq.mpr c16
        clear c16
        obtain rfl := Option.some.inj H
        go_wp2
        go_ret
        exact ⟨rv_, bw_⟩
       have c16b0 : (x3_2 == 0) = false := beq_eq_false_iff_ne.mpr c16
       have c16b1 : (x3_2 != 0) = true := bne_iff_ne.mpr c16
       replace H := id_ H; obtain ⟨c17, H⟩ | ⟨c17, H⟩ := H
       ·have c17b0 : ((wrap64 (bt a0 x3_2)) == 95) = true := beq_iff_eq.mpr c17
        have c17b1 : ((wrap64 (bt a0 x3_2)) != 95) = false := bne_eq_false_iff_eq.mpr c17
        clear c17
        have H' := Aside0.mk H
        clear H
        go_wp2
        go_roundg kj12
        case measure => have := HJ1.out; have := HK2.out; have := HJ12.out; omega
        case rel => exact ⟨(wrap64 (x3_2 + 1)), rl_, H', ⟨by have := HJ1.out; have := HK2.out; have := HJ12.out; omega⟩, ⟨bw_⟩⟩
       have c17b0 : ((wrap64 (bt a0 x3_2)) == 95) = false := beq_eq_false_iff_ne.mpr c17
       have c17b1 : ((wrap64 (bt a0 x3_2)) != 95) = true := bne_iff_ne.mpr c17
       replace H := iu_ H; obtain ⟨c18b0, H⟩ | ⟨c18b0, H⟩ := H
       ·obtain rfl := Option.some.inj H
        go_wp2
        go_ret
        exact ⟨rv_, bw_⟩
       replace H := id_ H; obtain ⟨c19, H⟩ | ⟨c19, H⟩ := H
       ·have c19b0 : decide (57 < (wrap64 (bt a0 x3_2))) = true := decide_eq_true c19
        clear c19
        obtain rfl := Option.some.inj H
        go_wp2
        go_ret
        exact ⟨rv_, bw_⟩
       have c19b0 : decide (57 < (wrap64 (bt a0 x3_2))) = false := decide_eq_false c19
       clear c19
       have H' := Aside0.mk H
       clear H
       go_wp2
       go_roundg kj12
       case measure => have := HJ1.out; have := HK2.out; have := HJ12.out; omega
       case rel => exact ⟨(wrap64 (x3_2 + 1)), rl_, H', ⟨by have := HJ1.out; have := HK2.out; have := HJ12.out; omega⟩, ⟨bw_⟩⟩
/-! ### semblanceref10_Above: function 62 -/
def semblanceref10_Above.l0 : Nat → List (S46) → Int → List Int → Option (List Int)
  | 0, _, _, _ => none
  | k + 1, x0, x1, x5 => if 0 ≤ x1 then (if x1 < (x0.length : Int) then (if ((rd_T46 x0 x1).f2) ≥ 0 then (if x5.length < 17592186044416 then (semblanceref10_Above.l0 k x0 ((rd_T46 x0 x1).f2) (x5 ++ [(rd_T46 x0 x1).f2])) else (none)) else (some x5)) else (none)) else (none)
def semblanceref10_Above.f (k : Nat) (l0 : List (S46)) (a1 : Int) : Option (List Int) := semblanceref10_Above.l0 k l0 a1 (([] : List Int))
theorem semblanceref10_Above.mono_l : ∀ k, (∀ y0 y1 y2, LeO (semblanceref10_Above.l0 k y0 y1 y2) (semblanceref10_Above.l0 (k + 1) y0 y1 y2))
  | 0 => fun _ _ _ r h => by simp [semblanceref10_Above.l0] at h
  | k + 1 => by
    have ih0 := semblanceref10_Above.mono_l k
    · intro y0 y1 y2
      unfold semblanceref10_Above.l0
      exact mo_
theorem semblanceref10_Above.mono : ∀ a0 a1 k, LeO (semblanceref10_Above.f k a0 a1) (semblanceref10_Above.f (k + 1) a0 a1) := by
  intro a0 a1 k
  have ih0 := semblanceref10_Above.mono_l k
  unfold semblanceref10_Above.f
  exact mo_
instance semblanceref10_Above.lc : ∀ a0 a1 k, LeC (semblanceref10_Above.f k a0 a1) (semblanceref10_Above.f (k + 1) a0 a1) := fun a0 a1 k => ⟨semblanceref10_Above.mono a0 a1 k⟩
theorem hc3_ {w W : World} {a : Addr} {v : Value} (hb : Below w.heap.size w W) (h : w.cell? a = some v) : W.cell? a = some v := (hb.cell (World.block_lt_of_cell? w _ h)).trans h
set_option maxHeartbeats 8000000 in
set_option maxRecDepth 100000 in
theorem semblanceref10_Above.calls (k : Nat) (A0 : Option Addr) (c0 : Nat) (l0 : List (S46)) (a1 : Int) (r : List Int) (w : World) (hr0 : Kd.C k46 w A0 l0.length l0) (hc0 : l0.length ≤ c0) (h : semblanceref10_Above.f k l0 a1 = some r) :
  Calls Tryz.prog 62 #[.slice A0 l0.length c0, .int .i64 a1] w fun e w' => ∃ v0_ : Value, e = .returned (v0_) ∧ Kd.R (Kd.int .i64) 3 w' w.heap.size (fun _ => True) v0_ r ∧ Below w.heap.size w w' := by
 have HR0 := Aside0.mk hr0
 have HC0 := Aside0.mk hc0
 clear hr0 hc0
 have HB := Aside0.mk (Below.refl w.heap.size w)
 unfold semblanceref10_Above.f at h
 have H := h
 clear h
 obtain ⟨y109, hy109⟩ : ∃ y_ : List Int, y_ = (([] : List Int)) := ⟨_, rfl⟩
 replace H : (semblanceref10_Above.l0 k l0 a1 y109) = some r := by first | (rw [hy109]; with_reducible exact H) | (have H2_ := (Option.bind_some _ _).symm.trans H; rw [hy109]; with_reducible exact H2_) | (have H2_ := (Option.bind_some _ _).symm.trans H; with_reducible exact H2_) | with_reducible exact H | (rw [hy109]; exact H) | exact H
 have Ny109 := Aside0.mk hy109
 clear hy109
 have H' := Aside0.mk H
 clear H
 go_enter Tryz.func62, Tryz.ntmps62
 go_wp2_with (first | ((with_reducible refine gate_dst (N := 6) rfl ?_); refine Kd.R_lit (Kd.int .i64) _ 3 ?hg (N := 6) ?hd (xs := ([] : List Int)) (inner := []) (ok := fun _ => True) (okp := fun _ => True) ?hr ?hp (fun _ hk => hk) trivial (Below.refl _ _) (Nat.le_refl _) (by simp) ?_; (case hd => rfl); (case hg => rfl); (case hr => first | (go_simp; done) | (go_simp; rfl)); (case hp => exact (Reps.none _ _)); intro v110 w3 ho4 hb hg_ hnew_; clear hg_ hnew_; (first | rw [← Ny109.out] at ho4 | (simp only [Int.reduceToNat] at ho4; rw [← Ny109.out] at ho4)); have HO111 := Aside0.mk (Kd.R_lower ho4 (below_size (brw HB.out))); replace HB := ts_ HB hb; clear hb ho4))
 go_loopg [1, 5] k (fun kq v1 v5 w' => ∃ (x1_1 : Int) (x5_1 : List Int), v1 = .int .i64 x1_1 ∧ Aside0 (semblanceref10_Above.l0 kq l0 x1_1 x5_1 = some r) ∧ Aside0 (kq ≤ k) ∧ Aside0 (Kd.R (Kd.int .i64) 3 w' w.heap.size (fun _ => True) v5 x5_1) ∧ Aside0 (Below w.heap.size w w'))
 case atStart => exact ⟨(a1), (y109), rl_, H', ⟨Nat.le_refl _⟩, ⟨by (with_reducible repeat (first | apply Kd.R_alloc | apply Kd.R_drewN | apply Kd.R_drew)); exact HO111.out⟩, ⟨bw_⟩⟩
 case round =>
  clear H'
  obtain ⟨x1_1, x5_1, rfl, HA, HK1, HO_5, HB⟩ := hrel
  cases gk with
  | zero => exact absurd HA.out (by simp [semblanceref10_Above.l0])
  | succ k1 =>
   have H := HA.out
   clear HA
   simp only [semblanceref10_Above.l0] at H
   replace H := ic_ H; obtain ⟨c5, H⟩ | ⟨c5, H⟩ := H
   ·exact absurd H (by simp)

   have c5b0 : decide (0 ≤ x1_1) = true := decide_eq_true c5
   clear c5
   replace H := is_ H; obtain ⟨c6b0, H⟩ := H
   replace H := ic_ H; obtain ⟨c7, H⟩ | ⟨c7, H⟩ := H
   ·have c7b0 : decide (0 ≤ ((rd_T46 l0 x1_1).f2)) = false := decide_eq_false c7
    clear c7
    obtain rfl := Option.some.inj H
    obtain ⟨ad112, A112_3, c112_3, A112_4, c112_4, A112_5, c112_5, e112, hx112_0, hx112_1, hx112_2, hx112_3, hx112_4, hx112_5, HC112_3, HR112_3, HC112_4, HR112_4, HC112_5, HR112_5, p112, q112⟩ := au_T46 HR0 HB x1_1; cases e112
    go_wp2
    go_ret
    exact ⟨_, rv_, by (with_reducible repeat (first | apply Kd.R_alloc | apply Kd.R_drewN | apply Kd.R_drew)); exact HO_5.out, by repeat (first | (with_reducible first | exact HB.out | apply below_alloc | apply pw_below_drewN | apply below_drew1) | exact HB.out)⟩
   have c7b0 : decide (0 ≤ ((rd_T46 l0 x1_1).f2)) = true := decide_eq_true c7
   clear c7
   replace H := ip_ H; obtain ⟨c8, H⟩ := H
   have LMc8 := Aside0.mk c8
   clear c8
   obtain ⟨y114, hy114⟩ : ∃ y_ : List Int, y_ = (x5_1 ++ [(rd_T46 l0 x1_1).f2]) := ⟨_, rfl⟩
   replace H : (semblanceref10_Above.l0 k1 l0 ((rd_T46 l0 x1_1).f2) y114) = some r := by first | (rw [hy114]; with_reducible exact H) | (have H2_ := (Option.bind_some _ _).symm.trans H; rw [hy114]; with_reducible exact H2_) | (have H2_ := (Option.bind_some _ _).symm.trans H; with_reducible exact H2_) | with_reducible exact H | (rw [hy114]; exact H) | exact H
   have Ny114 := Aside0.mk hy114
   clear hy114
   have H' := Aside0.mk H
   clear H
   obtain ⟨ad112, A112_3, c112_3, A112_4, c112_4, A112_5, c112_5, e112, hx112_0, hx112_1, hx112_2, hx112_3, hx112_4, hx112_5, HC112_3, HR112_3, HC112_4, HR112_4, HC112_5, HR112_5, p112, q112⟩ := au_T46 HR0 HB x1_1; cases e112
   have p113 : 0 ≤ (x1_1 : Int) := of_decide_eq_true (by first | (with_reducible assumption) | assumption)
   have q113 : x1_1 < (l0.length : Int) := of_decide_eq_true (by first | (with_reducible assumption) | assumption)
   obtain ⟨ad113, A113_3, c113_3, A113_4, c113_4, A113_5, c113_5, e113, hx113_0, hx113_1, hx113_2, hx113_3, hx113_4, hx113_5, hl113_3, hi113_3, hl113_4, hi113_4, hl113_5, hi113_5⟩ := at_T46 HR0.out x1_1 p113 q113
   obtain rfl : ad112 = ad113 := (by injection e113)
   replace hx113_0 := hc3_ HB.out hx113_0
   replace hx113_1 := hc3_ HB.out hx113_1
   replace hx113_2 := hc3_ HB.out hx113_2
   replace hx113_3 := hc3_ HB.out hx113_3
   replace hx113_4 := hc3_ HB.out hx113_4
   replace hx113_5 := hc3_ HB.out hx113_5
   have HR113_3 := Aside0.mk hi113_3
   have HC113_3 := Aside0.mk hl113_3
   clear hi113_3 hl113_3
   have HR113_4 := Aside0.mk hi113_4
   have HC113_4 := Aside0.mk hl113_4
   clear hi113_4 hl113_4
   have HR113_5 := Aside0.mk hi113_5
   have HC113_5 := Aside0.mk hl113_5
   clear hi113_5 hl113_5
   replace p113 := eq_true p113
   replace q113 := eq_true q113
   have ea_ := Option.some.inj (hx112_3.symm.trans hx113_3)
   injection ea_ with ea_ en_ ec_
   subst ea_
   subst ec_
   clear en_
   have ea_ := Option.some.inj (hx112_4.symm.trans hx113_4)
   injection ea_ with ea_ en_ ec_
   subst ea_
   subst ec_
   clear en_
   have ea_ := Option.some.inj (hx112_5.symm.trans hx113_5)
   injection ea_ with ea_ en_ ec_
   subst ea_
   subst ec_
   clear en_
   go_wp2_with (first | ((with_reducible refine gate_builtin (b := .append) (xs := #[.tmp 18, .tmp 20]) rfl ?_); at_builtin; refine Kd.R_append (Kd.int .i64) (w0 := w) w.heap.size rfl (.tmp 18) (.tmp 20) 95 3 (.int .i64 0) 8 rfl Tryz.underlying95 info3 rfl (by decide) (by omega) u5 x5_1 ((rd_T46 l0 x1_1).f2) [.int .i64 ((rd_T46 l0 x1_1).f2)] (fun _ => True) (fun _ => False) rfl rfl ?aP (fun _ hk => hk.elim) ?aF ?aO ?aB ?aS ?aL ?_; (case aP => exact rfl); (case aB => exact (brw HB.out)); (case aF => exact (fun _ _ => trivial)); (case aO => exact (kR_ HO_5)); (case aS => exact (below_size (brw HB.out))); (case aL => have := LMc8.out; omega); intro v115 w9 ho hb hg hat; rw [← Ny114.out] at ho; have HO116 := Aside0.mk (ho); replace HB := Aside0.mk (hb); clear ho hb hg hat))
   go_roundg k1
   case measure => have := HK1.out; omega
   case rel => exact ⟨((rd_T46 l0 x1_1).f2), (y114), rl_, H', ⟨kn_ HK1⟩, ⟨by (with_reducible repeat (first | apply Kd.R_alloc | apply Kd.R_drewN | apply Kd.R_drew)); exact HO116.out⟩, ⟨bw_⟩⟩
/-! ### semblanceref10_In: function 94 -/
def semblanceref10_In.l0 : Nat → List Int → Int → Int → Option (Bool)
  | 0, _, _, _ => none
  | k + 1, x0, x1, x5 => if x5 < (x0.length : Int) then (if 0 ≤ x5 then (if (rd x0 x5) = x1 then (some true) else (semblanceref10_In.l0 k x0 x1 (wrap64 (x5 + 1)))) else (none)) else (some false)
def semblanceref10_In.f (k : Nat) (l0 : List Int) (a1 : Int) : Option (Bool) := semblanceref10_In.l0 k l0 a1 0
theorem semblanceref10_In.mono_l : ∀ k, (∀ y0 y1 y2, LeO (semblanceref10_In.l0 k y0 y1 y2) (semblanceref10_In.l0 (k + 1) y0 y1 y2))
  | 0 => fun _ _ _ r h => by simp [semblanceref10_In.l0] at h
  | k + 1 => by
    have ih0 := semblanceref10_In.mono_l k
    · intro y0 y1 y2
      unfold semblanceref10_In.l0
      exact mo_
theorem semblanceref10_In.mono : ∀ a0 a1 k, LeO (semblanceref10_In.f k a0 a1) (semblanceref10_In.f (k + 1) a0 a1) := by
  intro a0 a1 k
  have ih0 := semblanceref10_In.mono_l k
  unfold semblanceref10_In.f
  exact mo_
instance semblanceref10_In.lc : ∀ a0 a1 k, LeC (semblanceref10_In.f k a0 a1) (semblanceref10_In.f (k + 1) a0 a1) := fun a0 a1 k => ⟨semblanceref10_In.mono a0 a1 k⟩
set_option maxHeartbeats 8000000 in
set_option maxRecDepth 100000 in
theorem semblanceref10_In.calls (k : Nat) (A0 : Option Addr) (c0 : Nat) (l0 : List Int) (a1 : Int) (r : Bool) (w : World) (hr0 : Kd.C (Kd.int .i64) w A0 l0.length l0) (hc0 : l0.length ≤ c0) (h : semblanceref10_In.f k l0 a1 = some r) :
  Calls Tryz.prog 94 #[.slice A0 l0.length c0, .int .i64 a1] w fun e w' => e = .returned (.bool r) ∧ Drawn0 w w' := by
 have HR0 := Aside0.mk hr0
 have HC0 := Aside0.mk hc0
 clear hr0 hc0
 unfold semblanceref10_In.f at h
 have H := h
 clear h
 have H' := Aside0.mk H
 clear H
 go_enter Tryz.func94, Tryz.ntmps94
 go_wp2
 go_loopg [5] k (fun kq v5 w' => ∃ (x5_1 : Int), v5 = .int .i64 x5_1 ∧ Aside0 (semblanceref10_In.l0 kq l0 a1 x5_1 = some r) ∧ Aside0 (kq ≤ k) ∧ Drawn0 w w')
 case atStart => exact ⟨(0), rl_, H', ⟨Nat.le_refl _⟩, dw_⟩
 case round =>
  clear H'
  obtain ⟨x5_1, rfl, HA, HK1, ⟨m1, rfl⟩⟩ := hrel
  cases gk with
  | zero => exact absurd HA.out (by simp [semblanceref10_In.l0])
  | succ k1 =>
   have H := HA.out
   clear HA
   simp only [semblanceref10_In.l0] at H
   replace H := it_ H; obtain ⟨c3b0, H⟩ | ⟨c3b0, H⟩ := H
   ·obtain rfl := Option.some.inj H
    go_wp2
    go_ret
    exact ⟨rl_, dw_⟩

   replace H := is_ H; obtain ⟨c4b0, H⟩ := H
   replace H := id_ H; obtain ⟨c5, H⟩ | ⟨c5, H⟩ := H
   ·have c5b0 : ((rd l0 x5_1) == a1) = true := beq_iff_eq.mpr c5
    have c5b1 : ((rd l0 x5_1) != a1) = false := bne_eq_false_iff_eq.mpr c5
    clear c5
    obtain rfl := Option.some.inj H
    have p117 : 0 ≤ (x5_1 : Int) := of_decide_eq_true (by first | (with_reducible assumption) | assumption)
    have q117 : x5_1 < (l0.length : Int) := of_decide_eq_true (by first | (with_reducible assumption) | assumption)
    obtain ⟨ad117, e117, hx117_0⟩ := Kd.at_int HR0.out x5_1 p117 q117
    cases e117
    replace p117 := eq_true p117
    replace q117 := eq_true q117
    go_wp2
    go_ret
    exact ⟨rl_, dw_⟩
   have c5b0 : ((rd l0 x5_1) == a1) = false := beq_eq_false_iff_ne.mpr c5
   have c5b1 : ((rd l0 x5_1) != a1) = true := bne_iff_ne.mpr c5
   have H' := Aside0.mk H
   clear H
   have p117 : 0 ≤ (x5_1 : Int) := of_decide_eq_true (by first | (with_reducible assumption) | assumption)
   have q117 : x5_1 < (l0.length : Int) := of_decide_eq_true (by first | (with_reducible assumption) | assumption)
   obtain ⟨ad117, e117, hx117_0⟩ := Kd.at_int HR0.out x5_1 p117 q117
   cases e117
   replace p117 := eq_true p117
   replace q117 := eq_true q117
   go_wp2
   go_roundg k1
   case measure => have := HK1.out; omega
   case rel => exact ⟨(wrap64 (x5_1 + 1)), rl_, H', ⟨kn_ HK1⟩, dw_⟩
/-! ### semblanceref10_may: function 61 -/
mutual
def semblanceref10_may.j0 : Nat → List (S46) → Bool → Option (Bool)
  | 0, _, _ => none
  | k + 1, x0, x14 => if x14 = true then (some false) else (semblanceref10_may.l0 k x0 0)
def semblanceref10_may.l0 : Nat → List (S46) → Int → Option (Bool)
  | 0, _, _ => none
  | k + 1, x0, x3 => if x3 < (x0.length : Int) then (if 0 ≤ x3 then (if ((rd_T46 x0 x3).f1) < 1 then (semblanceref10_may.j2 k x0 x3 true) else (semblanceref10_may.j2 k x0 x3 (decide (((rd_T46 x0 x3).f1) > 3)))) else (none)) else (some true)
def semblanceref10_may.j2 : Nat → List (S46) → Int → Bool → Option (Bool)
  | 0, _, _, _ => none
  | k + 1, x0, x3, x34 => if x34 = true then (some false) else (if x3 = 0 then (semblanceref10_may.l0 k x0 (wrap64 (x3 + 1))) else (if 0 ≤ x3 then (if x3 < (x0.length : Int) then (if ((rd_T46 x0 x3).f2) < 0 then (some false) else (if ((rd_T46 x0 x3).f2) ≥ x3 then (some false) else (if 0 ≤ ((rd_T46 x0 x3).f2) then (if ((rd_T46 x0 x3).f2) < (x0.length : Int) then (if ((rd_T46 x0 ((rd_T46 x0 x3).f2)).f1) = 1 then (some false) else (if ((rd_T46 x0 x3).f2) = (wrap64 (x3 - 1)) then (semblanceref10_may.l0 k x0 (wrap64 (x3 + 1))) else ((semblanceref10_Above.f k x0 (wrap64 (x3 - 1))).bind fun t123 => ((semblanceref10_In.f k t123 ((rd_T46 x0 x3).f2)).bind fun t126 => (if t126 = true then (semblanceref10_may.l0 k x0 (wrap64 (x3 + 1))) else (some false)))))) else (none)) else (none)))) else (none)) else (none)))
end
def semblanceref10_may.f (k : Nat) (l0 : List (S46)) : Option (Bool) := if (l0.length : Int) < 1 then (semblanceref10_may.j0 k l0 true) else (if 0 < (l0.length : Int) then (semblanceref10_may.j0 k l0 (((rd_T46 l0 0).f2) != (-1))) else (none))
theorem semblanceref10_may.mono_l : ∀ k, (∀ y0 y1, LeO (semblanceref10_may.j0 k y0 y1) (semblanceref10_may.j0 (k + 1) y0 y1)) ∧ (∀ y0 y1, LeO (semblanceref10_may.l0 k y0 y1) (semblanceref10_may.l0 (k + 1) y0 y1)) ∧ (∀ y0 y1 y2, LeO (semblanceref10_may.j2 k y0 y1 y2) (semblanceref10_may.j2 (k + 1) y0 y1 y2))
  | 0 => ⟨fun _ _ r h => by simp [semblanceref10_may.j0] at h, fun _ _ r h => by simp [semblanceref10_may.l0] at h, fun _ _ _ r h => by simp [semblanceref10_may.j2] at h⟩
  | k + 1 => by
    obtain ⟨ih0, ih1, ih2⟩ := semblanceref10_may.mono_l k
    refine ⟨?_, ?_, ?_⟩
    · intro y0 y1
      unfold semblanceref10_may.j0
      exact mo_
    · intro y0 y1
      unfold semblanceref10_may.l0
      exact mo_
    · intro y0 y1 y2
      unfold semblanceref10_may.j2
      exact mo_
theorem semblanceref10_may.mono : ∀ a0 k, LeO (semblanceref10_may.f k a0) (semblanceref10_may.f (k + 1) a0) := by
  intro a0 k
  obtain ⟨ih0, ih1, ih2⟩ := semblanceref10_may.mono_l k
  unfold semblanceref10_may.f
  exact mo_
instance semblanceref10_may.lc : ∀ a0 k, LeC (semblanceref10_may.f k a0) (semblanceref10_may.f (k + 1) a0) := fun a0 k => ⟨semblanceref10_may.mono a0 k⟩
theorem hc5_ {w W : World} {a : Addr} {v : Value} (hb : Below w.heap.size w W) (h : w.cell? a = some v) : W.cell? a = some v := (hb.cell (World.block_lt_of_cell? w _ h)).trans h
theorem bz5_ {W W2 w : World} (_ : Below W.heap.size W W2) (h : Below w.heap.size w W) : Below w.heap.size w W := h
set_option maxHeartbeats 8000000 in
set_option maxRecDepth 100000 in
theorem semblanceref10_may.calls (k : Nat) (A0 : Option Addr) (c0 : Nat) (l0 : List (S46)) (r : Bool) (w : World) (hr0 : Kd.C k46 w A0 l0.length l0) (hc0 : l0.length ≤ c0) (h : semblanceref10_may.f k l0 = some r) :
  Calls Tryz.prog 61 #[.slice A0 l0.length c0] w fun e w' => e = .returned (.bool r) ∧ Below w.heap.size w w' := by
 have HR0 := Aside0.mk hr0
 have HC0 := Aside0.mk hc0
 clear hr0 hc0
 have HB := Aside0.mk (Below.refl w.heap.size w)
 unfold semblanceref10_may.f at h
 have HC2 := Aside0.mk h
 clear h
 go_enter Tryz.func61, Tryz.ntmps61
 go_upto_region 1 with (fail)
 go_cut [14] (fun v14 wc => ∃ (kq : Nat) (x14_1 : Bool), v14 = .bool x14_1 ∧ Aside0 (semblanceref10_may.j0 kq l0 x14_1 = some r) ∧ Aside0 (kq ≤ k) ∧ Aside0 (Below w.heap.size w wc))
 case first =>
  have H := HC2.out
  clear HC2
  replace H := id_ H; obtain ⟨c3, H⟩ | ⟨c3, H⟩ := H
  ·have c3b0 : decide ((l0.length : Int) < 1) = true := decide_eq_true c3
   have c3b1 : decide (l0.length < 1) = true := decide_eq_true (by omega)
   clear c3
   (first | rw [c3b0] | (simp only [i64_w, i32_w]; rw [c3b0]) | rw [c3b1] | skip)
   have H' := Aside0.mk H
   clear H
   go_wp2
   go_meet
   case rel => exact ⟨_, (true), rl_, H', ⟨km_⟩, ⟨bw_⟩⟩
  have c3b0 : decide ((l0.length : Int) < 1) = false := decide_eq_false c3
  have c3b1 : decide (l0.length < 1) = false := decide_eq_false (by omega)
  clear c3
  (first | rw [c3b0] | (simp only [i64_w, i32_w]; rw [c3b0]) | rw [c3b1] | skip)
  replace H := ip_ H; obtain ⟨c4, H⟩ := H
  have c4b0 : decide (0 < (l0.length : Int)) = true := decide_eq_true c4
  have c4b1 : decide (0 < l0.length) = true := decide_eq_true (by omega)
  clear c4
  have H' := Aside0.mk H
  clear H
  have p118 : 0 ≤ (0 : Int) := (by omega)
  have q118 : 0 < (l0.length : Int) := of_decide_eq_true (by first | (with_reducible assumption) | assumption)
  obtain ⟨ad118, A118_3, c118_3, A118_4, c118_4, A118_5, c118_5, e118, hx118_0, hx118_1, hx118_2, hx118_3, hx118_4, hx118_5, hl118_3, hi118_3, hl118_4, hi118_4, hl118_5, hi118_5⟩ := at_T46 HR0.out 0 p118 q118
  cases e118
  have qi118 : (0 < l0.length) = True := eq_true (by omega)
  (try rw [show ((0 : Int)).toNat = 0 from rfl] at hx118_0)
  (try rw [show 0 * 6 = 0 from rfl] at hx118_0)
  (try rw [Addr.add_zero'] at hx118_0)
  (try rw [show ((0 : Int)).toNat = 0 from rfl] at hx118_1)
  (try rw [show 0 * 6 = 0 from rfl] at hx118_1)
  (try rw [Addr.add_zero'] at hx118_1)
  (try rw [show ((0 : Int)).toNat = 0 from rfl] at hx118_2)
  (try rw [show 0 * 6 = 0 from rfl] at hx118_2)
  (try rw [Addr.add_zero'] at hx118_2)
  (try rw [show ((0 : Int)).toNat = 0 from rfl] at hx118_3)
  (try rw [show 0 * 6 = 0 from rfl] at hx118_3)
  (try rw [Addr.add_zero'] at hx118_3)
  (try rw [show ((0 : Int)).toNat = 0 from rfl] at hx118_4)
  (try rw [show 0 * 6 = 0 from rfl] at hx118_4)
  (try rw [Addr.add_zero'] at hx118_4)
  (try rw [show ((0 : Int)).toNat = 0 from rfl] at hx118_5)
  (try rw [show 0 * 6 = 0 from rfl] at hx118_5)
  (try rw [Addr.add_zero'] at hx118_5)
  replace hx118_0 := hc5_ HB.out hx118_0
  replace hx118_1 := hc5_ HB.out hx118_1
  replace hx118_2 := hc5_ HB.out hx118_2
  replace hx118_3 := hc5_ HB.out hx118_3
  replace hx118_4 := hc5_ HB.out hx118_4
  replace hx118_5 := hc5_ HB.out hx118_5
  have HR118_3 := Aside0.mk hi118_3
  have HC118_3 := Aside0.mk hl118_3
  clear hi118_3 hl118_3
  have HR118_4 := Aside0.mk hi118_4
  have HC118_4 := Aside0.mk hl118_4
  clear hi118_4 hl118_4
  have HR118_5 := Aside0.mk hi118_5
  have HC118_5 := Aside0.mk hl118_5
  clear hi118_5 hl118_5
  replace p118 := eq_true p118
  replace q118 := eq_true q118
  go_wp2
  go_meet
  case rel => exact ⟨_, ((((rd_T46 l0 0).f2) != (-1))), rl_, H', ⟨km_⟩, ⟨bw_⟩⟩
 case rest =>
  clear HC2
  obtain ⟨kq, x14_1, rfl, HA, HJ1, HB⟩ := hcut
  cases kq with
  | zero => exact absurd HA.out (by simp [semblanceref10_may.j0])
  | succ kj1 =>
   have H := HA.out
   clear HA
   simp only [semblanceref10_may.j0] at H
   replace H := ie_ H; obtain ⟨rfl, H⟩ | ⟨rfl, H⟩ := H
   ·obtain rfl := Option.some.inj H
    go_wp2
    go_ret
    exact ⟨rv_, bw_⟩
   have H' := Aside0.mk H
   clear H
   go_wp2
   go_loopg [3] kj1 (fun kq v3 w' => ∃ (x3_2 : Int), v3 = .int .i64 x3_2 ∧ Aside0 (semblanceref10_may.l0 kq l0 x3_2 = some r) ∧ Aside0 (kq ≤ kj1) ∧ Aside0 (Below w.heap.size w w'))
   case atStart => exact ⟨(0), rl_, H', ⟨Nat.le_refl _⟩, ⟨bw_⟩⟩
   case round =>
    clear H'
    try clear c5
    obtain ⟨x3_2, rfl, HA, HK2, HB⟩ := hrel
    cases gk with
    | zero => exact absurd HA.out (by simp [semblanceref10_may.l0])
    | succ k2 =>
     have H := HA.out
     clear HA
     simp only [semblanceref10_may.l0] at H
     replace H := it_ H; obtain ⟨c6b0, H⟩ | ⟨c6b0, H⟩ := H
     ·obtain rfl := Option.some.inj H
      go_wp2
      go_ret
      exact ⟨rv_, bw_⟩

     have HC7 := Aside0.mk H
     clear H
     go_upto_region 6 with (fail)
     go_cut [34] (fun v34 wc => ∃ (kq : Nat) (x34_6 : Bool), v34 = .bool x34_6 ∧ Aside0 (semblanceref10_may.j2 kq l0 x3_2 x34_6 = some r) ∧ Aside0 (kq ≤ k2) ∧ Aside0 (Below w.heap.size w wc))
     case first =>
      have H := HC7.out
      clear HC7
      replace H := is_ H; obtain ⟨c8b0, H⟩ := H
      (first | rw [c8b0] | (simp only [i64_w, i32_w]; rw [c8b0]) | skip)
      have HZ_ := Aside0.mk H
      clear H
      obtain ⟨ad119, A119_3, c119_3, A119_4, c119_4, A119_5, c119_5, e119, hx119_0, hx119_1, hx119_2, hx119_3, hx119_4, hx119_5, HC119_3, HR119_3, HC119_4, HR119_4, HC119_5, HR119_5, p119, q119⟩ := au_T46 HR0 HB x3_2; cases e119
      have H := HZ_.out
      clear HZ_
      replace H := iu_ H; obtain ⟨c9b0, H⟩ | ⟨c9b0, H⟩ := H
      ·have H' := Aside0.mk H
       clear H
       go_wp2
       go_meet
       case rel => exact ⟨_, (true), rl_, H', ⟨by have := HJ1.out; have := HK2.out; first | omega | exact Nat.le_refl _⟩, ⟨bw_⟩⟩
      have H' := Aside0.mk H
      clear H
      have p120 : 0 ≤ (x3_2 : Int) := of_decide_eq_true (by first | (with_reducible assumption) | assumption)
      have q120 : x3_2 < (l0.length : Int) := of_decide_eq_true (by first | (with_reducible assumption) | assumption)
      obtain ⟨ad120, A120_3, c120_3, A120_4, c120_4, A120_5, c120_5, e120, hx120_0, hx120_1, hx120_2, hx120_3, hx120_4, hx120_5, hl120_3, hi120_3, hl120_4, hi120_4, hl120_5, hi120_5⟩ := at_T46 HR0.out x3_2 p120 q120
      obtain rfl : ad119 = ad120 := (by injection e120)
      replace hx120_0 := hc5_ HB.out hx120_0
      replace hx120_1 := hc5_ HB.out hx120_1
      replace hx120_2 := hc5_ HB.out hx120_2
      replace hx120_3 := hc5_ HB.out hx120_3
      replace hx120_4 := hc5_ HB.out hx120_4
      replace hx120_5 := hc5_ HB.out hx120_5
      have HR120_3 := Aside0.mk hi120_3
      have HC120_3 := Aside0.mk hl120_3
      clear hi120_3 hl120_3
      have HR120_4 := Aside0.mk hi120_4
      have HC120_4 := Aside0.mk hl120_4
      clear hi120_4 hl120_4
      have HR120_5 := Aside0.mk hi120_5
      have HC120_5 := Aside0.mk hl120_5
      clear hi120_5 hl120_5
      replace p120 := eq_true p120
      replace q120 := eq_true q120
      have ea_ := Option.some.inj (hx119_3.symm.trans hx120_3)
      injection ea_ with ea_ en_ ec_
      subst ea_
      subst ec_
      clear en_
      have ea_ := Option.some.inj (hx119_4.symm.trans hx120_4)
      injection ea_ with ea_ en_ ec_
      subst ea_
      subst ec_
      clear en_
      have ea_ := Option.some.inj (hx119_5.symm.trans hx120_5)
      injection ea_ with ea_ en_ ec_
      subst ea_
      subst ec_
      clear en_
      go_wp2
      go_meet
      case rel => exact ⟨_, (decide (((rd_T46 l0 x3_2).f1) > 3)), rl_, H', ⟨by have := HJ1.out; have := HK2.out; first | omega | exact Nat.le_refl _⟩, ⟨bw_⟩⟩
     case rest =>
      clear HC7
      try clear c5
      try clear c6b0
      obtain ⟨kq, x34_6, rfl, HA, HJ6, HB⟩ := hcut
      cases kq with
      | zero => exact absurd HA.out (by simp [semblanceref10_may.j2])
      | succ kj6 =>
       have H := HA.out
       clear HA
       simp only [semblanceref10_may.j2] at H
       replace H := ie_ H; obtain ⟨rfl, H⟩ | ⟨rfl, H⟩ := H
       ·obtain rfl := Option.some.inj H
        go_wp2
        go_ret
        exact ⟨rv_, bw_⟩
       replace H := id_ H; obtain ⟨c11, H⟩ | ⟨c11, H⟩ := H
       ·have c11b0 : (x3_2 == 0) = true := beq_iff_eq.mpr c11
        have c11b1 : (x3_2 != 0) = false := bne_eq_false_iff_eq.mpr c11
        clear c11
        have H' := Aside0.mk H
        clear H
        go_wp2
        go_roundg kj6
        case measure => have := HJ1.out; have := HK2.out; have := HJ6.out; omega
        case rel => exact ⟨(wrap64 (x3_2 + 1)), rl_, H', ⟨by have := HJ1.out; have := HK2.out; have := HJ6.out; omega⟩, ⟨bw_⟩⟩
       have c11b0 : (x3_2 == 0) = false := beq_eq_false_iff_ne.mpr c11
       have c11b1 : (x3_2 != 0) = true := bne_iff_ne.mpr c11
       replace H := is_ H; obtain ⟨c12b0, H⟩ := H
       replace H := is_ H; obtain ⟨c13b0, H⟩ := H
       have HZ_ := Aside0.mk H
       clear H
       obtain ⟨ad121, A121_3, c121_3, A121_4, c121_4, A121_5, c121_5, e121, hx121_0, hx121_1, hx121_2, hx121_3, hx121_4, hx121_5, HC121_3, HR121_3, HC121_4, HR121_4, HC121_5, HR121_5, p121, q121⟩ := au_T46 HR0 HB x3_2; cases e121
       have H := HZ_.out
       clear HZ_
       replace H := iu_ H; obtain ⟨c14b0, H⟩ | ⟨c14b0, H⟩ := H
       ·obtain rfl := Option.some.inj H
        go_wp2
        go_ret
        exact ⟨rv_, bw_⟩
       replace H := id_ H; obtain ⟨c15, H⟩ | ⟨c15, H⟩ := H
       ·have c15b0 : decide (x3_2 ≤ ((rd_T46 l0 x3_2).f2)) = true := decide_eq_true c15
        clear c15
        obtain rfl := Option.some.inj H
        go_wp2
        go_ret
        exact ⟨rv_, bw_⟩
       have c15b0 : decide (x3_2 ≤ ((rd_T46 l0 x3_2).f2)) = false := decide_eq_false c15
       clear c15
       replace H := is_ H; obtain ⟨c16b0, H⟩ := H
       replace H := is_ H; obtain ⟨c17b0, H⟩ := H
       have HZ_ := Aside0.mk H
       clear H
       have p122 : 0 ≤ (((rd_T46 l0 x3_2).f2) : Int) := of_decide_eq_true (by first | (with_reducible assumption) | assumption)
       have q122 : ((rd_T46 l0 x3_2).f2) < (l0.length : Int) := of_decide_eq_true (by first | (with_reducible assumption) | assumption)
       obtain ⟨ad122, A122_3, c122_3, A122_4, c122_4, A122_5, c122_5, e122, hx122_0, hx122_1, hx122_2, hx122_3, hx122_4, hx122_5, hl122_3, hi122_3, hl122_4, hi122_4, hl122_5, hi122_5⟩ := at_T46 HR0.out ((rd_T46 l0 x3_2).f2) p122 q122
       obtain rfl : ad121 = ad122 := (by injection e122)
       replace hx122_0 := hc5_ HB.out hx122_0
       replace hx122_1 := hc5_ HB.out hx122_1
       replace hx122_2 := hc5_ HB.out hx122_2
       replace hx122_3 := hc5_ HB.out hx122_3
       replace hx122_4 := hc5_ HB.out hx122_4
       replace hx122_5 := hc5_ HB.out hx122_5
       have HR122_3 := Aside0.mk hi122_3
       have HC122_3 := Aside0.mk hl122_3
       clear hi122_3 hl122_3
       have HR122_4 := Aside0.mk hi122_4
       have HC122_4 := Aside0.mk hl122_4
       clear hi122_4 hl122_4
       have HR122_5 := Aside0.mk hi122_5
       have HC122_5 := Aside0.mk hl122_5
       clear hi122_5 hl122_5
       replace p122 := eq_true p122
       replace q122 := eq_true q122
       have H := HZ_.out
       clear HZ_
       replace H := id_ H; obtain ⟨c18, H⟩ | ⟨c18, H⟩ := H
       ·have c18b0 : (((rd_T46 l0 ((rd_T46 l0 x3_2).f2)).f1) == 1) = true := beq_iff_eq.mpr c18
        have c18b1 : (((rd_T46 l0 ((rd_T46 l0 x3_2).f2)).f1) != 1) = false := bne_eq_false_iff_eq.mpr c18
        clear c18
        obtain rfl := Option.some.inj H
        go_wp2
        go_ret
        exact ⟨rv_, bw_⟩
       have c18b0 : (((rd_T46 l0 ((rd_T46 l0 x3_2).f2)).f1) == 1) = false := beq_eq_false_iff_ne.mpr c18
       have c18b1 : (((rd_T46 l0 ((rd_T46 l0 x3_2).f2)).f1) != 1) = true := bne_iff_ne.mpr c18
       replace H := id_ H; obtain ⟨c19, H⟩ | ⟨c19, H⟩ := H
       ·have c19b0 : (((rd_T46 l0 x3_2).f2) == (wrap64 (x3_2 - 1))) = true := beq_iff_eq.mpr c19
        have c19b1 : (((rd_T46 l0 x3_2).f2) != (wrap64 (x3_2 - 1))) = false := bne_eq_false_iff_eq.mpr c19
        clear c19
        have H' := Aside0.mk H
        clear H
        go_wp2
        go_roundg kj6
        case measure => have := HJ1.out; have := HK2.out; have := HJ6.out; omega
        case rel => exact ⟨(wrap64 (x3_2 + 1)), rl_, H', ⟨by have := HJ1.out; have := HK2.out; have := HJ6.out; omega⟩, ⟨bw_⟩⟩
       have c19b0 : (((rd_T46 l0 x3_2).f2) == (wrap64 (x3_2 - 1))) = false := beq_eq_false_iff_ne.mpr c19
       have c19b1 : (((rd_T46 l0 x3_2).f2) != (wrap64 (x3_2 - 1))) = true := bne_iff_ne.mpr c19
       replace H := bi_ H; obtain ⟨t123, A20, H⟩ := H
       replace H := bi_ H; obtain ⟨t126, A21, H⟩ := H
       replace H := ib_ H; obtain ⟨rfl, H⟩ | ⟨rfl, H⟩ := H
       ·obtain rfl := Option.some.inj H
        go_wp2_with (first | (go_at_call 62; (with_reducible refine (semblanceref10_Above.calls kj6 _ _ l0 (wrap64 (x3_2 - 1)) t123 _ (kc_ HR0 HB) HC0.out A20.out).mono ?_); rintro e w25 ⟨v124, rfl, ho0, hb⟩; have hB_ := bu_ HB hb; have HO125 := Aside0.mk (Kd.R_lower ho0 (below_size hB_)); replace HB := Aside0.mk (below_step hB_ hb); clear hb; (try clear ho0); obtain ⟨Ao26, co26, eo26⟩ := Kd.R_slice HO125.out; subst eo26) | (go_at_call 94; (with_reducible refine (semblanceref10_In.calls kj6 _ _ t123 ((rd_T46 l0 x3_2).f2) false _ (kg_ (Kd.R_reads' HO125.out).2.2) (Kd.R_reads' HO125.out).2.1 A21.out).mono ?_); rintro e w' ⟨rfl, ⟨nd, rfl⟩⟩))
        go_ret
        exact ⟨rv_, bw_⟩
       have H' := Aside0.mk H
       clear H
       go_wp2_with (first | (go_at_call 62; (with_reducible refine (semblanceref10_Above.calls kj6 _ _ l0 (wrap64 (x3_2 - 1)) t123 _ (kc_ HR0 HB) HC0.out A20.out).mono ?_); rintro e w23 ⟨v124, rfl, ho0, hb⟩; have hB_ := bu_ HB hb; have HO125 := Aside0.mk (Kd.R_lower ho0 (below_size hB_)); replace HB := Aside0.mk (below_step hB_ hb); clear hb; (try clear ho0); obtain ⟨Ao24, co24, eo24⟩ := Kd.R_slice HO125.out; subst eo24) | (go_at_call 94; (with_reducible refine (semblanceref10_In.calls kj6 _ _ t123 ((rd_T46 l0 x3_2).f2) true _ (kg_ (Kd.R_reads' HO125.out).2.2) (Kd.R_reads' HO125.out).2.1 A21.out).mono ?_); rintro e w' ⟨rfl, ⟨nd, rfl⟩⟩))
       go_roundg kj6
       case measure => have := HJ1.out; have := HK2.out; have := HJ6.out; omega
       case rel => exact ⟨(wrap64 (x3_2 + 1)), rl_, H', ⟨by have := HJ1.out; have := HK2.out; have := HJ6.out; omega⟩, ⟨bw_⟩⟩
end Go.Proofs.YtbkaiojofgmbnaaGreat.XS
