-- written by wip/xprint.py out of the translation
import Derived.Test.YtbkaiojofgmbnaaGreatXShort
import Derived.Test.YtbkaiojofgmbnaaGreatXSp0
import Derived.Test.YtbkaiojofgmbnaaGreatXSp4
import Derived.Test.YtbkaiojofgmbnaaGreatXSp11
namespace Go.Proofs.YtbkaiojofgmbnaaGreat.XS
open Go.Proofs.YtbkaiojofgmbnaaGreat.XShort Go.Proofs.YtbkaiojofgmbnaaGreat.XReg Go.Proofs.YtbkaiojofgmbnaaGreat.XGrow Go.RowKit Go.Proofs.YtbkaiojofgmbnaaGreatW.PrintWords Go.Proofs.YtbkaiojofgmbnaaGreatW.PrintLast Go.Proofs.YtbkaiojofgmbnaaGreatW.PrintMore
attribute [local go_sem] max2_int min2_int max_two min_two max_three min_three max_four min_four   -- for this text's walks alone
set_option linter.unusedVariables false
set_option linter.unusedSimpArgs false

/-! ### semblanceref14_HasState: function 93 -/
def semblanceref14_HasState.l0 : Nat → ByteArray → Int → ByteArray → List ByteArray → List (S50) → List (S46) → Option (Bool)
  | 0, _, _, _, _, _, _ => none
  | k + 1, x1, x5, x299000, x299001, x299002, x299003 => if x5 < (x299003.length : Int) then (if 0 ≤ x5 then (if ((rd_T46 x299003 x5).f0).toList = x1.toList then (some true) else (semblanceref14_HasState.l0 k x1 (wrap64 (x5 + 1)) x299000 x299001 x299002 x299003)) else (none)) else (some false)
def semblanceref14_HasState.f (k : Nat) (a0_0 : ByteArray) (l0_1 : List ByteArray) (l0_2 : List (S50)) (l0_3 : List (S46)) (a1 : ByteArray) : Option (Bool) := semblanceref14_HasState.l0 k a1 0 a0_0 l0_1 l0_2 l0_3
theorem semblanceref14_HasState.mono_l : ∀ k, (∀ y0 y1 y2 y3 y4 y5, LeO (semblanceref14_HasState.l0 k y0 y1 y2 y3 y4 y5) (semblanceref14_HasState.l0 (k + 1) y0 y1 y2 y3 y4 y5))
  | 0 => fun _ _ _ _ _ _ r h => by simp [semblanceref14_HasState.l0] at h
  | k + 1 => by
    have ih0 := semblanceref14_HasState.mono_l k
    · intro y0 y1 y2 y3 y4 y5
      unfold semblanceref14_HasState.l0
      exact mo_
theorem semblanceref14_HasState.mono : ∀ a0 a1 a2 a3 a4 k, LeO (semblanceref14_HasState.f k a0 a1 a2 a3 a4) (semblanceref14_HasState.f (k + 1) a0 a1 a2 a3 a4) := by
  intro a0 a1 a2 a3 a4 k
  have ih0 := semblanceref14_HasState.mono_l k
  unfold semblanceref14_HasState.f
  exact mo_
instance semblanceref14_HasState.lc : ∀ a0 a1 a2 a3 a4 k, LeC (semblanceref14_HasState.f k a0 a1 a2 a3 a4) (semblanceref14_HasState.f (k + 1) a0 a1 a2 a3 a4) := fun a0 a1 a2 a3 a4 k => ⟨semblanceref14_HasState.mono a0 a1 a2 a3 a4 k⟩
set_option maxHeartbeats 8000000 in
set_option maxRecDepth 100000 in
theorem semblanceref14_HasState.calls (k : Nat) (a0_0 : ByteArray) (A0_1 : Option Addr) (c0_1 : Nat) (l0_1 : List ByteArray) (A0_2 : Option Addr) (c0_2 : Nat) (l0_2 : List (S50)) (A0_3 : Option Addr) (c0_3 : Nat) (l0_3 : List (S46)) (a1 : ByteArray) (r : Bool) (w : World) (hr0_1 : Kd.C Kd.string w A0_1 l0_1.length l0_1) (hc0_1 : l0_1.length ≤ c0_1) (hr0_2 : Kd.C k50 w A0_2 l0_2.length l0_2) (hc0_2 : l0_2.length ≤ c0_2) (hr0_3 : Kd.C k46 w A0_3 l0_3.length l0_3) (hc0_3 : l0_3.length ≤ c0_3) (h : semblanceref14_HasState.f k a0_0 l0_1 l0_2 l0_3 a1 = some r) :
  Calls Tryz.prog 93 #[.agg #[.string a0_0, .slice A0_1 l0_1.length c0_1, .slice A0_2 l0_2.length c0_2, .slice A0_3 l0_3.length c0_3], .string a1] w fun e w' => e = .returned (.bool r) ∧ Below w.heap.size w w' := by
 have hu26 := Tryz.underlying26
 have HR0_1 := Aside0.mk hr0_1
 have HC0_1 := Aside0.mk hc0_1
 clear hr0_1 hc0_1
 have HR0_2 := Aside0.mk hr0_2
 have HC0_2 := Aside0.mk hc0_2
 clear hr0_2 hc0_2
 have HR0_3 := Aside0.mk hr0_3
 have HC0_3 := Aside0.mk hc0_3
 clear hr0_3 hc0_3
 have HB := Aside0.mk (Below.refl w.heap.size w)
 unfold semblanceref14_HasState.f at h
 have H := h
 clear h
 have H' := Aside0.mk H
 clear H
 go_enter Tryz.func93, Tryz.ntmps93
 go_wp2_with (first | ((with_reducible refine gate_dst (N := 2) rfl ?_); refine bx_ HB (N := 2) (cs := #[.string a0_0, .slice A0_1 l0_1.length c0_1, .slice A0_2 l0_2.length c0_2, .slice A0_3 l0_3.length c0_3]) (t := 26) ?_; clear HB; intro gb298 w3 HB BK298 GW298 GE298))
 go_loopg [5] k (fun kq v5 w' => ∃ (x5_1 : Int), v5 = .int .i64 x5_1 ∧ Aside0 (semblanceref14_HasState.l0 kq a1 x5_1 a0_0 l0_1 l0_2 l0_3 = some r) ∧ Aside0 (kq ≤ k) ∧ Aside0 (w'.heap[gb298]? = some (.cells #[.string a0_0, (.slice A0_1 l0_1.length c0_1), (.slice A0_2 l0_2.length c0_2), (.slice A0_3 l0_3.length c0_3)] 26 (0, 0))) ∧ Aside0 (Below w.heap.size w w'))
 case atStart => exact ⟨(0), rl_, H', ⟨Nat.le_refl _⟩, ⟨grw BK298.out⟩, ⟨bw_⟩⟩
 case round =>
  clear H'
  obtain ⟨x5_1, rfl, HA, HK1, BK298, HB⟩ := hrel
  cases gk with
  | zero => exact absurd HA.out (by simp [semblanceref14_HasState.l0])
  | succ k1 =>
   have H := HA.out
   clear HA
   simp only [semblanceref14_HasState.l0] at H
   replace H := it_ H; obtain ⟨c4b0, H⟩ | ⟨c4b0, H⟩ := H
   ·obtain rfl := Option.some.inj H
    obtain ⟨z9_0, z9_1, z9_2, z9_3, y9_0, y9_1, y9_2, y9_3⟩ := cw4_ BK298.out
    go_wp2
    go_ret
    exact ⟨rv_, bw_⟩

   replace H := is_ H; obtain ⟨c5b0, H⟩ := H
   replace H := id_ H; obtain ⟨c6, H⟩ | ⟨c6, H⟩ := H
   ·have c6b0 : (((rd_T46 l0_3 x5_1).f0).toList == a1.toList) = true := beq_iff_eq.mpr c6
    have c6b1 : (((rd_T46 l0_3 x5_1).f0).toList != a1.toList) = false := bne_eq_false_iff_eq.mpr c6
    clear c6
    obtain rfl := Option.some.inj H
    obtain ⟨z7_0, z7_1, z7_2, z7_3, y7_0, y7_1, y7_2, y7_3⟩ := cw4_ BK298.out
    obtain ⟨ad299, A299_3, c299_3, A299_4, c299_4, A299_5, c299_5, e299, hx299_0, hx299_1, hx299_2, hx299_3, hx299_4, hx299_5, HC299_3, HR299_3, HC299_4, HR299_4, HC299_5, HR299_5, p299, q299⟩ := au_T46 HR0_3 HB x5_1; cases e299
    go_wp2
    go_ret
    exact ⟨rv_, bw_⟩
   have c6b0 : (((rd_T46 l0_3 x5_1).f0).toList == a1.toList) = false := beq_eq_false_iff_ne.mpr c6
   have c6b1 : (((rd_T46 l0_3 x5_1).f0).toList != a1.toList) = true := bne_iff_ne.mpr c6
   have H' := Aside0.mk H
   clear H
   obtain ⟨z8_0, z8_1, z8_2, z8_3, y8_0, y8_1, y8_2, y8_3⟩ := cw4_ BK298.out
   obtain ⟨ad299, A299_3, c299_3, A299_4, c299_4, A299_5, c299_5, e299, hx299_0, hx299_1, hx299_2, hx299_3, hx299_4, hx299_5, HC299_3, HR299_3, HC299_4, HR299_4, HC299_5, HR299_5, p299, q299⟩ := au_T46 HR0_3 HB x5_1; cases e299
   go_wp2
   go_roundg k1
   case measure => have := HK1.out; omega
   case rel => exact ⟨(wrap64 (x5_1 + 1)), rl_, H', ⟨kn_ HK1⟩, ⟨grw BK298.out⟩, ⟨bw_⟩⟩
/-! ### semblanceref05_Type: function 111 -/
mutual
def semblanceref05_Type.j0 : Nat → List (S78) → Int → List Int → Int → Bool → Option (Int)
  | 0, _, _, _, _, _ => none
  | k + 1, x0, x5, x6, x7, x22 => if x22 = true then (semblanceref05_Type.j1 k x0 x5 x6 2) else (semblanceref05_Type.j1 k x0 x5 x6 x7)
def semblanceref05_Type.j1 : Nat → List (S78) → Int → List Int → Int → Option (Int)
  | 0, _, _, _, _ => none
  | k + 1, x0, x5, x6, x7 => semblanceref05_Type.l0 k x0 x5 x6 x7 0
def semblanceref05_Type.l0 : Nat → List (S78) → Int → List Int → Int → Int → Option (Int)
  | 0, _, _, _, _, _ => none
  | k + 1, x0, x5, x6, x7, x8 => if x8 < (x6.length : Int) then (if 0 ≤ x8 then ((semblanceref05_Type.f k x0 (rd x6 x8)).bind fun t305 => (if t305 = x7 then (semblanceref05_Type.l0 k x0 x5 x6 x7 (wrap64 (x8 + 1))) else (some 0))) else (none)) else (if x5 ≤ 8 then (some 1) else (some 2))
def semblanceref05_Type.f : Nat → List (S78) → Int → Option (Int)
  | 0, _, _ => none
  | k + 1, l0, a1 => if 0 ≤ a1 then (if a1 < (l0.length : Int) then ((semblanceref05_Below.f k l0 a1).bind fun t301 => (if ((rd_T78 l0 a1).f0) = 12 then (semblanceref05_Type.j0 k l0 ((rd_T78 l0 a1).f0) t301 1 true) else (semblanceref05_Type.j0 k l0 ((rd_T78 l0 a1).f0) t301 1 (decide (((rd_T78 l0 a1).f0) ≥ 19))))) else (none)) else (none)
end
theorem semblanceref05_Type.mono_l : ∀ k, (∀ y0 y1, LeO (semblanceref05_Type.f k y0 y1) (semblanceref05_Type.f (k + 1) y0 y1)) ∧ (∀ y0 y1 y2 y3 y4, LeO (semblanceref05_Type.j0 k y0 y1 y2 y3 y4) (semblanceref05_Type.j0 (k + 1) y0 y1 y2 y3 y4)) ∧ (∀ y0 y1 y2 y3, LeO (semblanceref05_Type.j1 k y0 y1 y2 y3) (semblanceref05_Type.j1 (k + 1) y0 y1 y2 y3)) ∧ (∀ y0 y1 y2 y3 y4, LeO (semblanceref05_Type.l0 k y0 y1 y2 y3 y4) (semblanceref05_Type.l0 (k + 1) y0 y1 y2 y3 y4))
  | 0 => ⟨fun _ _ r h => by simp [semblanceref05_Type.f] at h, fun _ _ _ _ _ r h => by simp [semblanceref05_Type.j0] at h, fun _ _ _ _ r h => by simp [semblanceref05_Type.j1] at h, fun _ _ _ _ _ r h => by simp [semblanceref05_Type.l0] at h⟩
  | k + 1 => by
    obtain ⟨ih0, ih1, ih2, ih3⟩ := semblanceref05_Type.mono_l k
    refine ⟨?_, ?_, ?_, ?_⟩
    · intro y0 y1
      unfold semblanceref05_Type.f
      exact mo_
    · intro y0 y1 y2 y3 y4
      unfold semblanceref05_Type.j0
      exact mo_
    · intro y0 y1 y2 y3
      unfold semblanceref05_Type.j1
      exact mo_
    · intro y0 y1 y2 y3 y4
      unfold semblanceref05_Type.l0
      exact mo_
theorem semblanceref05_Type.mono : ∀ a0 a1 k, LeO (semblanceref05_Type.f k a0 a1) (semblanceref05_Type.f (k + 1) a0 a1) := by
  intro a0 a1 k
  obtain ⟨ih0, ih1, ih2, ih3⟩ := semblanceref05_Type.mono_l k
  exact ih0 a0 a1
instance semblanceref05_Type.lc : ∀ a0 a1 k, LeC (semblanceref05_Type.f k a0 a1) (semblanceref05_Type.f (k + 1) a0 a1) := fun a0 a1 k => ⟨semblanceref05_Type.mono a0 a1 k⟩
set_option maxHeartbeats 8000000 in
set_option maxRecDepth 100000 in
theorem semblanceref05_Type.calls (k : Nat) : ∀ (A0 : Option Addr) (c0 : Nat) (l0 : List (S78)) (a1 : Int) (r : Int) (w : World) (hr0 : Kd.C k78 w A0 l0.length l0) (hc0 : l0.length ≤ c0) (h : semblanceref05_Type.f k l0 a1 = some r),
  Calls Tryz.prog 111 #[.slice A0 l0.length c0, .int .i64 a1] w fun e w' => e = .returned (.int .i64 r) ∧ Below w.heap.size w w' := by
 induction k using Nat.strongRecOn with
 | _ k ih =>
 intro A0 c0 l0 a1 r w hr0 hc0 h
 cases k with
 | zero => exact absurd h (by simp [semblanceref05_Type.f])
 | succ k =>
 simp only [semblanceref05_Type.f] at h
 have HR0 := Aside0.mk hr0
 have HC0 := Aside0.mk hc0
 clear hr0 hc0
 have HB := Aside0.mk (Below.refl w.heap.size w)
 have H : (if 0 ≤ a1 then (if a1 < (l0.length : Int) then ((semblanceref05_Below.f k l0 a1).bind fun t301 => (if ((rd_T78 l0 a1).f0) = 12 then (semblanceref05_Type.j0 k l0 ((rd_T78 l0 a1).f0) t301 1 true) else (semblanceref05_Type.j0 k l0 ((rd_T78 l0 a1).f0) t301 1 (decide (((rd_T78 l0 a1).f0) ≥ 19))))) else (none)) else (none)) = some r := h
 clear h
 replace H := ic_ H; obtain ⟨c3, H⟩ | ⟨c3, H⟩ := H
 ·exact absurd H (by simp)

 have c3b0 : decide (0 ≤ a1) = true := decide_eq_true c3
 clear c3
 replace H := is_ H; obtain ⟨c4b0, H⟩ := H
 replace H := bi_ H; obtain ⟨t301, A5, H⟩ := H
 have HC6 := Aside0.mk H
 clear H
 obtain ⟨ad300, e300, hx300_0, hx300_1, hx300_2, p300, q300⟩ := au_T78 HR0 ⟨Below.refl _ _⟩ a1; cases e300
 go_enter Tryz.func111, Tryz.ntmps111
 go_upto_region 4 with (first | ((with_reducible refine gate_callee (f := 113) rfl ?_); refine gl_ (some 16) Tryz.func113 #[.slice (some ad300) l0.length c0, .int .i64 a1] ?_; (with_reducible refine (semblanceref05_Below.calls k _ _ l0 a1 t301 _ (kg_ HR0.out) HC0.out A5.out).mono ?_); rintro e w7 ⟨v302, rfl, ho0, hb⟩; have hB_ := bu_ HB hb; refine ⟨_, rfl, ?_⟩; have HO303 := Aside0.mk (Kd.R_lower ho0 (below_size hB_)); replace HB := Aside0.mk (below_step hB_ hb); clear hb; (try clear ho0)))
 (try simp only [Act.put, sb_, s0_, s1_])
 go_cut [22] (fun v22 wc => ∃ (kq : Nat) (x22_5 : Bool), v22 = .bool x22_5 ∧ Aside0 (semblanceref05_Type.j0 kq l0 ((rd_T78 l0 a1).f0) t301 1 x22_5 = some r) ∧ Aside0 (kq ≤ k) ∧ Aside0 (Kd.R (Kd.int .i64) 3 wc w.heap.size (fun _ => True) v302 t301) ∧ Aside0 (Below w.heap.size w wc))
 case first =>
  have H := HC6.out
  clear HC6
  replace H := ic_ H; obtain ⟨c8, H⟩ | ⟨c8, H⟩ := H
  ·have c8b0 : (((rd_T78 l0 a1).f0) == 12) = false := beq_eq_false_iff_ne.mpr c8
   have c8b1 : (((rd_T78 l0 a1).f0) != 12) = true := bne_iff_ne.mpr c8
   (first | rw [c8b0] | (simp only [i64_w, i32_w]; rw [c8b0]) | skip)
   have H' := Aside0.mk H
   clear H
   go_wp2
   go_meet
   case rel => exact ⟨_, (decide (((rd_T78 l0 a1).f0) ≥ 19)), rl_, H', ⟨km_⟩, ⟨by (with_reducible repeat (first | apply Kd.R_alloc | apply Kd.R_drewN | apply Kd.R_drew)); exact HO303.out⟩, ⟨bw_⟩⟩
  have c8b0 : (((rd_T78 l0 a1).f0) == 12) = true := beq_iff_eq.mpr c8
  have c8b1 : (((rd_T78 l0 a1).f0) != 12) = false := bne_eq_false_iff_eq.mpr c8
  clear c8
  (first | rw [c8b0] | (simp only [i64_w, i32_w]; rw [c8b0]) | skip)
  have H' := Aside0.mk H
  clear H
  go_wp2
  go_meet
  case rel => exact ⟨_, (true), rl_, H', ⟨km_⟩, ⟨by (with_reducible repeat (first | apply Kd.R_alloc | apply Kd.R_drewN | apply Kd.R_drew)); exact HO303.out⟩, ⟨bw_⟩⟩
 case rest =>
  clear HC6
  try clear c3b0
  try clear c4b0
  try clear hx300_0
  try clear hx300_1
  try clear hx300_2
  try clear p300
  try clear q300
  obtain ⟨kq, x22_5, rfl, HA, HJ5, HO_6, HB⟩ := hcut
  cases kq with
  | zero => exact absurd HA.out (by simp [semblanceref05_Type.j0])
  | succ kj5 =>
   have H := HA.out
   clear HA
   simp only [semblanceref05_Type.j0] at H
   have HC9 := Aside0.mk H
   clear H
   go_upto_if 22 with (fail)
   go_cut [7] (fun v7 wc => ∃ (kq : Nat) (x7_8 : Int), v7 = .int .i64 x7_8 ∧ Aside0 (semblanceref05_Type.j1 kq l0 ((rd_T78 l0 a1).f0) t301 x7_8 = some r) ∧ Aside0 (kq ≤ kj5) ∧ Aside0 (Kd.R (Kd.int .i64) 3 wc w.heap.size (fun _ => True) v302 t301) ∧ Aside0 (Below w.heap.size w wc))
   case first =>
    have H := HC9.out
    clear HC9
    replace H := ie_ H; obtain ⟨rfl, H⟩ | ⟨rfl, H⟩ := H
    ·have H' := Aside0.mk H
     clear H
     go_wp2
     go_meet
     case rel => exact ⟨_, (2), rl_, H', ⟨kn_ HJ5⟩, ⟨by (with_reducible repeat (first | apply Kd.R_alloc | apply Kd.R_drewN | apply Kd.R_drew)); exact HO_6.out⟩, ⟨bw_⟩⟩
    have H' := Aside0.mk H
    clear H
    go_wp2
    go_meet
    case rel => exact ⟨_, (1), rl_, H', ⟨kn_ HJ5⟩, ⟨by (with_reducible repeat (first | apply Kd.R_alloc | apply Kd.R_drewN | apply Kd.R_drew)); exact HO_6.out⟩, ⟨bw_⟩⟩
   case rest =>
    clear HC9
    try clear c3b0
    try clear c4b0
    try clear hx300_0
    try clear hx300_1
    try clear hx300_2
    try clear p300
    try clear q300
    obtain ⟨kq, x7_8, rfl, HA, HJ8, HO_6, HB⟩ := hcut
    cases kq with
    | zero => exact absurd HA.out (by simp [semblanceref05_Type.j1])
    | succ kj8 =>
     have H := HA.out
     clear HA
     simp only [semblanceref05_Type.j1] at H
     have H' := Aside0.mk H
     clear H
     go_wp2
     go_loopg [8] kj8 (fun kq v8 w' => ∃ (x8_3 : Int), v8 = .int .i64 x8_3 ∧ Aside0 (semblanceref05_Type.l0 kq l0 ((rd_T78 l0 a1).f0) t301 x7_8 x8_3 = some r) ∧ Aside0 (kq ≤ kj8) ∧ Aside0 (Kd.R (Kd.int .i64) 3 w' w.heap.size (fun _ => True) v302 t301) ∧ Aside0 (Below w.heap.size w w'))
     case atStart => exact ⟨(0), rl_, H', ⟨Nat.le_refl _⟩, ⟨by (with_reducible repeat (first | apply Kd.R_alloc | apply Kd.R_drewN | apply Kd.R_drew)); exact HO_6.out⟩, ⟨bw_⟩⟩
     case round =>
      clear H'
      try clear c3b0
      try clear c4b0
      try clear hx300_0
      try clear hx300_1
      try clear hx300_2
      try clear p300
      try clear q300
      obtain ⟨x8_3, rfl, HA, HK3, HO_6, HB⟩ := hrel
      cases gk with
      | zero => exact absurd HA.out (by simp [semblanceref05_Type.l0])
      | succ k3 =>
       have H := HA.out
       clear HA
       simp only [semblanceref05_Type.l0] at H
       replace H := it_ H; obtain ⟨c11b0, H⟩ | ⟨c11b0, H⟩ := H
       ·by_cases c19 : ((rd_T78 l0 a1).f0) ≤ 8
        ·rw [if_pos c19] at H
         have c19b0 : decide (((rd_T78 l0 a1).f0) ≤ 8) = true := decide_eq_true c19
         clear c19
         obtain rfl := Option.some.inj H
         obtain ⟨Ao20, co20, eo20⟩ := Kd.R_slice HO_6.out
         subst eo20
         go_wp2
         go_ret
         exact ⟨rv_, bw_⟩
        rw [if_neg c19] at H
        have c19b0 : decide (((rd_T78 l0 a1).f0) ≤ 8) = false := decide_eq_false c19
        clear c19
        obtain rfl := Option.some.inj H
        obtain ⟨Ao21, co21, eo21⟩ := Kd.R_slice HO_6.out
        subst eo21
        go_wp2
        go_ret
        exact ⟨rv_, bw_⟩
       replace H := is_ H; obtain ⟨c12b0, H⟩ := H
       replace H := bi_ H; obtain ⟨t305, A13, H⟩ := H
       replace H := ic_ H; obtain ⟨c14, H⟩ | ⟨c14, H⟩ := H
       ·have c14b0 : (t305 == x7_8) = false := beq_eq_false_iff_ne.mpr c14
        have c14b1 : (t305 != x7_8) = true := bne_iff_ne.mpr c14
        obtain rfl := Option.some.inj H
        obtain ⟨Ao17, co17, eo17⟩ := Kd.R_slice HO_6.out
        subst eo17
        have p304 : 0 ≤ (x8_3 : Int) := of_decide_eq_true (by first | (with_reducible assumption) | assumption)
        have q304 : x8_3 < (t301.length : Int) := of_decide_eq_true (by first | (with_reducible assumption) | assumption)
        obtain ⟨ad304, e304, hx304_0⟩ := Kd.at_int (Kd.R_reads' HO_6.out).2.2 x8_3 p304 q304
        cases e304
        replace p304 := eq_true p304
        replace q304 := eq_true q304
        go_wp2_with (first | ((with_reducible refine gate_callee (f := 111) rfl ?_); refine gl_ (some 34) Tryz.func111 #[.slice (some ad300) l0.length c0, .int .i64 (rd t301 x8_3)] ?_; (with_reducible refine cm_ (ih k3 (by have := HJ5.out; have := HJ8.out; have := HK3.out; omega) _ _ l0 (rd t301 x8_3) t305 _ (kc_ HR0 HB) HC0.out A13.out) ?_); intro w18 hb; refine ⟨_, rfl, ?_⟩; replace HO_6 := Aside0.mk (Kd.R_below (kR_ HO_6) hb); replace HB := ts_ HB hb; clear hb))
        go_ret
        exact ⟨rv_, bw_⟩
       have c14b0 : (t305 == x7_8) = true := beq_iff_eq.mpr c14
       have c14b1 : (t305 != x7_8) = false := bne_eq_false_iff_eq.mpr c14
       clear c14
       have H' := Aside0.mk H
       clear H
       obtain ⟨Ao15, co15, eo15⟩ := Kd.R_slice HO_6.out
       subst eo15
       have p304 : 0 ≤ (x8_3 : Int) := of_decide_eq_true (by first | (with_reducible assumption) | assumption)
       have q304 : x8_3 < (t301.length : Int) := of_decide_eq_true (by first | (with_reducible assumption) | assumption)
       obtain ⟨ad304, e304, hx304_0⟩ := Kd.at_int (Kd.R_reads' HO_6.out).2.2 x8_3 p304 q304
       cases e304
       replace p304 := eq_true p304
       replace q304 := eq_true q304
       go_wp2_with (first | ((with_reducible refine gate_callee (f := 111) rfl ?_); refine gl_ (some 34) Tryz.func111 #[.slice (some ad300) l0.length c0, .int .i64 (rd t301 x8_3)] ?_; (with_reducible refine cm_ (ih k3 (by have := HJ5.out; have := HJ8.out; have := HK3.out; omega) _ _ l0 (rd t301 x8_3) t305 _ (kc_ HR0 HB) HC0.out A13.out) ?_); intro w16 hb; refine ⟨_, rfl, ?_⟩; replace HO_6 := Aside0.mk (Kd.R_below (kR_ HO_6) hb); replace HB := ts_ HB hb; clear hb))
       go_roundg k3
       case measure => have := HJ5.out; have := HJ8.out; have := HK3.out; omega
       case rel => exact ⟨(wrap64 (x8_3 + 1)), rl_, H', ⟨by have := HJ5.out; have := HJ8.out; have := HK3.out; omega⟩, ⟨by (with_reducible repeat (first | apply Kd.R_alloc | apply Kd.R_drewN | apply Kd.R_drew)); exact HO_6.out⟩, ⟨bw_⟩⟩
/-! ### semblanceref14_expr: function 91 -/
-- USES semblance/semblanceref12.small
-- USES semblance/semblanceref14.HasVar
-- USES semblance/semblanceref14.HasState
-- USES semblance/semblanceref05.Type
/-- is a term's name there? -/
def semblanceref14_expr.ok (k : Nat) (a0 : ByteArray) (l1 : List ByteArray) (l2 : List (S50)) (l3 : List (S46)) (x : S78) : Option Bool := if x.f0 = 2 then semblanceref14_HasVar.f k a0 l1 l2 l3 x.f2 else if x.f0 = 11 then semblanceref14_HasState.f k a0 l1 l2 l3 x.f2 else some true
def semblanceref14_expr.f (k : Nat) (a0 : ByteArray) (l1 : List ByteArray) (l2 : List (S50)) (l3 : List (S46)) (l : List (S78)) (kind : Int) : Option Bool := (allO l (semblanceref14_expr.ok k a0 l1 l2 l3)).bind fun e => if e = true then (semblanceref05_Type.f k l 0).bind fun t => some (t == kind) else some false
theorem semblanceref14_expr.ok_mono : ∀ k a0 l1 l2 l3 x, LeO (semblanceref14_expr.ok k a0 l1 l2 l3 x) (semblanceref14_expr.ok (k + 1) a0 l1 l2 l3 x) := by
  intro k a0 l1 l2 l3 x
  unfold semblanceref14_expr.ok
  exact LeO.ite (semblanceref14_HasVar.mono _ _ _ _ _ k) (LeO.ite (semblanceref14_HasState.mono _ _ _ _ _ k) (LeO.refl _))
theorem semblanceref14_expr.mono : ∀ a0 l1 l2 l3 l kind k, LeO (semblanceref14_expr.f k a0 l1 l2 l3 l kind) (semblanceref14_expr.f (k + 1) a0 l1 l2 l3 l kind) := by
  intro a0 l1 l2 l3 l kind k
  unfold semblanceref14_expr.f
  exact LeO.bind (allO_mono (fun x => semblanceref14_expr.ok_mono k a0 l1 l2 l3 x)) (fun _ => LeO.ite (LeO.bind (semblanceref05_Type.mono _ _ k) (fun _ => LeO.refl _)) (LeO.refl _))
instance semblanceref14_expr.lc : ∀ a0 l1 l2 l3 l kind k, LeC (semblanceref14_expr.f k a0 l1 l2 l3 l kind) (semblanceref14_expr.f (k + 1) a0 l1 l2 l3 l kind) := fun a0 l1 l2 l3 l kind k => ⟨semblanceref14_expr.mono a0 l1 l2 l3 l kind k⟩
set_option maxHeartbeats 16000000 in
set_option maxRecDepth 100000 in
open Go.Proofs.YtbkaiojofgmbnaaGreat.XReg in
theorem semblanceref14_expr.calls (k : Nat) (a0_0 : ByteArray) (A0_1 : Option Addr) (c0_1 : Nat) (l0_1 : List ByteArray) (A0_2 : Option Addr) (c0_2 : Nat) (l0_2 : List (S50)) (A0_3 : Option Addr) (c0_3 : Nat) (l0_3 : List (S46)) (A1 : Option Addr) (c1 : Nat) (l1 : List (S78)) (a2 : Int) (r : Bool) (w : World) (hr0_1 : Kd.C Kd.string w A0_1 l0_1.length l0_1) (hc0_1 : l0_1.length ≤ c0_1) (hr0_2 : Kd.C k50 w A0_2 l0_2.length l0_2) (hc0_2 : l0_2.length ≤ c0_2) (hr0_3 : Kd.C k46 w A0_3 l0_3.length l0_3) (hc0_3 : l0_3.length ≤ c0_3) (hr1 : Kd.C k78 w A1 l1.length l1) (hc1 : l1.length ≤ c1) (h : semblanceref14_expr.f k a0_0 l0_1 l0_2 l0_3 l1 a2 = some r) :
    Calls Tryz.prog 91 #[.agg #[.string a0_0, .slice A0_1 l0_1.length c0_1, .slice A0_2 l0_2.length c0_2, .slice A0_3 l0_3.length c0_3], .slice A1 l1.length c1, .int .i64 a2] w fun e w' => e = .returned (.bool r) ∧ Below w.heap.size w w' := by
  unfold semblanceref14_expr.f at h
  obtain ⟨e0, he, h⟩ := Option.bind_eq_some_iff.mp h
  have HE := Aside0.mk he
  have HH := Aside0.mk h
  clear he h
  obtain ⟨w1, hw1⟩ : ∃ w1, w1 = w.alloc (.cells #[.string a0_0, .slice A0_1 l0_1.length c0_1, .slice A0_2 l0_2.length c0_2, .slice A0_3 l0_3.length c0_3] 26) := ⟨_, rfl⟩
  have hb1 : Below w.heap.size w w1 := by rw [hw1]; exact (Below.refl _ _).alloc (Nat.le_refl _) _
  have HK : Aside0 (w1.heap[w.heap.size]? = some (.cells #[.string a0_0, .slice A0_1 l0_1.length c0_1, .slice A0_2 l0_2.length c0_2, .slice A0_3 l0_3.length c0_3] 26 (0, 0))) := ⟨by rw [hw1]; exact heap_alloc_new w _⟩
  have HR1 := Aside0.mk (Kd.C_below hr0_1 hb1)
  have HR2 := Aside0.mk (Kd.C_below hr0_2 hb1)
  have HR3 := Aside0.mk (Kd.C_below hr0_3 hb1)
  have HCC := Aside0.mk (And.intro hc0_1 (And.intro hc0_2 hc0_3))
  have HB1 := Aside0.mk hb1
  have hu2 := Tryz.underlying26
  have HRL := Aside0.mk (Kd.C_below hr1 hb1)
  have HC1 := Aside0.mk hc1
  have hm1 := Kd.C_max hr1
  have hu3 := Tryz.underlying78
  clear hr0_1 hr0_2 hr0_3 hb1 hc0_1 hc0_2 hc0_3 hr1 hc1
  subst hw1
  go_enter Tryz.func91, Tryz.ntmps91
  go_wp2_with fail
  generalize w.alloc (.cells #[.string a0_0, .slice A0_1 l0_1.length c0_1, .slice A0_2 l0_2.length c0_2, .slice A0_3 l0_3.length c0_3] 26) = w1 at *
  go_loopg [7] l1.length (fun kq v9 wr => ∃ i : Nat, Aside0 (l1.length - i = kq) ∧ Aside0 (i ≤ l1.length) ∧ v9 = .int .i64 (i : Int) ∧ Aside0 (Below w1.heap.size w1 wr) ∧ Aside0 (∀ j : Nat, j < i → semblanceref14_expr.ok k a0_0 l0_1 l0_2 l0_3 (l1.getD j z78) = some true))
  case atStart => exact ⟨0, ⟨rfl⟩, ⟨Nat.zero_le _⟩, rfl, ⟨Below.refl _ _⟩, ⟨fun j hj => absurd hj (Nat.not_lt_zero _)⟩⟩
  case round =>
    obtain ⟨i, HKQ, HI, rfl, HB, HP⟩ := hrel
    by_cases hi : i < l1.length
    · have hlt : decide ((i : Int) < (l1.length : Int)) = true := decide_eq_true (by omega)
      obtain ⟨ad, e1, hx0, hx1, hx2⟩ := at_T78 HRL.out (i : Int) (by omega) (by omega)
      subst e1
      rw [Int.toNat_natCast] at hx0 hx1 hx2
      have hrd : rd_T78 l1 (i : Int) = l1.getD i z78 := by unfold rd_T78; rw [Int.toNat_natCast]
      rw [hrd] at hx0 hx1 hx2
      obtain ⟨q, hq, hqf⟩ := allO_get HE.out z78 i hi
      generalize hxx : l1.getD i z78 = x at *
      have HX := Aside0.mk hxx
      have HQ := Aside0.mk hq
      have HQF := Aside0.mk hqf
      have HSE : Aside0 (∀ w', Below w1.heap.size w1 w' → w'.cell? ⟨w.heap.size, 0, none⟩ = some (.string a0_0) ∧ w'.cell? ⟨w.heap.size, 1, none⟩ = some (.slice A0_1 l0_1.length c0_1) ∧ w'.cell? ⟨w.heap.size, 2, none⟩ = some (.slice A0_2 l0_2.length c0_2) ∧ w'.cell? ⟨w.heap.size, 3, none⟩ = some (.slice A0_3 l0_3.length c0_3) ∧ w'.cell? (ad.add (i * 3)) = some (.int .i64 x.f0) ∧ w'.cell? ⟨(ad.add (i * 3)).block, (ad.add (i * 3)).off + 2, none⟩ = some (.string x.f2)) := ⟨fun w' hb => by
        obtain ⟨h0, h1, h2, h3⟩ := cz4_ (blk_below HK.out hb)
        exact ⟨h0, h1, h2, h3, pw_cell_below hb hx0, pw_cell_below hb hx2⟩⟩
      clear hxx hqf hrd hx0 hx1 hx2
      unfold semblanceref14_expr.ok at hq
      by_cases c2 : x.f0 = 2
      · rw [if_pos c2] at hq
        have HO := Aside0.mk hq
        have c2b : (x.f0 == 2) = true := beq_iff_eq.mpr c2
        have c11b : (x.f0 == 11) = false := beq_eq_false_iff_ne.mpr (by omega)
        clear c2 hq
        cases q with
        | false =>
          have HZ := Aside0.mk (show r = false by have h1 := HH.out; rw [HQF.out (by first | rfl | trivial), if_neg (by decide)] at h1; exact (Option.some.inj h1).symm)
          go_wp2_with fail
          refine rs_ 34 [0, 1, 2, 3, 4, 5, 6, 7, 8, 9, 10, 11, 12, 13, 14, 15, 16, 17, 18, 19, 20, 21, 22, 23, 24, 25, 26, 27, 28, 29, 30, 31, 32, 33] (fun w' => w'.cell? ⟨w.heap.size, 0, none⟩ = some (.string a0_0) ∧ w'.cell? ⟨w.heap.size, 1, none⟩ = some (.slice A0_1 l0_1.length c0_1) ∧ w'.cell? ⟨w.heap.size, 2, none⟩ = some (.slice A0_2 l0_2.length c0_2) ∧ w'.cell? ⟨w.heap.size, 3, none⟩ = some (.slice A0_3 l0_3.length c0_3) ∧ w'.cell? (ad.add (i * 3)) = some (.int .i64 x.f0) ∧ w'.cell? ⟨(ad.add (i * 3)).block, (ad.add (i * 3)).off + 2, none⟩ = some (.string x.f2)) rfl (by kernel_rfl) (HSE.out _ (below_drew1 HB.out)) (fun hHeld => ?_)
          iterate 13 (first | refine pq_ ?_ | refine tq_ hHeld ?_)
          refine cq_ Tryz.func90 ?_
          refine (semblanceref14_HasVar.calls k a0_0 A0_1 c0_1 l0_1 A0_2 c0_2 l0_2 A0_3 c0_3 l0_3 x.f2 false _ (Kd.C_below HR1.out (below_drew1 HB.out)) HCC.out.1 (Kd.C_below HR2.out (below_drew1 HB.out)) HCC.out.2.1 (Kd.C_below HR3.out (below_drew1 HB.out)) HCC.out.2.2 HO.out).mono ?_
          rintro e w5 ⟨rfl, hd5⟩; have HB5 := Aside0.mk (below_step (below_drew1 HB.out) hd5); clear hd5
          refine ⟨_, rfl, HSE.out _ HB5.out, fun hHeld => ?_⟩
          (try simp only [Act.put, sb_, s0_, s1_])
          iterate 20 (first | refine pq_ ?_ | refine tq_ hHeld ?_)
          refine dn_ (by kernel_rfl) ?_
          clear hHeld
          go_wp2
          go_ret
          exact ⟨by rw [HZ.out]; try rfl, HB1.out.trans ((HB5).out.mono HB1.out.size)⟩
        | true =>
          go_wp2_with fail
          refine rs_ 34 [0, 1, 2, 3, 4, 5, 6, 7, 8, 9, 10, 11, 12, 13, 14, 15, 16, 17, 18, 19, 20, 21, 22, 23, 24, 25, 26, 27, 28, 29, 30, 31, 32, 33] (fun w' => w'.cell? ⟨w.heap.size, 0, none⟩ = some (.string a0_0) ∧ w'.cell? ⟨w.heap.size, 1, none⟩ = some (.slice A0_1 l0_1.length c0_1) ∧ w'.cell? ⟨w.heap.size, 2, none⟩ = some (.slice A0_2 l0_2.length c0_2) ∧ w'.cell? ⟨w.heap.size, 3, none⟩ = some (.slice A0_3 l0_3.length c0_3) ∧ w'.cell? (ad.add (i * 3)) = some (.int .i64 x.f0) ∧ w'.cell? ⟨(ad.add (i * 3)).block, (ad.add (i * 3)).off + 2, none⟩ = some (.string x.f2)) rfl (by kernel_rfl) (HSE.out _ (below_drew1 HB.out)) (fun hHeld => ?_)
          iterate 13 (first | refine pq_ ?_ | refine tq_ hHeld ?_)
          refine cq_ Tryz.func90 ?_
          refine (semblanceref14_HasVar.calls k a0_0 A0_1 c0_1 l0_1 A0_2 c0_2 l0_2 A0_3 c0_3 l0_3 x.f2 true _ (Kd.C_below HR1.out (below_drew1 HB.out)) HCC.out.1 (Kd.C_below HR2.out (below_drew1 HB.out)) HCC.out.2.1 (Kd.C_below HR3.out (below_drew1 HB.out)) HCC.out.2.2 HO.out).mono ?_
          rintro e w5 ⟨rfl, hd5⟩; have HB5 := Aside0.mk (below_step (below_drew1 HB.out) hd5); clear hd5
          refine ⟨_, rfl, HSE.out _ HB5.out, fun hHeld => ?_⟩
          (try simp only [Act.put, sb_, s0_, s1_])
          iterate 20 (first | refine pq_ ?_ | refine tq_ hHeld ?_)
          refine dn_ (by kernel_rfl) ?_
          clear hHeld
          go_wp2
          go_roundg (l1.length - (i + 1))
          case measure => have := HKQ.out; omega
          case rel =>
            refine ⟨i + 1, ⟨rfl⟩, ⟨hi⟩, by go_num, HB5, ⟨fun j hj => ?_⟩⟩
            by_cases e : j = i
            · subst e; rw [HX.out]; exact HQ.out
            · exact HP.out j (by omega)
      · rw [if_neg c2] at hq
        have c2b : (x.f0 == 2) = false := beq_eq_false_iff_ne.mpr c2
        by_cases c11 : x.f0 = 11
        · rw [if_pos c11] at hq
          have HO := Aside0.mk hq
          have c11b : (x.f0 == 11) = true := beq_iff_eq.mpr c11
          clear c2 c11 hq
          cases q with
          | false =>
            have HZ := Aside0.mk (show r = false by have h1 := HH.out; rw [HQF.out (by first | rfl | trivial), if_neg (by decide)] at h1; exact (Option.some.inj h1).symm)
            go_wp2_with fail
            refine rs_ 34 [0, 1, 2, 3, 4, 5, 6, 7, 8, 9, 10, 11, 12, 13, 14, 15, 16, 17, 18, 19, 20, 21, 22, 23, 24, 25, 26, 27, 28, 29, 30, 31, 32, 33] (fun w' => w'.cell? ⟨w.heap.size, 0, none⟩ = some (.string a0_0) ∧ w'.cell? ⟨w.heap.size, 1, none⟩ = some (.slice A0_1 l0_1.length c0_1) ∧ w'.cell? ⟨w.heap.size, 2, none⟩ = some (.slice A0_2 l0_2.length c0_2) ∧ w'.cell? ⟨w.heap.size, 3, none⟩ = some (.slice A0_3 l0_3.length c0_3) ∧ w'.cell? (ad.add (i * 3)) = some (.int .i64 x.f0) ∧ w'.cell? ⟨(ad.add (i * 3)).block, (ad.add (i * 3)).off + 2, none⟩ = some (.string x.f2)) rfl (by kernel_rfl) (HSE.out _ (below_drew1 HB.out)) (fun hHeld => ?_)
            iterate 30 (first | refine pq_ ?_ | refine tq_ hHeld ?_)
            refine cq_ Tryz.func93 ?_
            refine (semblanceref14_HasState.calls k a0_0 A0_1 c0_1 l0_1 A0_2 c0_2 l0_2 A0_3 c0_3 l0_3 x.f2 false _ (Kd.C_below HR1.out (below_drew1 HB.out)) HCC.out.1 (Kd.C_below HR2.out (below_drew1 HB.out)) HCC.out.2.1 (Kd.C_below HR3.out (below_drew1 HB.out)) HCC.out.2.2 HO.out).mono ?_
            rintro e w5 ⟨rfl, hd5⟩; have HB5 := Aside0.mk (below_step (below_drew1 HB.out) hd5); clear hd5
            refine ⟨_, rfl, HSE.out _ HB5.out, fun hHeld => ?_⟩
            (try simp only [Act.put, sb_, s0_, s1_])
            iterate 3 (first | refine pq_ ?_ | refine tq_ hHeld ?_)
            refine dn_ (by kernel_rfl) ?_
            clear hHeld
            go_wp2
            go_ret
            exact ⟨by rw [HZ.out]; try rfl, HB1.out.trans ((HB5).out.mono HB1.out.size)⟩
          | true =>
            go_wp2_with fail
            refine rs_ 34 [0, 1, 2, 3, 4, 5, 6, 7, 8, 9, 10, 11, 12, 13, 14, 15, 16, 17, 18, 19, 20, 21, 22, 23, 24, 25, 26, 27, 28, 29, 30, 31, 32, 33] (fun w' => w'.cell? ⟨w.heap.size, 0, none⟩ = some (.string a0_0) ∧ w'.cell? ⟨w.heap.size, 1, none⟩ = some (.slice A0_1 l0_1.length c0_1) ∧ w'.cell? ⟨w.heap.size, 2, none⟩ = some (.slice A0_2 l0_2.length c0_2) ∧ w'.cell? ⟨w.heap.size, 3, none⟩ = some (.slice A0_3 l0_3.length c0_3) ∧ w'.cell? (ad.add (i * 3)) = some (.int .i64 x.f0) ∧ w'.cell? ⟨(ad.add (i * 3)).block, (ad.add (i * 3)).off + 2, none⟩ = some (.string x.f2)) rfl (by kernel_rfl) (HSE.out _ (below_drew1 HB.out)) (fun hHeld => ?_)
            iterate 30 (first | refine pq_ ?_ | refine tq_ hHeld ?_)
            refine cq_ Tryz.func93 ?_
            refine (semblanceref14_HasState.calls k a0_0 A0_1 c0_1 l0_1 A0_2 c0_2 l0_2 A0_3 c0_3 l0_3 x.f2 true _ (Kd.C_below HR1.out (below_drew1 HB.out)) HCC.out.1 (Kd.C_below HR2.out (below_drew1 HB.out)) HCC.out.2.1 (Kd.C_below HR3.out (below_drew1 HB.out)) HCC.out.2.2 HO.out).mono ?_
            rintro e w5 ⟨rfl, hd5⟩; have HB5 := Aside0.mk (below_step (below_drew1 HB.out) hd5); clear hd5
            refine ⟨_, rfl, HSE.out _ HB5.out, fun hHeld => ?_⟩
            (try simp only [Act.put, sb_, s0_, s1_])
            iterate 3 (first | refine pq_ ?_ | refine tq_ hHeld ?_)
            refine dn_ (by kernel_rfl) ?_
            clear hHeld
            go_wp2
            go_roundg (l1.length - (i + 1))
            case measure => have := HKQ.out; omega
            case rel =>
              refine ⟨i + 1, ⟨rfl⟩, ⟨hi⟩, by go_num, HB5, ⟨fun j hj => ?_⟩⟩
              by_cases e : j = i
              · subst e; rw [HX.out]; exact HQ.out
              · exact HP.out j (by omega)
        · rw [if_neg c11] at hq
          obtain rfl := Option.some.inj hq
          have c11b : (x.f0 == 11) = false := beq_eq_false_iff_ne.mpr c11
          clear c2 c11 hq
          go_wp2_with fail
          refine rs_ 34 [0, 1, 2, 3, 4, 5, 6, 7, 8, 9, 10, 11, 12, 13, 14, 15, 16, 17, 18, 19, 20, 21, 22, 23, 24, 25, 26, 27, 28, 29, 30, 31, 32, 33] (fun w' => w'.cell? ⟨w.heap.size, 0, none⟩ = some (.string a0_0) ∧ w'.cell? ⟨w.heap.size, 1, none⟩ = some (.slice A0_1 l0_1.length c0_1) ∧ w'.cell? ⟨w.heap.size, 2, none⟩ = some (.slice A0_2 l0_2.length c0_2) ∧ w'.cell? ⟨w.heap.size, 3, none⟩ = some (.slice A0_3 l0_3.length c0_3) ∧ w'.cell? (ad.add (i * 3)) = some (.int .i64 x.f0) ∧ w'.cell? ⟨(ad.add (i * 3)).block, (ad.add (i * 3)).off + 2, none⟩ = some (.string x.f2)) rfl (by kernel_rfl) (HSE.out _ (below_drew1 HB.out)) (fun hHeld => ?_)
          iterate 34 (first | refine pq_ ?_ | refine tq_ hHeld ?_)
          have HBD := Aside0.mk (below_drew1 HB.out)
          refine dn_ (by kernel_rfl) ?_
          clear hHeld
          go_wp2
          go_roundg (l1.length - (i + 1))
          case measure => have := HKQ.out; omega
          case rel =>
            refine ⟨i + 1, ⟨rfl⟩, ⟨hi⟩, by go_num, HBD, ⟨fun j hj => ?_⟩⟩
            by_cases e : j = i
            · subst e; rw [HX.out]; exact HQ.out
            · exact HP.out j (by omega)
    · have hlt : decide ((i : Int) < (l1.length : Int)) = false := decide_eq_false (by omega)
      have hil : i = l1.length := by have := HI.out; omega
      subst hil
      have het := allO_true HE.out z78 HP.out
      subst het
      have h1 := HH.out
      rw [if_pos rfl] at h1
      obtain ⟨tt, htt, h1⟩ := Option.bind_eq_some_iff.mp h1
      have HRF := Aside0.mk (Option.some.inj h1)
      have HTT := Aside0.mk htt
      clear HP HE HH htt h1
      go_wp2_with (go_at_call 111; (with_reducible refine (semblanceref05_Type.calls k A1 c1 l1 0 tt _ (Kd.C_below HRL.out HB.out) HC1.out HTT.out).mono ?_); rintro e w5 ⟨rfl, hb5⟩; have HB5 := Aside0.mk (below_step HB.out hb5); clear hb5)
      go_ret
      exact ⟨by rw [← HRF.out]; try rfl, HB1.out.trans (HB5.out.mono HB1.out.size)⟩


/-! ### semblanceref14_acts: function 58 -/
-- USES semblance/semblanceref14.expr
/-- is an act of the chart? -/
def semblanceref14_acts.ok (k : Nat) (a0 : ByteArray) (l1 : List ByteArray) (l2 : List (S50)) (l3 : List (S46)) (any : Bool) (x : S76) : Option Bool := (semblanceref14_HasVar.f k a0 l1 l2 l3 x.f0).bind fun v => if v = true then (if x.f1 = true then some any else semblanceref14_expr.f k a0 l1 l2 l3 x.f2 1) else some false
def semblanceref14_acts.f (k : Nat) (a0 : ByteArray) (l1 : List ByteArray) (l2 : List (S50)) (l3 : List (S46)) (l : List (S76)) (any : Bool) : Option Bool := allO l (semblanceref14_acts.ok k a0 l1 l2 l3 any)
theorem semblanceref14_acts.mono : ∀ a0 l1 l2 l3 l any k, LeO (semblanceref14_acts.f k a0 l1 l2 l3 l any) (semblanceref14_acts.f (k + 1) a0 l1 l2 l3 l any) := by
  intro a0 l1 l2 l3 l any k
  unfold semblanceref14_acts.f
  exact allO_mono (fun x => LeO.bind (semblanceref14_HasVar.mono _ _ _ _ _ k) (fun _ => LeO.ite (LeO.ite (LeO.refl _) (semblanceref14_expr.mono _ _ _ _ _ _ k)) (LeO.refl _)))
instance semblanceref14_acts.lc : ∀ a0 l1 l2 l3 l any k, LeC (semblanceref14_acts.f k a0 l1 l2 l3 l any) (semblanceref14_acts.f (k + 1) a0 l1 l2 l3 l any) := fun a0 l1 l2 l3 l any k => ⟨semblanceref14_acts.mono a0 l1 l2 l3 l any k⟩
set_option maxHeartbeats 16000000 in
set_option maxRecDepth 100000 in
open Go.Proofs.YtbkaiojofgmbnaaGreat.XReg in
theorem semblanceref14_acts.calls (k : Nat) (a0_0 : ByteArray) (A0_1 : Option Addr) (c0_1 : Nat) (l0_1 : List ByteArray) (A0_2 : Option Addr) (c0_2 : Nat) (l0_2 : List (S50)) (A0_3 : Option Addr) (c0_3 : Nat) (l0_3 : List (S46)) (A1 : Option Addr) (c1 : Nat) (l1 : List (S76)) (a2 : Bool) (r : Bool) (w : World) (hr0_1 : Kd.C Kd.string w A0_1 l0_1.length l0_1) (hc0_1 : l0_1.length ≤ c0_1) (hr0_2 : Kd.C k50 w A0_2 l0_2.length l0_2) (hc0_2 : l0_2.length ≤ c0_2) (hr0_3 : Kd.C k46 w A0_3 l0_3.length l0_3) (hc0_3 : l0_3.length ≤ c0_3) (hr1 : Kd.C k76 w A1 l1.length l1) (hc1 : l1.length ≤ c1) (h : semblanceref14_acts.f k a0_0 l0_1 l0_2 l0_3 l1 a2 = some r) :
    Calls Tryz.prog 58 #[.agg #[.string a0_0, .slice A0_1 l0_1.length c0_1, .slice A0_2 l0_2.length c0_2, .slice A0_3 l0_3.length c0_3], .slice A1 l1.length c1, .bool a2] w fun e w' => e = .returned (.bool r) ∧ Below w.heap.size w w' := by
  unfold semblanceref14_acts.f at h
  have HE := Aside0.mk h
  clear h
  obtain ⟨w1, hw1⟩ : ∃ w1, w1 = w.alloc (.cells #[.string a0_0, .slice A0_1 l0_1.length c0_1, .slice A0_2 l0_2.length c0_2, .slice A0_3 l0_3.length c0_3] 26) := ⟨_, rfl⟩
  have hb1 : Below w.heap.size w w1 := by rw [hw1]; exact (Below.refl _ _).alloc (Nat.le_refl _) _
  have HK : Aside0 (w1.heap[w.heap.size]? = some (.cells #[.string a0_0, .slice A0_1 l0_1.length c0_1, .slice A0_2 l0_2.length c0_2, .slice A0_3 l0_3.length c0_3] 26 (0, 0))) := ⟨by rw [hw1]; exact heap_alloc_new w _⟩
  have HR1 := Aside0.mk (Kd.C_below hr0_1 hb1)
  have HR2 := Aside0.mk (Kd.C_below hr0_2 hb1)
  have HR3 := Aside0.mk (Kd.C_below hr0_3 hb1)
  have HCC := Aside0.mk (And.intro hc0_1 (And.intro hc0_2 hc0_3))
  have HB1 := Aside0.mk hb1
  have hu2 := Tryz.underlying26
  have HRL := Aside0.mk (Kd.C_below hr1 hb1)
  have HC1 := Aside0.mk hc1
  have hm1 := Kd.C_max hr1
  have hu3 := Tryz.underlying76
  clear hr0_1 hr0_2 hr0_3 hb1 hc0_1 hc0_2 hc0_3 hr1 hc1
  subst hw1
  go_enter Tryz.func58, Tryz.ntmps58
  go_wp2_with fail
  generalize w.alloc (.cells #[.string a0_0, .slice A0_1 l0_1.length c0_1, .slice A0_2 l0_2.length c0_2, .slice A0_3 l0_3.length c0_3] 26) = w1 at *
  go_loopg [7] l1.length (fun kq v9 wr => ∃ i : Nat, Aside0 (l1.length - i = kq) ∧ Aside0 (i ≤ l1.length) ∧ v9 = .int .i64 (i : Int) ∧ Aside0 (Below w1.heap.size w1 wr) ∧ Aside0 (∀ j : Nat, j < i → semblanceref14_acts.ok k a0_0 l0_1 l0_2 l0_3 a2 (l1.getD j z76) = some true))
  case atStart => exact ⟨0, ⟨rfl⟩, ⟨Nat.zero_le _⟩, rfl, ⟨Below.refl _ _⟩, ⟨fun j hj => absurd hj (Nat.not_lt_zero _)⟩⟩
  case round =>
    obtain ⟨i, HKQ, HI, rfl, HB, HP⟩ := hrel
    by_cases hi : i < l1.length
    · have hlt : decide ((i : Int) < (l1.length : Int)) = true := decide_eq_true (by omega)
      obtain ⟨ad, A2, c2, e1, hx0, hx1, hx2, hl2, hi2⟩ := at_T76 HRL.out (i : Int) (by omega) (by omega)
      subst e1
      rw [Int.toNat_natCast] at hx0 hx1 hx2
      have hrd : rd_T76 l1 (i : Int) = l1.getD i z76 := by unfold rd_T76; rw [Int.toNat_natCast]
      rw [hrd] at hx0 hx1 hx2 hl2 hi2
      obtain ⟨q, hq, hqf⟩ := allO_get HE.out z76 i hi
      generalize hxx : l1.getD i z76 = x at *
      have HX := Aside0.mk hxx
      have HQ := Aside0.mk hq
      have HQF := Aside0.mk hqf
      have HI2 := Aside0.mk hi2
      obtain ⟨fb, hfb⟩ : ∃ fb, x.f1 = fb := ⟨_, rfl⟩
      rw [hfb] at hx1
      have HSE : Aside0 (∀ w', Below w1.heap.size w1 w' → w'.cell? ⟨w.heap.size, 0, none⟩ = some (.string a0_0) ∧ w'.cell? ⟨w.heap.size, 1, none⟩ = some (.slice A0_1 l0_1.length c0_1) ∧ w'.cell? ⟨w.heap.size, 2, none⟩ = some (.slice A0_2 l0_2.length c0_2) ∧ w'.cell? ⟨w.heap.size, 3, none⟩ = some (.slice A0_3 l0_3.length c0_3) ∧ w'.cell? (ad.add (i * 3)) = some (.string x.f0) ∧ w'.cell? ⟨(ad.add (i * 3)).block, (ad.add (i * 3)).off + 1, none⟩ = some (.bool fb) ∧ w'.cell? ⟨(ad.add (i * 3)).block, (ad.add (i * 3)).off + 2, none⟩ = some (.slice A2 x.f2.length c2)) := ⟨fun w' hb => by
        obtain ⟨h0, h1, h2, h3⟩ := cz4_ (blk_below HK.out hb)
        exact ⟨h0, h1, h2, h3, pw_cell_below hb hx0, pw_cell_below hb hx1, pw_cell_below hb hx2⟩⟩
      clear hxx hqf hrd hx0 hx1 hx2 hi2
      unfold semblanceref14_acts.ok at hq
      obtain ⟨v, hv, hq⟩ := Option.bind_eq_some_iff.mp hq
      have HO := Aside0.mk hv
      clear hv
      rw [hfb] at hq
      clear hfb
      cases v with
      | false =>
        rw [if_neg (by decide)] at hq
        obtain rfl := Option.some.inj hq
        clear hq
        have HZ := Aside0.mk (show r = false from HQF.out (by first | rfl | trivial))
        go_wp2_with fail
        refine rs_ 37 [0, 1, 2, 3, 4, 5, 6, 7, 8, 9, 10, 11, 12, 13, 14, 15, 16, 17, 18, 19, 20, 21, 22, 23, 24, 25, 26, 27, 28, 29, 30, 31, 32, 33, 34, 35, 36] (fun w' => w'.cell? ⟨w.heap.size, 0, none⟩ = some (.string a0_0) ∧ w'.cell? ⟨w.heap.size, 1, none⟩ = some (.slice A0_1 l0_1.length c0_1) ∧ w'.cell? ⟨w.heap.size, 2, none⟩ = some (.slice A0_2 l0_2.length c0_2) ∧ w'.cell? ⟨w.heap.size, 3, none⟩ = some (.slice A0_3 l0_3.length c0_3) ∧ w'.cell? (ad.add (i * 3)) = some (.string x.f0) ∧ w'.cell? ⟨(ad.add (i * 3)).block, (ad.add (i * 3)).off + 1, none⟩ = some (.bool fb) ∧ w'.cell? ⟨(ad.add (i * 3)).block, (ad.add (i * 3)).off + 2, none⟩ = some (.slice A2 x.f2.length c2)) rfl (by kernel_rfl) (HSE.out _ (below_drew1 HB.out)) (fun hHeld => ?_)
        iterate 6 (first | refine pq_ ?_ | refine tq_ hHeld ?_)
        refine cq_ Tryz.func90 ?_
        refine (semblanceref14_HasVar.calls k a0_0 A0_1 c0_1 l0_1 A0_2 c0_2 l0_2 A0_3 c0_3 l0_3 x.f0 false _ (Kd.C_below HR1.out (below_drew1 HB.out)) HCC.out.1 (Kd.C_below HR2.out (below_drew1 HB.out)) HCC.out.2.1 (Kd.C_below HR3.out (below_drew1 HB.out)) HCC.out.2.2 HO.out).mono ?_
        rintro e w5 ⟨rfl, hd5⟩; have HB5 := Aside0.mk (below_step (below_drew1 HB.out) hd5); clear hd5
        refine ⟨_, rfl, HSE.out _ HB5.out, fun hHeld => ?_⟩
        (try simp only [Act.put, sb_, s0_, s1_])
        iterate 30 (first | refine pq_ ?_ | refine tq_ hHeld ?_)
        refine dn_ (by kernel_rfl) ?_
        clear hHeld
        go_wp2
        go_ret
        exact ⟨by rw [HZ.out]; try rfl, HB1.out.trans ((HB5).out.mono HB1.out.size)⟩
      | true =>
        rw [if_pos rfl] at hq
        cases fb with
        | true =>
          rw [if_pos rfl] at hq
          obtain rfl := Option.some.inj hq
          clear hq
          cases a2 with
          | false =>
            have HZ := Aside0.mk (show r = false from HQF.out (by first | rfl | trivial))
            go_wp2_with fail
            refine rs_ 37 [0, 1, 2, 3, 4, 5, 6, 7, 8, 9, 10, 11, 12, 13, 14, 15, 16, 17, 18, 19, 20, 21, 22, 23, 24, 25, 26, 27, 28, 29, 30, 31, 32, 33, 34, 35, 36] (fun w' => w'.cell? ⟨w.heap.size, 0, none⟩ = some (.string a0_0) ∧ w'.cell? ⟨w.heap.size, 1, none⟩ = some (.slice A0_1 l0_1.length c0_1) ∧ w'.cell? ⟨w.heap.size, 2, none⟩ = some (.slice A0_2 l0_2.length c0_2) ∧ w'.cell? ⟨w.heap.size, 3, none⟩ = some (.slice A0_3 l0_3.length c0_3) ∧ w'.cell? (ad.add (i * 3)) = some (.string x.f0) ∧ w'.cell? ⟨(ad.add (i * 3)).block, (ad.add (i * 3)).off + 1, none⟩ = some (.bool true) ∧ w'.cell? ⟨(ad.add (i * 3)).block, (ad.add (i * 3)).off + 2, none⟩ = some (.slice A2 x.f2.length c2)) rfl (by kernel_rfl) (HSE.out _ (below_drew1 HB.out)) (fun hHeld => ?_)
            iterate 6 (first | refine pq_ ?_ | refine tq_ hHeld ?_)
            refine cq_ Tryz.func90 ?_
            refine (semblanceref14_HasVar.calls k a0_0 A0_1 c0_1 l0_1 A0_2 c0_2 l0_2 A0_3 c0_3 l0_3 x.f0 true _ (Kd.C_below HR1.out (below_drew1 HB.out)) HCC.out.1 (Kd.C_below HR2.out (below_drew1 HB.out)) HCC.out.2.1 (Kd.C_below HR3.out (below_drew1 HB.out)) HCC.out.2.2 HO.out).mono ?_
            rintro e w5 ⟨rfl, hd5⟩; have HB5 := Aside0.mk (below_step (below_drew1 HB.out) hd5); clear hd5
            refine ⟨_, rfl, HSE.out _ HB5.out, fun hHeld => ?_⟩
            (try simp only [Act.put, sb_, s0_, s1_])
            iterate 30 (first | refine pq_ ?_ | refine tq_ hHeld ?_)
            refine dn_ (by kernel_rfl) ?_
            clear hHeld
            go_wp2
            go_ret
            exact ⟨by rw [HZ.out]; try rfl, HB1.out.trans ((HB5).out.mono HB1.out.size)⟩
          | true =>
            go_wp2_with fail
            refine rs_ 37 [0, 1, 2, 3, 4, 5, 6, 7, 8, 9, 10, 11, 12, 13, 14, 15, 16, 17, 18, 19, 20, 21, 22, 23, 24, 25, 26, 27, 28, 29, 30, 31, 32, 33, 34, 35, 36] (fun w' => w'.cell? ⟨w.heap.size, 0, none⟩ = some (.string a0_0) ∧ w'.cell? ⟨w.heap.size, 1, none⟩ = some (.slice A0_1 l0_1.length c0_1) ∧ w'.cell? ⟨w.heap.size, 2, none⟩ = some (.slice A0_2 l0_2.length c0_2) ∧ w'.cell? ⟨w.heap.size, 3, none⟩ = some (.slice A0_3 l0_3.length c0_3) ∧ w'.cell? (ad.add (i * 3)) = some (.string x.f0) ∧ w'.cell? ⟨(ad.add (i * 3)).block, (ad.add (i * 3)).off + 1, none⟩ = some (.bool true) ∧ w'.cell? ⟨(ad.add (i * 3)).block, (ad.add (i * 3)).off + 2, none⟩ = some (.slice A2 x.f2.length c2)) rfl (by kernel_rfl) (HSE.out _ (below_drew1 HB.out)) (fun hHeld => ?_)
            iterate 6 (first | refine pq_ ?_ | refine tq_ hHeld ?_)
            refine cq_ Tryz.func90 ?_
            refine (semblanceref14_HasVar.calls k a0_0 A0_1 c0_1 l0_1 A0_2 c0_2 l0_2 A0_3 c0_3 l0_3 x.f0 true _ (Kd.C_below HR1.out (below_drew1 HB.out)) HCC.out.1 (Kd.C_below HR2.out (below_drew1 HB.out)) HCC.out.2.1 (Kd.C_below HR3.out (below_drew1 HB.out)) HCC.out.2.2 HO.out).mono ?_
            rintro e w5 ⟨rfl, hd5⟩; have HB5 := Aside0.mk (below_step (below_drew1 HB.out) hd5); clear hd5
            refine ⟨_, rfl, HSE.out _ HB5.out, fun hHeld => ?_⟩
            (try simp only [Act.put, sb_, s0_, s1_])
            iterate 30 (first | refine pq_ ?_ | refine tq_ hHeld ?_)
            refine dn_ (by kernel_rfl) ?_
            clear hHeld
            go_wp2
            go_roundg (l1.length - (i + 1))
            case measure => have := HKQ.out; omega
            case rel =>
              refine ⟨i + 1, ⟨rfl⟩, ⟨hi⟩, by go_num, HB5, ⟨fun j hj => ?_⟩⟩
              by_cases e : j = i
              · subst e; rw [HX.out]; exact HQ.out
              · exact HP.out j (by omega)
        | false =>
          rw [if_neg (by decide)] at hq
          have HO2 := Aside0.mk hq
          clear hq
          cases q with
          | false =>
            have HZ := Aside0.mk (show r = false from HQF.out (by first | rfl | trivial))
            go_wp2_with fail
            refine rs_ 37 [0, 1, 2, 3, 4, 5, 6, 7, 8, 9, 10, 11, 12, 13, 14, 15, 16, 17, 18, 19, 20, 21, 22, 23, 24, 25, 26, 27, 28, 29, 30, 31, 32, 33, 34, 35, 36] (fun w' => w'.cell? ⟨w.heap.size, 0, none⟩ = some (.string a0_0) ∧ w'.cell? ⟨w.heap.size, 1, none⟩ = some (.slice A0_1 l0_1.length c0_1) ∧ w'.cell? ⟨w.heap.size, 2, none⟩ = some (.slice A0_2 l0_2.length c0_2) ∧ w'.cell? ⟨w.heap.size, 3, none⟩ = some (.slice A0_3 l0_3.length c0_3) ∧ w'.cell? (ad.add (i * 3)) = some (.string x.f0) ∧ w'.cell? ⟨(ad.add (i * 3)).block, (ad.add (i * 3)).off + 1, none⟩ = some (.bool false) ∧ w'.cell? ⟨(ad.add (i * 3)).block, (ad.add (i * 3)).off + 2, none⟩ = some (.slice A2 x.f2.length c2)) rfl (by kernel_rfl) (HSE.out _ (below_drew1 HB.out)) (fun hHeld => ?_)
            iterate 6 (first | refine pq_ ?_ | refine tq_ hHeld ?_)
            refine cq_ Tryz.func90 ?_
            refine (semblanceref14_HasVar.calls k a0_0 A0_1 c0_1 l0_1 A0_2 c0_2 l0_2 A0_3 c0_3 l0_3 x.f0 true _ (Kd.C_below HR1.out (below_drew1 HB.out)) HCC.out.1 (Kd.C_below HR2.out (below_drew1 HB.out)) HCC.out.2.1 (Kd.C_below HR3.out (below_drew1 HB.out)) HCC.out.2.2 HO.out).mono ?_
            rintro e w5 ⟨rfl, hd5⟩; have HB5 := Aside0.mk (below_step (below_drew1 HB.out) hd5); clear hd5
            refine ⟨_, rfl, HSE.out _ HB5.out, fun hHeld => ?_⟩
            (try simp only [Act.put, sb_, s0_, s1_])
            iterate 26 (first | refine pq_ ?_ | refine tq_ hHeld ?_)
            refine cq_ Tryz.func91 ?_
            refine (semblanceref14_expr.calls k a0_0 A0_1 c0_1 l0_1 A0_2 c0_2 l0_2 A0_3 c0_3 l0_3 A2 c2 x.f2 1 false _ (Kd.C_below HR1.out HB5.out) HCC.out.1 (Kd.C_below HR2.out HB5.out) HCC.out.2.1 (Kd.C_below HR3.out HB5.out) HCC.out.2.2 (Kd.C_below HI2.out HB5.out) hl2 HO2.out).mono ?_
            rintro e w6 ⟨rfl, hd6⟩; have HB6 := Aside0.mk (below_step HB5.out hd6); clear hd6
            refine ⟨_, rfl, HSE.out _ HB6.out, fun hHeld => ?_⟩
            (try simp only [Act.put, sb_, s0_, s1_])
            iterate 3 (first | refine pq_ ?_ | refine tq_ hHeld ?_)
            refine dn_ (by kernel_rfl) ?_
            clear hHeld
            go_wp2
            go_ret
            exact ⟨by rw [HZ.out]; try rfl, HB1.out.trans ((HB6).out.mono HB1.out.size)⟩
          | true =>
            go_wp2_with fail
            refine rs_ 37 [0, 1, 2, 3, 4, 5, 6, 7, 8, 9, 10, 11, 12, 13, 14, 15, 16, 17, 18, 19, 20, 21, 22, 23, 24, 25, 26, 27, 28, 29, 30, 31, 32, 33, 34, 35, 36] (fun w' => w'.cell? ⟨w.heap.size, 0, none⟩ = some (.string a0_0) ∧ w'.cell? ⟨w.heap.size, 1, none⟩ = some (.slice A0_1 l0_1.length c0_1) ∧ w'.cell? ⟨w.heap.size, 2, none⟩ = some (.slice A0_2 l0_2.length c0_2) ∧ w'.cell? ⟨w.heap.size, 3, none⟩ = some (.slice A0_3 l0_3.length c0_3) ∧ w'.cell? (ad.add (i * 3)) = some (.string x.f0) ∧ w'.cell? ⟨(ad.add (i * 3)).block, (ad.add (i * 3)).off + 1, none⟩ = some (.bool false) ∧ w'.cell? ⟨(ad.add (i * 3)).block, (ad.add (i * 3)).off + 2, none⟩ = some (.slice A2 x.f2.length c2)) rfl (by kernel_rfl) (HSE.out _ (below_drew1 HB.out)) (fun hHeld => ?_)
            iterate 6 (first | refine pq_ ?_ | refine tq_ hHeld ?_)
            refine cq_ Tryz.func90 ?_
            refine (semblanceref14_HasVar.calls k a0_0 A0_1 c0_1 l0_1 A0_2 c0_2 l0_2 A0_3 c0_3 l0_3 x.f0 true _ (Kd.C_below HR1.out (below_drew1 HB.out)) HCC.out.1 (Kd.C_below HR2.out (below_drew1 HB.out)) HCC.out.2.1 (Kd.C_below HR3.out (below_drew1 HB.out)) HCC.out.2.2 HO.out).mono ?_
            rintro e w5 ⟨rfl, hd5⟩; have HB5 := Aside0.mk (below_step (below_drew1 HB.out) hd5); clear hd5
            refine ⟨_, rfl, HSE.out _ HB5.out, fun hHeld => ?_⟩
            (try simp only [Act.put, sb_, s0_, s1_])
            iterate 26 (first | refine pq_ ?_ | refine tq_ hHeld ?_)
            refine cq_ Tryz.func91 ?_
            refine (semblanceref14_expr.calls k a0_0 A0_1 c0_1 l0_1 A0_2 c0_2 l0_2 A0_3 c0_3 l0_3 A2 c2 x.f2 1 true _ (Kd.C_below HR1.out HB5.out) HCC.out.1 (Kd.C_below HR2.out HB5.out) HCC.out.2.1 (Kd.C_below HR3.out HB5.out) HCC.out.2.2 (Kd.C_below HI2.out HB5.out) hl2 HO2.out).mono ?_
            rintro e w6 ⟨rfl, hd6⟩; have HB6 := Aside0.mk (below_step HB5.out hd6); clear hd6
            refine ⟨_, rfl, HSE.out _ HB6.out, fun hHeld => ?_⟩
            (try simp only [Act.put, sb_, s0_, s1_])
            iterate 3 (first | refine pq_ ?_ | refine tq_ hHeld ?_)
            refine dn_ (by kernel_rfl) ?_
            clear hHeld
            go_wp2
            go_roundg (l1.length - (i + 1))
            case measure => have := HKQ.out; omega
            case rel =>
              refine ⟨i + 1, ⟨rfl⟩, ⟨hi⟩, by go_num, HB6, ⟨fun j hj => ?_⟩⟩
              by_cases e : j = i
              · subst e; rw [HX.out]; exact HQ.out
              · exact HP.out j (by omega)
    · have hlt : decide ((i : Int) < (l1.length : Int)) = false := decide_eq_false (by omega)
      have hil : i = l1.length := by have := HI.out; omega
      subst hil
      have het := allO_true HE.out z76 HP.out
      subst het
      clear HP HE
      go_wp2
      go_ret
      exact ⟨by try rfl, HB1.out.trans (HB.out.mono HB1.out.size)⟩


/-! ### semblanceref14_HasEvent: function 92 -/
def semblanceref14_HasEvent.l0 : Nat → ByteArray → Int → ByteArray → List ByteArray → List (S50) → List (S46) → Option (Bool)
  | 0, _, _, _, _, _, _ => none
  | k + 1, x1, x5, x307000, x307001, x307002, x307003 => if x5 < (x307001.length : Int) then (if 0 ≤ x5 then (if (rdOf ByteArray.empty x307001 x5).toList = x1.toList then (some true) else (semblanceref14_HasEvent.l0 k x1 (wrap64 (x5 + 1)) x307000 x307001 x307002 x307003)) else (none)) else (some false)
def semblanceref14_HasEvent.f (k : Nat) (a0_0 : ByteArray) (l0_1 : List ByteArray) (l0_2 : List (S50)) (l0_3 : List (S46)) (a1 : ByteArray) : Option (Bool) := semblanceref14_HasEvent.l0 k a1 0 a0_0 l0_1 l0_2 l0_3
theorem semblanceref14_HasEvent.mono_l : ∀ k, (∀ y0 y1 y2 y3 y4 y5, LeO (semblanceref14_HasEvent.l0 k y0 y1 y2 y3 y4 y5) (semblanceref14_HasEvent.l0 (k + 1) y0 y1 y2 y3 y4 y5))
  | 0 => fun _ _ _ _ _ _ r h => by simp [semblanceref14_HasEvent.l0] at h
  | k + 1 => by
    have ih0 := semblanceref14_HasEvent.mono_l k
    · intro y0 y1 y2 y3 y4 y5
      unfold semblanceref14_HasEvent.l0
      exact mo_
theorem semblanceref14_HasEvent.mono : ∀ a0 a1 a2 a3 a4 k, LeO (semblanceref14_HasEvent.f k a0 a1 a2 a3 a4) (semblanceref14_HasEvent.f (k + 1) a0 a1 a2 a3 a4) := by
  intro a0 a1 a2 a3 a4 k
  have ih0 := semblanceref14_HasEvent.mono_l k
  unfold semblanceref14_HasEvent.f
  exact mo_
instance semblanceref14_HasEvent.lc : ∀ a0 a1 a2 a3 a4 k, LeC (semblanceref14_HasEvent.f k a0 a1 a2 a3 a4) (semblanceref14_HasEvent.f (k + 1) a0 a1 a2 a3 a4) := fun a0 a1 a2 a3 a4 k => ⟨semblanceref14_HasEvent.mono a0 a1 a2 a3 a4 k⟩
theorem hc45_ {w W : World} {a : Addr} {v : Value} (hb : Below w.heap.size w W) (h : w.cell? a = some v) : W.cell? a = some v := (hb.cell (World.block_lt_of_cell? w _ h)).trans h
theorem bz45_ {W W2 w : World} (_ : Below W.heap.size W W2) (h : Below w.heap.size w W) : Below w.heap.size w W := h
set_option maxHeartbeats 8000000 in
set_option maxRecDepth 100000 in
theorem semblanceref14_HasEvent.calls (k : Nat) (a0_0 : ByteArray) (A0_1 : Option Addr) (c0_1 : Nat) (l0_1 : List ByteArray) (A0_2 : Option Addr) (c0_2 : Nat) (l0_2 : List (S50)) (A0_3 : Option Addr) (c0_3 : Nat) (l0_3 : List (S46)) (a1 : ByteArray) (r : Bool) (w : World) (hr0_1 : Kd.C Kd.string w A0_1 l0_1.length l0_1) (hc0_1 : l0_1.length ≤ c0_1) (hr0_2 : Kd.C k50 w A0_2 l0_2.length l0_2) (hc0_2 : l0_2.length ≤ c0_2) (hr0_3 : Kd.C k46 w A0_3 l0_3.length l0_3) (hc0_3 : l0_3.length ≤ c0_3) (h : semblanceref14_HasEvent.f k a0_0 l0_1 l0_2 l0_3 a1 = some r) :
  Calls Tryz.prog 92 #[.agg #[.string a0_0, .slice A0_1 l0_1.length c0_1, .slice A0_2 l0_2.length c0_2, .slice A0_3 l0_3.length c0_3], .string a1] w fun e w' => e = .returned (.bool r) ∧ Below w.heap.size w w' := by
 have hu26 := Tryz.underlying26
 have HR0_1 := Aside0.mk hr0_1
 have HC0_1 := Aside0.mk hc0_1
 clear hr0_1 hc0_1
 have HR0_2 := Aside0.mk hr0_2
 have HC0_2 := Aside0.mk hc0_2
 clear hr0_2 hc0_2
 have HR0_3 := Aside0.mk hr0_3
 have HC0_3 := Aside0.mk hc0_3
 clear hr0_3 hc0_3
 have HB := Aside0.mk (Below.refl w.heap.size w)
 unfold semblanceref14_HasEvent.f at h
 have H := h
 clear h
 have H' := Aside0.mk H
 clear H
 go_enter Tryz.func92, Tryz.ntmps92
 go_wp2_with (first | ((with_reducible refine gate_dst (N := 2) rfl ?_); refine bx_ HB (N := 2) (cs := #[.string a0_0, .slice A0_1 l0_1.length c0_1, .slice A0_2 l0_2.length c0_2, .slice A0_3 l0_3.length c0_3]) (t := 26) ?_; clear HB; intro gb306 w3 HB BK306 GW306 GE306))
 go_loopg [5] k (fun kq v5 w' => ∃ (x5_1 : Int), v5 = .int .i64 x5_1 ∧ Aside0 (semblanceref14_HasEvent.l0 kq a1 x5_1 a0_0 l0_1 l0_2 l0_3 = some r) ∧ Aside0 (kq ≤ k) ∧ Aside0 (w'.heap[gb306]? = some (.cells #[.string a0_0, (.slice A0_1 l0_1.length c0_1), (.slice A0_2 l0_2.length c0_2), (.slice A0_3 l0_3.length c0_3)] 26 (0, 0))) ∧ Aside0 (Below w.heap.size w w'))
 case atStart => exact ⟨(0), rl_, H', ⟨Nat.le_refl _⟩, ⟨grw BK306.out⟩, ⟨bw_⟩⟩
 case round =>
  clear H'
  obtain ⟨x5_1, rfl, HA, HK1, BK306, HB⟩ := hrel
  cases gk with
  | zero => exact absurd HA.out (by simp [semblanceref14_HasEvent.l0])
  | succ k1 =>
   have H := HA.out
   clear HA
   simp only [semblanceref14_HasEvent.l0] at H
   replace H := it_ H; obtain ⟨c4b0, H⟩ | ⟨c4b0, H⟩ := H
   ·obtain rfl := Option.some.inj H
    obtain ⟨z9_0, z9_1, z9_2, z9_3, y9_0, y9_1, y9_2, y9_3⟩ := cw4_ BK306.out
    go_wp2
    go_ret
    exact ⟨rv_, bw_⟩

   replace H := is_ H; obtain ⟨c5b0, H⟩ := H
   replace H := id_ H; obtain ⟨c6, H⟩ | ⟨c6, H⟩ := H
   ·have c6b0 : ((rdOf ByteArray.empty l0_1 x5_1).toList == a1.toList) = true := beq_iff_eq.mpr c6
    have c6b1 : ((rdOf ByteArray.empty l0_1 x5_1).toList != a1.toList) = false := bne_eq_false_iff_eq.mpr c6
    clear c6
    obtain rfl := Option.some.inj H
    obtain ⟨z7_0, z7_1, z7_2, z7_3, y7_0, y7_1, y7_2, y7_3⟩ := cw4_ BK306.out
    have p307 : 0 ≤ (x5_1 : Int) := of_decide_eq_true (by first | (with_reducible assumption) | assumption)
    have q307 : x5_1 < (l0_1.length : Int) := of_decide_eq_true (by first | (with_reducible assumption) | assumption)
    obtain ⟨ad307, e307, hx307_0⟩ := Kd.at_string HR0_1.out x5_1 p307 q307
    cases e307
    replace hx307_0 := hc45_ HB.out hx307_0
    replace p307 := eq_true p307
    replace q307 := eq_true q307
    go_wp2
    go_ret
    exact ⟨rv_, bw_⟩
   have c6b0 : ((rdOf ByteArray.empty l0_1 x5_1).toList == a1.toList) = false := beq_eq_false_iff_ne.mpr c6
   have c6b1 : ((rdOf ByteArray.empty l0_1 x5_1).toList != a1.toList) = true := bne_iff_ne.mpr c6
   have H' := Aside0.mk H
   clear H
   obtain ⟨z8_0, z8_1, z8_2, z8_3, y8_0, y8_1, y8_2, y8_3⟩ := cw4_ BK306.out
   have p307 : 0 ≤ (x5_1 : Int) := of_decide_eq_true (by first | (with_reducible assumption) | assumption)
   have q307 : x5_1 < (l0_1.length : Int) := of_decide_eq_true (by first | (with_reducible assumption) | assumption)
   obtain ⟨ad307, e307, hx307_0⟩ := Kd.at_string HR0_1.out x5_1 p307 q307
   cases e307
   replace hx307_0 := hc45_ HB.out hx307_0
   replace p307 := eq_true p307
   replace q307 := eq_true q307
   go_wp2
   go_roundg k1
   case measure => have := HK1.out; omega
   case rel => exact ⟨(wrap64 (x5_1 + 1)), rl_, H', ⟨kn_ HK1⟩, ⟨grw BK306.out⟩, ⟨bw_⟩⟩
/-! ### semblanceref14_trans: function 59 -/
def semblanceref14_trans.f (k : Nat) (a0_0 : ByteArray) (l0_1 : List ByteArray) (l0_2 : List (S50)) (l0_3 : List (S46)) (a1 : Int) (a2_0 : ByteArray) (l2_1 : List (S78)) (l2_2 : List (S76)) (a2_3 : ByteArray) : Option (Bool) := if a1 = 6 then (if a2_0.toList = ([] : List UInt8) then (some true) else ((semblanceref14_HasEvent.f k a0_0 l0_1 l0_2 l0_3 a2_0).bind fun t310 => (some t310))) else (if a1 = 7 then (if a2_3.toList = ([] : List UInt8) then (some true) else ((semblanceref14_HasState.f k a0_0 l0_1 l0_2 l0_3 a2_3).bind fun t311 => (some t311))) else (if a1 = 8 then (if (l2_1.length : Int) = 0 then (some true) else ((semblanceref14_expr.f k a0_0 l0_1 l0_2 l0_3 l2_1 2).bind fun t312 => (some t312))) else ((semblanceref14_acts.f k a0_0 l0_1 l0_2 l0_3 l2_2 true).bind fun t313 => (some t313))))
theorem semblanceref14_trans.mono : ∀ a0 a1 a2 a3 a4 a5 a6 a7 a8 k, LeO (semblanceref14_trans.f k a0 a1 a2 a3 a4 a5 a6 a7 a8) (semblanceref14_trans.f (k + 1) a0 a1 a2 a3 a4 a5 a6 a7 a8) := by
  intro a0 a1 a2 a3 a4 a5 a6 a7 a8 k
  unfold semblanceref14_trans.f
  exact mo_
instance semblanceref14_trans.lc : ∀ a0 a1 a2 a3 a4 a5 a6 a7 a8 k, LeC (semblanceref14_trans.f k a0 a1 a2 a3 a4 a5 a6 a7 a8) (semblanceref14_trans.f (k + 1) a0 a1 a2 a3 a4 a5 a6 a7 a8) := fun a0 a1 a2 a3 a4 a5 a6 a7 a8 k => ⟨semblanceref14_trans.mono a0 a1 a2 a3 a4 a5 a6 a7 a8 k⟩
set_option maxHeartbeats 8000000 in
set_option maxRecDepth 100000 in
theorem semblanceref14_trans.calls (k : Nat) (a0_0 : ByteArray) (A0_1 : Option Addr) (c0_1 : Nat) (l0_1 : List ByteArray) (A0_2 : Option Addr) (c0_2 : Nat) (l0_2 : List (S50)) (A0_3 : Option Addr) (c0_3 : Nat) (l0_3 : List (S46)) (a1 : Int) (a2_0 : ByteArray) (A2_1 : Option Addr) (c2_1 : Nat) (l2_1 : List (S78)) (A2_2 : Option Addr) (c2_2 : Nat) (l2_2 : List (S76)) (a2_3 : ByteArray) (r : Bool) (w : World) (hr0_1 : Kd.C Kd.string w A0_1 l0_1.length l0_1) (hc0_1 : l0_1.length ≤ c0_1) (hr0_2 : Kd.C k50 w A0_2 l0_2.length l0_2) (hc0_2 : l0_2.length ≤ c0_2) (hr0_3 : Kd.C k46 w A0_3 l0_3.length l0_3) (hc0_3 : l0_3.length ≤ c0_3) (hr2_1 : Kd.C k78 w A2_1 l2_1.length l2_1) (hc2_1 : l2_1.length ≤ c2_1) (hr2_2 : Kd.C k76 w A2_2 l2_2.length l2_2) (hc2_2 : l2_2.length ≤ c2_2) (h : semblanceref14_trans.f k a0_0 l0_1 l0_2 l0_3 a1 a2_0 l2_1 l2_2 a2_3 = some r) :
  Calls Tryz.prog 59 #[.agg #[.string a0_0, .slice A0_1 l0_1.length c0_1, .slice A0_2 l0_2.length c0_2, .slice A0_3 l0_3.length c0_3], .int .i64 a1, .agg #[.string a2_0, .slice A2_1 l2_1.length c2_1, .slice A2_2 l2_2.length c2_2, .string a2_3]] w fun e w' => e = .returned (.bool r) ∧ Below w.heap.size w w' := by
 have hu26 := Tryz.underlying26
 have hu54 := Tryz.underlying54
 have HR0_1 := Aside0.mk hr0_1
 have HC0_1 := Aside0.mk hc0_1
 clear hr0_1 hc0_1
 have HR0_2 := Aside0.mk hr0_2
 have HC0_2 := Aside0.mk hc0_2
 clear hr0_2 hc0_2
 have HR0_3 := Aside0.mk hr0_3
 have HC0_3 := Aside0.mk hc0_3
 clear hr0_3 hc0_3
 have HR2_1 := Aside0.mk hr2_1
 have HC2_1 := Aside0.mk hc2_1
 clear hr2_1 hc2_1
 have HR2_2 := Aside0.mk hr2_2
 have HC2_2 := Aside0.mk hc2_2
 clear hr2_2 hc2_2
 have HB := Aside0.mk (Below.refl w.heap.size w)
 unfold semblanceref14_trans.f at h
 have H := h
 clear h
 replace H := id_ H; obtain ⟨c4, H⟩ | ⟨c4, H⟩ := H
 ·have c4b0 : (a1 == 6) = true := beq_iff_eq.mpr c4
  have c4b1 : (a1 != 6) = false := bne_eq_false_iff_eq.mpr c4
  clear c4
  replace H := id_ H; obtain ⟨c5, H⟩ | ⟨c5, H⟩ := H
  ·have c5b0 : (a2_0.toList == ([] : List UInt8)) = true := beq_iff_eq.mpr c5
   have c5b1 : (a2_0.toList != ([] : List UInt8)) = false := bne_eq_false_iff_eq.mpr c5
   clear c5
   obtain rfl := Option.some.inj H
   go_enter Tryz.func59, Tryz.ntmps59
   go_wp2_with (first | ((with_reducible refine gate_dst (N := 3) rfl ?_); refine bx_ HB (N := 3) (cs := #[.string a0_0, .slice A0_1 l0_1.length c0_1, .slice A0_2 l0_2.length c0_2, .slice A0_3 l0_3.length c0_3]) (t := 26) ?_; clear HB; intro gb308 w6 HB BK308 GW308 GE308) | ((with_reducible refine gate_dst (N := 5) rfl ?_); refine by_ HB (N := 5) (cs := #[.string a2_0, .slice A2_1 l2_1.length c2_1, .slice A2_2 l2_2.length c2_2, .string a2_3]) (t := 54) ?_; intro gb309 hg w7 hbox hb hB_; have BK309 := Aside0.mk (hbox); have GW309 := gw_ hg hB_; have GE309 := gw_ hg hB_; have NB308_309 := nb_ BK308 hg; have NB309_308 := nc_ BK308 hg; replace BK308 := tb_ BK308 hb; replace HB := Aside0.mk (below_step hB_ hb); clear hb hbox hg; have hnb8 := NB309_308.out; have hnc8 := NB308_309.out; obtain ⟨z9_0, z9_1, z9_2, z9_3, y9_0, y9_1, y9_2, y9_3⟩ := cw4_ BK309.out))
   go_ret
   exact ⟨rv_, bw_⟩
  have c5b0 : (a2_0.toList == ([] : List UInt8)) = false := beq_eq_false_iff_ne.mpr c5
  have c5b1 : (a2_0.toList != ([] : List UInt8)) = true := bne_iff_ne.mpr c5
  replace H := bi_ H; obtain ⟨t310, A10, H⟩ := H
  obtain rfl := Option.some.inj H
  go_enter Tryz.func59, Tryz.ntmps59
  go_wp2_with (first | ((with_reducible refine gate_dst (N := 3) rfl ?_); refine bx_ HB (N := 3) (cs := #[.string a0_0, .slice A0_1 l0_1.length c0_1, .slice A0_2 l0_2.length c0_2, .slice A0_3 l0_3.length c0_3]) (t := 26) ?_; clear HB; intro gb308 w11 HB BK308 GW308 GE308) | ((with_reducible refine gate_dst (N := 5) rfl ?_); refine by_ HB (N := 5) (cs := #[.string a2_0, .slice A2_1 l2_1.length c2_1, .slice A2_2 l2_2.length c2_2, .string a2_3]) (t := 54) ?_; intro gb309 hg w12 hbox hb hB_; have BK309 := Aside0.mk (hbox); have GW309 := gw_ hg hB_; have GE309 := gw_ hg hB_; have NB308_309 := nb_ BK308 hg; have NB309_308 := nc_ BK308 hg; replace BK308 := tb_ BK308 hb; replace HB := Aside0.mk (below_step hB_ hb); clear hb hbox hg; have hnb13 := NB309_308.out; have hnc13 := NB308_309.out; obtain ⟨z14_0, z14_1, z14_2, z14_3, y14_0, y14_1, y14_2, y14_3⟩ := cw4_ BK309.out; obtain ⟨z15_0, z15_1, z15_2, z15_3, y15_0, y15_1, y15_2, y15_3⟩ := cw4_ BK308.out) | (go_at_call 92; (with_reducible refine cm_ (semblanceref14_HasEvent.calls k a0_0 _ _ l0_1 _ _ l0_2 _ _ l0_3 a2_0 t310 _ (kc_ HR0_1 HB) HC0_1.out (kc_ HR0_2 HB) HC0_2.out (kc_ HR0_3 HB) HC0_3.out A10.out) ?_); intro w16 hb; replace BK308 := tb_ BK308 hb; replace BK309 := tb_ BK309 hb; replace HB := ts_ HB hb; clear hb))
  go_ret
  exact ⟨rv_, bw_⟩
 have c4b0 : (a1 == 6) = false := beq_eq_false_iff_ne.mpr c4
 have c4b1 : (a1 != 6) = true := bne_iff_ne.mpr c4
 replace H := id_ H; obtain ⟨c17, H⟩ | ⟨c17, H⟩ := H
 ·have c17b0 : (a1 == 7) = true := beq_iff_eq.mpr c17
  have c17b1 : (a1 != 7) = false := bne_eq_false_iff_eq.mpr c17
  clear c17
  replace H := id_ H; obtain ⟨c18, H⟩ | ⟨c18, H⟩ := H
  ·have c18b0 : (a2_3.toList == ([] : List UInt8)) = true := beq_iff_eq.mpr c18
   have c18b1 : (a2_3.toList != ([] : List UInt8)) = false := bne_eq_false_iff_eq.mpr c18
   clear c18
   obtain rfl := Option.some.inj H
   go_enter Tryz.func59, Tryz.ntmps59
   go_wp2_with (first | ((with_reducible refine gate_dst (N := 3) rfl ?_); refine bx_ HB (N := 3) (cs := #[.string a0_0, .slice A0_1 l0_1.length c0_1, .slice A0_2 l0_2.length c0_2, .slice A0_3 l0_3.length c0_3]) (t := 26) ?_; clear HB; intro gb308 w19 HB BK308 GW308 GE308) | ((with_reducible refine gate_dst (N := 5) rfl ?_); refine by_ HB (N := 5) (cs := #[.string a2_0, .slice A2_1 l2_1.length c2_1, .slice A2_2 l2_2.length c2_2, .string a2_3]) (t := 54) ?_; intro gb309 hg w20 hbox hb hB_; have BK309 := Aside0.mk (hbox); have GW309 := gw_ hg hB_; have GE309 := gw_ hg hB_; have NB308_309 := nb_ BK308 hg; have NB309_308 := nc_ BK308 hg; replace BK308 := tb_ BK308 hb; replace HB := Aside0.mk (below_step hB_ hb); clear hb hbox hg; have hnb21 := NB309_308.out; have hnc21 := NB308_309.out; obtain ⟨z22_0, z22_1, z22_2, z22_3, y22_0, y22_1, y22_2, y22_3⟩ := cw4_ BK309.out))
   go_ret
   exact ⟨rv_, bw_⟩
  have c18b0 : (a2_3.toList == ([] : List UInt8)) = false := beq_eq_false_iff_ne.mpr c18
  have c18b1 : (a2_3.toList != ([] : List UInt8)) = true := bne_iff_ne.mpr c18
  replace H := bi_ H; obtain ⟨t311, A23, H⟩ := H
  obtain rfl := Option.some.inj H
  go_enter Tryz.func59, Tryz.ntmps59
  go_wp2_with (first | ((with_reducible refine gate_dst (N := 3) rfl ?_); refine bx_ HB (N := 3) (cs := #[.string a0_0, .slice A0_1 l0_1.length c0_1, .slice A0_2 l0_2.length c0_2, .slice A0_3 l0_3.length c0_3]) (t := 26) ?_; clear HB; intro gb308 w24 HB BK308 GW308 GE308) | ((with_reducible refine gate_dst (N := 5) rfl ?_); refine by_ HB (N := 5) (cs := #[.string a2_0, .slice A2_1 l2_1.length c2_1, .slice A2_2 l2_2.length c2_2, .string a2_3]) (t := 54) ?_; intro gb309 hg w25 hbox hb hB_; have BK309 := Aside0.mk (hbox); have GW309 := gw_ hg hB_; have GE309 := gw_ hg hB_; have NB308_309 := nb_ BK308 hg; have NB309_308 := nc_ BK308 hg; replace BK308 := tb_ BK308 hb; replace HB := Aside0.mk (below_step hB_ hb); clear hb hbox hg; have hnb26 := NB309_308.out; have hnc26 := NB308_309.out; obtain ⟨z27_0, z27_1, z27_2, z27_3, y27_0, y27_1, y27_2, y27_3⟩ := cw4_ BK309.out; obtain ⟨z28_0, z28_1, z28_2, z28_3, y28_0, y28_1, y28_2, y28_3⟩ := cw4_ BK308.out) | (go_at_call 93; (with_reducible refine cm_ (semblanceref14_HasState.calls k a0_0 _ _ l0_1 _ _ l0_2 _ _ l0_3 a2_3 t311 _ (kc_ HR0_1 HB) HC0_1.out (kc_ HR0_2 HB) HC0_2.out (kc_ HR0_3 HB) HC0_3.out A23.out) ?_); intro w29 hb; replace BK308 := tb_ BK308 hb; replace BK309 := tb_ BK309 hb; replace HB := ts_ HB hb; clear hb))
  go_ret
  exact ⟨rv_, bw_⟩
 have c17b0 : (a1 == 7) = false := beq_eq_false_iff_ne.mpr c17
 have c17b1 : (a1 != 7) = true := bne_iff_ne.mpr c17
 replace H := ic_ H; obtain ⟨c30, H⟩ | ⟨c30, H⟩ := H
 ·have c30b0 : (a1 == 8) = false := beq_eq_false_iff_ne.mpr c30
  have c30b1 : (a1 != 8) = true := bne_iff_ne.mpr c30
  replace H := bi_ H; obtain ⟨t313, A43, H⟩ := H
  obtain rfl := Option.some.inj H
  go_enter Tryz.func59, Tryz.ntmps59
  go_wp2_with (first | ((with_reducible refine gate_dst (N := 3) rfl ?_); refine bx_ HB (N := 3) (cs := #[.string a0_0, .slice A0_1 l0_1.length c0_1, .slice A0_2 l0_2.length c0_2, .slice A0_3 l0_3.length c0_3]) (t := 26) ?_; clear HB; intro gb308 w44 HB BK308 GW308 GE308) | ((with_reducible refine gate_dst (N := 5) rfl ?_); refine by_ HB (N := 5) (cs := #[.string a2_0, .slice A2_1 l2_1.length c2_1, .slice A2_2 l2_2.length c2_2, .string a2_3]) (t := 54) ?_; intro gb309 hg w45 hbox hb hB_; have BK309 := Aside0.mk (hbox); have GW309 := gw_ hg hB_; have GE309 := gw_ hg hB_; have NB308_309 := nb_ BK308 hg; have NB309_308 := nc_ BK308 hg; replace BK308 := tb_ BK308 hb; replace HB := Aside0.mk (below_step hB_ hb); clear hb hbox hg; have hnb46 := NB308_309.out; have hnc46 := NB309_308.out; obtain ⟨z47_0, z47_1, z47_2, z47_3, y47_0, y47_1, y47_2, y47_3⟩ := cw4_ BK308.out; obtain ⟨z48_0, z48_1, z48_2, z48_3, y48_0, y48_1, y48_2, y48_3⟩ := cw4_ BK309.out) | ((with_reducible refine gate_callee (f := 58) rfl ?_); refine gl_ (some 45) Tryz.func58 #[.agg #[.string a0_0, .slice A0_1 l0_1.length c0_1, .slice A0_2 l0_2.length c0_2, .slice A0_3 l0_3.length c0_3], .slice A2_2 l2_2.length c2_2, .bool true] ?_; (with_reducible refine cm_ (semblanceref14_acts.calls k a0_0 _ _ l0_1 _ _ l0_2 _ _ l0_3 _ _ l2_2 true t313 _ (kc_ HR0_1 HB) HC0_1.out (kc_ HR0_2 HB) HC0_2.out (kc_ HR0_3 HB) HC0_3.out (kc_ HR2_2 HB) HC2_2.out A43.out) ?_); intro w49 hb; refine ⟨_, rfl, ?_⟩; replace BK308 := tb_ BK308 hb; replace BK309 := tb_ BK309 hb; replace HB := ts_ HB hb; clear hb))
  go_ret
  exact ⟨rv_, bw_⟩

 have c30b0 : (a1 == 8) = true := beq_iff_eq.mpr c30
 have c30b1 : (a1 != 8) = false := bne_eq_false_iff_eq.mpr c30
 clear c30
 replace H := id_ H; obtain ⟨c31, H⟩ | ⟨c31, H⟩ := H
 ·have c31b0 : ((l2_1.length : Int) == 0) = true := beq_iff_eq.mpr c31
  have c31b1 : ((l2_1.length : Int) != 0) = false := bne_eq_false_iff_eq.mpr c31
  clear c31
  obtain rfl := Option.some.inj H
  go_enter Tryz.func59, Tryz.ntmps59
  go_wp2_with (first | ((with_reducible refine gate_dst (N := 3) rfl ?_); refine bx_ HB (N := 3) (cs := #[.string a0_0, .slice A0_1 l0_1.length c0_1, .slice A0_2 l0_2.length c0_2, .slice A0_3 l0_3.length c0_3]) (t := 26) ?_; clear HB; intro gb308 w32 HB BK308 GW308 GE308) | ((with_reducible refine gate_dst (N := 5) rfl ?_); refine by_ HB (N := 5) (cs := #[.string a2_0, .slice A2_1 l2_1.length c2_1, .slice A2_2 l2_2.length c2_2, .string a2_3]) (t := 54) ?_; intro gb309 hg w33 hbox hb hB_; have BK309 := Aside0.mk (hbox); have GW309 := gw_ hg hB_; have GE309 := gw_ hg hB_; have NB308_309 := nb_ BK308 hg; have NB309_308 := nc_ BK308 hg; replace BK308 := tb_ BK308 hb; replace HB := Aside0.mk (below_step hB_ hb); clear hb hbox hg; have hnb34 := NB309_308.out; have hnc34 := NB308_309.out; obtain ⟨z35_0, z35_1, z35_2, z35_3, y35_0, y35_1, y35_2, y35_3⟩ := cw4_ BK309.out))
  go_ret
  exact ⟨rv_, bw_⟩
 have c31b0 : ((l2_1.length : Int) == 0) = false := beq_eq_false_iff_ne.mpr c31
 have c31b1 : ((l2_1.length : Int) != 0) = true := bne_iff_ne.mpr c31
 have c31b2 : ¬ (l2_1 = []) := fun h_ => c31 (by rw [h_]; rfl)
 replace H := bi_ H; obtain ⟨t312, A36, H⟩ := H
 obtain rfl := Option.some.inj H
 go_enter Tryz.func59, Tryz.ntmps59
 go_wp2_with (first | ((with_reducible refine gate_dst (N := 3) rfl ?_); refine bx_ HB (N := 3) (cs := #[.string a0_0, .slice A0_1 l0_1.length c0_1, .slice A0_2 l0_2.length c0_2, .slice A0_3 l0_3.length c0_3]) (t := 26) ?_; clear HB; intro gb308 w37 HB BK308 GW308 GE308) | ((with_reducible refine gate_dst (N := 5) rfl ?_); refine by_ HB (N := 5) (cs := #[.string a2_0, .slice A2_1 l2_1.length c2_1, .slice A2_2 l2_2.length c2_2, .string a2_3]) (t := 54) ?_; intro gb309 hg w38 hbox hb hB_; have BK309 := Aside0.mk (hbox); have GW309 := gw_ hg hB_; have GE309 := gw_ hg hB_; have NB308_309 := nb_ BK308 hg; have NB309_308 := nc_ BK308 hg; replace BK308 := tb_ BK308 hb; replace HB := Aside0.mk (below_step hB_ hb); clear hb hbox hg; have hnb39 := NB309_308.out; have hnc39 := NB308_309.out; obtain ⟨z40_0, z40_1, z40_2, z40_3, y40_0, y40_1, y40_2, y40_3⟩ := cw4_ BK309.out; obtain ⟨z41_0, z41_1, z41_2, z41_3, y41_0, y41_1, y41_2, y41_3⟩ := cw4_ BK308.out) | (go_at_call 91; (with_reducible refine cm_ (semblanceref14_expr.calls k a0_0 _ _ l0_1 _ _ l0_2 _ _ l0_3 _ _ l2_1 2 t312 _ (kc_ HR0_1 HB) HC0_1.out (kc_ HR0_2 HB) HC0_2.out (kc_ HR0_3 HB) HC0_3.out (kc_ HR2_1 HB) HC2_1.out A36.out) ?_); intro w42 hb; replace BK308 := tb_ BK308 hb; replace BK309 := tb_ BK309 hb; replace HB := ts_ HB hb; clear hb))
 go_ret
 exact ⟨rv_, bw_⟩
end Go.Proofs.YtbkaiojofgmbnaaGreat.XS
