-- written by wip/xprint.py out of the translation
import Derived.Test.YtbkaiojofgmbnaaXShort
import Derived.Test.YtbkaiojofgmbnaaXLp0
import Derived.Test.YtbkaiojofgmbnaaXLp3
import Derived.Test.YtbkaiojofgmbnaaXLp4
namespace Go.Proofs.Ytbkaiojofgmbnaa.XL
open Go.Proofs.Ytbkaiojofgmbnaa.XShort Go.Proofs.Ytbkaiojofgmbnaa.XReg Go.Proofs.Ytbkaiojofgmbnaa.XGrow Go.RowKit Go.Proofs.YtbkaiojofgmbnaaW.PrintWords Go.Proofs.YtbkaiojofgmbnaaW.PrintLast Go.Proofs.YtbkaiojofgmbnaaW.PrintMore
attribute [local go_sem] max2_int min2_int max_two min_two max_three min_three max_four min_four   -- for this text's walks alone
set_option linter.unusedVariables false
set_option linter.unusedSimpArgs false

/-! ### act_may: function 165 -/
def act_may.j0 : Nat → Bool → ByteArray → Bool → List (S214) → Option (Int)
  | 0, _, _, _, _ => none
  | k + 1, x3, x138000, x138001, x138002 => if x3 = true then (some 1) else (if x138001 = true then (some 0) else ((term_Check.f k x138002).bind fun t139 => (some t139)))
def act_may.f (k : Nat) (a0_0 : ByteArray) (a0_1 : Bool) (l0_2 : List (S214)) : Option (Int) := (names_Is.f k a0_0).bind fun t138 => (if t138 = true then (if a0_1 = true then (act_may.j0 k (decide ((l0_2.length : Int) > 0)) a0_0 a0_1 l0_2) else (act_may.j0 k false a0_0 a0_1 l0_2)) else (act_may.j0 k (!t138) a0_0 a0_1 l0_2))
theorem act_may.mono_l : ∀ k, (∀ y0 y1 y2 y3, LeO (act_may.j0 k y0 y1 y2 y3) (act_may.j0 (k + 1) y0 y1 y2 y3))
  | 0 => fun _ _ _ _ r h => by simp [act_may.j0] at h
  | k + 1 => by
    have ih0 := act_may.mono_l k
    · intro y0 y1 y2 y3
      unfold act_may.j0
      exact mo_
theorem act_may.mono : ∀ a0 a1 a2 k, LeO (act_may.f k a0 a1 a2) (act_may.f (k + 1) a0 a1 a2) := by
  intro a0 a1 a2 k
  have ih0 := act_may.mono_l k
  unfold act_may.f
  exact mo_
instance act_may.lc : ∀ a0 a1 a2 k, LeC (act_may.f k a0 a1 a2) (act_may.f (k + 1) a0 a1 a2) := fun a0 a1 a2 k => ⟨act_may.mono a0 a1 a2 k⟩
set_option maxHeartbeats 8000000 in
set_option maxRecDepth 100000 in
theorem act_may.calls (k : Nat) (a0_0 : ByteArray) (a0_1 : Bool) (A0_2 : Option Addr) (c0_2 : Nat) (l0_2 : List (S214)) (r : Int) (w : World) (hr0_2 : Kd.C k214 w A0_2 l0_2.length l0_2) (hc0_2 : l0_2.length ≤ c0_2) (h : act_may.f k a0_0 a0_1 l0_2 = some r) :
  Calls Try.prog 165 #[.agg #[.string a0_0, .bool a0_1, .slice A0_2 l0_2.length c0_2]] w fun e w' => e = .returned (.int .i64 r) ∧ Below w.heap.size w w' := by
 have hu189 := Try.underlying189
 have HR0_2 := Aside0.mk hr0_2
 have HC0_2 := Aside0.mk hc0_2
 clear hr0_2 hc0_2
 have HB := Aside0.mk (Below.refl w.heap.size w)
 unfold act_may.f at h
 have H := h
 clear h
 replace H := bi_ H; obtain ⟨t138, A2, H⟩ := H
 have HC3 := Aside0.mk H
 clear H
 go_enter Try.func165, Try.ntmps165
 go_upto_if 3 with (first | ((with_reducible refine gate_dst (N := 1) rfl ?_); (try (refine gate_guard (by rfl) ?_; dsimp only)); refine bx_ HB (N := 1) (cs := #[.string a0_0, .bool a0_1, .slice A0_2 l0_2.length c0_2]) (t := 189) ?_; clear HB; intro gb137 w4 HB BK137 GW137 GE137; obtain ⟨z5_0, z5_1, z5_2, y5_0, y5_1, y5_2⟩ := cw3_ BK137.out) | ((with_reducible refine gate_callee (f := 112) rfl ?_); refine gl_ (some 6) Try.func112 #[.string a0_0] ?_; (with_reducible refine cm_ (names_Is.calls k a0_0 t138 _ A2.out) ?_); intro w6 hb; refine ⟨_, rfl, ?_⟩; replace BK137 := tb_ BK137 hb; replace HB := ts_ HB hb; clear hb))
 (try simp only [Act.put, sb_, s0_, s1_])
 go_cut [3] (fun v3 wc => ∃ (kq : Nat) (x3_2 : Bool), v3 = .bool x3_2 ∧ Aside0 (act_may.j0 kq x3_2 a0_0 a0_1 l0_2 = some r) ∧ Aside0 (kq ≤ k) ∧ Aside0 (wc.heap[gb137]? = some (.cells #[.string a0_0, .bool a0_1, (.slice A0_2 l0_2.length c0_2)] 189 (0, 0))) ∧ Aside0 (Below w.heap.size w wc))
 case first =>
  have H := HC3.out
  clear HC3
  replace H := ib_ H; obtain ⟨rfl, H⟩ | ⟨rfl, H⟩ := H
  ·have H' := Aside0.mk H
   clear H
   go_wp2
   go_meet
   case rel => exact ⟨_, (!false), rl_, H', ⟨km_⟩, ⟨grw BK137.out⟩, ⟨bw_⟩⟩
  replace H := ie_ H; obtain ⟨rfl, H⟩ | ⟨rfl, H⟩ := H
  ·have H' := Aside0.mk H
   clear H
   obtain ⟨z9_0, z9_1, z9_2, y9_0, y9_1, y9_2⟩ := cw3_ BK137.out
   go_wp2
   go_meet
   case rel => exact ⟨_, (decide ((l0_2.length : Int) > 0)), rl_, H', ⟨km_⟩, ⟨grw BK137.out⟩, ⟨bw_⟩⟩
  have H' := Aside0.mk H
  clear H
  obtain ⟨z10_0, z10_1, z10_2, y10_0, y10_1, y10_2⟩ := cw3_ BK137.out
  go_wp2
  go_meet
  case rel => exact ⟨_, (false), rl_, H', ⟨km_⟩, ⟨grw BK137.out⟩, ⟨bw_⟩⟩
 case rest =>
  clear HC3
  try clear z5_0 z5_1 z5_2
  try clear y5_0 y5_1 y5_2
  obtain ⟨kq, x3_2, rfl, HA, HJ2, BK137, HB⟩ := hcut
  cases kq with
  | zero => exact absurd HA.out (by simp [act_may.j0])
  | succ kj2 =>
   have H := HA.out
   clear HA
   simp only [act_may.j0] at H
   replace H := ie_ H; obtain ⟨rfl, H⟩ | ⟨rfl, H⟩ := H
   ·obtain rfl := Option.some.inj H
    go_wp2
    go_ret
    exact ⟨rv_, bw_⟩
   replace H := ie_ H; obtain ⟨rfl, H⟩ | ⟨rfl, H⟩ := H
   ·obtain rfl := Option.some.inj H
    obtain ⟨z13_0, z13_1, z13_2, y13_0, y13_1, y13_2⟩ := cw3_ BK137.out
    go_wp2
    go_ret
    exact ⟨rv_, bw_⟩
   replace H := bi_ H; obtain ⟨t139, A14, H⟩ := H
   obtain rfl := Option.some.inj H
   obtain ⟨z15_0, z15_1, z15_2, y15_0, y15_1, y15_2⟩ := cw3_ BK137.out
   go_wp2_with (first | ((with_reducible refine gate_callee (f := 168) rfl ?_); refine gl_ (some 21) Try.func168 #[.slice A0_2 l0_2.length c0_2] ?_; (with_reducible refine cm_ (term_Check.calls kj2 _ _ l0_2 t139 _ (kc_ HR0_2 HB) HC0_2.out A14.out) ?_); intro w16 hb; refine ⟨_, rfl, ?_⟩; replace BK137 := tb_ BK137 hb; replace HB := ts_ HB hb; clear hb))
   go_ret
   exact ⟨rv_, bw_⟩

/-! ### act_Check: function 145 -/
def act_Check.l0 : Nat → List (S189) → Int → Int → Option (Int)
  | 0, _, _, _ => none
  | k + 1, x9, x10, x11 => if x11 < x10 then (if 0 ≤ x11 then (if x11 < (x9.length : Int) then ((act_may.f k ((rd_T189 x9 x11).f0) ((rd_T189 x9 x11).f1) ((rd_T189 x9 x11).f2)).bind fun t142 => (if t142 = 0 then (act_Check.l0 k x9 x10 (wrap64 (x11 + 1))) else (some t142))) else (none)) else (none)) else (some 0)
def act_Check.f (k : Nat) (l0 : List (S189)) : Option (Int) := if (l0.length : Int) > 8 then (some 8) else (act_Check.l0 k l0 (l0.length : Int) 0)
theorem act_Check.mono_l : ∀ k, (∀ y0 y1 y2, LeO (act_Check.l0 k y0 y1 y2) (act_Check.l0 (k + 1) y0 y1 y2))
  | 0 => fun _ _ _ r h => by simp [act_Check.l0] at h
  | k + 1 => by
    have ih0 := act_Check.mono_l k
    · intro y0 y1 y2
      unfold act_Check.l0
      exact mo_
theorem act_Check.mono : ∀ a0 k, LeO (act_Check.f k a0) (act_Check.f (k + 1) a0) := by
  intro a0 k
  have ih0 := act_Check.mono_l k
  unfold act_Check.f
  exact mo_
instance act_Check.lc : ∀ a0 k, LeC (act_Check.f k a0) (act_Check.f (k + 1) a0) := fun a0 k => ⟨act_Check.mono a0 k⟩
set_option maxHeartbeats 8000000 in
set_option maxRecDepth 100000 in
theorem act_Check.calls (k : Nat) (A0 : Option Addr) (c0 : Nat) (l0 : List (S189)) (r : Int) (w : World) (hr0 : Kd.C k189 w A0 l0.length l0) (hc0 : l0.length ≤ c0) (h : act_Check.f k l0 = some r) :
  Calls Try.prog 145 #[.slice A0 l0.length c0] w fun e w' => e = .returned (.int .i64 r) ∧ Below w.heap.size w w' := by
 have hu189 := Try.underlying189
 have HR0 := Aside0.mk hr0
 have HC0 := Aside0.mk hc0
 clear hr0 hc0
 have HB := Aside0.mk (Below.refl w.heap.size w)
 unfold act_Check.f at h
 have H := h
 clear h
 replace H := id_ H; obtain ⟨c2, H⟩ | ⟨c2, H⟩ := H
 ·have c2b0 : decide (8 < (l0.length : Int)) = true := decide_eq_true c2
  have c2b1 : decide (8 < l0.length) = true := decide_eq_true (by omega)
  clear c2
  obtain rfl := Option.some.inj H
  go_enter Try.func145, Try.ntmps145
  go_wp2
  go_ret
  exact ⟨rv_, bw_⟩
 have c2b0 : decide (8 < (l0.length : Int)) = false := decide_eq_false c2
 have c2b1 : decide (8 < l0.length) = false := decide_eq_false (by omega)
 clear c2
 have H' := Aside0.mk H
 clear H
 go_enter Try.func145, Try.ntmps145
 go_wp2
 go_loopg [11] k (fun kq v11 w' => ∃ (x11_1 : Int), v11 = .int .i64 x11_1 ∧ Aside0 (act_Check.l0 kq l0 (l0.length : Int) x11_1 = some r) ∧ Aside0 (kq ≤ k) ∧ Aside0 (Below w.heap.size w w'))
 case atStart => exact ⟨(0), rl_, H', ⟨Nat.le_refl _⟩, ⟨bw_⟩⟩
 case round =>
  clear H'
  try clear c2b0
  try clear c2b1
  obtain ⟨x11_1, rfl, HA, HK1, HB⟩ := hrel
  cases gk with
  | zero => exact absurd HA.out (by simp [act_Check.l0])
  | succ k1 =>
   have H := HA.out
   clear HA
   simp only [act_Check.l0] at H
   replace H := it_ H; obtain ⟨c3b0, H⟩ | ⟨c3b0, H⟩ := H
   ·obtain rfl := Option.some.inj H
    go_wp2
    go_ret
    exact ⟨rv_, bw_⟩

   replace H := is_ H; obtain ⟨c4b0, H⟩ := H
   replace H := is_ H; obtain ⟨c5b0, H⟩ := H
   replace H := bi_ H; obtain ⟨t142, A6, H⟩ := H
   replace H := ic_ H; obtain ⟨c7, H⟩ | ⟨c7, H⟩ := H
   ·have c7b0 : (t142 == 0) = false := beq_eq_false_iff_ne.mpr c7
    have c7b1 : (t142 != 0) = true := bne_iff_ne.mpr c7
    obtain rfl := Option.some.inj H
    obtain ⟨ad140, A140_2, c140_2, e140, hx140_0, hx140_1, hx140_2, HC140_2, HR140_2, p140, q140⟩ := au_T189 HR0 HB x11_1; cases e140
    go_wp2_with (first | ((with_reducible refine gate_dst (N := 4) rfl ?_); refine bx_ HB (N := 4) (cs := #[.string (⟨#[]⟩ : ByteArray), .bool false, .slice none 0 0]) (t := 189) ?_; clear HB; intro gb141 w11 HB BK141 GW141 GE141; obtain ⟨z12_0, z12_1, z12_2, y12_0, y12_1, y12_2⟩ := cw3_ BK141.out) | ((with_reducible refine gate_callee (f := 165) rfl ?_); refine gl_ (some 16) Try.func165 #[.agg #[.string ((rd_T189 l0 x11_1).f0), .bool ((rd_T189 l0 x11_1).f1), .slice A140_2 ((rd_T189 l0 x11_1).f2).length c140_2]] ?_; (with_reducible refine (act_may.calls k1 ((rd_T189 l0 x11_1).f0) ((rd_T189 l0 x11_1).f1) _ _ ((rd_T189 l0 x11_1).f2) t142 _ ?side1 HC140_2.out A6.out).mono ?_); (case side1 => exact Kd.C_below HR140_2.out bw_); rintro e w13 ⟨rfl, hb⟩; refine ⟨_, rfl, ?_⟩; replace BK141 := Aside0.mk (blk_below (g := gb141) (o := .cells #[.string ((rd_T189 l0 x11_1).f0), .bool ((rd_T189 l0 x11_1).f1), .slice A140_2 ((rd_T189 l0 x11_1).f2).length c140_2] 189 (0, 0)) (by refine grO ?_; refine blk_put (cs := #[.string ((rd_T189 l0 x11_1).f0), .bool ((rd_T189 l0 x11_1).f1), .slice none 0 0]) ?_ 2 _ rfl; refine grO ?_; refine blk_put (cs := #[.string ((rd_T189 l0 x11_1).f0), .bool false, .slice none 0 0]) ?_ 1 _ rfl; refine grO ?_; refine blk_put (cs := #[.string (⟨#[]⟩ : ByteArray), .bool false, .slice none 0 0]) ?_ 0 _ rfl; refine grO ?_; exact BK141.out) hb); replace HB := ts_ HB hb; clear hb))
    go_ret
    exact ⟨rv_, bw_⟩
   have c7b0 : (t142 == 0) = true := beq_iff_eq.mpr c7
   have c7b1 : (t142 != 0) = false := bne_eq_false_iff_eq.mpr c7
   clear c7
   have H' := Aside0.mk H
   clear H
   obtain ⟨ad140, A140_2, c140_2, e140, hx140_0, hx140_1, hx140_2, HC140_2, HR140_2, p140, q140⟩ := au_T189 HR0 HB x11_1; cases e140
   go_wp2_with (first | ((with_reducible refine gate_dst (N := 4) rfl ?_); refine bx_ HB (N := 4) (cs := #[.string (⟨#[]⟩ : ByteArray), .bool false, .slice none 0 0]) (t := 189) ?_; clear HB; intro gb141 w8 HB BK141 GW141 GE141; obtain ⟨z9_0, z9_1, z9_2, y9_0, y9_1, y9_2⟩ := cw3_ BK141.out) | ((with_reducible refine gate_callee (f := 165) rfl ?_); refine gl_ (some 16) Try.func165 #[.agg #[.string ((rd_T189 l0 x11_1).f0), .bool ((rd_T189 l0 x11_1).f1), .slice A140_2 ((rd_T189 l0 x11_1).f2).length c140_2]] ?_; (with_reducible refine (act_may.calls k1 ((rd_T189 l0 x11_1).f0) ((rd_T189 l0 x11_1).f1) _ _ ((rd_T189 l0 x11_1).f2) t142 _ ?side1 HC140_2.out A6.out).mono ?_); (case side1 => exact Kd.C_below HR140_2.out bw_); rintro e w10 ⟨rfl, hb⟩; refine ⟨_, rfl, ?_⟩; replace BK141 := Aside0.mk (blk_below (g := gb141) (o := .cells #[.string ((rd_T189 l0 x11_1).f0), .bool ((rd_T189 l0 x11_1).f1), .slice A140_2 ((rd_T189 l0 x11_1).f2).length c140_2] 189 (0, 0)) (by refine grO ?_; refine blk_put (cs := #[.string ((rd_T189 l0 x11_1).f0), .bool ((rd_T189 l0 x11_1).f1), .slice none 0 0]) ?_ 2 _ rfl; refine grO ?_; refine blk_put (cs := #[.string ((rd_T189 l0 x11_1).f0), .bool false, .slice none 0 0]) ?_ 1 _ rfl; refine grO ?_; refine blk_put (cs := #[.string (⟨#[]⟩ : ByteArray), .bool false, .slice none 0 0]) ?_ 0 _ rfl; refine grO ?_; exact BK141.out) hb); replace HB := ts_ HB hb; clear hb))
   go_roundg k1
   case measure => have := HK1.out; omega
   case rel => exact ⟨(wrap64 (x11_1 + 1)), rl_, H', ⟨kn_ HK1⟩, ⟨bw_⟩⟩
/-! ### trans_named: function 167 -/
def trans_named.f (k : Nat) (a0 : ByteArray) : Option (Bool) := if a0.toList = ([] : List UInt8) then (some true) else ((names_Is.f k a0).bind fun t143 => (some t143))
theorem trans_named.mono : ∀ a0 k, LeO (trans_named.f k a0) (trans_named.f (k + 1) a0) := by
  intro a0 k
  unfold trans_named.f
  exact mo_
instance trans_named.lc : ∀ a0 k, LeC (trans_named.f k a0) (trans_named.f (k + 1) a0) := fun a0 k => ⟨trans_named.mono a0 k⟩
set_option maxHeartbeats 8000000 in
set_option maxRecDepth 100000 in
theorem trans_named.calls (k : Nat) (a0 : ByteArray) (r : Bool) (w : World) (h : trans_named.f k a0 = some r) :
    Calls Try.prog 167 #[.string a0] w fun e w' => e = .returned (.bool r) ∧ Below w.heap.size w w' := by
  have HB := Aside0.mk (Below.refl w.heap.size w)
  unfold trans_named.f at h
  have H := h
  clear h
  by_cases c2 : a0.toList = ([] : List UInt8)
  · rw [if_pos c2] at H
    have c2b0 : (a0.toList == ([] : List UInt8)) = true := beq_iff_eq.mpr c2
    have c2b1 : (a0.toList != ([] : List UInt8)) = false := bne_eq_false_iff_eq.mpr c2
    clear c2
    obtain rfl := Option.some.inj H
    go_enter Try.func167, Try.ntmps167
    go_wp2
    go_ret
    exact ⟨rv_, bw_⟩
  · rw [if_neg c2] at H
    have c2b0 : (a0.toList == ([] : List UInt8)) = false := beq_eq_false_iff_ne.mpr c2
    have c2b1 : (a0.toList != ([] : List UInt8)) = true := bne_iff_ne.mpr c2
    replace H := bi_ H; obtain ⟨t143, A3, H⟩ := H
    obtain rfl := Option.some.inj H
    go_enter Try.func167, Try.ntmps167
    go_wp2_with (first | (go_at_call 112; (with_reducible refine cm_ (names_Is.calls k a0 t143 _ A3.out) ?_); intro w4 hb; replace HB := ts_ HB hb; clear hb))
    go_ret
    exact ⟨rv_, bw_⟩

/-! ### trans_Check: function 148 -/
def trans_Check.j0 : Nat → Bool → ByteArray → List (S214) → List (S189) → ByteArray → Option (Int)
  | 0, _, _, _, _, _ => none
  | k + 1, x13, x145000, x145001, x145002, x145003 => if x13 = true then (some 1) else (if (x145001.length : Int) > 0 then ((term_Check.f k x145001).bind fun t147 => (if t147 = 0 then ((act_Check.f k x145002).bind fun t148 => (some t148)) else (some t147))) else ((act_Check.f k x145002).bind fun t149 => (some t149)))
def trans_Check.f (k : Nat) (a0_0 : ByteArray) (l0_1 : List (S214)) (l0_2 : List (S189)) (a0_3 : ByteArray) : Option (Int) := (trans_named.f k a0_0).bind fun t145 => (if t145 = true then ((trans_named.f k a0_3).bind fun t146 => (trans_Check.j0 k (!t146) a0_0 l0_1 l0_2 a0_3)) else (trans_Check.j0 k true a0_0 l0_1 l0_2 a0_3))
theorem trans_Check.mono_l : ∀ k, (∀ y0 y1 y2 y3 y4, LeO (trans_Check.j0 k y0 y1 y2 y3 y4) (trans_Check.j0 (k + 1) y0 y1 y2 y3 y4))
  | 0 => fun _ _ _ _ _ r h => by simp [trans_Check.j0] at h
  | k + 1 => by
    have ih0 := trans_Check.mono_l k
    · intro y0 y1 y2 y3 y4
      unfold trans_Check.j0
      exact mo_
theorem trans_Check.mono : ∀ a0 a1 a2 a3 k, LeO (trans_Check.f k a0 a1 a2 a3) (trans_Check.f (k + 1) a0 a1 a2 a3) := by
  intro a0 a1 a2 a3 k
  have ih0 := trans_Check.mono_l k
  unfold trans_Check.f
  exact mo_
instance trans_Check.lc : ∀ a0 a1 a2 a3 k, LeC (trans_Check.f k a0 a1 a2 a3) (trans_Check.f (k + 1) a0 a1 a2 a3) := fun a0 a1 a2 a3 k => ⟨trans_Check.mono a0 a1 a2 a3 k⟩
set_option maxHeartbeats 8000000 in
set_option maxRecDepth 100000 in
theorem trans_Check.calls (k : Nat) (a0_0 : ByteArray) (A0_1 : Option Addr) (c0_1 : Nat) (l0_1 : List (S214)) (A0_2 : Option Addr) (c0_2 : Nat) (l0_2 : List (S189)) (a0_3 : ByteArray) (r : Int) (w : World) (hr0_1 : Kd.C k214 w A0_1 l0_1.length l0_1) (hc0_1 : l0_1.length ≤ c0_1) (hr0_2 : Kd.C k189 w A0_2 l0_2.length l0_2) (hc0_2 : l0_2.length ≤ c0_2) (h : trans_Check.f k a0_0 l0_1 l0_2 a0_3 = some r) :
  Calls Try.prog 148 #[.agg #[.string a0_0, .slice A0_1 l0_1.length c0_1, .slice A0_2 l0_2.length c0_2, .string a0_3]] w fun e w' => e = .returned (.int .i64 r) ∧ Below w.heap.size w w' := by
 have hu182 := Try.underlying182
 have HR0_1 := Aside0.mk hr0_1
 have HC0_1 := Aside0.mk hc0_1
 clear hr0_1 hc0_1
 have HR0_2 := Aside0.mk hr0_2
 have HC0_2 := Aside0.mk hc0_2
 clear hr0_2 hc0_2
 have HB := Aside0.mk (Below.refl w.heap.size w)
 unfold trans_Check.f at h
 have HC2 := Aside0.mk h
 clear h
 go_enter Try.func148, Try.ntmps148
 go_upto_region 1 with (first | ((with_reducible refine gate_dst (N := 1) rfl ?_); refine bx_ HB (N := 1) (cs := #[.string a0_0, .slice A0_1 l0_1.length c0_1, .slice A0_2 l0_2.length c0_2, .string a0_3]) (t := 182) ?_; clear HB; intro gb144 w3 HB BK144 GW144 GE144))
 (try simp only [Act.put, sb_, s0_, s1_])
 go_cut [13] (fun v13 wc => ∃ (kq : Nat) (x13_1 : Bool), v13 = .bool x13_1 ∧ Aside0 (trans_Check.j0 kq x13_1 a0_0 l0_1 l0_2 a0_3 = some r) ∧ Aside0 (kq ≤ k) ∧ Aside0 (wc.heap[gb144]? = some (.cells #[.string a0_0, (.slice A0_1 l0_1.length c0_1), (.slice A0_2 l0_2.length c0_2), .string a0_3] 182 (0, 0))) ∧ Aside0 (Below w.heap.size w wc))
 case first =>
  have H := HC2.out
  clear HC2
  replace H := bi_ H; obtain ⟨t145, A4, H⟩ := H
  replace H := ib_ H; obtain ⟨rfl, H⟩ | ⟨rfl, H⟩ := H
  ·have H' := Aside0.mk H
   clear H
   obtain ⟨z11_0, z11_1, z11_2, z11_3, y11_0, y11_1, y11_2, y11_3⟩ := cw4_ BK144.out
   go_wp2_with (first | ((with_reducible refine gate_callee (f := 167) rfl ?_); refine gl_ (some 6) Try.func167 #[.string a0_0] ?_; (with_reducible refine cm_ (trans_named.calls k a0_0 false _ A4.out) ?_); intro w12 hb; refine ⟨_, rfl, ?_⟩; replace BK144 := tb_ BK144 hb; replace HB := ts_ HB hb; clear hb))
   go_meet
   case rel => exact ⟨_, (true), rl_, H', ⟨km_⟩, ⟨grw BK144.out⟩, ⟨bw_⟩⟩
  replace H := bi_ H; obtain ⟨t146, A6, H⟩ := H
  have H' := Aside0.mk H
  clear H
  obtain ⟨z7_0, z7_1, z7_2, z7_3, y7_0, y7_1, y7_2, y7_3⟩ := cw4_ BK144.out
  go_wp2_with (first | ((with_reducible refine gate_callee (f := 167) rfl ?_); refine gl_ (some 6) Try.func167 #[.string a0_0] ?_; (with_reducible refine cm_ (trans_named.calls k a0_0 true _ A4.out) ?_); intro w8 hb; refine ⟨_, rfl, ?_⟩; replace BK144 := tb_ BK144 hb; replace HB := ts_ HB hb; clear hb; obtain ⟨z9_0, z9_1, z9_2, z9_3, y9_0, y9_1, y9_2, y9_3⟩ := cw4_ BK144.out) | (go_at_call 167; (with_reducible refine cm_ (trans_named.calls k a0_3 t146 _ A6.out) ?_); intro w10 hb; replace BK144 := tb_ BK144 hb; replace HB := ts_ HB hb; clear hb))
  go_meet
  case rel => exact ⟨_, (!t146), rl_, H', ⟨km_⟩, ⟨grw BK144.out⟩, ⟨bw_⟩⟩
 case rest =>
  clear HC2
  obtain ⟨kq, x13_1, rfl, HA, HJ1, BK144, HB⟩ := hcut
  cases kq with
  | zero => exact absurd HA.out (by simp [trans_Check.j0])
  | succ kj1 =>
   have H := HA.out
   clear HA
   simp only [trans_Check.j0] at H
   replace H := ie_ H; obtain ⟨rfl, H⟩ | ⟨rfl, H⟩ := H
   ·obtain rfl := Option.some.inj H
    go_wp2
    go_ret
    exact ⟨rv_, bw_⟩
   replace H := ic_ H; obtain ⟨c14, H⟩ | ⟨c14, H⟩ := H
   ·have c14b0 : decide (0 < (l0_1.length : Int)) = false := decide_eq_false c14
    have c14b1 : decide (0 < l0_1.length) = false := decide_eq_false (by omega)
    clear c14
    replace H := bi_ H; obtain ⟨t149, A24, H⟩ := H
    obtain rfl := Option.some.inj H
    obtain ⟨z25_0, z25_1, z25_2, z25_3, y25_0, y25_1, y25_2, y25_3⟩ := cw4_ BK144.out
    go_wp2_with (first | ((with_reducible refine gate_callee (f := 145) rfl ?_); refine gl_ (some 26) Try.func145 #[.slice A0_2 l0_2.length c0_2] ?_; (with_reducible refine cm_ (act_Check.calls kj1 _ _ l0_2 t149 _ (kc_ HR0_2 HB) HC0_2.out A24.out) ?_); intro w26 hb; refine ⟨_, rfl, ?_⟩; replace BK144 := tb_ BK144 hb; replace HB := ts_ HB hb; clear hb))
    go_ret
    exact ⟨rv_, bw_⟩

   have c14b0 : decide (0 < (l0_1.length : Int)) = true := decide_eq_true c14
   have c14b1 : decide (0 < l0_1.length) = true := decide_eq_true (by omega)
   clear c14
   replace H := bi_ H; obtain ⟨t147, A15, H⟩ := H
   replace H := ic_ H; obtain ⟨c16, H⟩ | ⟨c16, H⟩ := H
   ·have c16b0 : (t147 == 0) = false := beq_eq_false_iff_ne.mpr c16
    have c16b1 : (t147 != 0) = true := bne_iff_ne.mpr c16
    obtain rfl := Option.some.inj H
    obtain ⟨z22_0, z22_1, z22_2, z22_3, y22_0, y22_1, y22_2, y22_3⟩ := cw4_ BK144.out
    go_wp2_with (first | ((with_reducible refine gate_callee (f := 168) rfl ?_); refine gl_ (some 20) Try.func168 #[.slice A0_1 l0_1.length c0_1] ?_; (with_reducible refine cm_ (term_Check.calls kj1 _ _ l0_1 t147 _ (kc_ HR0_1 HB) HC0_1.out A15.out) ?_); intro w23 hb; refine ⟨_, rfl, ?_⟩; replace BK144 := tb_ BK144 hb; replace HB := ts_ HB hb; clear hb))
    go_ret
    exact ⟨rv_, bw_⟩
   have c16b0 : (t147 == 0) = true := beq_iff_eq.mpr c16
   have c16b1 : (t147 != 0) = false := bne_eq_false_iff_eq.mpr c16
   clear c16
   replace H := bi_ H; obtain ⟨t148, A17, H⟩ := H
   obtain rfl := Option.some.inj H
   obtain ⟨z18_0, z18_1, z18_2, z18_3, y18_0, y18_1, y18_2, y18_3⟩ := cw4_ BK144.out
   go_wp2_with (first | ((with_reducible refine gate_callee (f := 168) rfl ?_); refine gl_ (some 20) Try.func168 #[.slice A0_1 l0_1.length c0_1] ?_; (with_reducible refine cm_ (term_Check.calls kj1 _ _ l0_1 t147 _ (kc_ HR0_1 HB) HC0_1.out A15.out) ?_); intro w19 hb; refine ⟨_, rfl, ?_⟩; replace BK144 := tb_ BK144 hb; replace HB := ts_ HB hb; clear hb; obtain ⟨z20_0, z20_1, z20_2, z20_3, y20_0, y20_1, y20_2, y20_3⟩ := cw4_ BK144.out) | ((with_reducible refine gate_callee (f := 145) rfl ?_); refine gl_ (some 26) Try.func145 #[.slice A0_2 l0_2.length c0_2] ?_; (with_reducible refine cm_ (act_Check.calls kj1 _ _ l0_2 t148 _ (kc_ HR0_2 HB) HC0_2.out A17.out) ?_); intro w21 hb; refine ⟨_, rfl, ?_⟩; replace BK144 := tb_ BK144 hb; replace HB := ts_ HB hb; clear hb))
   go_ret
   exact ⟨rv_, bw_⟩
/-! ### api_Trans_166: function 166 -/
open Go.Proofs.Ytbkaiojofgmbnaa.XFind in
set_option maxHeartbeats 2000000 in
set_option maxRecDepth 100000 in
theorem IndexFunc_Trans.calls (p : S182 → Bool) (g : Nat) (lb : Array Value) (eg : ∀ args w, (callFunc g args).run Try.prog w = .ok (.enter g args) w) (A0 : Option Addr) (c0 : Nat) (l0 : List (S182)) (w : World) (hr0 : Kd.C k182 w A0 l0.length l0)
    (hp : ∀ W, Below w.heap.size w W → ∀ (x : S182), x ∈ l0 → ∀ (A1 : Option Addr) (c1 : Nat) (A2 : Option Addr) (c2 : Nat), k182.K W x [.string x.f0, .slice A1 x.f1.length c1, .slice A2 x.f2.length c2, .string x.f3] → Calls Try.prog g (#[.agg #[.string x.f0, .slice A1 x.f1.length c1, .slice A2 x.f2.length c2, .string x.f3]] ++ lb) W fun e w' => e = .returned (.bool (p x)) ∧ Below w.heap.size w w') :
    Calls Try.prog 166 #[.slice A0 l0.length c0, .func (.func g) #[] lb] w fun e w' => e = .returned (.int .i64 (idxF p l0)) ∧ Below w.heap.size w w' := by
  have hbig := hr0.2.1
  have HR := Aside0.mk hr0
  have HPF := Aside0.mk hp
  clear hr0 hp
  have hu := Try.underlying182
  go_enter Try.func166, Try.ntmps166
  go_wp2
  go_loopg [8] l0.length (fun kq v8 wr => ∃ n : Nat, Aside0 (n ≤ l0.length) ∧ Aside0 (l0.length - n = kq) ∧ v8 = .int .i64 (n : Int) ∧ Aside0 (Below w.heap.size w wr) ∧ Aside0 (∀ j : Nat, j < n → p (l0.getD j z182) = false))
  case atStart => exact ⟨0, ⟨Nat.zero_le _⟩, ⟨by omega⟩, rfl, ⟨Below.refl _ _⟩, ⟨fun j hj => absurd hj (Nat.not_lt_zero _)⟩⟩
  case round =>
    obtain ⟨n, HN, HK, rfl, HB, HP⟩ := hrel
    by_cases hlt : n < l0.length
    · have hlt' : decide ((n : Int) < (l0.length : Int)) = true := decide_eq_true (by omega)
      have hC := Kd.C_below HR.out HB.out
      obtain ⟨ad, A1, c1, A2, c2, e1, hx0, hx1, hx2, hx3, hl1, hg1, hl2, hg2⟩ := at_T182 hC (n : Int) (by omega) (by omega)
      subst e1
      rw [Int.toNat_natCast] at hx0 hx1 hx2 hx3
      have hy0 : rd_T182 l0 (n : Int) = l0.getD n z182 := by unfold rd_T182; rw [Int.toNat_natCast]
      rw [hy0] at hx0 hx1 hx2 hx3 hl1 hg1 hl2 hg2
      have hmem : l0.getD n z182 ∈ l0 := by simp only [List.getD, List.getElem?_eq_getElem hlt, Option.getD_some]; exact List.getElem_mem hlt
      have hcall := HPF.out wr HB.out (l0.getD n z182) hmem A1 c1 A2 c2 (k182_mk _ _ hl1 hg1 hl2 hg2)
      generalize hy : l0.getD n z182 = y at *
      have HY := Aside0.mk hy
      clear hy hC hy0 hmem hl1 hg1 hl2 hg2
      cases hq : p y with
      | true =>
        rw [hq] at hcall
        have HC := Aside0.mk hcall
        have HQ := Aside0.mk hq
        clear hcall hq
        go_wp2_with fail
        refine HC.out.mono ?_
        rintro e w' ⟨rfl, hb'⟩
        go_wp2
        go_ret
        refine ⟨?_, hb'⟩
        rw [idxF_hit p l0 z182 n hlt (by rw [HY.out]; exact HQ.out) HP.out]
        rfl
      | false =>
        rw [hq] at hcall
        have HC := Aside0.mk hcall
        have HQ := Aside0.mk hq
        clear hcall hq
        go_wp2_with fail
        refine HC.out.mono ?_
        rintro e w' ⟨rfl, hb'⟩
        go_wp2
        go_roundg (l0.length - (n + 1))
        case measure => have := HK.out; omega
        case rel =>
          refine ⟨n + 1, ⟨hlt⟩, ⟨rfl⟩, by go_num, ⟨hb'⟩, ⟨fun j hj => ?_⟩⟩
          by_cases e : j = n
          · subst e; rw [HY.out]; exact HQ.out
          · exact HP.out j (by omega)
    · have hlt' : decide ((n : Int) < (l0.length : Int)) = false := decide_eq_false (by omega)
      have hn : n = l0.length := by have := HN.out; omega
      have HNN := Aside0.mk hn
      clear hn
      go_wp2
      go_ret
      exact ⟨by rw [idxF_miss p l0 z182 (fun j hj => HP.out j (by have := HNN.out; omega))]; rfl, HB.out⟩


/-! ### api_Trans_146: function 146 -/
-- USES slices.IndexFunc[[]semblance/api.Trans,semblance/api.Trans]
open Go.Proofs.Ytbkaiojofgmbnaa.XFind in
set_option maxHeartbeats 2000000 in
theorem ContainsFunc_Trans.calls (p : S182 → Bool) (g : Nat) (lb : Array Value) (eg : ∀ args w, (callFunc g args).run Try.prog w = .ok (.enter g args) w) (A0 : Option Addr) (c0 : Nat) (l0 : List (S182)) (w : World) (hr0 : Kd.C k182 w A0 l0.length l0)
    (hp : ∀ W, Below w.heap.size w W → ∀ (x : S182), x ∈ l0 → ∀ (A1 : Option Addr) (c1 : Nat) (A2 : Option Addr) (c2 : Nat), k182.K W x [.string x.f0, .slice A1 x.f1.length c1, .slice A2 x.f2.length c2, .string x.f3] → Calls Try.prog g (#[.agg #[.string x.f0, .slice A1 x.f1.length c1, .slice A2 x.f2.length c2, .string x.f3]] ++ lb) W fun e w' => e = .returned (.bool (p x)) ∧ Below w.heap.size w w') :
    Calls Try.prog 146 #[.slice A0 l0.length c0, .func (.func g) #[] lb] w fun e w' => e = .returned (.bool (l0.any p)) ∧ Below w.heap.size w w' := by
  have hcall := IndexFunc_Trans.calls p g lb eg A0 c0 l0 w hr0 hp
  have HANY := Aside0.mk (idxF_any p l0)
  generalize idxF p l0 = i at hcall HANY
  have HC := Aside0.mk hcall
  clear hp hr0 hcall
  go_enter Try.func146, Try.ntmps146
  go_wp2_with (go_at_call 166; refine HC.out.mono ?_; rintro e w' ⟨rfl, hb'⟩)
  go_ret
  exact ⟨by rw [← HANY.out]; rfl, hb'⟩
-- FAKE semblance/print.badState$1
-- USES semblance/trans.Check
def print_badState1.f (k : Nat) (a0 : ByteArray) (l1 : List (S214)) (l2 : List (S189)) (a3 : ByteArray) : Option Bool := (trans_Check.f k a0 l1 l2 a3).bind fun t => some (t != 0)
theorem print_badState1.mono : ∀ a0 l1 l2 a3 k, LeO (print_badState1.f k a0 l1 l2 a3) (print_badState1.f (k + 1) a0 l1 l2 a3) := fun a0 l1 l2 a3 k => LeO.bind (trans_Check.mono a0 l1 l2 a3 k) (fun _ => LeO.refl _)
instance print_badState1.lc : ∀ a0 l1 l2 a3 k, LeC (print_badState1.f k a0 l1 l2 a3) (print_badState1.f (k + 1) a0 l1 l2 a3) := fun a0 l1 l2 a3 k => ⟨print_badState1.mono a0 l1 l2 a3 k⟩
set_option maxHeartbeats 2000000 in
set_option maxRecDepth 100000 in
theorem print_badState1.calls (k : Nat) (a0 : ByteArray) (A1 : Option Addr) (c1 : Nat) (l1 : List (S214)) (A2 : Option Addr) (c2 : Nat) (l2 : List (S189)) (a3 : ByteArray) (r : Bool) (w : World) (hr1 : Kd.C k214 w A1 l1.length l1) (hc1 : l1.length ≤ c1) (hr2 : Kd.C k189 w A2 l2.length l2) (hc2 : l2.length ≤ c2) (h : print_badState1.f k a0 l1 l2 a3 = some r) :
    Calls Try.prog 147 #[.agg #[.string a0, .slice A1 l1.length c1, .slice A2 l2.length c2, .string a3]] w fun e w' => e = .returned (.bool r) ∧ Below w.heap.size w w' := by
  have hu := Try.underlying182
  obtain ⟨t, ht, h⟩ := Option.bind_eq_some_iff.mp h
  obtain rfl := Option.some.inj h
  have HT := Aside0.mk ht
  have H1 := Aside0.mk hr1
  have H2 := Aside0.mk hr2
  have HC := Aside0.mk (And.intro hc1 hc2)
  clear ht h hr1 hr2 hc1 hc2
  go_enter Try.func147, Try.ntmps147
  go_wp2_with (first | ((with_reducible refine gate_dst (N := 1) rfl ?_); refine box_event ?hg (N := 1) ?hd (cs := #[.string a0, .slice A1 l1.length c1, .slice A2 l2.length c2, .string a3]) (t := 182) ?hr ?_; (case hd => rfl); (case hg => rfl); (case hr => first | (go_simp; done) | (go_simp; rfl)); intro gb hg w3 hbox hb; have HB := Aside0.mk hb; obtain ⟨z0, z1, z2, z3⟩ := cz4_ hbox; clear hbox hb hg) | (go_at_call 148; (with_reducible refine (trans_Check.calls k a0 _ _ l1 _ _ l2 a3 t _ (Kd.C_below H1.out HB.out) HC.out.1 (Kd.C_below H2.out HB.out) HC.out.2 HT.out).mono ?_); rintro e w1 ⟨rfl, hb⟩))
  go_ret
  exact ⟨rfl, below_step HB.out hb⟩
def api_Trans_146.f (k : Nat) (l0 : List (S182)) (_ : Int) : Option Bool := Go.Proofs.Ytbkaiojofgmbnaa.XShort.anyO l0 (fun x => print_badState1.f k x.f0 x.f1 x.f2 x.f3)
theorem api_Trans_146.mono : ∀ a0 a1 k, LeO (api_Trans_146.f k a0 a1) (api_Trans_146.f (k + 1) a0 a1) := fun a0 a1 k => Go.Proofs.Ytbkaiojofgmbnaa.XShort.anyO_mono (fun x _ => print_badState1.mono _ _ _ _ k)
instance api_Trans_146.lc : ∀ a0 a1 k, LeC (api_Trans_146.f k a0 a1) (api_Trans_146.f (k + 1) a0 a1) := fun a0 a1 k => ⟨api_Trans_146.mono a0 a1 k⟩
theorem api_Trans_146.calls (k : Nat) (A0 : Option Addr) (c0 : Nat) (l0 : List (S182)) (a1 : Int) (r : Bool) (w : World) (hr0 : Kd.C k182 w A0 l0.length l0) (hc0 : l0.length ≤ c0)
    (h : api_Trans_146.f k l0 a1 = some r) :
    Calls Try.prog 146 #[.slice A0 l0.length c0, .func (.func 147) #[] #[]] w fun e w' => e = .returned (.bool r) ∧ Below w.heap.size w w' := by
  obtain ⟨ha, rfl⟩ := Go.Proofs.Ytbkaiojofgmbnaa.XShort.anyO_some h
  have eg := Go.Proofs.enters_of Try.func147 (by kernel_rfl) rfl
  exact ContainsFunc_Trans.calls _ _ #[] eg A0 c0 l0 w hr0 fun W hW x hx A1 c1 A2 c2 hK => by
    obtain ⟨P1, p1, P2, p2, e, l1, g1, l2, g2⟩ := k182_open hK
    simp at e
    obtain ⟨⟨rfl, rfl⟩, rfl, rfl⟩ := e
    rw [Array.append_empty]
    exact (print_badState1.calls k x.f0 _ _ x.f1 _ _ x.f2 x.f3 _ W g1 l1 g2 l2 (ha x hx)).mono fun e w' ⟨he, hw⟩ => ⟨he, below_then hW hW.size hw⟩


/-! ### print_badState: function 118 -/
def print_badState.f (k : Nat) (a0_0 : ByteArray) (a0_1 : Int) (a0_2 : Int) (l0_3 : List (S189)) (l0_4 : List (S189)) (l0_5 : List (S182)) : Option (Bool) := (names_Is.f k a0_0).bind fun t151 => (if t151 = true then ((act_Check.f k l0_3).bind fun t152 => (if t152 = 0 then ((act_Check.f k l0_4).bind fun t153 => (if t153 = 0 then (if (l0_5.length : Int) > 16 then (some true) else ((api_Trans_146.f k l0_5 0).bind fun t154 => (some t154))) else (some true))) else (some true))) else (some true))
theorem print_badState.mono : ∀ a0 a1 a2 a3 a4 a5 k, LeO (print_badState.f k a0 a1 a2 a3 a4 a5) (print_badState.f (k + 1) a0 a1 a2 a3 a4 a5) := by
  intro a0 a1 a2 a3 a4 a5 k
  unfold print_badState.f
  exact mo_
instance print_badState.lc : ∀ a0 a1 a2 a3 a4 a5 k, LeC (print_badState.f k a0 a1 a2 a3 a4 a5) (print_badState.f (k + 1) a0 a1 a2 a3 a4 a5) := fun a0 a1 a2 a3 a4 a5 k => ⟨print_badState.mono a0 a1 a2 a3 a4 a5 k⟩
set_option maxHeartbeats 8000000 in
set_option maxRecDepth 100000 in
theorem print_badState.calls (k : Nat) (a0_0 : ByteArray) (a0_1 : Int) (a0_2 : Int) (A0_3 : Option Addr) (c0_3 : Nat) (l0_3 : List (S189)) (A0_4 : Option Addr) (c0_4 : Nat) (l0_4 : List (S189)) (A0_5 : Option Addr) (c0_5 : Nat) (l0_5 : List (S182)) (r : Bool) (w : World) (hr0_3 : Kd.C k189 w A0_3 l0_3.length l0_3) (hc0_3 : l0_3.length ≤ c0_3) (hr0_4 : Kd.C k189 w A0_4 l0_4.length l0_4) (hc0_4 : l0_4.length ≤ c0_4) (hr0_5 : Kd.C k182 w A0_5 l0_5.length l0_5) (hc0_5 : l0_5.length ≤ c0_5) (h : print_badState.f k a0_0 a0_1 a0_2 l0_3 l0_4 l0_5 = some r) :
  Calls Try.prog 118 #[.agg #[.string a0_0, .int .i64 a0_1, .int .i64 a0_2, .slice A0_3 l0_3.length c0_3, .slice A0_4 l0_4.length c0_4, .slice A0_5 l0_5.length c0_5]] w fun e w' => e = .returned (.bool r) ∧ Below w.heap.size w w' := by
 have hu108 := Try.underlying108
 have HR0_3 := Aside0.mk hr0_3
 have HC0_3 := Aside0.mk hc0_3
 clear hr0_3 hc0_3
 have HR0_4 := Aside0.mk hr0_4
 have HC0_4 := Aside0.mk hc0_4
 clear hr0_4 hc0_4
 have HR0_5 := Aside0.mk hr0_5
 have HC0_5 := Aside0.mk hc0_5
 clear hr0_5 hc0_5
 have HB := Aside0.mk (Below.refl w.heap.size w)
 unfold print_badState.f at h
 have H := h
 clear h
 replace H := bi_ H; obtain ⟨t151, A2, H⟩ := H
 replace H := ib_ H; obtain ⟨rfl, H⟩ | ⟨rfl, H⟩ := H
 ·obtain rfl := Option.some.inj H
  go_enter Try.func118, Try.ntmps118
  go_wp2_with (first | ((with_reducible refine gate_dst (N := 1) rfl ?_); (try (refine gate_guard (by rfl) ?_; dsimp only)); refine bx_ HB (N := 1) (cs := #[.string a0_0, .int .i64 a0_1, .int .i64 a0_2, .slice A0_3 l0_3.length c0_3, .slice A0_4 l0_4.length c0_4, .slice A0_5 l0_5.length c0_5]) (t := 108) ?_; clear HB; intro gb150 w39 HB BK150 GW150 GE150; obtain ⟨z40_0, z40_1, z40_2, z40_3, z40_4, z40_5, y40_0, y40_1, y40_2, y40_3, y40_4, y40_5⟩ := cw6_ BK150.out) | ((with_reducible refine gate_callee (f := 112) rfl ?_); refine gl_ (some 5) Try.func112 #[.string a0_0] ?_; (with_reducible refine cm_ (names_Is.calls k a0_0 false _ A2.out) ?_); intro w41 hb; refine ⟨_, rfl, ?_⟩; replace BK150 := tb_ BK150 hb; replace HB := ts_ HB hb; clear hb))
  go_ret
  exact ⟨rv_, bw_⟩

 replace H := bi_ H; obtain ⟨t152, A4, H⟩ := H
 replace H := ic_ H; obtain ⟨c5, H⟩ | ⟨c5, H⟩ := H
 ·have c5b0 : (t152 == 0) = false := beq_eq_false_iff_ne.mpr c5
  have c5b1 : (t152 != 0) = true := bne_iff_ne.mpr c5
  obtain rfl := Option.some.inj H
  go_enter Try.func118, Try.ntmps118
  go_wp2_with (first | ((with_reducible refine gate_dst (N := 1) rfl ?_); (try (refine gate_guard (by rfl) ?_; dsimp only)); refine bx_ HB (N := 1) (cs := #[.string a0_0, .int .i64 a0_1, .int .i64 a0_2, .slice A0_3 l0_3.length c0_3, .slice A0_4 l0_4.length c0_4, .slice A0_5 l0_5.length c0_5]) (t := 108) ?_; clear HB; intro gb150 w34 HB BK150 GW150 GE150; obtain ⟨z35_0, z35_1, z35_2, z35_3, z35_4, z35_5, y35_0, y35_1, y35_2, y35_3, y35_4, y35_5⟩ := cw6_ BK150.out) | ((with_reducible refine gate_callee (f := 112) rfl ?_); refine gl_ (some 5) Try.func112 #[.string a0_0] ?_; (with_reducible refine cm_ (names_Is.calls k a0_0 true _ A2.out) ?_); intro w36 hb; refine ⟨_, rfl, ?_⟩; replace BK150 := tb_ BK150 hb; replace HB := ts_ HB hb; clear hb; obtain ⟨z37_0, z37_1, z37_2, z37_3, z37_4, z37_5, y37_0, y37_1, y37_2, y37_3, y37_4, y37_5⟩ := cw6_ BK150.out) | (go_at_call 145; (with_reducible refine cm_ (act_Check.calls k _ _ l0_3 t152 _ (kc_ HR0_3 HB) HC0_3.out A4.out) ?_); intro w38 hb; replace BK150 := tb_ BK150 hb; replace HB := ts_ HB hb; clear hb))
  go_ret
  exact ⟨rv_, bw_⟩
 have c5b0 : (t152 == 0) = true := beq_iff_eq.mpr c5
 have c5b1 : (t152 != 0) = false := bne_eq_false_iff_eq.mpr c5
 clear c5
 replace H := bi_ H; obtain ⟨t153, A6, H⟩ := H
 replace H := ic_ H; obtain ⟨c7, H⟩ | ⟨c7, H⟩ := H
 ·have c7b0 : (t153 == 0) = false := beq_eq_false_iff_ne.mpr c7
  have c7b1 : (t153 != 0) = true := bne_iff_ne.mpr c7
  obtain rfl := Option.some.inj H
  go_enter Try.func118, Try.ntmps118
  go_wp2_with (first | ((with_reducible refine gate_dst (N := 1) rfl ?_); (try (refine gate_guard (by rfl) ?_; dsimp only)); refine bx_ HB (N := 1) (cs := #[.string a0_0, .int .i64 a0_1, .int .i64 a0_2, .slice A0_3 l0_3.length c0_3, .slice A0_4 l0_4.length c0_4, .slice A0_5 l0_5.length c0_5]) (t := 108) ?_; clear HB; intro gb150 w27 HB BK150 GW150 GE150; obtain ⟨z28_0, z28_1, z28_2, z28_3, z28_4, z28_5, y28_0, y28_1, y28_2, y28_3, y28_4, y28_5⟩ := cw6_ BK150.out) | ((with_reducible refine gate_callee (f := 112) rfl ?_); refine gl_ (some 5) Try.func112 #[.string a0_0] ?_; (with_reducible refine cm_ (names_Is.calls k a0_0 true _ A2.out) ?_); intro w29 hb; refine ⟨_, rfl, ?_⟩; replace BK150 := tb_ BK150 hb; replace HB := ts_ HB hb; clear hb; obtain ⟨z30_0, z30_1, z30_2, z30_3, z30_4, z30_5, y30_0, y30_1, y30_2, y30_3, y30_4, y30_5⟩ := cw6_ BK150.out) | (go_at_call 145; (with_reducible refine cm_ (act_Check.calls k _ _ l0_3 t152 _ (kc_ HR0_3 HB) HC0_3.out A4.out) ?_); intro w31 hb; replace BK150 := tb_ BK150 hb; replace HB := ts_ HB hb; clear hb; obtain ⟨z32_0, z32_1, z32_2, z32_3, z32_4, z32_5, y32_0, y32_1, y32_2, y32_3, y32_4, y32_5⟩ := cw6_ BK150.out) | (go_at_call 145; (with_reducible refine cm_ (act_Check.calls k _ _ l0_4 t153 _ (kc_ HR0_4 HB) HC0_4.out A6.out) ?_); intro w33 hb; replace BK150 := tb_ BK150 hb; replace HB := ts_ HB hb; clear hb))
  go_ret
  exact ⟨rv_, bw_⟩
 have c7b0 : (t153 == 0) = true := beq_iff_eq.mpr c7
 have c7b1 : (t153 != 0) = false := bne_eq_false_iff_eq.mpr c7
 clear c7
 replace H := id_ H; obtain ⟨c8, H⟩ | ⟨c8, H⟩ := H
 ·have c8b0 : decide (16 < (l0_5.length : Int)) = true := decide_eq_true c8
  have c8b1 : decide (16 < l0_5.length) = true := decide_eq_true (by omega)
  clear c8
  obtain rfl := Option.some.inj H
  go_enter Try.func118, Try.ntmps118
  go_wp2_with (first | ((with_reducible refine gate_dst (N := 1) rfl ?_); (try (refine gate_guard (by rfl) ?_; dsimp only)); refine bx_ HB (N := 1) (cs := #[.string a0_0, .int .i64 a0_1, .int .i64 a0_2, .slice A0_3 l0_3.length c0_3, .slice A0_4 l0_4.length c0_4, .slice A0_5 l0_5.length c0_5]) (t := 108) ?_; clear HB; intro gb150 w9 HB BK150 GW150 GE150; obtain ⟨z10_0, z10_1, z10_2, z10_3, z10_4, z10_5, y10_0, y10_1, y10_2, y10_3, y10_4, y10_5⟩ := cw6_ BK150.out) | ((with_reducible refine gate_callee (f := 112) rfl ?_); refine gl_ (some 5) Try.func112 #[.string a0_0] ?_; (with_reducible refine cm_ (names_Is.calls k a0_0 true _ A2.out) ?_); intro w11 hb; refine ⟨_, rfl, ?_⟩; replace BK150 := tb_ BK150 hb; replace HB := ts_ HB hb; clear hb; obtain ⟨z12_0, z12_1, z12_2, z12_3, z12_4, z12_5, y12_0, y12_1, y12_2, y12_3, y12_4, y12_5⟩ := cw6_ BK150.out) | (go_at_call 145; (with_reducible refine cm_ (act_Check.calls k _ _ l0_3 t152 _ (kc_ HR0_3 HB) HC0_3.out A4.out) ?_); intro w13 hb; replace BK150 := tb_ BK150 hb; replace HB := ts_ HB hb; clear hb; obtain ⟨z14_0, z14_1, z14_2, z14_3, z14_4, z14_5, y14_0, y14_1, y14_2, y14_3, y14_4, y14_5⟩ := cw6_ BK150.out) | (go_at_call 145; (with_reducible refine cm_ (act_Check.calls k _ _ l0_4 t153 _ (kc_ HR0_4 HB) HC0_4.out A6.out) ?_); intro w15 hb; replace BK150 := tb_ BK150 hb; replace HB := ts_ HB hb; clear hb; obtain ⟨z16_0, z16_1, z16_2, z16_3, z16_4, z16_5, y16_0, y16_1, y16_2, y16_3, y16_4, y16_5⟩ := cw6_ BK150.out))
  go_ret
  exact ⟨rv_, bw_⟩
 have c8b0 : decide (16 < (l0_5.length : Int)) = false := decide_eq_false c8
 have c8b1 : decide (16 < l0_5.length) = false := decide_eq_false (by omega)
 clear c8
 replace H := bi_ H; obtain ⟨t154, A17, H⟩ := H
 obtain rfl := Option.some.inj H
 go_enter Try.func118, Try.ntmps118
 go_wp2_with (first | ((with_reducible refine gate_dst (N := 1) rfl ?_); (try (refine gate_guard (by rfl) ?_; dsimp only)); refine bx_ HB (N := 1) (cs := #[.string a0_0, .int .i64 a0_1, .int .i64 a0_2, .slice A0_3 l0_3.length c0_3, .slice A0_4 l0_4.length c0_4, .slice A0_5 l0_5.length c0_5]) (t := 108) ?_; clear HB; intro gb150 w18 HB BK150 GW150 GE150; obtain ⟨z19_0, z19_1, z19_2, z19_3, z19_4, z19_5, y19_0, y19_1, y19_2, y19_3, y19_4, y19_5⟩ := cw6_ BK150.out) | ((with_reducible refine gate_callee (f := 112) rfl ?_); refine gl_ (some 5) Try.func112 #[.string a0_0] ?_; (with_reducible refine cm_ (names_Is.calls k a0_0 true _ A2.out) ?_); intro w20 hb; refine ⟨_, rfl, ?_⟩; replace BK150 := tb_ BK150 hb; replace HB := ts_ HB hb; clear hb; obtain ⟨z21_0, z21_1, z21_2, z21_3, z21_4, z21_5, y21_0, y21_1, y21_2, y21_3, y21_4, y21_5⟩ := cw6_ BK150.out) | (go_at_call 145; (with_reducible refine cm_ (act_Check.calls k _ _ l0_3 t152 _ (kc_ HR0_3 HB) HC0_3.out A4.out) ?_); intro w22 hb; replace BK150 := tb_ BK150 hb; replace HB := ts_ HB hb; clear hb; obtain ⟨z23_0, z23_1, z23_2, z23_3, z23_4, z23_5, y23_0, y23_1, y23_2, y23_3, y23_4, y23_5⟩ := cw6_ BK150.out) | (go_at_call 145; (with_reducible refine cm_ (act_Check.calls k _ _ l0_4 t153 _ (kc_ HR0_4 HB) HC0_4.out A6.out) ?_); intro w24 hb; replace BK150 := tb_ BK150 hb; replace HB := ts_ HB hb; clear hb; obtain ⟨z25_0, z25_1, z25_2, z25_3, z25_4, z25_5, y25_0, y25_1, y25_2, y25_3, y25_4, y25_5⟩ := cw6_ BK150.out) | ((with_reducible refine gate_callee (f := 146) rfl ?_); refine gl_ (some 27) Try.func146 #[.slice A0_5 l0_5.length c0_5, .func (.func 147) #[] #[]] ?_; (with_reducible refine cm_ (api_Trans_146.calls k _ _ l0_5 0 t154 _ (kc_ HR0_5 HB) HC0_5.out A17.out) ?_); intro w26 hb; refine ⟨_, rfl, ?_⟩; replace BK150 := tb_ BK150 hb; replace HB := ts_ HB hb; clear hb))
 go_ret
 exact ⟨rv_, bw_⟩
/-! ### api_State_144: function 144 -/
open Go.Proofs.Ytbkaiojofgmbnaa.XFind in
set_option maxHeartbeats 2000000 in
set_option maxRecDepth 100000 in
theorem IndexFunc_State.calls (p : S108 → Bool) (g : Nat) (lb : Array Value) (eg : ∀ args w, (callFunc g args).run Try.prog w = .ok (.enter g args) w) (A0 : Option Addr) (c0 : Nat) (l0 : List (S108)) (w : World) (hr0 : Kd.C k108 w A0 l0.length l0)
    (hp : ∀ W, Below w.heap.size w W → ∀ (x : S108), x ∈ l0 → ∀ (A3 : Option Addr) (c3 : Nat) (A4 : Option Addr) (c4 : Nat) (A5 : Option Addr) (c5 : Nat), k108.K W x [.string x.f0, .int .i64 x.f1, .int .i64 x.f2, .slice A3 x.f3.length c3, .slice A4 x.f4.length c4, .slice A5 x.f5.length c5] → Calls Try.prog g (#[.agg #[.string x.f0, .int .i64 x.f1, .int .i64 x.f2, .slice A3 x.f3.length c3, .slice A4 x.f4.length c4, .slice A5 x.f5.length c5]] ++ lb) W fun e w' => e = .returned (.bool (p x)) ∧ Below w.heap.size w w') :
    Calls Try.prog 144 #[.slice A0 l0.length c0, .func (.func g) #[] lb] w fun e w' => e = .returned (.int .i64 (idxF p l0)) ∧ Below w.heap.size w w' := by
  have hbig := hr0.2.1
  have HR := Aside0.mk hr0
  have HPF := Aside0.mk hp
  clear hr0 hp
  have hu := Try.underlying108
  go_enter Try.func144, Try.ntmps144
  go_wp2
  go_loopg [8] l0.length (fun kq v8 wr => ∃ n : Nat, Aside0 (n ≤ l0.length) ∧ Aside0 (l0.length - n = kq) ∧ v8 = .int .i64 (n : Int) ∧ Aside0 (Below w.heap.size w wr) ∧ Aside0 (∀ j : Nat, j < n → p (l0.getD j z108) = false))
  case atStart => exact ⟨0, ⟨Nat.zero_le _⟩, ⟨by omega⟩, rfl, ⟨Below.refl _ _⟩, ⟨fun j hj => absurd hj (Nat.not_lt_zero _)⟩⟩
  case round =>
    obtain ⟨n, HN, HK, rfl, HB, HP⟩ := hrel
    by_cases hlt : n < l0.length
    · have hlt' : decide ((n : Int) < (l0.length : Int)) = true := decide_eq_true (by omega)
      have hC := Kd.C_below HR.out HB.out
      obtain ⟨ad, A3, c3, A4, c4, A5, c5, e1, hx0, hx1, hx2, hx3, hx4, hx5, hl3, hg3, hl4, hg4, hl5, hg5⟩ := at_T108 hC (n : Int) (by omega) (by omega)
      subst e1
      rw [Int.toNat_natCast] at hx0 hx1 hx2 hx3 hx4 hx5
      have hy0 : rd_T108 l0 (n : Int) = l0.getD n z108 := by unfold rd_T108; rw [Int.toNat_natCast]
      rw [hy0] at hx0 hx1 hx2 hx3 hx4 hx5 hl3 hg3 hl4 hg4 hl5 hg5
      have hmem : l0.getD n z108 ∈ l0 := by simp only [List.getD, List.getElem?_eq_getElem hlt, Option.getD_some]; exact List.getElem_mem hlt
      have hcall := HPF.out wr HB.out (l0.getD n z108) hmem A3 c3 A4 c4 A5 c5 (k108_mk _ _ hl3 hg3 hl4 hg4 hl5 hg5)
      generalize hy : l0.getD n z108 = y at *
      have HY := Aside0.mk hy
      clear hy hC hy0 hmem hl3 hg3 hl4 hg4 hl5 hg5
      cases hq : p y with
      | true =>
        rw [hq] at hcall
        have HC := Aside0.mk hcall
        have HQ := Aside0.mk hq
        clear hcall hq
        go_wp2_with fail
        refine HC.out.mono ?_
        rintro e w' ⟨rfl, hb'⟩
        go_wp2
        go_ret
        refine ⟨?_, hb'⟩
        rw [idxF_hit p l0 z108 n hlt (by rw [HY.out]; exact HQ.out) HP.out]
        rfl
      | false =>
        rw [hq] at hcall
        have HC := Aside0.mk hcall
        have HQ := Aside0.mk hq
        clear hcall hq
        go_wp2_with fail
        refine HC.out.mono ?_
        rintro e w' ⟨rfl, hb'⟩
        go_wp2
        go_roundg (l0.length - (n + 1))
        case measure => have := HK.out; omega
        case rel =>
          refine ⟨n + 1, ⟨hlt⟩, ⟨rfl⟩, by go_num, ⟨hb'⟩, ⟨fun j hj => ?_⟩⟩
          by_cases e : j = n
          · subst e; rw [HY.out]; exact HQ.out
          · exact HP.out j (by omega)
    · have hlt' : decide ((n : Int) < (l0.length : Int)) = false := decide_eq_false (by omega)
      have hn : n = l0.length := by have := HN.out; omega
      have HNN := Aside0.mk hn
      clear hn
      go_wp2
      go_ret
      exact ⟨by rw [idxF_miss p l0 z108 (fun j hj => HP.out j (by have := HNN.out; omega))]; rfl, HB.out⟩


/-! ### api_State_117: function 117 -/
-- USES slices.IndexFunc[[]semblance/api.State,semblance/api.State]
open Go.Proofs.Ytbkaiojofgmbnaa.XFind in
set_option maxHeartbeats 2000000 in
theorem ContainsFunc_State.calls (p : S108 → Bool) (g : Nat) (lb : Array Value) (eg : ∀ args w, (callFunc g args).run Try.prog w = .ok (.enter g args) w) (A0 : Option Addr) (c0 : Nat) (l0 : List (S108)) (w : World) (hr0 : Kd.C k108 w A0 l0.length l0)
    (hp : ∀ W, Below w.heap.size w W → ∀ (x : S108), x ∈ l0 → ∀ (A3 : Option Addr) (c3 : Nat) (A4 : Option Addr) (c4 : Nat) (A5 : Option Addr) (c5 : Nat), k108.K W x [.string x.f0, .int .i64 x.f1, .int .i64 x.f2, .slice A3 x.f3.length c3, .slice A4 x.f4.length c4, .slice A5 x.f5.length c5] → Calls Try.prog g (#[.agg #[.string x.f0, .int .i64 x.f1, .int .i64 x.f2, .slice A3 x.f3.length c3, .slice A4 x.f4.length c4, .slice A5 x.f5.length c5]] ++ lb) W fun e w' => e = .returned (.bool (p x)) ∧ Below w.heap.size w w') :
    Calls Try.prog 117 #[.slice A0 l0.length c0, .func (.func g) #[] lb] w fun e w' => e = .returned (.bool (l0.any p)) ∧ Below w.heap.size w w' := by
  have hcall := IndexFunc_State.calls p g lb eg A0 c0 l0 w hr0 hp
  have HANY := Aside0.mk (idxF_any p l0)
  generalize idxF p l0 = i at hcall HANY
  have HC := Aside0.mk hcall
  clear hp hr0 hcall
  go_enter Try.func117, Try.ntmps117
  go_wp2_with (go_at_call 144; refine HC.out.mono ?_; rintro e w' ⟨rfl, hb'⟩)
  go_ret
  exact ⟨by rw [← HANY.out]; rfl, hb'⟩
-- FAKE semblance/print.badState
-- USES semblance/print.badState
def api_State_117.f (k : Nat) (l0 : List (S108)) (_ : Int) : Option Bool := Go.Proofs.Ytbkaiojofgmbnaa.XShort.anyO l0 (fun x => print_badState.f k x.f0 x.f1 x.f2 x.f3 x.f4 x.f5)
theorem api_State_117.mono : ∀ a0 a1 k, LeO (api_State_117.f k a0 a1) (api_State_117.f (k + 1) a0 a1) := fun a0 a1 k => Go.Proofs.Ytbkaiojofgmbnaa.XShort.anyO_mono (fun x _ => print_badState.mono _ _ _ _ _ _ k)
instance api_State_117.lc : ∀ a0 a1 k, LeC (api_State_117.f k a0 a1) (api_State_117.f (k + 1) a0 a1) := fun a0 a1 k => ⟨api_State_117.mono a0 a1 k⟩
theorem api_State_117.calls (k : Nat) (A0 : Option Addr) (c0 : Nat) (l0 : List (S108)) (a1 : Int) (r : Bool) (w : World) (hr0 : Kd.C k108 w A0 l0.length l0) (hc0 : l0.length ≤ c0)
    (h : api_State_117.f k l0 a1 = some r) :
    Calls Try.prog 117 #[.slice A0 l0.length c0, .func (.func 118) #[] #[]] w fun e w' => e = .returned (.bool r) ∧ Below w.heap.size w w' := by
  obtain ⟨ha, rfl⟩ := Go.Proofs.Ytbkaiojofgmbnaa.XShort.anyO_some h
  have eg := Go.Proofs.enters_of Try.func118 (by kernel_rfl) rfl
  exact ContainsFunc_State.calls _ _ #[] eg A0 c0 l0 w hr0 fun W hW x hx A3 c3 A4 c4 A5 c5 hK => by
    obtain ⟨P3, p3, P4, p4, P5, p5, e, l3, g3, l4, g4, l5, g5⟩ := k108_open hK
    simp at e
    obtain ⟨⟨rfl, rfl⟩, ⟨rfl, rfl⟩, rfl, rfl⟩ := e
    rw [Array.append_empty]
    exact (print_badState.calls k x.f0 x.f1 x.f2 _ _ x.f3 _ _ x.f4 _ _ x.f5 _ W g3 l3 g4 l4 g5 l5 (ha x hx)).mono fun e w' ⟨he, hw⟩ => ⟨he, below_then hW hW.size hw⟩


/-! ### print_Check: function 94 -/
def print_Check.j0 : Nat → Bool → ByteArray → List ByteArray → List (S152) → List (S108) → Option (Int)
  | 0, _, _, _, _, _ => none
  | k + 1, x3, x156000, x156001, x156002, x156003 => if x3 = true then (some 1) else ((slices_ContainsFunc_string_string.f k x156001 0).bind fun t158 => (if t158 = true then (some 1) else ((api_Var_115.f k x156002 0).bind fun t159 => (if t159 = true then (some 1) else ((api_State_117.f k x156003 0).bind fun t160 => (if t160 = true then (some 1) else (some 0)))))))
def print_Check.f (k : Nat) (a0_0 : ByteArray) (l0_1 : List ByteArray) (l0_2 : List (S152)) (l0_3 : List (S108)) : Option (Int) := (names_Is.f k a0_0).bind fun t156 => (if t156 = true then (if (l0_1.length : Int) > 8 then (print_Check.j0 k (decide ((l0_1.length : Int) > 8)) a0_0 l0_1 l0_2 l0_3) else (if (l0_2.length : Int) > 4 then (print_Check.j0 k (decide ((l0_2.length : Int) > 4)) a0_0 l0_1 l0_2 l0_3) else ((shape_Check.f l0_3).bind fun t157 => (print_Check.j0 k (t157 != 0) a0_0 l0_1 l0_2 l0_3)))) else (print_Check.j0 k (!t156) a0_0 l0_1 l0_2 l0_3))
theorem print_Check.mono_l : ∀ k, (∀ y0 y1 y2 y3 y4, LeO (print_Check.j0 k y0 y1 y2 y3 y4) (print_Check.j0 (k + 1) y0 y1 y2 y3 y4))
  | 0 => fun _ _ _ _ _ r h => by simp [print_Check.j0] at h
  | k + 1 => by
    have ih0 := print_Check.mono_l k
    · intro y0 y1 y2 y3 y4
      unfold print_Check.j0
      exact mo_
theorem print_Check.mono : ∀ a0 a1 a2 a3 k, LeO (print_Check.f k a0 a1 a2 a3) (print_Check.f (k + 1) a0 a1 a2 a3) := by
  intro a0 a1 a2 a3 k
  have ih0 := print_Check.mono_l k
  unfold print_Check.f
  exact mo_
instance print_Check.lc : ∀ a0 a1 a2 a3 k, LeC (print_Check.f k a0 a1 a2 a3) (print_Check.f (k + 1) a0 a1 a2 a3) := fun a0 a1 a2 a3 k => ⟨print_Check.mono a0 a1 a2 a3 k⟩
set_option maxHeartbeats 8000000 in
set_option maxRecDepth 100000 in
theorem print_Check.calls (k : Nat) (a0_0 : ByteArray) (A0_1 : Option Addr) (c0_1 : Nat) (l0_1 : List ByteArray) (A0_2 : Option Addr) (c0_2 : Nat) (l0_2 : List (S152)) (A0_3 : Option Addr) (c0_3 : Nat) (l0_3 : List (S108)) (r : Int) (w : World) (hr0_1 : Kd.C Kd.string w A0_1 l0_1.length l0_1) (hc0_1 : l0_1.length ≤ c0_1) (hr0_2 : Kd.C k152 w A0_2 l0_2.length l0_2) (hc0_2 : l0_2.length ≤ c0_2) (hr0_3 : Kd.C k108 w A0_3 l0_3.length l0_3) (hc0_3 : l0_3.length ≤ c0_3) (h : print_Check.f k a0_0 l0_1 l0_2 l0_3 = some r) :
  Calls Try.prog 94 #[.agg #[.string a0_0, .slice A0_1 l0_1.length c0_1, .slice A0_2 l0_2.length c0_2, .slice A0_3 l0_3.length c0_3]] w fun e w' => e = .returned (.int .i64 r) ∧ Below w.heap.size w w' := by
 have hu112 := Try.underlying112
 have HR0_1 := Aside0.mk hr0_1
 have HC0_1 := Aside0.mk hc0_1
 clear hr0_1 hc0_1
 have HR0_2 := Aside0.mk hr0_2
 have HC0_2 := Aside0.mk hc0_2
 clear hr0_2 hc0_2
 have HR0_3 := Aside0.mk hr0_3
 have HC0_3 := Aside0.mk hc0_3
 clear hr0_3 hc0_3
 have HB := Aside0.mk (Below.refl w.heap.size w)
 unfold print_Check.f at h
 have H := h
 clear h
 replace H := bi_ H; obtain ⟨t156, A2, H⟩ := H
 have HC3 := Aside0.mk H
 clear H
 go_enter Try.func94, Try.ntmps94
 go_upto_if 3 with (first | ((with_reducible refine gate_dst (N := 1) rfl ?_); refine bx_ HB (N := 1) (cs := #[.string a0_0, .slice A0_1 l0_1.length c0_1, .slice A0_2 l0_2.length c0_2, .slice A0_3 l0_3.length c0_3]) (t := 112) ?_; clear HB; intro gb155 w4 HB BK155 GW155 GE155; obtain ⟨z5_0, z5_1, z5_2, z5_3, y5_0, y5_1, y5_2, y5_3⟩ := cw4_ BK155.out) | ((with_reducible refine gate_callee (f := 112) rfl ?_); refine gl_ (some 6) Try.func112 #[.string a0_0] ?_; (with_reducible refine cm_ (names_Is.calls k a0_0 t156 _ A2.out) ?_); intro w6 hb; refine ⟨_, rfl, ?_⟩; replace BK155 := tb_ BK155 hb; replace HB := ts_ HB hb; clear hb))
 (try simp only [Act.put, sb_, s0_, s1_])
 go_cut [3] (fun v3 wc => ∃ (kq : Nat) (x3_2 : Bool), v3 = .bool x3_2 ∧ Aside0 (print_Check.j0 kq x3_2 a0_0 l0_1 l0_2 l0_3 = some r) ∧ Aside0 (kq ≤ k) ∧ Aside0 (wc.heap[gb155]? = some (.cells #[.string a0_0, (.slice A0_1 l0_1.length c0_1), (.slice A0_2 l0_2.length c0_2), (.slice A0_3 l0_3.length c0_3)] 112 (0, 0))) ∧ Aside0 (Below w.heap.size w wc))
 case first =>
  have H := HC3.out
  clear HC3
  replace H := ib_ H; obtain ⟨rfl, H⟩ | ⟨rfl, H⟩ := H
  ·have H' := Aside0.mk H
   clear H
   go_wp2
   go_meet
   case rel => exact ⟨_, (!false), rl_, H', ⟨km_⟩, ⟨grw BK155.out⟩, ⟨bw_⟩⟩
  replace H := id_ H; obtain ⟨c8, H⟩ | ⟨c8, H⟩ := H
  ·have c8b0 : decide (8 < (l0_1.length : Int)) = true := decide_eq_true c8
   have c8b1 : decide (8 < l0_1.length) = true := decide_eq_true (by omega)
   clear c8
   (first | rw [c8b0] | (simp only [i64_w, i32_w]; rw [c8b0]) | rw [c8b1] | skip)
   have H' := Aside0.mk H
   clear H
   obtain ⟨z9_0, z9_1, z9_2, z9_3, y9_0, y9_1, y9_2, y9_3⟩ := cw4_ BK155.out
   go_wp2
   go_meet
   case rel => exact ⟨_, (decide ((l0_1.length : Int) > 8)), rl_, H', ⟨km_⟩, ⟨grw BK155.out⟩, ⟨bw_⟩⟩
  have c8b0 : decide (8 < (l0_1.length : Int)) = false := decide_eq_false c8
  have c8b1 : decide (8 < l0_1.length) = false := decide_eq_false (by omega)
  clear c8
  (first | rw [c8b0] | (simp only [i64_w, i32_w]; rw [c8b0]) | rw [c8b1] | skip)
  replace H := id_ H; obtain ⟨c10, H⟩ | ⟨c10, H⟩ := H
  ·have c10b0 : decide (4 < (l0_2.length : Int)) = true := decide_eq_true c10
   have c10b1 : decide (4 < l0_2.length) = true := decide_eq_true (by omega)
   clear c10
   have H' := Aside0.mk H
   clear H
   obtain ⟨z11_0, z11_1, z11_2, z11_3, y11_0, y11_1, y11_2, y11_3⟩ := cw4_ BK155.out
   go_wp2
   go_meet
   case rel => exact ⟨_, (decide ((l0_2.length : Int) > 4)), rl_, H', ⟨km_⟩, ⟨grw BK155.out⟩, ⟨bw_⟩⟩
  have c10b0 : decide (4 < (l0_2.length : Int)) = false := decide_eq_false c10
  have c10b1 : decide (4 < l0_2.length) = false := decide_eq_false (by omega)
  clear c10
  replace H := bi_ H; obtain ⟨t157, A12, H⟩ := H
  have H' := Aside0.mk H
  clear H
  obtain ⟨z13_0, z13_1, z13_2, z13_3, y13_0, y13_1, y13_2, y13_3⟩ := cw4_ BK155.out
  go_wp2_with (first | ((with_reducible refine gate_callee (f := 113) rfl ?_); refine gl_ (some 18) Try.func113 #[.slice A0_3 l0_3.length c0_3] ?_; (with_reducible refine cm_ (shape_Check.calls _ _ l0_3 t157 _ (kc_ HR0_3 HB) HC0_3.out A12.out) ?_); intro w14 hb; refine ⟨_, rfl, ?_⟩; replace BK155 := tb_ BK155 hb; replace HB := ts_ HB hb; clear hb))
  go_meet
  case rel => exact ⟨_, ((t157 != 0)), rl_, H', ⟨km_⟩, ⟨grw BK155.out⟩, ⟨bw_⟩⟩
 case rest =>
  clear HC3
  try clear z5_0 z5_1 z5_2 z5_3
  try clear y5_0 y5_1 y5_2 y5_3
  obtain ⟨kq, x3_2, rfl, HA, HJ2, BK155, HB⟩ := hcut
  cases kq with
  | zero => exact absurd HA.out (by simp [print_Check.j0])
  | succ kj2 =>
   have H := HA.out
   clear HA
   simp only [print_Check.j0] at H
   replace H := ie_ H; obtain ⟨rfl, H⟩ | ⟨rfl, H⟩ := H
   ·obtain rfl := Option.some.inj H
    go_wp2
    go_ret
    exact ⟨rv_, bw_⟩
   replace H := bi_ H; obtain ⟨t158, A16, H⟩ := H
   replace H := ie_ H; obtain ⟨rfl, H⟩ | ⟨rfl, H⟩ := H
   ·obtain rfl := Option.some.inj H
    obtain ⟨z18_0, z18_1, z18_2, z18_3, y18_0, y18_1, y18_2, y18_3⟩ := cw4_ BK155.out
    go_wp2_with (first | ((with_reducible refine gate_callee (f := 73) rfl ?_); refine gl_ (some 23) Try.func73 #[.slice A0_1 l0_1.length c0_1, .func (.func 114) #[] #[]] ?_; (with_reducible refine cm_ (slices_ContainsFunc_string_string.calls kj2 _ _ l0_1 0 true _ (kc_ HR0_1 HB) HC0_1.out A16.out) ?_); intro w19 hb; refine ⟨_, rfl, ?_⟩; replace BK155 := tb_ BK155 hb; replace HB := ts_ HB hb; clear hb))
    go_ret
    exact ⟨rv_, bw_⟩
   replace H := bi_ H; obtain ⟨t159, A20, H⟩ := H
   replace H := ie_ H; obtain ⟨rfl, H⟩ | ⟨rfl, H⟩ := H
   ·obtain rfl := Option.some.inj H
    obtain ⟨z22_0, z22_1, z22_2, z22_3, y22_0, y22_1, y22_2, y22_3⟩ := cw4_ BK155.out
    go_wp2_with (first | ((with_reducible refine gate_callee (f := 73) rfl ?_); refine gl_ (some 23) Try.func73 #[.slice A0_1 l0_1.length c0_1, .func (.func 114) #[] #[]] ?_; (with_reducible refine cm_ (slices_ContainsFunc_string_string.calls kj2 _ _ l0_1 0 false _ (kc_ HR0_1 HB) HC0_1.out A16.out) ?_); intro w23 hb; refine ⟨_, rfl, ?_⟩; replace BK155 := tb_ BK155 hb; replace HB := ts_ HB hb; clear hb; obtain ⟨z24_0, z24_1, z24_2, z24_3, y24_0, y24_1, y24_2, y24_3⟩ := cw4_ BK155.out) | ((with_reducible refine gate_callee (f := 115) rfl ?_); refine gl_ (some 27) Try.func115 #[.slice A0_2 l0_2.length c0_2, .func (.func 116) #[] #[]] ?_; (with_reducible refine cm_ (api_Var_115.calls kj2 _ _ l0_2 0 true _ (kc_ HR0_2 HB) HC0_2.out A20.out) ?_); intro w25 hb; refine ⟨_, rfl, ?_⟩; replace BK155 := tb_ BK155 hb; replace HB := ts_ HB hb; clear hb))
    go_ret
    exact ⟨rv_, bw_⟩
   replace H := bi_ H; obtain ⟨t160, A26, H⟩ := H
   replace H := ib_ H; obtain ⟨rfl, H⟩ | ⟨rfl, H⟩ := H
   ·obtain rfl := Option.some.inj H
    obtain ⟨z34_0, z34_1, z34_2, z34_3, y34_0, y34_1, y34_2, y34_3⟩ := cw4_ BK155.out
    go_wp2_with (first | ((with_reducible refine gate_callee (f := 73) rfl ?_); refine gl_ (some 23) Try.func73 #[.slice A0_1 l0_1.length c0_1, .func (.func 114) #[] #[]] ?_; (with_reducible refine cm_ (slices_ContainsFunc_string_string.calls kj2 _ _ l0_1 0 false _ (kc_ HR0_1 HB) HC0_1.out A16.out) ?_); intro w35 hb; refine ⟨_, rfl, ?_⟩; replace BK155 := tb_ BK155 hb; replace HB := ts_ HB hb; clear hb; obtain ⟨z36_0, z36_1, z36_2, z36_3, y36_0, y36_1, y36_2, y36_3⟩ := cw4_ BK155.out) | ((with_reducible refine gate_callee (f := 115) rfl ?_); refine gl_ (some 27) Try.func115 #[.slice A0_2 l0_2.length c0_2, .func (.func 116) #[] #[]] ?_; (with_reducible refine cm_ (api_Var_115.calls kj2 _ _ l0_2 0 false _ (kc_ HR0_2 HB) HC0_2.out A20.out) ?_); intro w37 hb; refine ⟨_, rfl, ?_⟩; replace BK155 := tb_ BK155 hb; replace HB := ts_ HB hb; clear hb; obtain ⟨z38_0, z38_1, z38_2, z38_3, y38_0, y38_1, y38_2, y38_3⟩ := cw4_ BK155.out) | ((with_reducible refine gate_callee (f := 117) rfl ?_); refine gl_ (some 30) Try.func117 #[.slice A0_3 l0_3.length c0_3, .func (.func 118) #[] #[]] ?_; (with_reducible refine cm_ (api_State_117.calls kj2 _ _ l0_3 0 false _ (kc_ HR0_3 HB) HC0_3.out A26.out) ?_); intro w39 hb; refine ⟨_, rfl, ?_⟩; replace BK155 := tb_ BK155 hb; replace HB := ts_ HB hb; clear hb))
    go_ret
    exact ⟨rv_, bw_⟩

   obtain rfl := Option.some.inj H
   obtain ⟨z28_0, z28_1, z28_2, z28_3, y28_0, y28_1, y28_2, y28_3⟩ := cw4_ BK155.out
   go_wp2_with (first | ((with_reducible refine gate_callee (f := 73) rfl ?_); refine gl_ (some 23) Try.func73 #[.slice A0_1 l0_1.length c0_1, .func (.func 114) #[] #[]] ?_; (with_reducible refine cm_ (slices_ContainsFunc_string_string.calls kj2 _ _ l0_1 0 false _ (kc_ HR0_1 HB) HC0_1.out A16.out) ?_); intro w29 hb; refine ⟨_, rfl, ?_⟩; replace BK155 := tb_ BK155 hb; replace HB := ts_ HB hb; clear hb; obtain ⟨z30_0, z30_1, z30_2, z30_3, y30_0, y30_1, y30_2, y30_3⟩ := cw4_ BK155.out) | ((with_reducible refine gate_callee (f := 115) rfl ?_); refine gl_ (some 27) Try.func115 #[.slice A0_2 l0_2.length c0_2, .func (.func 116) #[] #[]] ?_; (with_reducible refine cm_ (api_Var_115.calls kj2 _ _ l0_2 0 false _ (kc_ HR0_2 HB) HC0_2.out A20.out) ?_); intro w31 hb; refine ⟨_, rfl, ?_⟩; replace BK155 := tb_ BK155 hb; replace HB := ts_ HB hb; clear hb; obtain ⟨z32_0, z32_1, z32_2, z32_3, y32_0, y32_1, y32_2, y32_3⟩ := cw4_ BK155.out) | ((with_reducible refine gate_callee (f := 117) rfl ?_); refine gl_ (some 30) Try.func117 #[.slice A0_3 l0_3.length c0_3, .func (.func 118) #[] #[]] ?_; (with_reducible refine cm_ (api_State_117.calls kj2 _ _ l0_3 0 true _ (kc_ HR0_3 HB) HC0_3.out A26.out) ?_); intro w33 hb; refine ⟨_, rfl, ?_⟩; replace BK155 := tb_ BK155 hb; replace HB := ts_ HB hb; clear hb))
   go_ret
   exact ⟨rv_, bw_⟩
/-! ### rules_book_note: function 150 -/
/-- what a book holds beside its flaws: the chart, the names, the rule -/
structure rules_bk.Bk where
  nm : ByteArray
  A1 : Option Addr
  c1 : Nat
  l1 : List ByteArray
  A2 : Option Addr
  c2 : Nat
  l2 : List (S152)
  A3 : Option Addr
  c3 : Nat
  l3 : List (S108)
  AV : Option Addr
  cV : Nat
  lV : List ByteArray
  AS : Option Addr
  cS : Nat
  lS : List ByteArray
  rule : Int
/-- block B is a book; its names' rows lie below n₀, its flaws' row from n₀ on -/
structure rules_bk.At (n₁ n₀ : Nat) (W : World) (B : Nat) (b : rules_bk.Bk) (out : List (S64)) (vo : Value) : Prop where
  blk : W.heap[B]? = some (.cells #[.string b.nm, .slice b.A1 b.l1.length b.c1, .slice b.A2 b.l2.length b.c2, .slice b.A3 b.l3.length b.c3, .slice b.AV b.lV.length b.cV, .slice b.AS b.lS.length b.cS, .int .i64 b.rule, vo] 159 (0, 0))
  row : Kd.R k64 64 W n₀ (fun k => k ≠ B) vo out
  vars : Kd.R Kd.string 9 W n₁ (fun k => k < n₀ ∧ k ≠ B) (.slice b.AV b.lV.length b.cV) b.lV
  states : Kd.R Kd.string 9 W n₁ (fun k => k < n₀ ∧ k ≠ B) (.slice b.AS b.lS.length b.cS) b.lS
  lo : n₁ ≤ B
  hi : B < n₀
  size : n₀ ≤ W.heap.size
/-- what a method leaves as it is -/
structure rules_bk.Fr (n₁ n₀ B : Nat) (W W' : World) : Prop where
  bel : Below n₁ W W'
  same : ∀ K, K < n₀ → K ≠ B → W'.heap[K]? = W.heap[K]?
  kind : ∀ K cs t f, K ≠ B → t ≠ 64 → W.heap[K]? = some (.cells cs t f) → W'.heap[K]? = some (.cells cs t f)
theorem rules_bk.Fr.refl (n₁ n₀ B : Nat) (W : World) : rules_bk.Fr n₁ n₀ B W W := ⟨Below.refl _ _, fun _ _ _ => rfl, fun _ _ _ _ _ _ h => h⟩
theorem rules_bk.Fr.trans {n₁ n₀ B : Nat} {U V W : World} (h : rules_bk.Fr n₁ n₀ B U V) (k : rules_bk.Fr n₁ n₀ B V W) : rules_bk.Fr n₁ n₀ B U W := ⟨h.bel.trans k.bel, fun K h1 h2 => (k.same K h1 h2).trans (h.same K h1 h2), fun K cs t f h1 h2 h3 => k.kind K cs t f h1 h2 (h.kind K cs t f h1 h2 h3)⟩
theorem rules_bk.Fr.below {n₁ n₀ B : Nat} {W W' : World} (hb : Below W.heap.size W W') (h1 : n₁ ≤ n₀) (h0 : n₀ ≤ W.heap.size) : rules_bk.Fr n₁ n₀ B W W' := ⟨hb.mono (Nat.le_trans h1 h0), fun K hK _ => hb.block K (Nat.lt_of_lt_of_le hK h0), fun K cs t f _ _ h => (hb.block K (Array.getElem?_eq_some_iff.1 h).1).trans h⟩
theorem rules_bk.At.below {n₁ n₀ B : Nat} {W W' : World} {b : rules_bk.Bk} {out : List (S64)} {vo : Value} (h : rules_bk.At n₁ n₀ W B b out vo) (hb : Below W.heap.size W W') : rules_bk.At n₁ n₀ W' B b out vo :=
  ⟨blk_below h.blk hb, Kd.R_below h.row hb, Kd.R_below h.vars hb, Kd.R_below h.states hb, h.lo, h.hi, Nat.le_trans h.size hb.size⟩
theorem rules_bk.At.fr {n₁ n₀ B : Nat} {W W' : World} {b : rules_bk.Bk} {out : List (S64)} {vo : Value} (h : rules_bk.At n₁ n₀ W B b out vo) (hb : Below W.heap.size W W') : rules_bk.Fr n₁ n₀ B W W' := rules_bk.Fr.below hb (by have := h.lo; have := h.hi; omega) h.size
theorem rules_bk.At.cells {n₁ n₀ B : Nat} {W : World} {b : rules_bk.Bk} {out : List (S64)} {vo : Value} (h : rules_bk.At n₁ n₀ W B b out vo) :
    W.cell? ⟨B, 0, none⟩ = some (.string b.nm) ∧ W.cell? ⟨B, 1, none⟩ = some (.slice b.A1 b.l1.length b.c1) ∧ W.cell? ⟨B, 2, none⟩ = some (.slice b.A2 b.l2.length b.c2) ∧ W.cell? ⟨B, 3, none⟩ = some (.slice b.A3 b.l3.length b.c3) ∧ W.cell? ⟨B, 4, none⟩ = some (.slice b.AV b.lV.length b.cV) ∧ W.cell? ⟨B, 5, none⟩ = some (.slice b.AS b.lS.length b.cS) ∧ W.cell? ⟨B, 6, none⟩ = some (.int .i64 b.rule) ∧ W.cell? ⟨B, 7, none⟩ = some vo := cz8_ h.blk
/-- the flaws' slice stored anew, its row grown -/
theorem rules_bk.At.stored {n₁ n₀ B : Nat} {W w3 : World} {b : rules_bk.Bk} {out out1 : List (S64)} {vo v1 : Value} (h : rules_bk.At n₁ n₀ W B b out vo) (HO : Kd.R k64 64 w3 n₀ (fun k => k ≠ B) v1 out1) (HB : Below n₀ W w3) (HG : W.drew.grownBy w3 vo.ownBlock)
    (HK : w3.heap[B]? = some (.cells #[.string b.nm, .slice b.A1 b.l1.length b.c1, .slice b.A2 b.l2.length b.c2, .slice b.A3 b.l3.length b.c3, .slice b.AV b.lV.length b.cV, .slice b.AS b.lS.length b.cS, .int .i64 b.rule, vo] 159 (0, 0))) :
    rules_bk.At n₁ n₀ (w3.setCell ⟨B, 7, none⟩ v1) B b out1 v1 ∧ rules_bk.Fr n₁ n₀ B W (w3.setCell ⟨B, 7, none⟩ v1) := by
  have hs : ∀ k, k < n₀ → k ≠ B → (w3.setCell ⟨B, 7, none⟩ v1).heap[k]? = W.heap[k]? := fun k h1 h2 => (Below.heap_setCell _ ⟨B, 7, none⟩ _ _ h2).trans (HB.block k h1)
  have hb : Below n₁ W (w3.setCell ⟨B, 7, none⟩ v1) := (HB.mono (by have := h.lo; have := h.hi; omega)).setCell (p := ⟨B, 7, none⟩) h.lo v1
  have hk : ∀ K cs t f, K ≠ B → t ≠ 64 → W.heap[K]? = some (.cells cs t f) → (w3.setCell ⟨B, 7, none⟩ v1).heap[K]? = some (.cells cs t f) := fun K cs t f h1 h2 h3 => by
    refine (Below.heap_setCell _ ⟨B, 7, none⟩ _ _ h1).trans ((HG.block K (Array.getElem?_eq_some_iff.1 h3).1 (fun e => ?_)).trans h3)
    obtain ⟨cells, hc⟩ := Kd.R_typed h.row K e.symm
    rw [hc] at h3
    simp only [Option.some.injEq, Obj.cells.injEq] at h3
    exact h2 h3.2.1.symm
  exact ⟨⟨blk_put HK 7 v1 rfl, Kd.R_far HO (p := ⟨B, 7, none⟩) (fun k hk => hk) v1, Kd.R_step h.vars (fun k hk _ => hs k hk.1 hk.2), Kd.R_step h.states (fun k hk _ => hs k hk.1 hk.2), h.lo, h.hi, Nat.le_trans h.size hb.size⟩, ⟨hb, hs, hk⟩⟩
/-- a row of another kind, laid down behind the book, stays -/
theorem rules_bk.Fr.row {n₁ n₀ B : Nat} {W W' : World} (f : rules_bk.Fr n₁ n₀ B W W') {α : Type} {d : Kd α} {e base : Nat} {ok : Nat → Prop} {v : Value} {xs : List α} (h : Kd.R d e W base ok v xs) (hq : ∀ q, q ∈ e :: d.E → q ≠ 64) (hB : B < base) : Kd.R d e W' base ok v xs :=
  Kd.R_mono (Kd.R_step (Kd.R_bound h) (fun k hk _ => by
    obtain ⟨_, h1, _, q, hq1, cells, hc⟩ := hk
    rw [f.kind k _ _ _ (by omega) (hq q hq1) hc, hc])) (fun k hk => hk.1)
/-- all that is noted at n places, one behind the other -/
def rules_all {α : Type} (n : Nat) (g : Nat → List α) : List α := (List.range n).flatMap g
theorem rules_all_succ {α : Type} (n : Nat) (g : Nat → List α) : rules_all (n + 1) g = rules_all n g ++ g n := by simp [rules_all, List.range_succ]
theorem rules_all_le {α : Type} (g : Nat → List α) : ∀ {n m : Nat}, n ≤ m → (rules_all n g).length ≤ (rules_all m g).length := by
  intro n m h
  induction h with
  | refl => exact Nat.le_refl _
  | step _ ih => rw [rules_all_succ, List.length_append]; omega
theorem rules_all_congr {α : Type} {n : Nat} {g g' : Nat → List α} (h : ∀ i, i < n → g i = g' i) : rules_all n g = rules_all n g' := by
  induction n with
  | zero => rfl
  | succ n ih => rw [rules_all_succ, rules_all_succ, ih (fun i hi => h i (by omega)), h n (Nat.lt_succ_self n)]
theorem rules_bk.info : (Try.prog.info? 64).map (fun i => (i.zero, i.size, i.bytes)) = some (some (.agg #[(.int .i64 0), (.int .i64 0), (.int .i64 0)]), 3, 24) := by kernel_rfl
set_option maxHeartbeats 2000000 in
set_option maxRecDepth 100000 in
theorem rules_bk.note (n₁ n₀ B : Nat) (b : rules_bk.Bk) (out : List (S64)) (vo : Value) (is : Bool) (i p : Int) (W : World) (h : rules_bk.At n₁ n₀ W B b out vo) (hlen : out.length ≤ 1000000) :
    Calls Try.prog 150 #[.pointer (some ⟨B, 0, none⟩), .bool is, .int .i64 i, .int .i64 p] W fun e W' => (∃ u, e = .returned u) ∧ (∃ vo', rules_bk.At n₁ n₀ W' B b (if is = true then out ++ [⟨b.rule, i, p⟩] else out) vo') ∧ rules_bk.Fr n₁ n₀ B W W' := by
  cases is with
  | false =>
    have HF := Aside0.mk h
    clear h
    go_enter Try.func150, Try.ntmps150
    go_wp2
    go_end0
    exact ⟨⟨_, rfl⟩, ⟨_, HF.out⟩, rules_bk.Fr.refl _ _ _ _⟩
  | true =>
    obtain ⟨A, c, rfl⟩ := Kd.R_slice h.row
    obtain ⟨hc0, hc1, hc2, hc3, hc4, hc5, hc6, hc7⟩ := h.cells
    have hf7 := blk_frozen h.blk 7
    have hc7a : (W.alloc (.cells #[.int .i64 b.rule, .int .i64 i, .int .i64 p] 64)).cell? ⟨B, 7, none⟩ = some (.slice A out.length c) := (blk_cell (blk_alloc h.blk _) 7).trans rfl
    have HF := Aside0.mk h
    have hu := Try.underlying159
    clear h hc0 hc1 hc2 hc3 hc4 hc5
    go_enter Try.func150, Try.ntmps150
    go_wp2_with fail
    go_region_law (refine Kd.R_append_step k64 (W := W.drew) (w0 := W) n₀ (by rfl) (.tmp 13) (.tmp 21) 59 64 (.agg #[.int .i64 0, .int .i64 0, .int .i64 0]) 24 rfl Try.underlying59 rules_bk.info rfl (by decide) (by omega) (.slice A out.length c) out ⟨b.rule, i, p⟩ [.int .i64 b.rule, .int .i64 i, .int .i64 p] (fun k => k ≠ B) (fun _ => False) rfl rfl (k64_mkM _ _ _ ⟨b.rule, i, p⟩) (fun _ hk => hk.elim) (fun k hk => Nat.ne_of_gt (Nat.lt_of_lt_of_le HF.out.hi (Nat.le_trans HF.out.size hk))) (Kd.R_drew HF.out.row) (below_drew (Below.refl _ _)) HF.out.size (by omega) ?_; intro v1 w3 ho hb hg hat; obtain ⟨A1, c1, rfl⟩ := Kd.R_slice ho; have HO := Aside0.mk ho; have HB := Aside0.mk hb; have HG := Aside0.mk hg; have HBK := Aside0.mk (blk_grown (w := W.drew) HF.out.blk hg (Kd.R_away HF.out.row (fun k hk => hk))); have hk7 := (blk_cell HBK.out 7).trans rfl; have hf73 := blk_frozen HBK.out 7; clear ho hb hg hat)
    all_goals
      go_wp2
      go_end0
      have hst := HF.out.stored HO.out HB.out HG.out HBK.out
      rw [show (out ++ [(⟨b.rule, i, p⟩ : S64)]).length = out.length + 1 by simp] at hst
      exact ⟨⟨_, rfl⟩, ⟨_, hst.1⟩, hst.2⟩


end Go.Proofs.Ytbkaiojofgmbnaa.XL
