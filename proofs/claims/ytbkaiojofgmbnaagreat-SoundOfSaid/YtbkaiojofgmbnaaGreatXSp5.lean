-- written by wip/xprint.py out of the translation
import Derived.Test.YtbkaiojofgmbnaaGreatXShort
import Derived.Test.YtbkaiojofgmbnaaGreatXSp0
import Derived.Test.YtbkaiojofgmbnaaGreatXSp3
import Derived.Test.YtbkaiojofgmbnaaGreatXSp4
namespace Go.Proofs.YtbkaiojofgmbnaaGreat.XS
open Go.Proofs.YtbkaiojofgmbnaaGreat.XShort Go.Proofs.YtbkaiojofgmbnaaGreat.XReg Go.Proofs.YtbkaiojofgmbnaaGreat.XGrow Go.RowKit Go.Proofs.YtbkaiojofgmbnaaGreatW.PrintWords Go.Proofs.YtbkaiojofgmbnaaGreatW.PrintLast Go.Proofs.YtbkaiojofgmbnaaGreatW.PrintMore
attribute [local go_sem] max2_int min2_int max_two min_two max_three min_three max_four min_four   -- for this text's walks alone
set_option linter.unusedVariables false
set_option linter.unusedSimpArgs false

/-! ### semblanceref08_Check: function 31 -/
def semblanceref08_Check.l0 : Nat → List (S76) → Int → Option (Int)
  | 0, _, _ => none
  | k + 1, x0, x3 => if x3 < (x0.length : Int) then (if 0 ≤ x3 then ((semblanceref08_One.f k ((rd_T76 x0 x3).f0) ((rd_T76 x0 x3).f1) ((rd_T76 x0 x3).f2)).bind fun t166 => (if t166 = 0 then (semblanceref08_Check.l0 k x0 (wrap64 (x3 + 1))) else (some t166))) else (none)) else (some 0)
def semblanceref08_Check.f (k : Nat) (l0 : List (S76)) : Option (Int) := if (l0.length : Int) > 8 then (some 8) else (semblanceref08_Check.l0 k l0 0)
theorem semblanceref08_Check.mono_l : ∀ k, (∀ y0 y1, LeO (semblanceref08_Check.l0 k y0 y1) (semblanceref08_Check.l0 (k + 1) y0 y1))
  | 0 => fun _ _ r h => by simp [semblanceref08_Check.l0] at h
  | k + 1 => by
    have ih0 := semblanceref08_Check.mono_l k
    · intro y0 y1
      unfold semblanceref08_Check.l0
      exact mo_
theorem semblanceref08_Check.mono : ∀ a0 k, LeO (semblanceref08_Check.f k a0) (semblanceref08_Check.f (k + 1) a0) := by
  intro a0 k
  have ih0 := semblanceref08_Check.mono_l k
  unfold semblanceref08_Check.f
  exact mo_
instance semblanceref08_Check.lc : ∀ a0 k, LeC (semblanceref08_Check.f k a0) (semblanceref08_Check.f (k + 1) a0) := fun a0 k => ⟨semblanceref08_Check.mono a0 k⟩
set_option maxHeartbeats 8000000 in
set_option maxRecDepth 100000 in
theorem semblanceref08_Check.calls (k : Nat) (A0 : Option Addr) (c0 : Nat) (l0 : List (S76)) (r : Int) (w : World) (hr0 : Kd.C k76 w A0 l0.length l0) (hc0 : l0.length ≤ c0) (h : semblanceref08_Check.f k l0 = some r) :
  Calls Tryz.prog 31 #[.slice A0 l0.length c0] w fun e w' => e = .returned (.int .i64 r) ∧ Below w.heap.size w w' := by
 have hu76 := Tryz.underlying76
 have HR0 := Aside0.mk hr0
 have HC0 := Aside0.mk hc0
 clear hr0 hc0
 have HB := Aside0.mk (Below.refl w.heap.size w)
 unfold semblanceref08_Check.f at h
 have H := h
 clear h
 replace H := id_ H; obtain ⟨c2, H⟩ | ⟨c2, H⟩ := H
 ·have c2b0 : decide (8 < (l0.length : Int)) = true := decide_eq_true c2
  have c2b1 : decide (8 < l0.length) = true := decide_eq_true (by omega)
  clear c2
  obtain rfl := Option.some.inj H
  go_enter Tryz.func31, Tryz.ntmps31
  go_wp2
  go_ret
  exact ⟨rv_, bw_⟩
 have c2b0 : decide (8 < (l0.length : Int)) = false := decide_eq_false c2
 have c2b1 : decide (8 < l0.length) = false := decide_eq_false (by omega)
 clear c2
 have H' := Aside0.mk H
 clear H
 go_enter Tryz.func31, Tryz.ntmps31
 go_wp2
 go_loopg [3] k (fun kq v3 w' => ∃ (x3_1 : Int), v3 = .int .i64 x3_1 ∧ Aside0 (semblanceref08_Check.l0 kq l0 x3_1 = some r) ∧ Aside0 (kq ≤ k) ∧ Aside0 (Below w.heap.size w w'))
 case atStart => exact ⟨(0), rl_, H', ⟨Nat.le_refl _⟩, ⟨bw_⟩⟩
 case round =>
  clear H'
  try clear c2b0
  try clear c2b1
  obtain ⟨x3_1, rfl, HA, HK1, HB⟩ := hrel
  cases gk with
  | zero => exact absurd HA.out (by simp [semblanceref08_Check.l0])
  | succ k1 =>
   have H := HA.out
   clear HA
   simp only [semblanceref08_Check.l0] at H
   replace H := it_ H; obtain ⟨c3b0, H⟩ | ⟨c3b0, H⟩ := H
   ·obtain rfl := Option.some.inj H
    go_wp2
    go_ret
    exact ⟨rv_, bw_⟩

   replace H := is_ H; obtain ⟨c4b0, H⟩ := H
   replace H := bi_ H; obtain ⟨t166, A5, H⟩ := H
   replace H := ic_ H; obtain ⟨c6, H⟩ | ⟨c6, H⟩ := H
   ·have c6b0 : (t166 == 0) = false := beq_eq_false_iff_ne.mpr c6
    have c6b1 : (t166 != 0) = true := bne_iff_ne.mpr c6
    obtain rfl := Option.some.inj H
    obtain ⟨ad165, A165_2, c165_2, e165, hx165_0, hx165_1, hx165_2, HC165_2, HR165_2, p165, q165⟩ := au_T76 HR0 HB x3_1; cases e165
    go_wp2_with (first | ((with_reducible refine gate_callee (f := 63) rfl ?_); refine gl_ (some 18) Tryz.func63 #[.agg #[.string ((rd_T76 l0 x3_1).f0), .bool ((rd_T76 l0 x3_1).f1), .slice A165_2 ((rd_T76 l0 x3_1).f2).length c165_2]] ?_; (with_reducible refine cm_ (semblanceref08_One.calls k1 ((rd_T76 l0 x3_1).f0) ((rd_T76 l0 x3_1).f1) _ _ ((rd_T76 l0 x3_1).f2) t166 _ (kc_ HR165_2 HB) HC165_2.out A5.out) ?_); intro w8 hb; refine ⟨_, rfl, ?_⟩; replace HB := ts_ HB hb; clear hb))
    go_ret
    exact ⟨rv_, bw_⟩
   have c6b0 : (t166 == 0) = true := beq_iff_eq.mpr c6
   have c6b1 : (t166 != 0) = false := bne_eq_false_iff_eq.mpr c6
   clear c6
   have H' := Aside0.mk H
   clear H
   obtain ⟨ad165, A165_2, c165_2, e165, hx165_0, hx165_1, hx165_2, HC165_2, HR165_2, p165, q165⟩ := au_T76 HR0 HB x3_1; cases e165
   go_wp2_with (first | ((with_reducible refine gate_callee (f := 63) rfl ?_); refine gl_ (some 18) Tryz.func63 #[.agg #[.string ((rd_T76 l0 x3_1).f0), .bool ((rd_T76 l0 x3_1).f1), .slice A165_2 ((rd_T76 l0 x3_1).f2).length c165_2]] ?_; (with_reducible refine cm_ (semblanceref08_One.calls k1 ((rd_T76 l0 x3_1).f0) ((rd_T76 l0 x3_1).f1) _ _ ((rd_T76 l0 x3_1).f2) t166 _ (kc_ HR165_2 HB) HC165_2.out A5.out) ?_); intro w7 hb; refine ⟨_, rfl, ?_⟩; replace HB := ts_ HB hb; clear hb))
   go_roundg k1
   case measure => have := HK1.out; omega
   case rel => exact ⟨(wrap64 (x3_1 + 1)), rl_, H', ⟨kn_ HK1⟩, ⟨bw_⟩⟩
/-! ### semblanceref09_Check: function 32 -/
mutual
def semblanceref09_Check.j0 : Nat → Bool → ByteArray → List (S78) → List (S76) → ByteArray → Option (Int)
  | 0, _, _, _, _, _ => none
  | k + 1, x24, x168000, x168001, x168002, x168003 => if x24 = true then (some 1) else (if (x168001.length : Int) > 0 then ((semblanceref05_Check.f k x168001).bind fun t171 => (semblanceref09_Check.j1 k (t171 != 0) x168000 x168001 x168002 x168003)) else (semblanceref09_Check.j1 k false x168000 x168001 x168002 x168003))
def semblanceref09_Check.j1 : Nat → Bool → ByteArray → List (S78) → List (S76) → ByteArray → Option (Int)
  | 0, _, _, _, _, _ => none
  | k + 1, x34, x168000, x168001, x168002, x168003 => if x34 = true then ((semblanceref05_Check.f k x168001).bind fun t172 => (some t172)) else ((semblanceref08_Check.f k x168002).bind fun t173 => (some t173))
end
def semblanceref09_Check.f (k : Nat) (a0_0 : ByteArray) (l0_1 : List (S78)) (l0_2 : List (S76)) (a0_3 : ByteArray) : Option (Int) := if (a0_0.size : Int) > 0 then ((semblanceref02_Is.f k a0_0).bind fun t168 => (if t168 = true then (if (a0_3.size : Int) > 0 then ((semblanceref02_Is.f k a0_3).bind fun t169 => (semblanceref09_Check.j0 k (!t169) a0_0 l0_1 l0_2 a0_3)) else (semblanceref09_Check.j0 k false a0_0 l0_1 l0_2 a0_3)) else (semblanceref09_Check.j0 k true a0_0 l0_1 l0_2 a0_3))) else (if (a0_3.size : Int) > 0 then ((semblanceref02_Is.f k a0_3).bind fun t170 => (semblanceref09_Check.j0 k (!t170) a0_0 l0_1 l0_2 a0_3)) else (semblanceref09_Check.j0 k false a0_0 l0_1 l0_2 a0_3))
theorem semblanceref09_Check.mono_l : ∀ k, (∀ y0 y1 y2 y3 y4, LeO (semblanceref09_Check.j0 k y0 y1 y2 y3 y4) (semblanceref09_Check.j0 (k + 1) y0 y1 y2 y3 y4)) ∧ (∀ y0 y1 y2 y3 y4, LeO (semblanceref09_Check.j1 k y0 y1 y2 y3 y4) (semblanceref09_Check.j1 (k + 1) y0 y1 y2 y3 y4))
  | 0 => ⟨fun _ _ _ _ _ r h => by simp [semblanceref09_Check.j0] at h, fun _ _ _ _ _ r h => by simp [semblanceref09_Check.j1] at h⟩
  | k + 1 => by
    obtain ⟨ih0, ih1⟩ := semblanceref09_Check.mono_l k
    refine ⟨?_, ?_⟩
    · intro y0 y1 y2 y3 y4
      unfold semblanceref09_Check.j0
      exact mo_
    · intro y0 y1 y2 y3 y4
      unfold semblanceref09_Check.j1
      exact mo_
theorem semblanceref09_Check.mono : ∀ a0 a1 a2 a3 k, LeO (semblanceref09_Check.f k a0 a1 a2 a3) (semblanceref09_Check.f (k + 1) a0 a1 a2 a3) := by
  intro a0 a1 a2 a3 k
  obtain ⟨ih0, ih1⟩ := semblanceref09_Check.mono_l k
  unfold semblanceref09_Check.f
  exact mo_
instance semblanceref09_Check.lc : ∀ a0 a1 a2 a3 k, LeC (semblanceref09_Check.f k a0 a1 a2 a3) (semblanceref09_Check.f (k + 1) a0 a1 a2 a3) := fun a0 a1 a2 a3 k => ⟨semblanceref09_Check.mono a0 a1 a2 a3 k⟩
set_option maxHeartbeats 8000000 in
set_option maxRecDepth 100000 in
theorem semblanceref09_Check.calls (k : Nat) (a0_0 : ByteArray) (A0_1 : Option Addr) (c0_1 : Nat) (l0_1 : List (S78)) (A0_2 : Option Addr) (c0_2 : Nat) (l0_2 : List (S76)) (a0_3 : ByteArray) (r : Int) (w : World) (hr0_1 : Kd.C k78 w A0_1 l0_1.length l0_1) (hc0_1 : l0_1.length ≤ c0_1) (hr0_2 : Kd.C k76 w A0_2 l0_2.length l0_2) (hc0_2 : l0_2.length ≤ c0_2) (h : semblanceref09_Check.f k a0_0 l0_1 l0_2 a0_3 = some r) :
  Calls Tryz.prog 32 #[.agg #[.string a0_0, .slice A0_1 l0_1.length c0_1, .slice A0_2 l0_2.length c0_2, .string a0_3]] w fun e w' => e = .returned (.int .i64 r) ∧ Below w.heap.size w w' := by
 have hu54 := Tryz.underlying54
 have HR0_1 := Aside0.mk hr0_1
 have HC0_1 := Aside0.mk hc0_1
 clear hr0_1 hc0_1
 have HR0_2 := Aside0.mk hr0_2
 have HC0_2 := Aside0.mk hc0_2
 clear hr0_2 hc0_2
 have HB := Aside0.mk (Below.refl w.heap.size w)
 unfold semblanceref09_Check.f at h
 have HC2 := Aside0.mk h
 clear h
 go_enter Tryz.func32, Tryz.ntmps32
 go_upto_region 1 with (first | ((with_reducible refine gate_dst (N := 1) rfl ?_); (try (refine gate_guard (by rfl) ?_; dsimp only)); refine bx_ HB (N := 1) (cs := #[.string a0_0, .slice A0_1 l0_1.length c0_1, .slice A0_2 l0_2.length c0_2, .string a0_3]) (t := 54) ?_; clear HB; intro gb167 w3 HB BK167 GW167 GE167))
 (try simp only [Act.put, sb_, s0_, s1_])
 go_cut [24] (fun v24 wc => ∃ (kq : Nat) (x24_1 : Bool), v24 = .bool x24_1 ∧ Aside0 (semblanceref09_Check.j0 kq x24_1 a0_0 l0_1 l0_2 a0_3 = some r) ∧ Aside0 (kq ≤ k) ∧ Aside0 (wc.heap[gb167]? = some (.cells #[.string a0_0, (.slice A0_1 l0_1.length c0_1), (.slice A0_2 l0_2.length c0_2), .string a0_3] 54 (0, 0))) ∧ Aside0 (Below w.heap.size w wc))
 case first =>
  have H := HC2.out
  clear HC2
  replace H := ic_ H; obtain ⟨c4, H⟩ | ⟨c4, H⟩ := H
  ·have c4b0 : decide (0 < (a0_0.size : Int)) = false := decide_eq_false c4
   have c4b1 : decide (0 < a0_0.size) = false := decide_eq_false (by omega)
   clear c4
   (first | rw [c4b0] | (simp only [i64_w, i32_w]; rw [c4b0]) | rw [c4b1] | skip)
   replace H := ic_ H; obtain ⟨c18, H⟩ | ⟨c18, H⟩ := H
   ·have c18b0 : decide (0 < (a0_3.size : Int)) = false := decide_eq_false c18
    have c18b1 : decide (0 < a0_3.size) = false := decide_eq_false (by omega)
    clear c18
    have H' := Aside0.mk H
    clear H
    obtain ⟨z22_0, z22_1, z22_2, z22_3, y22_0, y22_1, y22_2, y22_3⟩ := cw4_ BK167.out
    go_wp2
    go_meet
    case rel => exact ⟨_, (false), rl_, H', ⟨km_⟩, ⟨grw BK167.out⟩, ⟨bw_⟩⟩
   have c18b0 : decide (0 < (a0_3.size : Int)) = true := decide_eq_true c18
   have c18b1 : decide (0 < a0_3.size) = true := decide_eq_true (by omega)
   clear c18
   replace H := bi_ H; obtain ⟨t170, A19, H⟩ := H
   have H' := Aside0.mk H
   clear H
   obtain ⟨z20_0, z20_1, z20_2, z20_3, y20_0, y20_1, y20_2, y20_3⟩ := cw4_ BK167.out
   go_wp2_with (first | (go_at_call 28; (with_reducible refine cm_ (semblanceref02_Is.calls k a0_3 t170 _ A19.out) ?_); intro w21 hb; replace BK167 := tb_ BK167 hb; replace HB := ts_ HB hb; clear hb))
   go_meet
   case rel => exact ⟨_, (!t170), rl_, H', ⟨km_⟩, ⟨grw BK167.out⟩, ⟨bw_⟩⟩
  have c4b0 : decide (0 < (a0_0.size : Int)) = true := decide_eq_true c4
  have c4b1 : decide (0 < a0_0.size) = true := decide_eq_true (by omega)
  clear c4
  (first | rw [c4b0] | (simp only [i64_w, i32_w]; rw [c4b0]) | rw [c4b1] | skip)
  replace H := bi_ H; obtain ⟨t168, A5, H⟩ := H
  replace H := ib_ H; obtain ⟨rfl, H⟩ | ⟨rfl, H⟩ := H
  ·have H' := Aside0.mk H
   clear H
   obtain ⟨z16_0, z16_1, z16_2, z16_3, y16_0, y16_1, y16_2, y16_3⟩ := cw4_ BK167.out
   go_wp2_with (first | (go_at_call 28; (with_reducible refine cm_ (semblanceref02_Is.calls k a0_0 false _ A5.out) ?_); intro w17 hb; replace BK167 := tb_ BK167 hb; replace HB := ts_ HB hb; clear hb))
   go_meet
   case rel => exact ⟨_, (true), rl_, H', ⟨km_⟩, ⟨grw BK167.out⟩, ⟨bw_⟩⟩
  replace H := ic_ H; obtain ⟨c7, H⟩ | ⟨c7, H⟩ := H
  ·have c7b0 : decide (0 < (a0_3.size : Int)) = false := decide_eq_false c7
   have c7b1 : decide (0 < a0_3.size) = false := decide_eq_false (by omega)
   clear c7
   have H' := Aside0.mk H
   clear H
   obtain ⟨z13_0, z13_1, z13_2, z13_3, y13_0, y13_1, y13_2, y13_3⟩ := cw4_ BK167.out
   go_wp2_with (first | (go_at_call 28; (with_reducible refine cm_ (semblanceref02_Is.calls k a0_0 true _ A5.out) ?_); intro w14 hb; replace BK167 := tb_ BK167 hb; replace HB := ts_ HB hb; clear hb; obtain ⟨z15_0, z15_1, z15_2, z15_3, y15_0, y15_1, y15_2, y15_3⟩ := cw4_ BK167.out))
   go_meet
   case rel => exact ⟨_, (false), rl_, H', ⟨km_⟩, ⟨grw BK167.out⟩, ⟨bw_⟩⟩
  have c7b0 : decide (0 < (a0_3.size : Int)) = true := decide_eq_true c7
  have c7b1 : decide (0 < a0_3.size) = true := decide_eq_true (by omega)
  clear c7
  replace H := bi_ H; obtain ⟨t169, A8, H⟩ := H
  have H' := Aside0.mk H
  clear H
  obtain ⟨z9_0, z9_1, z9_2, z9_3, y9_0, y9_1, y9_2, y9_3⟩ := cw4_ BK167.out
  go_wp2_with (first | (go_at_call 28; (with_reducible refine cm_ (semblanceref02_Is.calls k a0_0 true _ A5.out) ?_); intro w10 hb; replace BK167 := tb_ BK167 hb; replace HB := ts_ HB hb; clear hb; obtain ⟨z11_0, z11_1, z11_2, z11_3, y11_0, y11_1, y11_2, y11_3⟩ := cw4_ BK167.out) | (go_at_call 28; (with_reducible refine cm_ (semblanceref02_Is.calls k a0_3 t169 _ A8.out) ?_); intro w12 hb; replace BK167 := tb_ BK167 hb; replace HB := ts_ HB hb; clear hb))
  go_meet
  case rel => exact ⟨_, (!t169), rl_, H', ⟨km_⟩, ⟨grw BK167.out⟩, ⟨bw_⟩⟩
 case rest =>
  clear HC2
  obtain ⟨kq, x24_1, rfl, HA, HJ1, BK167, HB⟩ := hcut
  cases kq with
  | zero => exact absurd HA.out (by simp [semblanceref09_Check.j0])
  | succ kj1 =>
   have H := HA.out
   clear HA
   simp only [semblanceref09_Check.j0] at H
   replace H := ie_ H; obtain ⟨rfl, H⟩ | ⟨rfl, H⟩ := H
   ·obtain rfl := Option.some.inj H
    go_wp2
    go_ret
    exact ⟨rv_, bw_⟩
   have HC24 := Aside0.mk H
   clear H
   go_upto_region 3 with (fail)
   go_cut [34] (fun v34 wc => ∃ (kq : Nat) (x34_23 : Bool), v34 = .bool x34_23 ∧ Aside0 (semblanceref09_Check.j1 kq x34_23 a0_0 l0_1 l0_2 a0_3 = some r) ∧ Aside0 (kq ≤ kj1) ∧ Aside0 (wc.heap[gb167]? = some (.cells #[.string a0_0, (.slice A0_1 l0_1.length c0_1), (.slice A0_2 l0_2.length c0_2), .string a0_3] 54 (0, 0))) ∧ Aside0 (Below w.heap.size w wc))
   case first =>
    have H := HC24.out
    clear HC24
    replace H := ic_ H; obtain ⟨c25, H⟩ | ⟨c25, H⟩ := H
    ·have c25b0 : decide (0 < (l0_1.length : Int)) = false := decide_eq_false c25
     have c25b1 : decide (0 < l0_1.length) = false := decide_eq_false (by omega)
     clear c25
     (first | rw [c25b0] | (simp only [i64_w, i32_w]; rw [c25b0]) | rw [c25b1] | skip)
     have H' := Aside0.mk H
     clear H
     obtain ⟨z29_0, z29_1, z29_2, z29_3, y29_0, y29_1, y29_2, y29_3⟩ := cw4_ BK167.out
     go_wp2
     go_meet
     case rel => exact ⟨_, (false), rl_, H', ⟨kn_ HJ1⟩, ⟨grw BK167.out⟩, ⟨bw_⟩⟩
    have c25b0 : decide (0 < (l0_1.length : Int)) = true := decide_eq_true c25
    have c25b1 : decide (0 < l0_1.length) = true := decide_eq_true (by omega)
    clear c25
    (first | rw [c25b0] | (simp only [i64_w, i32_w]; rw [c25b0]) | rw [c25b1] | skip)
    replace H := bi_ H; obtain ⟨t171, A26, H⟩ := H
    have H' := Aside0.mk H
    clear H
    obtain ⟨z27_0, z27_1, z27_2, z27_3, y27_0, y27_1, y27_2, y27_3⟩ := cw4_ BK167.out
    go_wp2_with (first | (go_at_call 64; (with_reducible refine cm_ (semblanceref05_Check.calls kj1 _ _ l0_1 t171 _ (kc_ HR0_1 HB) HC0_1.out A26.out) ?_); intro w28 hb; replace BK167 := tb_ BK167 hb; replace HB := ts_ HB hb; clear hb))
    go_meet
    case rel => exact ⟨_, ((t171 != 0)), rl_, H', ⟨kn_ HJ1⟩, ⟨grw BK167.out⟩, ⟨bw_⟩⟩
   case rest =>
    clear HC24
    try clear c23
    obtain ⟨kq, x34_23, rfl, HA, HJ23, BK167, HB⟩ := hcut
    cases kq with
    | zero => exact absurd HA.out (by simp [semblanceref09_Check.j1])
    | succ kj23 =>
     have H := HA.out
     clear HA
     simp only [semblanceref09_Check.j1] at H
     replace H := ib_ H; obtain ⟨rfl, H⟩ | ⟨rfl, H⟩ := H
     ·replace H := bi_ H; obtain ⟨t173, A34, H⟩ := H
      obtain rfl := Option.some.inj H
      obtain ⟨z35_0, z35_1, z35_2, z35_3, y35_0, y35_1, y35_2, y35_3⟩ := cw4_ BK167.out
      go_wp2_with (first | ((with_reducible refine gate_callee (f := 31) rfl ?_); refine gl_ (some 40) Tryz.func31 #[.slice A0_2 l0_2.length c0_2] ?_; (with_reducible refine cm_ (semblanceref08_Check.calls kj23 _ _ l0_2 t173 _ (kc_ HR0_2 HB) HC0_2.out A34.out) ?_); intro w36 hb; refine ⟨_, rfl, ?_⟩; replace BK167 := tb_ BK167 hb; replace HB := ts_ HB hb; clear hb))
      go_ret
      exact ⟨rv_, bw_⟩

     replace H := bi_ H; obtain ⟨t172, A31, H⟩ := H
     obtain rfl := Option.some.inj H
     obtain ⟨z32_0, z32_1, z32_2, z32_3, y32_0, y32_1, y32_2, y32_3⟩ := cw4_ BK167.out
     go_wp2_with (first | ((with_reducible refine gate_callee (f := 64) rfl ?_); refine gl_ (some 37) Tryz.func64 #[.slice A0_1 l0_1.length c0_1] ?_; (with_reducible refine cm_ (semblanceref05_Check.calls kj23 _ _ l0_1 t172 _ (kc_ HR0_1 HB) HC0_1.out A31.out) ?_); intro w33 hb; refine ⟨_, rfl, ?_⟩; replace BK167 := tb_ BK167 hb; replace HB := ts_ HB hb; clear hb))
     go_ret
     exact ⟨rv_, bw_⟩
/-! ### semblanceref12_May: function 11 -/
-- USES semblance/semblanceref12.small
-- USES semblance/semblanceref02.Is
-- USES semblance/semblanceref10.Check
-- USES semblance/semblanceref08.Check
-- USES semblance/semblanceref09.Check
/-- a struct's copy into a box that lies there -/
theorem box_put {P : Program} {ops : Array Oper} {rest : List Oper} {o : Oper} {a : Act} {Q : Exit → Act → World → Prop} {W W0 : World} {n : Nat} (hgd : o.guard = none) (hd : o.dst = none) {cs vs : Array Value} {t : TypeId} {g : Nat} (x y : Operand) (ho : o.op = .store t x y)
    (hx : a.eval x = .pointer (some ⟨g, 0, none⟩)) (hy : a.eval y = .agg vs) (hk : W.heap[g]? = some (.cells cs t (0, 0))) (hi : (P.info? t).map (·.size) = some vs.size) (hs : cs.size = vs.size) (h1 : vs.all (·.oneCell') = true) (hB : Below n W0 W) (hn : n ≤ g)
    (h : ∀ w1, w1.heap[g]? = some (.cells vs t (0, 0)) → Below n W0 w1 → wpList P ops Q rest a w1) : wpList P ops Q (o :: rest) a W := by
  refine wpList_store_row hgd t x y ho g vs hx hy t cs hk hi hs h1 ?_
  rw [hd]
  exact h _ (setRow_heap _ _ cs vs t _ hk) (below_setRow hB hn _)
theorem and4_cases (a b c d : Bool) : ((a = false ∨ (a = true ∧ b = false) ∨ (a = true ∧ b = true ∧ c = false) ∨ (a = true ∧ b = true ∧ c = true ∧ d = false)) ∧ (a && (b && (c && d))) = false) ∨ (a = true ∧ b = true ∧ c = true ∧ d = true) := by
  cases a <;> cases b <;> cases c <;> cases d <;> decide
def sml (n : Int) : Bool := decide (n ≥ (-1000)) && decide (n ≤ 1000)
/-- may a variable be told, a state? -/
def semblanceref12_May.v (k : Nat) (x : S50) : Option Bool := (semblanceref02_Is.f k x.f0).bind fun t => some (t && (sml x.f1 && (sml x.f2 && sml x.f3)))
def semblanceref12_May.y (k : Nat) (y : S54) : Option Bool := (semblanceref09_Check.f k y.f0 y.f1 y.f2 y.f3).bind fun q => some (q == 0)
def semblanceref12_May.s (k : Nat) (x : S46) : Option Bool := (semblanceref02_Is.f k x.f0).bind fun t => (semblanceref08_Check.f k x.f3).bind fun a => (semblanceref08_Check.f k x.f4).bind fun b => (allO x.f5 (semblanceref12_May.y k)).bind fun q => some ((t && ((a == 0) && ((b == 0) && decide ((x.f5.length : Int) ≤ 16)))) && q)
def semblanceref12_May.f (k : Nat) (a0 : ByteArray) (l1 : List ByteArray) (l2 : List (S50)) (l3 : List (S46)) : Option Bool :=
  (semblanceref02_Is.f k a0).bind fun t => (semblanceref10_Check.f k l3).bind fun c => (allO l1 (semblanceref02_Is.f k)).bind fun e => (allO l2 (semblanceref12_May.v k)).bind fun v => (allO l3 (semblanceref12_May.s k)).bind fun s => some ((t && (decide ((l1.length : Int) ≤ 8) && (decide ((l2.length : Int) ≤ 4) && (c == 0)))) && (e && (v && s)))
theorem semblanceref12_May.mono : ∀ a0 l1 l2 l3 k, LeO (semblanceref12_May.f k a0 l1 l2 l3) (semblanceref12_May.f (k + 1) a0 l1 l2 l3) := by
  intro a0 l1 l2 l3 k
  unfold semblanceref12_May.f
  exact LeO.bind (semblanceref02_Is.mono _ k) (fun _ => LeO.bind (semblanceref10_Check.mono _ k) (fun _ => LeO.bind (allO_mono (fun x => semblanceref02_Is.mono x k)) (fun _ => LeO.bind (allO_mono (fun x => LeO.bind (semblanceref02_Is.mono _ k) (fun _ => LeO.refl _))) (fun _ => LeO.bind (allO_mono (fun x => LeO.bind (semblanceref02_Is.mono _ k) (fun _ => LeO.bind (semblanceref08_Check.mono _ k) (fun _ => LeO.bind (semblanceref08_Check.mono _ k) (fun _ => LeO.bind (allO_mono (fun y => LeO.bind (semblanceref09_Check.mono _ _ _ _ k) (fun _ => LeO.refl _))) (fun _ => LeO.refl _)))))) (fun _ => LeO.refl _)))))
instance semblanceref12_May.lc : ∀ a0 l1 l2 l3 k, LeC (semblanceref12_May.f k a0 l1 l2 l3) (semblanceref12_May.f (k + 1) a0 l1 l2 l3) := fun a0 l1 l2 l3 k => ⟨semblanceref12_May.mono a0 l1 l2 l3 k⟩
set_option maxHeartbeats 16000000 in
set_option maxRecDepth 100000 in
theorem semblanceref12_May.calls (k : Nat) (a0_0 : ByteArray) (A0_1 : Option Addr) (c0_1 : Nat) (l0_1 : List ByteArray) (A0_2 : Option Addr) (c0_2 : Nat) (l0_2 : List (S50)) (A0_3 : Option Addr) (c0_3 : Nat) (l0_3 : List (S46)) (r : Bool) (w : World) (hr0_1 : Kd.C Kd.string w A0_1 l0_1.length l0_1) (hc0_1 : l0_1.length ≤ c0_1) (hr0_2 : Kd.C k50 w A0_2 l0_2.length l0_2) (hc0_2 : l0_2.length ≤ c0_2) (hr0_3 : Kd.C k46 w A0_3 l0_3.length l0_3) (hc0_3 : l0_3.length ≤ c0_3) (h : semblanceref12_May.f k a0_0 l0_1 l0_2 l0_3 = some r) :
    Calls Tryz.prog 11 #[.agg #[.string a0_0, .slice A0_1 l0_1.length c0_1, .slice A0_2 l0_2.length c0_2, .slice A0_3 l0_3.length c0_3]] w fun e w' => e = .returned (.bool r) ∧ Below w.heap.size w w' := by
  unfold semblanceref12_May.f at h
  obtain ⟨t, ht, h⟩ := Option.bind_eq_some_iff.mp h
  obtain ⟨c, hc, h⟩ := Option.bind_eq_some_iff.mp h
  obtain ⟨e0, he, h⟩ := Option.bind_eq_some_iff.mp h
  obtain ⟨v0, hv, h⟩ := Option.bind_eq_some_iff.mp h
  obtain ⟨s0, hs, h⟩ := Option.bind_eq_some_iff.mp h
  have HRR := Aside0.mk (Option.some.inj h).symm
  have HT := Aside0.mk ht
  have HC := Aside0.mk hc
  have HE := Aside0.mk he
  have HV := Aside0.mk hv
  have HS := Aside0.mk hs
  clear ht hc he hv hs h
  obtain ⟨w1, hw1⟩ : ∃ w1, w1 = w.alloc (.cells #[.string a0_0, .slice A0_1 l0_1.length c0_1, .slice A0_2 l0_2.length c0_2, .slice A0_3 l0_3.length c0_3] 26) := ⟨_, rfl⟩
  have hb1 : Below w.heap.size w w1 := by rw [hw1]; exact (Below.refl _ _).alloc (Nat.le_refl _) _
  have HK : Aside0 (w1.heap[w.heap.size]? = some (.cells #[.string a0_0, .slice A0_1 l0_1.length c0_1, .slice A0_2 l0_2.length c0_2, .slice A0_3 l0_3.length c0_3] 26 (0, 0))) := ⟨by rw [hw1]; exact heap_alloc_new w _⟩
  have HR1 := Aside0.mk (Kd.C_below hr0_1 hb1)
  have HR2 := Aside0.mk (Kd.C_below hr0_2 hb1)
  have HR3 := Aside0.mk (Kd.C_below hr0_3 hb1)
  have HC3 := Aside0.mk hc0_3
  have HB1 := Aside0.mk hb1
  have hm1 := Kd.C_max hr0_1
  have hm2 := Kd.C_max hr0_2
  have hm3 := Kd.C_max hr0_3
  have hu2 := Tryz.underlying26
  have hu3 := Tryz.underlying50
  have hu4 := Tryz.underlying46
  clear hr0_1 hr0_2 hr0_3 hb1 hc0_1 hc0_2 hc0_3
  rcases and4_cases t (decide ((l0_1.length : Int) ≤ 8)) (decide ((l0_2.length : Int) ≤ 4)) (c == 0) with ⟨h4, hz⟩ | h4
  · have HZ := Aside0.mk (show r = false by rw [HRR.out, hz, Bool.false_and])
    clear hz
    rcases h4 with q1 | ⟨q1, q2⟩ | ⟨q1, q2, q3⟩ | ⟨q1, q2, q3, q4⟩ <;>
      (try subst q1
       (try have q2b : decide ((l0_1.length : Int) > 8) = false := decide_eq_false (by have := of_decide_eq_true q2; omega)); (try have q2b : decide ((l0_1.length : Int) > 8) = true := decide_eq_true (by have := of_decide_eq_false q2; omega)); (try have q3b : decide ((l0_2.length : Int) > 4) = false := decide_eq_false (by have := of_decide_eq_true q3; omega)); (try have q3b : decide ((l0_2.length : Int) > 4) = true := decide_eq_true (by have := of_decide_eq_false q3; omega)); (try have q4b : (c != 0) = false := by simpa using q4); (try have q4b : (c != 0) = true := by simpa using q4); (try clear q2); (try clear q3); (try clear q4)
       subst hw1
       go_enter Tryz.func11, Tryz.ntmps11
       go_wp2_with (first | (go_at_call 28; (with_reducible refine (semblanceref02_Is.calls k a0_0 _ _ HT.out).mono ?_); rintro e w2 ⟨rfl, hb2⟩; have HB2 := Aside0.mk (below_step (Below.refl _ _) hb2); obtain ⟨hd0, hd1, hd2, hd3⟩ := cz4_ (blk_below HK.out hb2); clear hb2) | (go_at_call 29; (with_reducible refine (semblanceref10_Check.calls k A0_3 c0_3 l0_3 c _ (Kd.C_below HR3.out HB2.out) HC3.out HC.out).mono ?_); rintro e w3 ⟨rfl, hb2⟩; have HB3 := Aside0.mk (below_step HB2.out hb2); clear hb2))
       (go_ret; exact ⟨by rw [HZ.out]; try rfl, (by first | exact HB1.out.trans (HB3.out.mono HB1.out.size) | exact HB1.out.trans (HB2.out.mono HB1.out.size))⟩))
  obtain ⟨q1, q2, q3, q4⟩ := h4
  have HRR2 := Aside0.mk (show r = (e0 && (v0 && s0)) by rw [HRR.out, q1, q2, q3, q4]; simp)
  subst q1
  (try have q2b : decide ((l0_1.length : Int) > 8) = false := decide_eq_false (by have := of_decide_eq_true q2; omega)); (try have q2b : decide ((l0_1.length : Int) > 8) = true := decide_eq_true (by have := of_decide_eq_false q2; omega)); (try have q3b : decide ((l0_2.length : Int) > 4) = false := decide_eq_false (by have := of_decide_eq_true q3; omega)); (try have q3b : decide ((l0_2.length : Int) > 4) = true := decide_eq_true (by have := of_decide_eq_false q3; omega)); (try have q4b : (c != 0) = false := by simpa using q4); (try have q4b : (c != 0) = true := by simpa using q4); (try clear q2); (try clear q3); (try clear q4)
  clear HRR
  subst hw1
  go_enter Tryz.func11, Tryz.ntmps11
  go_wp2_with (first | (go_at_call 28; (with_reducible refine (semblanceref02_Is.calls k a0_0 _ _ HT.out).mono ?_); rintro e w2 ⟨rfl, hb2⟩; have HB2 := Aside0.mk (below_step (Below.refl _ _) hb2); obtain ⟨hd0, hd1, hd2, hd3⟩ := cz4_ (blk_below HK.out hb2); clear hb2) | (go_at_call 29; (with_reducible refine (semblanceref10_Check.calls k A0_3 c0_3 l0_3 c _ (Kd.C_below HR3.out HB2.out) HC3.out HC.out).mono ?_); rintro e w3 ⟨rfl, hb2⟩; have HB3 := Aside0.mk (below_step HB2.out hb2); clear hb2))
  clear hd0 hd1 hd2 hd3
  generalize w.alloc (.cells #[.string a0_0, .slice A0_1 l0_1.length c0_1, .slice A0_2 l0_2.length c0_2, .slice A0_3 l0_3.length c0_3] 26) = w1 at *
  go_loopg [3] l0_1.length (fun kq v9 wr => ∃ i : Nat, Aside0 (l0_1.length - i = kq) ∧ Aside0 (i ≤ l0_1.length) ∧ v9 = .int .i64 (i : Int) ∧ Aside0 (Below w1.heap.size w1 wr) ∧ Aside0 (∀ j : Nat, j < i → semblanceref02_Is.f k (l0_1.getD j ByteArray.empty) = some true))
  case atStart => exact ⟨0, ⟨rfl⟩, ⟨Nat.zero_le _⟩, rfl, HB3, ⟨fun j hj => absurd hj (Nat.not_lt_zero _)⟩⟩
  case round =>
    obtain ⟨i, HKQ, HI, rfl, HB, HP⟩ := hrel
    obtain ⟨hd0, hd1, hd2, hd3⟩ := cz4_ (blk_below HK.out HB.out)
    by_cases hi : i < l0_1.length
    · have hlt : decide ((i : Int) < (l0_1.length : Int)) = true := decide_eq_true (by omega)
      obtain ⟨ad, e1, hx0⟩ := Kd.at_string (Kd.C_below HR1.out HB.out) (i : Int) (by omega) (by omega)
      subst e1
      rw [Int.toNat_natCast] at hx0
      obtain ⟨q, hq, hqf⟩ := allO_get HE.out ByteArray.empty i hi
      have hrd : rdOf ByteArray.empty l0_1 (i : Int) = l0_1.getD i ByteArray.empty := by simp [rdOf]
      rw [hrd] at hx0
      generalize hxx : l0_1.getD i ByteArray.empty = x at *
      have HX := Aside0.mk hxx
      have HQ := Aside0.mk hq
      have HQF := Aside0.mk hqf
      clear hxx hq hqf hrd
      cases q with
      | false =>
        go_wp2_with (go_at_call 28; (with_reducible refine (semblanceref02_Is.calls k x _ _ HQ.out).mono ?_); rintro e w4 ⟨rfl, hb2⟩; have HB4 := Aside0.mk (below_step HB.out hb2); clear hb2)
        go_ret
        exact ⟨by rw [HRR2.out, HQF.out (by first | rfl | trivial)]; try rfl, HB1.out.trans (HB4.out.mono HB1.out.size)⟩
      | true =>
        go_wp2_with (go_at_call 28; (with_reducible refine (semblanceref02_Is.calls k x _ _ HQ.out).mono ?_); rintro e w4 ⟨rfl, hb2⟩; have HB4 := Aside0.mk (below_step HB.out hb2); clear hb2)
        go_roundg (l0_1.length - (i + 1))
        case measure => have := HKQ.out; omega
        case rel =>
          refine ⟨i + 1, ⟨rfl⟩, ⟨hi⟩, by go_num, HB4, ⟨fun j hj => ?_⟩⟩
          by_cases e : j = i
          · subst e; rw [HX.out]; exact HQ.out
          · exact HP.out j (by omega)
    · have hlt : decide ((i : Int) < (l0_1.length : Int)) = false := decide_eq_false (by omega)
      have hil : i = l0_1.length := by have := HI.out; omega
      subst hil
      have het := allO_true HE.out ByteArray.empty HP.out
      subst het
      clear HP HE
      have hlt2 : (0 : Int) ≤ 0 := Int.le_refl _
      go_wp2_with fail
      clear hd0 hd1 hd2 hd3 hlt2
      go_loopg [4] l0_2.length (fun kq v9 wr => ∃ i : Nat, Aside0 (l0_2.length - i = kq) ∧ Aside0 (i ≤ l0_2.length) ∧ v9 = .int .i64 (i : Int) ∧ Aside0 (Below w1.heap.size w1 wr) ∧ Aside0 (∀ j : Nat, j < i → semblanceref12_May.v k (l0_2.getD j z50) = some true))
      case atStart => exact ⟨0, ⟨rfl⟩, ⟨Nat.zero_le _⟩, rfl, HB, ⟨fun j hj => absurd hj (Nat.not_lt_zero _)⟩⟩
      case round =>
        obtain ⟨i, HKQ, HI, rfl, HB, HP⟩ := hrel
        obtain ⟨hd0, hd1, hd2, hd3⟩ := cz4_ (blk_below HK.out HB.out)
        by_cases hi : i < l0_2.length
        · have hlt : decide ((i : Int) < (l0_2.length : Int)) = true := decide_eq_true (by omega)
          obtain ⟨ad, e1, hx0, hx1, hx2, hx3⟩ := at_T50 (Kd.C_below HR2.out HB.out) (i : Int) (by omega) (by omega)
          subst e1
          rw [Int.toNat_natCast] at hx0 hx1 hx2 hx3
          obtain ⟨q, hq, hqf⟩ := allO_get HV.out z50 i hi
          have hrd : rd_T50 l0_2 (i : Int) = l0_2.getD i z50 := by unfold rd_T50; rw [Int.toNat_natCast]
          rw [hrd] at hx0 hx1 hx2 hx3
          generalize hxx : l0_2.getD i z50 = x at *
          have HX := Aside0.mk hxx
          have HQ := Aside0.mk hq
          have HQF := Aside0.mk hqf
          clear hxx hqf hrd
          unfold semblanceref12_May.v at hq
          obtain ⟨t2, ht2, hq⟩ := Option.bind_eq_some_iff.mp hq
          have HT2 := Aside0.mk ht2
          have hq := Option.some.inj hq
          have HS1 : Aside0 (semblanceref12_small.f x.f1 = some (sml x.f1)) := ⟨rfl⟩
          have HS2 : Aside0 (semblanceref12_small.f x.f2 = some (sml x.f2)) := ⟨rfl⟩
          have HS3 : Aside0 (semblanceref12_small.f x.f3 = some (sml x.f3)) := ⟨rfl⟩
          clear ht2
          generalize sml x.f1 = s1 at *
          generalize sml x.f2 = s2 at *
          generalize sml x.f3 = s3 at *
          rcases and4_cases t2 s1 s2 s3 with ⟨h4, hz⟩ | ⟨rfl, rfl, rfl, rfl⟩
          · have HZ := Aside0.mk (show r = false by rw [HRR2.out, HQF.out (hq.symm.trans hz)]; rfl)
            clear hz hq
            rcases h4 with rfl | ⟨rfl, rfl⟩ | ⟨rfl, rfl, rfl⟩ | ⟨rfl, rfl, rfl, rfl⟩ <;>
              (go_wp2_with (first | ((with_reducible refine gate_dst (N := 5) rfl ?_); refine box_event ?hg (N := 5) ?hd (cs := #[.string (⟨#[]⟩ : ByteArray), .int .i64 0, .int .i64 0, .int .i64 0]) (t := 50) ?hr ?_; (case hd => rfl); (case hg => rfl); (case hr => first | (go_simp; done) | (go_simp; rfl)); intro g hg u1 hbox hb; have HGE := Aside0.mk (Nat.le_of_eq hg.symm); clear hg) | (refine box_put (n := wr.heap.size) (W0 := wr) (vs := #[.string x.f0, .int .i64 x.f1, .int .i64 x.f2, .int .i64 x.f3]) rfl rfl (.tmp 5) (.tmp 56) rfl rfl rfl hbox (by kernel_rfl) rfl (by simp [Value.oneCell']) hb HGE.out ?_; intro u2 hbox2 hb2; have HB3 := Aside0.mk (below_step HB.out hb2); have HBX := Aside0.mk hbox2; obtain ⟨hz0, hz1, hz2, hz3⟩ := cz4_ hbox2; clear hbox hb hbox2 hb2) | (go_at_call 28; (with_reducible refine (semblanceref02_Is.calls k x.f0 _ _ HT2.out).mono ?_); rintro e w4 ⟨rfl, hb2⟩; have HB4 := Aside0.mk (below_step HB3.out hb2); obtain ⟨hz0, hz1, hz2, hz3⟩ := cz4_ (blk_below HBX.out hb2); have HBY := Aside0.mk (blk_below HBX.out hb2); clear hb2) | (go_at_call 30; (with_reducible refine (semblanceref12_small.calls x.f1 _ _ HS1.out).mono ?_); rintro e w5 ⟨rfl, hb2⟩; have HB5 := Aside0.mk (below_step HB4.out hb2.below); have HBZ := Aside0.mk (blk_below HBY.out hb2.below); obtain ⟨hz0, hz1, hz2, hz3⟩ := cz4_ HBZ.out; clear hb2) | (go_at_call 30; (with_reducible refine (semblanceref12_small.calls x.f2 _ _ HS2.out).mono ?_); rintro e w6 ⟨rfl, hb2⟩; have HB6 := Aside0.mk (below_step HB5.out hb2.below); have HBU := Aside0.mk (blk_below HBZ.out hb2.below); obtain ⟨hz0, hz1, hz2, hz3⟩ := cz4_ HBU.out; clear hb2) | (go_at_call 30; (with_reducible refine (semblanceref12_small.calls x.f3 _ _ HS3.out).mono ?_); rintro e w7 ⟨rfl, hb2⟩; have HB7 := Aside0.mk (below_step HB6.out hb2.below); have HBV := Aside0.mk (blk_below HBU.out hb2.below); obtain ⟨hz0, hz1, hz2, hz3⟩ := cz4_ HBV.out; clear hb2))
               (go_ret; exact ⟨by rw [HZ.out]; try rfl, (by first | exact HB1.out.trans (HB7.out.mono HB1.out.size) | exact HB1.out.trans (HB6.out.mono HB1.out.size) | exact HB1.out.trans (HB5.out.mono HB1.out.size) | exact HB1.out.trans (HB4.out.mono HB1.out.size))⟩))
          · obtain rfl : true = q := hq
            clear hq
            go_wp2_with (first | ((with_reducible refine gate_dst (N := 5) rfl ?_); refine box_event ?hg (N := 5) ?hd (cs := #[.string (⟨#[]⟩ : ByteArray), .int .i64 0, .int .i64 0, .int .i64 0]) (t := 50) ?hr ?_; (case hd => rfl); (case hg => rfl); (case hr => first | (go_simp; done) | (go_simp; rfl)); intro g hg u1 hbox hb; have HGE := Aside0.mk (Nat.le_of_eq hg.symm); clear hg) | (refine box_put (n := wr.heap.size) (W0 := wr) (vs := #[.string x.f0, .int .i64 x.f1, .int .i64 x.f2, .int .i64 x.f3]) rfl rfl (.tmp 5) (.tmp 56) rfl rfl rfl hbox (by kernel_rfl) rfl (by simp [Value.oneCell']) hb HGE.out ?_; intro u2 hbox2 hb2; have HB3 := Aside0.mk (below_step HB.out hb2); have HBX := Aside0.mk hbox2; obtain ⟨hz0, hz1, hz2, hz3⟩ := cz4_ hbox2; clear hbox hb hbox2 hb2) | (go_at_call 28; (with_reducible refine (semblanceref02_Is.calls k x.f0 _ _ HT2.out).mono ?_); rintro e w4 ⟨rfl, hb2⟩; have HB4 := Aside0.mk (below_step HB3.out hb2); obtain ⟨hz0, hz1, hz2, hz3⟩ := cz4_ (blk_below HBX.out hb2); have HBY := Aside0.mk (blk_below HBX.out hb2); clear hb2) | (go_at_call 30; (with_reducible refine (semblanceref12_small.calls x.f1 _ _ HS1.out).mono ?_); rintro e w5 ⟨rfl, hb2⟩; have HB5 := Aside0.mk (below_step HB4.out hb2.below); have HBZ := Aside0.mk (blk_below HBY.out hb2.below); obtain ⟨hz0, hz1, hz2, hz3⟩ := cz4_ HBZ.out; clear hb2) | (go_at_call 30; (with_reducible refine (semblanceref12_small.calls x.f2 _ _ HS2.out).mono ?_); rintro e w6 ⟨rfl, hb2⟩; have HB6 := Aside0.mk (below_step HB5.out hb2.below); have HBU := Aside0.mk (blk_below HBZ.out hb2.below); obtain ⟨hz0, hz1, hz2, hz3⟩ := cz4_ HBU.out; clear hb2) | (go_at_call 30; (with_reducible refine (semblanceref12_small.calls x.f3 _ _ HS3.out).mono ?_); rintro e w7 ⟨rfl, hb2⟩; have HB7 := Aside0.mk (below_step HB6.out hb2.below); have HBV := Aside0.mk (blk_below HBU.out hb2.below); obtain ⟨hz0, hz1, hz2, hz3⟩ := cz4_ HBV.out; clear hb2))
            go_roundg (l0_2.length - (i + 1))
            case measure => have := HKQ.out; omega
            case rel =>
              refine ⟨i + 1, ⟨rfl⟩, ⟨hi⟩, by go_num, HB7, ⟨fun j hj => ?_⟩⟩
              by_cases e : j = i
              · subst e; rw [HX.out]; exact HQ.out
              · exact HP.out j (by omega)
        · have hlt : decide ((i : Int) < (l0_2.length : Int)) = false := decide_eq_false (by omega)
          have hil : i = l0_2.length := by have := HI.out; omega
          subst hil
          have hvt := allO_true HV.out z50 HP.out
          subst hvt
          clear HP HV
          go_wp2_with fail
          clear hd0 hd1 hd2 hd3
          go_loopg [6] l0_3.length (fun kq v9 wr => ∃ i : Nat, Aside0 (l0_3.length - i = kq) ∧ Aside0 (i ≤ l0_3.length) ∧ v9 = .int .i64 (i : Int) ∧ Aside0 (Below w1.heap.size w1 wr) ∧ Aside0 (∀ j : Nat, j < i → semblanceref12_May.s k (l0_3.getD j z46) = some true))
          case atStart => exact ⟨0, ⟨rfl⟩, ⟨Nat.zero_le _⟩, rfl, HB, ⟨fun j hj => absurd hj (Nat.not_lt_zero _)⟩⟩
          case round =>
            obtain ⟨i, HKQ, HI, rfl, HB, HP⟩ := hrel
            obtain ⟨hd0, hd1, hd2, hd3⟩ := cz4_ (blk_below HK.out HB.out)
            by_cases hi : i < l0_3.length
            · have hlt : decide ((i : Int) < (l0_3.length : Int)) = true := decide_eq_true (by omega)
              obtain ⟨ad, A3, c3, A4, c4, A5, c5, e1, hx0, hx1, hx2, hx3, hx4, hx5, hl3, hi3, hl4, hi4, hl5, hi5⟩ := at_T46 HR3.out (i : Int) (by omega) (by omega)
              subst e1
              rw [Int.toNat_natCast] at hx0 hx1 hx2 hx3 hx4 hx5
              replace hx0 := pw_cell_below HB.out hx0
              replace hx1 := pw_cell_below HB.out hx1
              replace hx2 := pw_cell_below HB.out hx2
              replace hx3 := pw_cell_below HB.out hx3
              replace hx4 := pw_cell_below HB.out hx4
              replace hx5 := pw_cell_below HB.out hx5
              obtain ⟨q, hq, hqf⟩ := allO_get HS.out z46 i hi
              have hrd : rd_T46 l0_3 (i : Int) = l0_3.getD i z46 := by unfold rd_T46; rw [Int.toNat_natCast]
              rw [hrd] at hx0 hx1 hx2 hx3 hx4 hx5 hl3 hi3 hl4 hi4 hl5 hi5
              generalize hxx : l0_3.getD i z46 = x at *
              have HX := Aside0.mk hxx
              have HQ := Aside0.mk hq
              have HQF := Aside0.mk hqf
              have HI3 := Aside0.mk hi3
              have HI4 := Aside0.mk hi4
              have HI5 := Aside0.mk hi5
              have hm5 := Kd.C_max hi5
              clear hxx hqf hrd hi3 hi4 hi5
              unfold semblanceref12_May.s at hq
              obtain ⟨t2, ht2, hq⟩ := Option.bind_eq_some_iff.mp hq
              obtain ⟨qa, hqa, hq⟩ := Option.bind_eq_some_iff.mp hq
              obtain ⟨qb, hqb, hq⟩ := Option.bind_eq_some_iff.mp hq
              obtain ⟨qy, hqy, hq⟩ := Option.bind_eq_some_iff.mp hq
              have hq := Option.some.inj hq
              have HT2 := Aside0.mk ht2
              have HQA := Aside0.mk hqa
              have HQB := Aside0.mk hqb
              have HQY := Aside0.mk hqy
              clear ht2 hqa hqb hqy
              rcases and4_cases t2 (qa == 0) (qb == 0) (decide ((x.f5.length : Int) ≤ 16)) with ⟨h4, hz⟩ | ⟨q1, q2, q3, q4⟩
              · have HZ := Aside0.mk (show r = false by rw [HRR2.out, HQF.out (by rw [← hq, hz]; rfl)]; rfl)
                clear hz hq
                rcases h4 with q1 | ⟨q1, q2⟩ | ⟨q1, q2, q3⟩ | ⟨q1, q2, q3, q4⟩ <;>
                  (subst q1
                   (try have q2b : (qa != 0) = false := by simpa using q2); (try have q2b : (qa != 0) = true := by simpa using q2); (try have q3b : (qb != 0) = false := by simpa using q3); (try have q3b : (qb != 0) = true := by simpa using q3); (try have q4b : decide ((x.f5.length : Int) > 16) = false := decide_eq_false (by have := of_decide_eq_true q4; omega)); (try have q4b : decide ((x.f5.length : Int) > 16) = true := decide_eq_true (by have := of_decide_eq_false q4; omega)); (try clear q2); (try clear q3); (try clear q4)
                   go_wp2_with (first | ((with_reducible refine gate_dst (N := 7) rfl ?_); refine box_event ?hg (N := 7) ?hd (cs := #[.string (⟨#[]⟩ : ByteArray), .int .i64 0, .int .i64 0, .slice none 0 0, .slice none 0 0, .slice none 0 0]) (t := 46) ?hr ?_; (case hd => rfl); (case hg => rfl); (case hr => first | (go_simp; done) | (go_simp; rfl)); intro g hg u1 hbox hb; have HGE := Aside0.mk (Nat.le_of_eq hg.symm); clear hg) | (refine box_put (n := wr.heap.size) (W0 := wr) (vs := #[.string x.f0, .int .i64 x.f1, .int .i64 x.f2, .slice A3 x.f3.length c3, .slice A4 x.f4.length c4, .slice A5 x.f5.length c5]) rfl rfl (.tmp 7) (.tmp 90) rfl rfl rfl hbox (by kernel_rfl) rfl (by simp [Value.oneCell']) hb HGE.out ?_; intro u2 hbox2 hb2; have HB3 := Aside0.mk (below_step HB.out hb2); have HBX := Aside0.mk hbox2; obtain ⟨hz0, hz1, hz2, hz3, hz4, hz5⟩ := cz6_ hbox2; clear hbox hb hbox2 hb2) | (go_at_call 28; (with_reducible refine (semblanceref02_Is.calls k x.f0 _ _ HT2.out).mono ?_); rintro e w4 ⟨rfl, hb2⟩; have HB4 := Aside0.mk (below_step HB3.out hb2); obtain ⟨hz0, hz1, hz2, hz3, hz4, hz5⟩ := cz6_ (blk_below HBX.out hb2); have HBY := Aside0.mk (blk_below HBX.out hb2); clear hb2) | (go_at_call 31; (with_reducible refine (semblanceref08_Check.calls k A3 c3 x.f3 qa _ (Kd.C_below HI3.out HB4.out) hl3 HQA.out).mono ?_); rintro e w5 ⟨rfl, hb2⟩; have HB5 := Aside0.mk (below_step HB4.out hb2); have HBV := Aside0.mk (blk_below HBY.out hb2); obtain ⟨hz0, hz1, hz2, hz3, hz4, hz5⟩ := cz6_ HBV.out; clear hb2) | (go_at_call 31; (with_reducible refine (semblanceref08_Check.calls k A4 c4 x.f4 qb _ (Kd.C_below HI4.out HB5.out) hl4 HQB.out).mono ?_); rintro e w6 ⟨rfl, hb2⟩; have HB6 := Aside0.mk (below_step HB5.out hb2); have HBZ := Aside0.mk (blk_below HBV.out hb2); obtain ⟨hz0, hz1, hz2, hz3, hz4, hz5⟩ := cz6_ HBZ.out; clear hb2))
                   (go_ret; exact ⟨by rw [HZ.out]; try rfl, (by first | exact HB1.out.trans (HB6.out.mono HB1.out.size) | exact HB1.out.trans (HB5.out.mono HB1.out.size) | exact HB1.out.trans (HB4.out.mono HB1.out.size))⟩))
              · have hqq : qy = q := by rw [← hq, q1, q2, q3, q4]; rfl
                subst q1
                have q2b : (qa != 0) = false := by simpa using q2
                have q3b : (qb != 0) = false := by simpa using q3
                have q4b : decide ((x.f5.length : Int) > 16) = false := decide_eq_false (by have := of_decide_eq_true q4; omega)
                clear q2 q3 q4
                clear hq
                subst hqq
                go_wp2_with (first | ((with_reducible refine gate_dst (N := 7) rfl ?_); refine box_event ?hg (N := 7) ?hd (cs := #[.string (⟨#[]⟩ : ByteArray), .int .i64 0, .int .i64 0, .slice none 0 0, .slice none 0 0, .slice none 0 0]) (t := 46) ?hr ?_; (case hd => rfl); (case hg => rfl); (case hr => first | (go_simp; done) | (go_simp; rfl)); intro g hg u1 hbox hb; have HGE := Aside0.mk (Nat.le_of_eq hg.symm); clear hg) | (refine box_put (n := wr.heap.size) (W0 := wr) (vs := #[.string x.f0, .int .i64 x.f1, .int .i64 x.f2, .slice A3 x.f3.length c3, .slice A4 x.f4.length c4, .slice A5 x.f5.length c5]) rfl rfl (.tmp 7) (.tmp 90) rfl rfl rfl hbox (by kernel_rfl) rfl (by simp [Value.oneCell']) hb HGE.out ?_; intro u2 hbox2 hb2; have HB3 := Aside0.mk (below_step HB.out hb2); have HBX := Aside0.mk hbox2; obtain ⟨hz0, hz1, hz2, hz3, hz4, hz5⟩ := cz6_ hbox2; clear hbox hb hbox2 hb2) | (go_at_call 28; (with_reducible refine (semblanceref02_Is.calls k x.f0 _ _ HT2.out).mono ?_); rintro e w4 ⟨rfl, hb2⟩; have HB4 := Aside0.mk (below_step HB3.out hb2); obtain ⟨hz0, hz1, hz2, hz3, hz4, hz5⟩ := cz6_ (blk_below HBX.out hb2); have HBY := Aside0.mk (blk_below HBX.out hb2); clear hb2) | (go_at_call 31; (with_reducible refine (semblanceref08_Check.calls k A3 c3 x.f3 qa _ (Kd.C_below HI3.out HB4.out) hl3 HQA.out).mono ?_); rintro e w5 ⟨rfl, hb2⟩; have HB5 := Aside0.mk (below_step HB4.out hb2); have HBV := Aside0.mk (blk_below HBY.out hb2); obtain ⟨hz0, hz1, hz2, hz3, hz4, hz5⟩ := cz6_ HBV.out; clear hb2) | (go_at_call 31; (with_reducible refine (semblanceref08_Check.calls k A4 c4 x.f4 qb _ (Kd.C_below HI4.out HB5.out) hl4 HQB.out).mono ?_); rintro e w6 ⟨rfl, hb2⟩; have HB6 := Aside0.mk (below_step HB5.out hb2); have HBZ := Aside0.mk (blk_below HBV.out hb2); obtain ⟨hz0, hz1, hz2, hz3, hz4, hz5⟩ := cz6_ HBZ.out; clear hb2))
                clear hd0 hd1 hd2 hd3
                try clear hz0 hz1 hz2 hz3 hz4 hz5
                go_loopg [8] x.f5.length (fun kq v9 wr => ∃ m : Nat, Aside0 (x.f5.length - m = kq) ∧ Aside0 (m ≤ x.f5.length) ∧ v9 = .int .i64 (m : Int) ∧ Aside0 (Below w1.heap.size w1 wr) ∧ Aside0 (wr.heap[g]? = some (.cells #[.string x.f0, .int .i64 x.f1, .int .i64 x.f2, .slice A3 x.f3.length c3, .slice A4 x.f4.length c4, .slice A5 x.f5.length c5] 46 (0, 0))) ∧ Aside0 (∀ j : Nat, j < m → semblanceref12_May.y k (x.f5.getD j z54) = some true))
                case atStart => exact ⟨0, ⟨rfl⟩, ⟨Nat.zero_le _⟩, rfl, HB6, ⟨blk_below HBZ.out (Below.refl _ _)⟩, ⟨fun j hj => absurd hj (Nat.not_lt_zero _)⟩⟩
                case round =>
                  obtain ⟨m, HKQ2, HM, rfl, HB, HBW, HPM⟩ := hrel
                  obtain ⟨hz0, hz1, hz2, hz3, hz4, hz5⟩ := cz6_ HBW.out
                  by_cases hm : m < x.f5.length
                  · have hlt2 : decide ((m : Int) < (x.f5.length : Int)) = true := decide_eq_true (by omega)
                    obtain ⟨ad5, B1, d1, B2, d2, e5, hs0, hs1, hs2, hs3, hd1, hi1, hd2, hi2⟩ := at_T54 HI5.out (m : Int) (by omega) (by omega)
                    subst e5
                    rw [Int.toNat_natCast] at hs0 hs1 hs2 hs3
                    replace hs0 := pw_cell_below HB.out hs0
                    replace hs1 := pw_cell_below HB.out hs1
                    replace hs2 := pw_cell_below HB.out hs2
                    replace hs3 := pw_cell_below HB.out hs3
                    obtain ⟨qm, hqm, hqmf⟩ := allO_get HQY.out z54 m hm
                    have hrd : rd_T54 x.f5 (m : Int) = x.f5.getD m z54 := by unfold rd_T54; rw [Int.toNat_natCast]
                    rw [hrd] at hs0 hs1 hs2 hs3 hd1 hi1 hd2 hi2
                    generalize hyy : x.f5.getD m z54 = y at *
                    have HY := Aside0.mk hyy
                    have HQM := Aside0.mk hqm
                    have HQMF := Aside0.mk hqmf
                    have HI1 := Aside0.mk (Kd.C_below hi1 HB.out)
                    have HI2 := Aside0.mk (Kd.C_below hi2 HB.out)
                    clear hyy hqmf hrd hi1 hi2
                    unfold semblanceref12_May.y at hqm
                    obtain ⟨qc, hqc, hqm⟩ := Option.bind_eq_some_iff.mp hqm
                    have HQC := Aside0.mk hqc
                    have hqm := Option.some.inj hqm
                    clear hqc
                    cases qm with
                    | false =>
                      have hcb : (qc != 0) = true := by simpa using hqm
                      have HZ := Aside0.mk (show r = false by rw [HRR2.out, HQF.out (HQMF.out (by first | rfl | trivial))]; rfl)
                      clear hqm
                      go_wp2_with (go_at_call 32; refine (semblanceref09_Check.calls k y.f0 B1 d1 y.f1 B2 d2 y.f2 y.f3 qc _ HI1.out hd1 HI2.out hd2 HQC.out).mono ?_; rintro e w8 ⟨rfl, hb2⟩; have HB8 := Aside0.mk (below_step HB.out hb2); have HBX8 := Aside0.mk (blk_below HBW.out hb2); clear hb2)
                      go_ret
                      exact ⟨by rw [HZ.out]; try rfl, HB1.out.trans (HB8.out.mono HB1.out.size)⟩
                    | true =>
                      have hcb : (qc != 0) = false := by simpa using hqm
                      clear hqm
                      go_wp2_with (go_at_call 32; refine (semblanceref09_Check.calls k y.f0 B1 d1 y.f1 B2 d2 y.f2 y.f3 qc _ HI1.out hd1 HI2.out hd2 HQC.out).mono ?_; rintro e w8 ⟨rfl, hb2⟩; have HB8 := Aside0.mk (below_step HB.out hb2); have HBX8 := Aside0.mk (blk_below HBW.out hb2); clear hb2)
                      go_roundg (x.f5.length - (m + 1))
                      case measure => have := HKQ2.out; omega
                      case rel =>
                        refine ⟨m + 1, ⟨rfl⟩, ⟨hm⟩, by go_num, HB8, HBX8, ⟨fun j hj => ?_⟩⟩
                        by_cases e : j = m
                        · subst e; rw [HY.out]; exact HQM.out
                        · exact HPM.out j (by omega)
                  · have hlt2 : decide ((m : Int) < (x.f5.length : Int)) = false := decide_eq_false (by omega)
                    have hml : m = x.f5.length := by have := HM.out; omega
                    subst hml
                    have hqt := allO_true HQY.out z54 HPM.out
                    subst hqt
                    go_wp2
                    go_roundg (l0_3.length - (i + 1))
                    case measure => have := HKQ.out; omega
                    case rel =>
                      refine ⟨i + 1, ⟨rfl⟩, ⟨hi⟩, by go_num, HB, ⟨fun j hj => ?_⟩⟩
                      by_cases e : j = i
                      · subst e; rw [HX.out]; exact HQ.out
                      · exact HP.out j (by omega)
            · have hlt : decide ((i : Int) < (l0_3.length : Int)) = false := decide_eq_false (by omega)
              have hil : i = l0_3.length := by have := HI.out; omega
              subst hil
              have hst := allO_true HS.out z46 HP.out
              subst hst
              clear HP HS
              go_wp2
              go_ret
              exact ⟨by rw [HRR2.out]; try rfl, HB1.out.trans (HB.out.mono HB1.out.size)⟩


/-! ### semblanceref11_Long: function 21 -/
mutual
def semblanceref11_Long.l0 : Nat → List ByteArray → Int → Option (Bool)
  | 0, _, _ => none
  | k + 1, x0, x3 => if x3 < (x0.length : Int) then (semblanceref11_Long.j1 k x0 x3 (decide (x3 < 100))) else (semblanceref11_Long.j1 k x0 x3 false)
def semblanceref11_Long.j1 : Nat → List ByteArray → Int → Bool → Option (Bool)
  | 0, _, _, _ => none
  | k + 1, x0, x3, x11 => if x11 = true then (if 0 ≤ x3 then (if x3 < (x0.length : Int) then (if ((rdOf ByteArray.empty x0 x3).size : Int) > 100 then (some true) else (semblanceref11_Long.l0 k x0 (wrap64 (x3 + 1)))) else (none)) else (none)) else (if (x0.length : Int) > 30 then (some true) else ((semblanceref02_Place.f k x0 (⟨#[]⟩ : ByteArray)).bind fun t175 => (some (decide (t175 > 1000)))))
end
def semblanceref11_Long.f (k : Nat) (l0 : List ByteArray) : Option (Bool) := semblanceref11_Long.l0 k l0 0
theorem semblanceref11_Long.mono_l : ∀ k, (∀ y0 y1, LeO (semblanceref11_Long.l0 k y0 y1) (semblanceref11_Long.l0 (k + 1) y0 y1)) ∧ (∀ y0 y1 y2, LeO (semblanceref11_Long.j1 k y0 y1 y2) (semblanceref11_Long.j1 (k + 1) y0 y1 y2))
  | 0 => ⟨fun _ _ r h => by simp [semblanceref11_Long.l0] at h, fun _ _ _ r h => by simp [semblanceref11_Long.j1] at h⟩
  | k + 1 => by
    obtain ⟨ih0, ih1⟩ := semblanceref11_Long.mono_l k
    refine ⟨?_, ?_⟩
    · intro y0 y1
      unfold semblanceref11_Long.l0
      exact mo_
    · intro y0 y1 y2
      unfold semblanceref11_Long.j1
      exact mo_
theorem semblanceref11_Long.mono : ∀ a0 k, LeO (semblanceref11_Long.f k a0) (semblanceref11_Long.f (k + 1) a0) := by
  intro a0 k
  obtain ⟨ih0, ih1⟩ := semblanceref11_Long.mono_l k
  unfold semblanceref11_Long.f
  exact mo_
instance semblanceref11_Long.lc : ∀ a0 k, LeC (semblanceref11_Long.f k a0) (semblanceref11_Long.f (k + 1) a0) := fun a0 k => ⟨semblanceref11_Long.mono a0 k⟩
set_option maxHeartbeats 8000000 in
set_option maxRecDepth 100000 in
theorem semblanceref11_Long.calls (k : Nat) (A0 : Option Addr) (c0 : Nat) (l0 : List ByteArray) (r : Bool) (w : World) (hr0 : Kd.C Kd.string w A0 l0.length l0) (hc0 : l0.length ≤ c0) (h : semblanceref11_Long.f k l0 = some r) :
  Calls Tryz.prog 21 #[.slice A0 l0.length c0] w fun e w' => e = .returned (.bool r) ∧ Drawn0 w w' := by
 have HR0 := Aside0.mk hr0
 have HC0 := Aside0.mk hc0
 clear hr0 hc0
 unfold semblanceref11_Long.f at h
 have H := h
 clear h
 have H' := Aside0.mk H
 clear H
 go_enter Tryz.func21, Tryz.ntmps21
 go_wp2
 go_loopg [3] k (fun kq v3 w' => ∃ (x3_1 : Int), v3 = .int .i64 x3_1 ∧ Aside0 (semblanceref11_Long.l0 kq l0 x3_1 = some r) ∧ Aside0 (kq ≤ k) ∧ Drawn0 w w')
 case atStart => exact ⟨(0), rl_, H', ⟨Nat.le_refl _⟩, dw_⟩
 case round =>
  clear H'
  obtain ⟨x3_1, rfl, HA, HK1, ⟨m1, rfl⟩⟩ := hrel
  cases gk with
  | zero => exact absurd HA.out (by simp [semblanceref11_Long.l0])
  | succ k1 =>
   have H := HA.out
   clear HA
   simp only [semblanceref11_Long.l0] at H
   have HC2 := Aside0.mk H
   clear H
   go_upto_region 2 with (fail)
   go_cut [11] (fun v11 wc => ∃ (kq : Nat) (x11_1 : Bool), v11 = .bool x11_1 ∧ Aside0 (semblanceref11_Long.j1 kq l0 x3_1 x11_1 = some r) ∧ Aside0 (kq ≤ k1) ∧ Drawn0 w wc)
   case first =>
    have H := HC2.out
    clear HC2
    replace H := iu_ H; obtain ⟨c3b0, H⟩ | ⟨c3b0, H⟩ := H
    ·(first | rw [c3b0] | (simp only [i64_w, i32_w]; rw [c3b0]) | skip)
     have H' := Aside0.mk H
     clear H
     go_wp2
     go_meet
     case rel => exact ⟨_, (decide (x3_1 < 100)), rl_, H', ⟨kn_ HK1⟩, dw_⟩
    (first | rw [c3b0] | (simp only [i64_w, i32_w]; rw [c3b0]) | skip)
    have H' := Aside0.mk H
    clear H
    go_wp2
    go_meet
    case rel => exact ⟨_, (false), rl_, H', ⟨kn_ HK1⟩, dw_⟩
   case rest =>
    clear HC2
    obtain ⟨kq, x11_1, rfl, HA, HJ1, ⟨mc1, rfl⟩⟩ := hcut
    cases kq with
    | zero => exact absurd HA.out (by simp [semblanceref11_Long.j1])
    | succ kj1 =>
     have H := HA.out
     clear HA
     simp only [semblanceref11_Long.j1] at H
     replace H := ib_ H; obtain ⟨rfl, H⟩ | ⟨rfl, H⟩ := H
     ·by_cases c8 : (l0.length : Int) > 30
      ·rw [if_pos c8] at H
       have c8b0 : decide (30 < (l0.length : Int)) = true := decide_eq_true c8
       have c8b1 : decide (30 < l0.length) = true := decide_eq_true (by omega)
       clear c8
       obtain rfl := Option.some.inj H
       go_wp2
       go_ret
       exact ⟨rl_, dw_⟩
      rw [if_neg c8] at H
      have c8b0 : decide (30 < (l0.length : Int)) = false := decide_eq_false c8
      have c8b1 : decide (30 < l0.length) = false := decide_eq_false (by omega)
      clear c8
      replace H := bi_ H; obtain ⟨t175, A9, H⟩ := H
      obtain rfl := Option.some.inj H
      go_wp2_with (first | (go_at_call 39; (with_reducible refine (semblanceref02_Place.calls kj1 _ _ l0 (⟨#[]⟩ : ByteArray) t175 _ (kg_ HR0.out) HC0.out A9.out).mono ?_); rintro e w' ⟨rfl, ⟨nd, rfl⟩⟩))
      go_ret
      exact ⟨rl_, dw_⟩

     replace H := is_ H; obtain ⟨c5b0, H⟩ := H
     replace H := is_ H; obtain ⟨c6b0, H⟩ := H
     replace H := id_ H; obtain ⟨c7, H⟩ | ⟨c7, H⟩ := H
     ·have c7b0 : decide (100 < ((rdOf ByteArray.empty l0 x3_1).size : Int)) = true := decide_eq_true c7
      have c7b1 : decide (100 < (rdOf ByteArray.empty l0 x3_1).size) = true := decide_eq_true (by omega)
      clear c7
      obtain rfl := Option.some.inj H
      have p174 : 0 ≤ (x3_1 : Int) := of_decide_eq_true (by first | (with_reducible assumption) | assumption)
      have q174 : x3_1 < (l0.length : Int) := of_decide_eq_true (by first | (with_reducible assumption) | assumption)
      obtain ⟨ad174, e174, hx174_0⟩ := Kd.at_string HR0.out x3_1 p174 q174
      cases e174
      replace p174 := eq_true p174
      replace q174 := eq_true q174
      go_wp2
      go_ret
      exact ⟨rl_, dw_⟩
     have c7b0 : decide (100 < ((rdOf ByteArray.empty l0 x3_1).size : Int)) = false := decide_eq_false c7
     have c7b1 : decide (100 < (rdOf ByteArray.empty l0 x3_1).size) = false := decide_eq_false (by omega)
     clear c7
     have H' := Aside0.mk H
     clear H
     have p174 : 0 ≤ (x3_1 : Int) := of_decide_eq_true (by first | (with_reducible assumption) | assumption)
     have q174 : x3_1 < (l0.length : Int) := of_decide_eq_true (by first | (with_reducible assumption) | assumption)
     obtain ⟨ad174, e174, hx174_0⟩ := Kd.at_string HR0.out x3_1 p174 q174
     cases e174
     replace p174 := eq_true p174
     replace q174 := eq_true q174
     go_wp2
     go_roundg kj1
     case measure => have := HK1.out; have := HJ1.out; omega
     case rel => exact ⟨(wrap64 (x3_1 + 1)), rl_, H', ⟨by have := HK1.out; have := HJ1.out; omega⟩, dw_⟩
/-! ### semblanceref12_terms: function 23 -/
def semblanceref12_terms.l0 : Nat → List (S78) → Int → Option (Int)
  | 0, _, _ => none
  | k + 1, x0, x3 => if x3 < (x0.length : Int) then (if 0 ≤ x3 then (if (((rd_T78 x0 x3).f2).size : Int) > 100 then (some 1000) else (semblanceref12_terms.l0 k x0 (wrap64 (x3 + 1)))) else (none)) else (some (x0.length : Int))
def semblanceref12_terms.f (k : Nat) (l0 : List (S78)) : Option (Int) := if (l0.length : Int) > 45 then (some 1000) else (semblanceref12_terms.l0 k l0 0)
theorem semblanceref12_terms.mono_l : ∀ k, (∀ y0 y1, LeO (semblanceref12_terms.l0 k y0 y1) (semblanceref12_terms.l0 (k + 1) y0 y1))
  | 0 => fun _ _ r h => by simp [semblanceref12_terms.l0] at h
  | k + 1 => by
    have ih0 := semblanceref12_terms.mono_l k
    · intro y0 y1
      unfold semblanceref12_terms.l0
      exact mo_
theorem semblanceref12_terms.mono : ∀ a0 k, LeO (semblanceref12_terms.f k a0) (semblanceref12_terms.f (k + 1) a0) := by
  intro a0 k
  have ih0 := semblanceref12_terms.mono_l k
  unfold semblanceref12_terms.f
  exact mo_
instance semblanceref12_terms.lc : ∀ a0 k, LeC (semblanceref12_terms.f k a0) (semblanceref12_terms.f (k + 1) a0) := fun a0 k => ⟨semblanceref12_terms.mono a0 k⟩
set_option maxHeartbeats 8000000 in
set_option maxRecDepth 100000 in
theorem semblanceref12_terms.calls (k : Nat) (A0 : Option Addr) (c0 : Nat) (l0 : List (S78)) (r : Int) (w : World) (hr0 : Kd.C k78 w A0 l0.length l0) (hc0 : l0.length ≤ c0) (h : semblanceref12_terms.f k l0 = some r) :
  Calls Tryz.prog 23 #[.slice A0 l0.length c0] w fun e w' => e = .returned (.int .i64 r) ∧ Drawn0 w w' := by
 have HR0 := Aside0.mk hr0
 have HC0 := Aside0.mk hc0
 clear hr0 hc0
 unfold semblanceref12_terms.f at h
 have H := h
 clear h
 replace H := id_ H; obtain ⟨c2, H⟩ | ⟨c2, H⟩ := H
 ·have c2b0 : decide (45 < (l0.length : Int)) = true := decide_eq_true c2
  have c2b1 : decide (45 < l0.length) = true := decide_eq_true (by omega)
  clear c2
  obtain rfl := Option.some.inj H
  go_enter Tryz.func23, Tryz.ntmps23
  go_wp2
  go_ret
  exact ⟨rl_, dw_⟩
 have c2b0 : decide (45 < (l0.length : Int)) = false := decide_eq_false c2
 have c2b1 : decide (45 < l0.length) = false := decide_eq_false (by omega)
 clear c2
 have H' := Aside0.mk H
 clear H
 go_enter Tryz.func23, Tryz.ntmps23
 go_wp2
 go_loopg [3] k (fun kq v3 w' => ∃ (x3_1 : Int), v3 = .int .i64 x3_1 ∧ Aside0 (semblanceref12_terms.l0 kq l0 x3_1 = some r) ∧ Aside0 (kq ≤ k) ∧ Drawn0 w w')
 case atStart => exact ⟨(0), rl_, H', ⟨Nat.le_refl _⟩, dw_⟩
 case round =>
  clear H'
  try clear c2b0
  try clear c2b1
  obtain ⟨x3_1, rfl, HA, HK1, ⟨m1, rfl⟩⟩ := hrel
  cases gk with
  | zero => exact absurd HA.out (by simp [semblanceref12_terms.l0])
  | succ k1 =>
   have H := HA.out
   clear HA
   simp only [semblanceref12_terms.l0] at H
   replace H := it_ H; obtain ⟨c3b0, H⟩ | ⟨c3b0, H⟩ := H
   ·obtain rfl := Option.some.inj H
    go_wp2
    go_ret
    exact ⟨rl_, dw_⟩

   replace H := is_ H; obtain ⟨c4b0, H⟩ := H
   replace H := id_ H; obtain ⟨c5, H⟩ | ⟨c5, H⟩ := H
   ·have c5b0 : decide (100 < (((rd_T78 l0 x3_1).f2).size : Int)) = true := decide_eq_true c5
    have c5b1 : decide (100 < ((rd_T78 l0 x3_1).f2).size) = true := decide_eq_true (by omega)
    clear c5
    obtain rfl := Option.some.inj H
    obtain ⟨ad176, e176, hx176_0, hx176_1, hx176_2, p176, q176⟩ := au_T78 HR0 ⟨Below.refl _ _⟩ x3_1; cases e176
    go_wp2
    go_ret
    exact ⟨rl_, dw_⟩
   have c5b0 : decide (100 < (((rd_T78 l0 x3_1).f2).size : Int)) = false := decide_eq_false c5
   have c5b1 : decide (100 < ((rd_T78 l0 x3_1).f2).size) = false := decide_eq_false (by omega)
   clear c5
   have H' := Aside0.mk H
   clear H
   obtain ⟨ad176, e176, hx176_0, hx176_1, hx176_2, p176, q176⟩ := au_T78 HR0 ⟨Below.refl _ _⟩ x3_1; cases e176
   go_wp2
   go_roundg k1
   case measure => have := HK1.out; omega
   case rel => exact ⟨(wrap64 (x3_1 + 1)), rl_, H', ⟨kn_ HK1⟩, dw_⟩
/-! ### semblanceref12_weigh: function 22 -/
def semblanceref12_weigh.l0 : Nat → List (S76) → Int → Int → Option (Int)
  | 0, _, _, _ => none
  | k + 1, x0, x3, x4 => if x4 < (x0.length : Int) then (if 0 ≤ x4 then ((semblanceref12_terms.f k ((rd_T76 x0 x4).f2)).bind fun t178 => (if (((rd_T76 x0 x4).f0).size : Int) > 100 then (semblanceref12_weigh.l0 k x0 (wrap64 ((wrap64 ((wrap64 (x3 + 1)) + t178)) + 1000)) (wrap64 (x4 + 1))) else (semblanceref12_weigh.l0 k x0 (wrap64 ((wrap64 (x3 + 1)) + t178)) (wrap64 (x4 + 1))))) else (none)) else (some x3)
def semblanceref12_weigh.f (k : Nat) (l0 : List (S76)) : Option (Int) := semblanceref12_weigh.l0 k l0 0 0
theorem semblanceref12_weigh.mono_l : ∀ k, (∀ y0 y1 y2, LeO (semblanceref12_weigh.l0 k y0 y1 y2) (semblanceref12_weigh.l0 (k + 1) y0 y1 y2))
  | 0 => fun _ _ _ r h => by simp [semblanceref12_weigh.l0] at h
  | k + 1 => by
    have ih0 := semblanceref12_weigh.mono_l k
    · intro y0 y1 y2
      unfold semblanceref12_weigh.l0
      exact mo_
theorem semblanceref12_weigh.mono : ∀ a0 k, LeO (semblanceref12_weigh.f k a0) (semblanceref12_weigh.f (k + 1) a0) := by
  intro a0 k
  have ih0 := semblanceref12_weigh.mono_l k
  unfold semblanceref12_weigh.f
  exact mo_
instance semblanceref12_weigh.lc : ∀ a0 k, LeC (semblanceref12_weigh.f k a0) (semblanceref12_weigh.f (k + 1) a0) := fun a0 k => ⟨semblanceref12_weigh.mono a0 k⟩
set_option maxHeartbeats 8000000 in
set_option maxRecDepth 100000 in
theorem semblanceref12_weigh.calls (k : Nat) (A0 : Option Addr) (c0 : Nat) (l0 : List (S76)) (r : Int) (w : World) (hr0 : Kd.C k76 w A0 l0.length l0) (hc0 : l0.length ≤ c0) (h : semblanceref12_weigh.f k l0 = some r) :
  Calls Tryz.prog 22 #[.slice A0 l0.length c0] w fun e w' => e = .returned (.int .i64 r) ∧ Drawn0 w w' := by
 have HR0 := Aside0.mk hr0
 have HC0 := Aside0.mk hc0
 clear hr0 hc0
 unfold semblanceref12_weigh.f at h
 have H := h
 clear h
 have H' := Aside0.mk H
 clear H
 go_enter Tryz.func22, Tryz.ntmps22
 go_wp2
 go_loopg [3, 4] k (fun kq v3 v4 w' => ∃ (x3_1 : Int) (x4_1 : Int), v3 = .int .i64 x3_1 ∧ v4 = .int .i64 x4_1 ∧ Aside0 (semblanceref12_weigh.l0 kq l0 x3_1 x4_1 = some r) ∧ Aside0 (kq ≤ k) ∧ Drawn0 w w')
 case atStart => exact ⟨(0), (0), rl_, rl_, H', ⟨Nat.le_refl _⟩, dw_⟩
 case round =>
  clear H'
  obtain ⟨x3_1, x4_1, rfl, rfl, HA, HK1, ⟨m1, rfl⟩⟩ := hrel
  cases gk with
  | zero => exact absurd HA.out (by simp [semblanceref12_weigh.l0])
  | succ k1 =>
   have H := HA.out
   clear HA
   simp only [semblanceref12_weigh.l0] at H
   replace H := it_ H; obtain ⟨c2b0, H⟩ | ⟨c2b0, H⟩ := H
   ·obtain rfl := Option.some.inj H
    go_wp2
    go_ret
    exact ⟨rl_, dw_⟩

   replace H := is_ H; obtain ⟨c3b0, H⟩ := H
   replace H := bi_ H; obtain ⟨t178, A4, H⟩ := H
   replace H := id_ H; obtain ⟨c5, H⟩ | ⟨c5, H⟩ := H
   ·have c5b0 : decide (100 < (((rd_T76 l0 x4_1).f0).size : Int)) = true := decide_eq_true c5
    have c5b1 : decide (100 < ((rd_T76 l0 x4_1).f0).size) = true := decide_eq_true (by omega)
    clear c5
    have H' := Aside0.mk H
    clear H
    obtain ⟨ad177, A177_2, c177_2, e177, hx177_0, hx177_1, hx177_2, HC177_2, HR177_2, p177, q177⟩ := au_T76 HR0 ⟨Below.refl _ _⟩ x4_1; cases e177
    go_wp2_with (first | ((with_reducible refine gate_callee (f := 23) rfl ?_); refine gl_ (some 18) Tryz.func23 #[.slice A177_2 ((rd_T76 l0 x4_1).f2).length c177_2] ?_; (with_reducible refine (semblanceref12_terms.calls k1 _ _ ((rd_T76 l0 x4_1).f2) t178 _ (kg_ HR177_2.out) HC177_2.out A4.out).mono ?_); rintro e w' ⟨rfl, ⟨nd, rfl⟩⟩; refine ⟨_, rfl, ?_⟩; have p179 : 0 ≤ (x4_1 : Int) := of_decide_eq_true (by first | (with_reducible assumption) | assumption); have q179 : x4_1 < (l0.length : Int) := of_decide_eq_true (by first | (with_reducible assumption) | assumption); obtain ⟨ad179, A179_2, c179_2, e179, hx179_0, hx179_1, hx179_2, hl179_2, hi179_2⟩ := at_T76 HR0.out x4_1 p179 q179; obtain rfl : ad177 = ad179 := (by injection e179); have HR179_2 := Aside0.mk hi179_2; have HC179_2 := Aside0.mk hl179_2; clear hi179_2 hl179_2; replace p179 := eq_true p179; replace q179 := eq_true q179; have ea_ := Option.some.inj (hx177_2.symm.trans hx179_2); injection ea_ with ea_ en_ ec_; subst ea_; subst ec_; clear en_))
    go_roundg k1
    case measure => have := HK1.out; omega
    case rel => exact ⟨(wrap64 ((wrap64 ((wrap64 (x3_1 + 1)) + t178)) + 1000)), (wrap64 (x4_1 + 1)), rl_, rl_, H', ⟨kn_ HK1⟩, dw_⟩
   have c5b0 : decide (100 < (((rd_T76 l0 x4_1).f0).size : Int)) = false := decide_eq_false c5
   have c5b1 : decide (100 < ((rd_T76 l0 x4_1).f0).size) = false := decide_eq_false (by omega)
   clear c5
   have H' := Aside0.mk H
   clear H
   obtain ⟨ad177, A177_2, c177_2, e177, hx177_0, hx177_1, hx177_2, HC177_2, HR177_2, p177, q177⟩ := au_T76 HR0 ⟨Below.refl _ _⟩ x4_1; cases e177
   go_wp2_with (first | ((with_reducible refine gate_callee (f := 23) rfl ?_); refine gl_ (some 18) Tryz.func23 #[.slice A177_2 ((rd_T76 l0 x4_1).f2).length c177_2] ?_; (with_reducible refine (semblanceref12_terms.calls k1 _ _ ((rd_T76 l0 x4_1).f2) t178 _ (kg_ HR177_2.out) HC177_2.out A4.out).mono ?_); rintro e w' ⟨rfl, ⟨nd, rfl⟩⟩; refine ⟨_, rfl, ?_⟩; have p179 : 0 ≤ (x4_1 : Int) := of_decide_eq_true (by first | (with_reducible assumption) | assumption); have q179 : x4_1 < (l0.length : Int) := of_decide_eq_true (by first | (with_reducible assumption) | assumption); obtain ⟨ad179, A179_2, c179_2, e179, hx179_0, hx179_1, hx179_2, hl179_2, hi179_2⟩ := at_T76 HR0.out x4_1 p179 q179; obtain rfl : ad177 = ad179 := (by injection e179); have HR179_2 := Aside0.mk hi179_2; have HC179_2 := Aside0.mk hl179_2; clear hi179_2 hl179_2; replace p179 := eq_true p179; replace q179 := eq_true q179; have ea_ := Option.some.inj (hx177_2.symm.trans hx179_2); injection ea_ with ea_ en_ ec_; subst ea_; subst ec_; clear en_))
   go_roundg k1
   case measure => have := HK1.out; omega
   case rel => exact ⟨(wrap64 ((wrap64 (x3_1 + 1)) + t178)), (wrap64 (x4_1 + 1)), rl_, rl_, H', ⟨kn_ HK1⟩, dw_⟩
end Go.Proofs.YtbkaiojofgmbnaaGreat.XS
