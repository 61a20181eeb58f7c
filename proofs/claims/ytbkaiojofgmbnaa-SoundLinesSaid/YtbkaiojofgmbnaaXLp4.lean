-- written by wip/xprint.py out of the translation
import Derived.Test.YtbkaiojofgmbnaaXShort
import Derived.Test.YtbkaiojofgmbnaaXLp0
import Derived.Test.YtbkaiojofgmbnaaXLp1
import Derived.Test.YtbkaiojofgmbnaaXLp3
namespace Go.Proofs.Ytbkaiojofgmbnaa.XL
open Go.Proofs.Ytbkaiojofgmbnaa.XShort Go.Proofs.Ytbkaiojofgmbnaa.XReg Go.Proofs.Ytbkaiojofgmbnaa.XGrow Go.RowKit Go.Proofs.YtbkaiojofgmbnaaW.PrintWords Go.Proofs.YtbkaiojofgmbnaaW.PrintLast Go.Proofs.YtbkaiojofgmbnaaW.PrintMore
attribute [local go_sem] max2_int min2_int max_two min_two max_three min_three max_four min_four   -- for this text's walks alone
set_option linter.unusedVariables false
set_option linter.unusedSimpArgs false

attribute [local go_sem high] eqA214
/-! ### term_End: function 185 -/
def term_End.l0 : Nat → List (S214) → Int → Int → Option (Int)
  | 0, _, _, _ => none
  | k + 1, x0, x1, x5 => if x5 > 0 then (if x1 < 0 then (some (-1)) else (if x1 ≥ (x0.length : Int) then (some (-1)) else (if 0 ≤ x1 then (if x1 < (x0.length : Int) then ((term_Arity.f k ((rd_T214 x0 x1).f0)).bind fun t121 => (if t121 < 0 then (some (-1)) else ((term_Arity.f k ((rd_T214 x0 x1).f0)).bind fun t123 => (term_End.l0 k x0 (wrap64 (x1 + 1)) (wrap64 (x5 + (wrap64 (t123 - 1)))))))) else (none)) else (none)))) else (some x1)
def term_End.f (k : Nat) (l0 : List (S214)) (a1 : Int) : Option (Int) := term_End.l0 k l0 a1 1
theorem term_End.mono_l : ∀ k, (∀ y0 y1 y2, LeO (term_End.l0 k y0 y1 y2) (term_End.l0 (k + 1) y0 y1 y2))
  | 0 => fun _ _ _ r h => by simp [term_End.l0] at h
  | k + 1 => by
    have ih0 := term_End.mono_l k
    · intro y0 y1 y2
      unfold term_End.l0
      exact mo_
theorem term_End.mono : ∀ a0 a1 k, LeO (term_End.f k a0 a1) (term_End.f (k + 1) a0 a1) := by
  intro a0 a1 k
  have ih0 := term_End.mono_l k
  unfold term_End.f
  exact mo_
instance term_End.lc : ∀ a0 a1 k, LeC (term_End.f k a0 a1) (term_End.f (k + 1) a0 a1) := fun a0 a1 k => ⟨term_End.mono a0 a1 k⟩
set_option maxHeartbeats 8000000 in
set_option maxRecDepth 100000 in
theorem term_End.calls (k : Nat) (A0 : Option Addr) (c0 : Nat) (l0 : List (S214)) (a1 : Int) (r : Int) (w : World) (hr0 : Kd.C k214 w A0 l0.length l0) (hc0 : l0.length ≤ c0) (h : term_End.f k l0 a1 = some r) :
  Calls Try.prog 185 #[.slice A0 l0.length c0, .int .i64 a1] w fun e w' => e = .returned (.int .i64 r) ∧ Drawn0 w w' := by
 have HR0 := Aside0.mk hr0
 have HC0 := Aside0.mk hc0
 clear hr0 hc0
 unfold term_End.f at h
 have H := h
 clear h
 have H' := Aside0.mk H
 clear H
 go_enter Try.func185, Try.ntmps185
 go_wp2
 go_loopg [1, 5] k (fun kq v1 v5 w' => ∃ (x1_1 : Int) (x5_1 : Int), v1 = .int .i64 x1_1 ∧ v5 = .int .i64 x5_1 ∧ Aside0 (term_End.l0 kq l0 x1_1 x5_1 = some r) ∧ Aside0 (kq ≤ k) ∧ Drawn0 w w')
 case atStart => exact ⟨(a1), (1), rl_, rl_, H', ⟨Nat.le_refl _⟩, dw_⟩
 case round =>
  clear H'
  obtain ⟨x1_1, x5_1, rfl, rfl, HA, HK1, ⟨m1, rfl⟩⟩ := hrel
  cases gk with
  | zero => exact absurd HA.out (by simp [term_End.l0])
  | succ k1 =>
   have H := HA.out
   clear HA
   simp only [term_End.l0] at H
   replace H := ic_ H; obtain ⟨c3, H⟩ | ⟨c3, H⟩ := H
   ·have c3b0 : decide (0 < x5_1) = false := decide_eq_false c3
    clear c3
    obtain rfl := Option.some.inj H
    go_wp2
    go_ret
    exact ⟨rl_, dw_⟩

   have c3b0 : decide (0 < x5_1) = true := decide_eq_true c3
   clear c3
   replace H := iu_ H; obtain ⟨c4b0, H⟩ | ⟨c4b0, H⟩ := H
   ·obtain rfl := Option.some.inj H
    go_wp2
    go_ret
    exact ⟨rl_, dw_⟩
   replace H := id_ H; obtain ⟨c5, H⟩ | ⟨c5, H⟩ := H
   ·have c5b0 : decide ((l0.length : Int) ≤ x1_1) = true := decide_eq_true c5
    clear c5
    obtain rfl := Option.some.inj H
    go_wp2
    go_ret
    exact ⟨rl_, dw_⟩
   have c5b0 : decide ((l0.length : Int) ≤ x1_1) = false := decide_eq_false c5
   clear c5
   replace H := is_ H; obtain ⟨c6b0, H⟩ := H
   replace H := is_ H; obtain ⟨c7b0, H⟩ := H
   replace H := bi_ H; obtain ⟨t121, A8, H⟩ := H
   replace H := iu_ H; obtain ⟨c9b0, H⟩ | ⟨c9b0, H⟩ := H
   ·obtain rfl := Option.some.inj H
    obtain ⟨ad120, e120, hx120_0, hx120_1, hx120_2, p120, q120⟩ := au_T214 HR0 ⟨Below.refl _ _⟩ x1_1; cases e120
    go_wp2_with (first | (go_at_call 193; (with_reducible refine (term_Arity.calls k1 ((rd_T214 l0 x1_1).f0) t121 _ A8.out).mono ?_); rintro e w' ⟨rfl, ⟨nd, rfl⟩⟩))
    go_ret
    exact ⟨rl_, dw_⟩
   replace H := bi_ H; obtain ⟨t123, A10, H⟩ := H
   have H' := Aside0.mk H
   clear H
   obtain ⟨ad120, e120, hx120_0, hx120_1, hx120_2, p120, q120⟩ := au_T214 HR0 ⟨Below.refl _ _⟩ x1_1; cases e120
   go_wp2_with (first | (go_at_call 193; (with_reducible refine (term_Arity.calls k1 ((rd_T214 l0 x1_1).f0) t121 _ A8.out).mono ?_); rintro e w' ⟨rfl, ⟨nd, rfl⟩⟩; have p122 : 0 ≤ (x1_1 : Int) := of_decide_eq_true (by first | (with_reducible assumption) | assumption); have q122 : x1_1 < (l0.length : Int) := of_decide_eq_true (by first | (with_reducible assumption) | assumption); obtain ⟨ad122, e122, hx122_0, hx122_1, hx122_2⟩ := at_T214 HR0.out x1_1 p122 q122; obtain rfl : ad120 = ad122 := (by injection e122); replace p122 := eq_true p122; replace q122 := eq_true q122) | ((with_reducible refine gate_callee (f := 193) rfl ?_); refine gl_ (some 33) Try.func193 #[.int .i64 ((rd_T214 l0 x1_1).f0)] ?_; (with_reducible refine (term_Arity.calls k1 ((rd_T214 l0 x1_1).f0) t123 _ A10.out).mono ?_); rintro e w' ⟨rfl, ⟨nd, rfl⟩⟩; refine ⟨_, rfl, ?_⟩))
   go_roundg k1
   case measure => have := HK1.out; omega
   case rel => exact ⟨(wrap64 (x1_1 + 1)), (wrap64 (x5_1 + (wrap64 (t123 - 1)))), rl_, rl_, H', ⟨kn_ HK1⟩, dw_⟩
/-! ### term_whole: function 175 -/
def term_whole.f (k : Nat) (l0 : List (S214)) : Option (Bool) := if (l0.length : Int) > 0 then (if (l0.length : Int) ≤ 40 then ((term_End.f k l0 0).bind fun t124 => (some (t124 == (l0.length : Int)))) else (some false)) else (some false)
theorem term_whole.mono : ∀ a0 k, LeO (term_whole.f k a0) (term_whole.f (k + 1) a0) := by
  intro a0 k
  unfold term_whole.f
  exact mo_
instance term_whole.lc : ∀ a0 k, LeC (term_whole.f k a0) (term_whole.f (k + 1) a0) := fun a0 k => ⟨term_whole.mono a0 k⟩
set_option maxHeartbeats 8000000 in
set_option maxRecDepth 100000 in
theorem term_whole.calls (k : Nat) (A0 : Option Addr) (c0 : Nat) (l0 : List (S214)) (r : Bool) (w : World) (hr0 : Kd.C k214 w A0 l0.length l0) (hc0 : l0.length ≤ c0) (h : term_whole.f k l0 = some r) :
  Calls Try.prog 175 #[.slice A0 l0.length c0] w fun e w' => e = .returned (.bool r) ∧ Drawn0 w w' := by
 have HR0 := Aside0.mk hr0
 have HC0 := Aside0.mk hc0
 clear hr0 hc0
 unfold term_whole.f at h
 have H := h
 clear h
 replace H := ic_ H; obtain ⟨c2, H⟩ | ⟨c2, H⟩ := H
 ·have c2b0 : decide (0 < (l0.length : Int)) = false := decide_eq_false c2
  have c2b1 : decide (0 < l0.length) = false := decide_eq_false (by omega)
  clear c2
  obtain rfl := Option.some.inj H
  go_enter Try.func175, Try.ntmps175
  go_wp2
  go_ret
  exact ⟨rl_, dw_⟩

 have c2b0 : decide (0 < (l0.length : Int)) = true := decide_eq_true c2
 have c2b1 : decide (0 < l0.length) = true := decide_eq_true (by omega)
 clear c2
 replace H := ic_ H; obtain ⟨c3, H⟩ | ⟨c3, H⟩ := H
 ·have c3b0 : decide ((l0.length : Int) ≤ 40) = false := decide_eq_false c3
  have c3b1 : decide (l0.length ≤ 40) = false := decide_eq_false (by omega)
  clear c3
  obtain rfl := Option.some.inj H
  go_enter Try.func175, Try.ntmps175
  go_wp2
  go_ret
  exact ⟨rl_, dw_⟩
 have c3b0 : decide ((l0.length : Int) ≤ 40) = true := decide_eq_true c3
 have c3b1 : decide (l0.length ≤ 40) = true := decide_eq_true (by omega)
 clear c3
 replace H := bi_ H; obtain ⟨t124, A4, H⟩ := H
 obtain rfl := Option.some.inj H
 go_enter Try.func175, Try.ntmps175
 go_wp2_with (first | (go_at_call 185; (with_reducible refine (term_End.calls k _ _ l0 0 t124 _ (kg_ HR0.out) HC0.out A4.out).mono ?_); rintro e w' ⟨rfl, ⟨nd, rfl⟩⟩))
 go_ret
 exact ⟨rl_, dw_⟩
/-! ### api_Term_186: function 186 -/
open Go.Proofs.Ytbkaiojofgmbnaa.XFind in
set_option maxHeartbeats 2000000 in
set_option maxRecDepth 100000 in
theorem IndexFunc_Term.calls (p : S214 → Bool) (g : Nat) (lb : Array Value) (eg : ∀ args w, (callFunc g args).run Try.prog w = .ok (.enter g args) w) (A0 : Option Addr) (c0 : Nat) (l0 : List (S214)) (w : World) (hr0 : Kd.C k214 w A0 l0.length l0)
    (hp : ∀ W, Below w.heap.size w W → ∀ (x : S214), x ∈ l0 → Calls Try.prog g (#[.agg #[.int .i64 x.f0, .int .i64 x.f1, .string x.f2]] ++ lb) W fun e w' => e = .returned (.bool (p x)) ∧ Below w.heap.size w w') :
    Calls Try.prog 186 #[.slice A0 l0.length c0, .func (.func g) #[] lb] w fun e w' => e = .returned (.int .i64 (idxF p l0)) ∧ Below w.heap.size w w' := by
  have hbig := hr0.2.1
  have HR := Aside0.mk hr0
  have HPF := Aside0.mk hp
  clear hr0 hp
  have hu := Try.underlying214
  go_enter Try.func186, Try.ntmps186
  go_wp2
  go_loopg [8] l0.length (fun kq v8 wr => ∃ n : Nat, Aside0 (n ≤ l0.length) ∧ Aside0 (l0.length - n = kq) ∧ v8 = .int .i64 (n : Int) ∧ Aside0 (Below w.heap.size w wr) ∧ Aside0 (∀ j : Nat, j < n → p (l0.getD j z214) = false))
  case atStart => exact ⟨0, ⟨Nat.zero_le _⟩, ⟨by omega⟩, rfl, ⟨Below.refl _ _⟩, ⟨fun j hj => absurd hj (Nat.not_lt_zero _)⟩⟩
  case round =>
    obtain ⟨n, HN, HK, rfl, HB, HP⟩ := hrel
    by_cases hlt : n < l0.length
    · have hlt' : decide ((n : Int) < (l0.length : Int)) = true := decide_eq_true (by omega)
      have hC := Kd.C_below HR.out HB.out
      obtain ⟨ad, e1, hx0, hx1, hx2⟩ := at_T214 hC (n : Int) (by omega) (by omega)
      subst e1
      rw [Int.toNat_natCast] at hx0 hx1 hx2
      have hy0 : rd_T214 l0 (n : Int) = l0.getD n z214 := by unfold rd_T214; rw [Int.toNat_natCast]
      rw [hy0] at hx0 hx1 hx2
      have hmem : l0.getD n z214 ∈ l0 := by simp only [List.getD, List.getElem?_eq_getElem hlt, Option.getD_some]; exact List.getElem_mem hlt
      have hcall := HPF.out wr HB.out (l0.getD n z214) hmem
      generalize hy : l0.getD n z214 = y at *
      have HY := Aside0.mk hy
      clear hy hC hy0 hmem
      cases hq : p y with
      | true =>
        rw [hq] at hcall
        have HC := Aside0.mk hcall
        have HQ := Aside0.mk hq
        clear hcall hq
        go_wp2_with fail
        refine HC.out.mono ?_
        rintro e w' ⟨rfl, hb'⟩
        go_wp2
        go_ret
        refine ⟨?_, hb'⟩
        rw [idxF_hit p l0 z214 n hlt (by rw [HY.out]; exact HQ.out) HP.out]
        rfl
      | false =>
        rw [hq] at hcall
        have HC := Aside0.mk hcall
        have HQ := Aside0.mk hq
        clear hcall hq
        go_wp2_with fail
        refine HC.out.mono ?_
        rintro e w' ⟨rfl, hb'⟩
        go_wp2
        go_roundg (l0.length - (n + 1))
        case measure => have := HK.out; omega
        case rel =>
          refine ⟨n + 1, ⟨hlt⟩, ⟨rfl⟩, by go_num, ⟨hb'⟩, ⟨fun j hj => ?_⟩⟩
          by_cases e : j = n
          · subst e; rw [HY.out]; exact HQ.out
          · exact HP.out j (by omega)
    · have hlt' : decide ((n : Int) < (l0.length : Int)) = false := decide_eq_false (by omega)
      have hn : n = l0.length := by have := HN.out; omega
      have HNN := Aside0.mk hn
      clear hn
      go_wp2
      go_ret
      exact ⟨by rw [idxF_miss p l0 z214 (fun j hj => HP.out j (by have := HNN.out; omega))]; rfl, HB.out⟩


/-! ### api_Term_176: function 176 -/
-- USES slices.IndexFunc[[]semblance/api.Term,semblance/api.Term]
open Go.Proofs.Ytbkaiojofgmbnaa.XFind in
set_option maxHeartbeats 2000000 in
theorem ContainsFunc_Term.calls (p : S214 → Bool) (g : Nat) (lb : Array Value) (eg : ∀ args w, (callFunc g args).run Try.prog w = .ok (.enter g args) w) (A0 : Option Addr) (c0 : Nat) (l0 : List (S214)) (w : World) (hr0 : Kd.C k214 w A0 l0.length l0)
    (hp : ∀ W, Below w.heap.size w W → ∀ (x : S214), x ∈ l0 → Calls Try.prog g (#[.agg #[.int .i64 x.f0, .int .i64 x.f1, .string x.f2]] ++ lb) W fun e w' => e = .returned (.bool (p x)) ∧ Below w.heap.size w w') :
    Calls Try.prog 176 #[.slice A0 l0.length c0, .func (.func g) #[] lb] w fun e w' => e = .returned (.bool (l0.any p)) ∧ Below w.heap.size w w' := by
  have hcall := IndexFunc_Term.calls p g lb eg A0 c0 l0 w hr0 hp
  have HANY := Aside0.mk (idxF_any p l0)
  generalize idxF p l0 = i at hcall HANY
  have HC := Aside0.mk hcall
  clear hp hr0 hcall
  go_enter Try.func176, Try.ntmps176
  go_wp2_with (go_at_call 186; refine HC.out.mono ?_; rintro e w' ⟨rfl, hb'⟩)
  go_ret
  exact ⟨by rw [← HANY.out]; rfl, hb'⟩


/-! ### term_may: function 178 -/
def term_may.f (k : Nat) (a0_0 : Int) (a0_1 : Int) (a0_2 : ByteArray) : Option (Bool) := if a0_0 = 1 then (if a0_1 ≥ 0 then (if a0_1 ≤ 1000000 then (some (a0_2.toList == ([] : List UInt8))) else (some false)) else (some false)) else (if a0_0 = 2 then (if a0_1 = 0 then ((names_Is.f k a0_2).bind fun t126 => (some t126)) else (some false)) else (if a0_0 = 11 then (if a0_1 = 0 then ((names_Is.f k a0_2).bind fun t127 => (some t127)) else (some false)) else (some (a0_1 == 0 && (a0_2.toList == ([] : List UInt8))))))
theorem term_may.mono : ∀ a0 a1 a2 k, LeO (term_may.f k a0 a1 a2) (term_may.f (k + 1) a0 a1 a2) := by
  intro a0 a1 a2 k
  unfold term_may.f
  exact mo_
instance term_may.lc : ∀ a0 a1 a2 k, LeC (term_may.f k a0 a1 a2) (term_may.f (k + 1) a0 a1 a2) := fun a0 a1 a2 k => ⟨term_may.mono a0 a1 a2 k⟩
set_option maxHeartbeats 8000000 in
set_option maxRecDepth 100000 in
theorem term_may.calls (k : Nat) (a0_0 : Int) (a0_1 : Int) (a0_2 : ByteArray) (r : Bool) (w : World) (h : term_may.f k a0_0 a0_1 a0_2 = some r) :
  Calls Try.prog 178 #[.agg #[.int .i64 a0_0, .int .i64 a0_1, .string a0_2]] w fun e w' => e = .returned (.bool r) ∧ Below w.heap.size w w' := by
 have hu214 := Try.underlying214
 have HB := Aside0.mk (Below.refl w.heap.size w)
 unfold term_may.f at h
 have H := h
 clear h
 replace H := id_ H; obtain ⟨c2, H⟩ | ⟨c2, H⟩ := H
 ·have c2b0 : (a0_0 == 1) = true := beq_iff_eq.mpr c2
  have c2b1 : (a0_0 != 1) = false := bne_eq_false_iff_eq.mpr c2
  clear c2
  replace H := ic_ H; obtain ⟨c3, H⟩ | ⟨c3, H⟩ := H
  ·have c3b0 : decide (0 ≤ a0_1) = false := decide_eq_false c3
   clear c3
   obtain rfl := Option.some.inj H
   go_enter Try.func178, Try.ntmps178
   go_wp2_with (first | ((with_reducible refine gate_dst (N := 1) rfl ?_); refine bx_ HB (N := 1) (cs := #[.int .i64 a0_0, .int .i64 a0_1, .string a0_2]) (t := 214) ?_; clear HB; intro gb125 w9 HB BK125 GW125 GE125; obtain ⟨z10_0, z10_1, z10_2, y10_0, y10_1, y10_2⟩ := cw3_ BK125.out))
   go_ret
   exact ⟨rv_, bw_⟩
  have c3b0 : decide (0 ≤ a0_1) = true := decide_eq_true c3
  clear c3
  replace H := iu_ H; obtain ⟨c4b0, H⟩ | ⟨c4b0, H⟩ := H
  ·obtain rfl := Option.some.inj H
   go_enter Try.func178, Try.ntmps178
   go_wp2_with (first | ((with_reducible refine gate_dst (N := 1) rfl ?_); refine bx_ HB (N := 1) (cs := #[.int .i64 a0_0, .int .i64 a0_1, .string a0_2]) (t := 214) ?_; clear HB; intro gb125 w5 HB BK125 GW125 GE125; obtain ⟨z6_0, z6_1, z6_2, y6_0, y6_1, y6_2⟩ := cw3_ BK125.out))
   go_ret
   exact ⟨rv_, bw_⟩
  obtain rfl := Option.some.inj H
  go_enter Try.func178, Try.ntmps178
  go_wp2_with (first | ((with_reducible refine gate_dst (N := 1) rfl ?_); refine bx_ HB (N := 1) (cs := #[.int .i64 a0_0, .int .i64 a0_1, .string a0_2]) (t := 214) ?_; clear HB; intro gb125 w7 HB BK125 GW125 GE125; obtain ⟨z8_0, z8_1, z8_2, y8_0, y8_1, y8_2⟩ := cw3_ BK125.out))
  go_ret
  exact ⟨rv_, bw_⟩
 have c2b0 : (a0_0 == 1) = false := beq_eq_false_iff_ne.mpr c2
 have c2b1 : (a0_0 != 1) = true := bne_iff_ne.mpr c2
 replace H := id_ H; obtain ⟨c11, H⟩ | ⟨c11, H⟩ := H
 ·have c11b0 : (a0_0 == 2) = true := beq_iff_eq.mpr c11
  have c11b1 : (a0_0 != 2) = false := bne_eq_false_iff_eq.mpr c11
  clear c11
  replace H := ic_ H; obtain ⟨c12, H⟩ | ⟨c12, H⟩ := H
  ·have c12b0 : (a0_1 == 0) = false := beq_eq_false_iff_ne.mpr c12
   have c12b1 : (a0_1 != 0) = true := bne_iff_ne.mpr c12
   obtain rfl := Option.some.inj H
   go_enter Try.func178, Try.ntmps178
   go_wp2_with (first | ((with_reducible refine gate_dst (N := 1) rfl ?_); refine bx_ HB (N := 1) (cs := #[.int .i64 a0_0, .int .i64 a0_1, .string a0_2]) (t := 214) ?_; clear HB; intro gb125 w17 HB BK125 GW125 GE125; obtain ⟨z18_0, z18_1, z18_2, y18_0, y18_1, y18_2⟩ := cw3_ BK125.out))
   go_ret
   exact ⟨rv_, bw_⟩
  have c12b0 : (a0_1 == 0) = true := beq_iff_eq.mpr c12
  have c12b1 : (a0_1 != 0) = false := bne_eq_false_iff_eq.mpr c12
  clear c12
  replace H := bi_ H; obtain ⟨t126, A13, H⟩ := H
  obtain rfl := Option.some.inj H
  go_enter Try.func178, Try.ntmps178
  go_wp2_with (first | ((with_reducible refine gate_dst (N := 1) rfl ?_); refine bx_ HB (N := 1) (cs := #[.int .i64 a0_0, .int .i64 a0_1, .string a0_2]) (t := 214) ?_; clear HB; intro gb125 w14 HB BK125 GW125 GE125; obtain ⟨z15_0, z15_1, z15_2, y15_0, y15_1, y15_2⟩ := cw3_ BK125.out) | (go_at_call 112; (with_reducible refine cm_ (names_Is.calls k a0_2 t126 _ A13.out) ?_); intro w16 hb; replace BK125 := tb_ BK125 hb; replace HB := ts_ HB hb; clear hb))
  go_ret
  exact ⟨rv_, bw_⟩
 have c11b0 : (a0_0 == 2) = false := beq_eq_false_iff_ne.mpr c11
 have c11b1 : (a0_0 != 2) = true := bne_iff_ne.mpr c11
 replace H := ic_ H; obtain ⟨c19, H⟩ | ⟨c19, H⟩ := H
 ·have c19b0 : (a0_0 == 11) = false := beq_eq_false_iff_ne.mpr c19
  have c19b1 : (a0_0 != 11) = true := bne_iff_ne.mpr c19
  obtain rfl := Option.some.inj H
  go_enter Try.func178, Try.ntmps178
  go_wp2_with (first | ((with_reducible refine gate_dst (N := 1) rfl ?_); refine bx_ HB (N := 1) (cs := #[.int .i64 a0_0, .int .i64 a0_1, .string a0_2]) (t := 214) ?_; clear HB; intro gb125 w27 HB BK125 GW125 GE125; obtain ⟨z28_0, z28_1, z28_2, y28_0, y28_1, y28_2⟩ := cw3_ BK125.out))
  go_ret
  exact ⟨rv_, bw_⟩

 have c19b0 : (a0_0 == 11) = true := beq_iff_eq.mpr c19
 have c19b1 : (a0_0 != 11) = false := bne_eq_false_iff_eq.mpr c19
 clear c19
 replace H := ic_ H; obtain ⟨c20, H⟩ | ⟨c20, H⟩ := H
 ·have c20b0 : (a0_1 == 0) = false := beq_eq_false_iff_ne.mpr c20
  have c20b1 : (a0_1 != 0) = true := bne_iff_ne.mpr c20
  obtain rfl := Option.some.inj H
  go_enter Try.func178, Try.ntmps178
  go_wp2_with (first | ((with_reducible refine gate_dst (N := 1) rfl ?_); refine bx_ HB (N := 1) (cs := #[.int .i64 a0_0, .int .i64 a0_1, .string a0_2]) (t := 214) ?_; clear HB; intro gb125 w25 HB BK125 GW125 GE125; obtain ⟨z26_0, z26_1, z26_2, y26_0, y26_1, y26_2⟩ := cw3_ BK125.out))
  go_ret
  exact ⟨rv_, bw_⟩
 have c20b0 : (a0_1 == 0) = true := beq_iff_eq.mpr c20
 have c20b1 : (a0_1 != 0) = false := bne_eq_false_iff_eq.mpr c20
 clear c20
 replace H := bi_ H; obtain ⟨t127, A21, H⟩ := H
 obtain rfl := Option.some.inj H
 go_enter Try.func178, Try.ntmps178
 go_wp2_with (first | ((with_reducible refine gate_dst (N := 1) rfl ?_); refine bx_ HB (N := 1) (cs := #[.int .i64 a0_0, .int .i64 a0_1, .string a0_2]) (t := 214) ?_; clear HB; intro gb125 w22 HB BK125 GW125 GE125; obtain ⟨z23_0, z23_1, z23_2, y23_0, y23_1, y23_2⟩ := cw3_ BK125.out) | (go_at_call 112; (with_reducible refine cm_ (names_Is.calls k a0_2 t127 _ A21.out) ?_); intro w24 hb; replace BK125 := tb_ BK125 hb; replace HB := ts_ HB hb; clear hb))
 go_ret
 exact ⟨rv_, bw_⟩
/-! ### bits_Mul32: function 199 -/
def bits_Mul32.f (a0 : Int) (a1 : Int) : Option (Int × Int) := some (((IntKind.u64.wrap ((IntKind.u64.wrap (a0)) * (IntKind.u64.wrap (a1)))) / 4294967296) % 4294967296, (IntKind.u64.wrap ((IntKind.u64.wrap (a0)) * (IntKind.u64.wrap (a1)))) % 4294967296)
set_option maxHeartbeats 8000000 in
set_option maxRecDepth 100000 in
theorem bits_Mul32.calls (a0 : Int) (a1 : Int) (r1 : Int) (r2 : Int) (w : World) (h : bits_Mul32.f a0 a1 = some (r1, r2)) :
    Calls Try.prog 199 #[.int .u32 a0, .int .u32 a1] w fun e w' => e = .returned (.tuple #[.int .u32 r1, .int .u32 r2]) ∧ Drawn0 w w' := by
  have H : (some (((IntKind.u64.wrap ((IntKind.u64.wrap (a0)) * (IntKind.u64.wrap (a1)))) / 4294967296) % 4294967296, (IntKind.u64.wrap ((IntKind.u64.wrap (a0)) * (IntKind.u64.wrap (a1)))) % 4294967296)) = some (r1, r2) := h
  clear h
  simp only [Option.some.injEq, Prod.mk.injEq] at H
  obtain ⟨rfl, rfl⟩ := H
  go_enter Try.func199, Try.ntmps199
  go_wp2
  go_ret2
  exact ⟨rl_, dw_⟩

/-! ### bits_Mul64: function 200 -/
def bits_Mul64.f (a0 : Int) (a1 : Int) : Option (Int × Int) := some (IntKind.u64.wrap ((IntKind.u64.wrap ((IntKind.u64.wrap ((a0 / 4294967296) * (a1 / 4294967296))) + ((IntKind.u64.wrap ((IntKind.u64.wrap ((a0 / 4294967296) * (Go.bits .and .u64 a1 4294967295))) + ((IntKind.u64.wrap ((Go.bits .and .u64 a0 4294967295) * (Go.bits .and .u64 a1 4294967295))) / 4294967296))) / 4294967296))) + ((IntKind.u64.wrap ((Go.bits .and .u64 (IntKind.u64.wrap ((IntKind.u64.wrap ((a0 / 4294967296) * (Go.bits .and .u64 a1 4294967295))) + ((IntKind.u64.wrap ((Go.bits .and .u64 a0 4294967295) * (Go.bits .and .u64 a1 4294967295))) / 4294967296))) 4294967295) + (IntKind.u64.wrap ((Go.bits .and .u64 a0 4294967295) * (a1 / 4294967296))))) / 4294967296)), IntKind.u64.wrap (a0 * a1))
set_option maxHeartbeats 8000000 in
set_option maxRecDepth 100000 in
theorem bits_Mul64.calls (a0 : Int) (a1 : Int) (r1 : Int) (r2 : Int) (w : World) (h : bits_Mul64.f a0 a1 = some (r1, r2)) :
    Calls Try.prog 200 #[.int .u64 a0, .int .u64 a1] w fun e w' => e = .returned (.tuple #[.int .u64 r1, .int .u64 r2]) ∧ Drawn0 w w' := by
  have H : (some (IntKind.u64.wrap ((IntKind.u64.wrap ((IntKind.u64.wrap ((a0 / 4294967296) * (a1 / 4294967296))) + ((IntKind.u64.wrap ((IntKind.u64.wrap ((a0 / 4294967296) * (Go.bits .and .u64 a1 4294967295))) + ((IntKind.u64.wrap ((Go.bits .and .u64 a0 4294967295) * (Go.bits .and .u64 a1 4294967295))) / 4294967296))) / 4294967296))) + ((IntKind.u64.wrap ((Go.bits .and .u64 (IntKind.u64.wrap ((IntKind.u64.wrap ((a0 / 4294967296) * (Go.bits .and .u64 a1 4294967295))) + ((IntKind.u64.wrap ((Go.bits .and .u64 a0 4294967295) * (Go.bits .and .u64 a1 4294967295))) / 4294967296))) 4294967295) + (IntKind.u64.wrap ((Go.bits .and .u64 a0 4294967295) * (a1 / 4294967296))))) / 4294967296)), IntKind.u64.wrap (a0 * a1))) = some (r1, r2) := h
  clear h
  simp only [Option.some.injEq, Prod.mk.injEq] at H
  obtain ⟨rfl, rfl⟩ := H
  go_enter Try.func200, Try.ntmps200
  go_wp2
  go_ret2
  exact ⟨rl_, dw_⟩

/-! ### bits_Mul: function 197 -/
def bits_Mul.f (a0 : Int) (a1 : Int) : Option (Int × Int) := (bits_Mul64.f a0 a1).bind fun bt128 => (some (bt128.1, bt128.2))
set_option maxHeartbeats 8000000 in
set_option maxRecDepth 100000 in
theorem bits_Mul.calls (a0 : Int) (a1 : Int) (r1 : Int) (r2 : Int) (w : World) (h : bits_Mul.f a0 a1 = some (r1, r2)) :
    Calls Try.prog 197 #[.int .u64 a0, .int .u64 a1] w fun e w' => e = .returned (.tuple #[.int .u64 r1, .int .u64 r2]) ∧ Drawn0 w w' := by
  have H : ((bits_Mul64.f a0 a1).bind fun bt128 => (some (bt128.1, bt128.2))) = some (r1, r2) := h
  clear h
  replace H := Option.bind_eq_some_iff.mp H
  obtain ⟨⟨t128, t129⟩, A30, H⟩ := H
  replace H : (some (t128, t129)) = some (r1, r2) := H
  have A3 := Aside0.mk A30
  clear A30
  simp only [Option.some.injEq, Prod.mk.injEq] at H
  obtain ⟨rfl, rfl⟩ := H
  go_enter Try.func197, Try.ntmps197
  go_wp2_with (first | ((with_reducible refine gate_callee (f := 200) rfl ?_); refine gl_ (some 25) Try.func200 #[.int .u64 a0, .int .u64 a1] ?_; (with_reducible refine (bits_Mul64.calls a0 a1 t128 t129 _ A3.out).mono ?_); rintro e w' ⟨rfl, ⟨nd, rfl⟩⟩; refine ⟨_, rfl, ?_⟩))
  go_ret2
  exact ⟨rl_, dw_⟩

/-! ### slices_Repeat_int_int: function 194 -/
-- USES math/bits.Mul
/-- so many zeros, as they lie -/
def Repeat_int.zeros (n : Nat) : List Value := List.replicate n (.int .i64 0)
theorem Repeat_int.made (n : Nat) : madeCells #[.int .i64 0] n = (Repeat_int.zeros n).toArray := by
  apply Array.ext
  · simp [Repeat_int.zeros, size_madeCells]
  · intro i h1 h2
    simp [Repeat_int.zeros, madeCells, Nat.mod_one]
theorem Repeat_int.spliced (n off m : Nat) (h : off + m ≤ n) : splice (Repeat_int.zeros n) off (Repeat_int.zeros m) = Repeat_int.zeros n := by
  unfold splice Repeat_int.zeros
  rw [List.length_replicate]
  apply List.ext_getElem
  · simp; omega
  · intro i h1 h2
    simp only [List.getElem_replicate]
    by_cases hi : i < off
    · rw [List.getElem_append_left (by simp; omega)]; simp
    · rw [List.getElem_append_right (by simp; omega)]
      by_cases hj : i < off + m
      · rw [List.getElem_append_left (by simp; omega)]; simp
      · rw [List.getElem_append_right (by simp; omega)]; simp
theorem Repeat_int.mul : ∀ n : Nat, n ≤ 40 → bits_Mul.f 1 (n : Int) = some (0, (n : Int)) := by
  have h : ∀ n : Fin 41, bits_Mul.f 1 ((n.val : Nat) : Int) = some (0, ((n.val : Nat) : Int)) := by decide +kernel
  intro n hn
  exact h ⟨n, by omega⟩
theorem Repeat_int.cell {W : World} {g n : Nat} (h : W.heap[g]? = some (.cells (Repeat_int.zeros n).toArray 3 (0, 0))) (j : Nat) (hj : j < n) : W.cell? ⟨g, j, none⟩ = some (.int .i64 0) := by
  simp [World.cell?, h, Repeat_int.zeros, hj]
theorem Repeat_int.setRow_same {W : World} {g : Nat} {cs : Array Value} {t : TypeId} (h : W.heap[g]? = some (.cells cs t (0, 0))) : W.setRow g cs = W := by
  unfold World.setRow
  congr 1
  apply Array.ext
  · simp
  · intro i h1 h2
    rw [Array.getElem_modify]
    split
    · rename_i e
      subst e
      have : W.heap[g] = .cells cs t (0, 0) := by
        rw [Array.getElem?_eq_getElem h2] at h
        exact Option.some.inj h
      rw [this]
    · rfl
theorem Repeat_int.copied (W : World) (g n p : Nat) (hp : p ≤ n) (h : W.heap[g]? = some (.cells (Repeat_int.zeros n).toArray 3 (0, 0))) (hs1 : (Try.prog.info? 3).map (·.size) = some 1) :
    Sem.run Try.prog (Builtin.copy_ #[90, 90] 3 #[.slice (some ⟨g, p, none⟩) (n - p) (n - p), .slice (some ⟨g, 0, none⟩) p n]) W = .ok (.int .i64 ((Nat.min p (n - p) : Nat) : Int)) W := by
  have hk : Nat.min p (n - p) ≤ p := Nat.min_le_left _ _
  have hk2 : Nat.min p (n - p) ≤ n - p := Nat.min_le_right _ _
  generalize hkk : Nat.min p (n - p) = k at *
  have hr := run_copy_row (P := Try.prog) W 90 90 3 3 g p (n - p) (n - p) ⟨g, 0, none⟩ p n (Repeat_int.zeros n).toArray 3 (Repeat_int.zeros k) Try.underlying90 hs1 h (by simp [Repeat_int.zeros, hkk])
    (fun j v hj => by
      have hjk : j < k := by have := (List.getElem?_eq_some_iff.1 hj).1; simpa [Repeat_int.zeros] using this
      have hv : v = .int .i64 0 := by
        have := (List.getElem?_eq_some_iff.1 hj).2; simp [Repeat_int.zeros] at this; exact this.symm
      rw [Addr.add_lit, Nat.zero_add, Repeat_int.cell h j (by omega), hv])
    (by simp [Repeat_int.zeros]; omega) (fun v hv => by simp [Repeat_int.zeros] at hv; rw [hv.2]; rfl)
  rw [hr]
  have hsp : ((Repeat_int.zeros n).toArray.toList.take p ++ Repeat_int.zeros k ++ (Repeat_int.zeros n).toArray.toList.drop (p + (Repeat_int.zeros k).length)).toArray = (Repeat_int.zeros n).toArray := by
    have := Repeat_int.spliced n p k (by omega)
    unfold splice at this
    simp only [List.append_assoc]
    rw [this]
  rw [hsp, Repeat_int.setRow_same h]
  simp [Repeat_int.zeros, goInt]
set_option maxHeartbeats 2000000 in
set_option maxRecDepth 100000 in
theorem Repeat_int.calls (a : Addr) (c n : Nat) (w : World) (h1 : 1 ≤ n) (hn : n ≤ 40) (hc : w.cell? a = some (.int .i64 0)) :
    Calls Try.prog 194 #[.slice (some a) 1 c, .int .i64 (n : Int)] w fun e w' => ∃ g, e = .returned (.slice (some ⟨g, 0, none⟩) n n) ∧ w.heap.size ≤ g ∧ w'.heap[g]? = some (.cells (Repeat_int.zeros n).toArray 3 (0, 0)) ∧ Below w.heap.size w w' := by
  have hmk := print_make (P := Try.prog) 90 3 .i64 8 Try.underlying90 info3 (by omega) n (by omega)
  rw [Repeat_int.made] at hmk
  have HM := Aside0.mk (Repeat_int.mul n hn)
  generalize hz : (Repeat_int.zeros n).toArray = zs at hmk
  have HZ := Aside0.mk hz
  clear hz
  go_enter Try.func194, Try.ntmps194
  have hs1 : (Try.prog.info? 3).map (·.size) = some 1 := by kernel_rfl
  go_wp2_with (first | (go_at_call 197; refine (bits_Mul.calls 1 (n : Int) 0 (n : Int) _ HM.out).mono ?_; rintro e w' ⟨rfl, ⟨m, rfl⟩⟩) | (with_reducible refine wpList_copy_splice rfl (.tmp 31) (.tmp 32) 90 90 rfl 3 Try.underlying90 hs1 _ _ _ _ _ _ rfl rfl w.heap.size 0 (Repeat_int.zeros n) 3 ?hg [.int .i64 0] ?hn ?hpos ?hfit ?h1 w.heap.size w ?hb (Nat.le_refl _) ?h))
  case hg => rw [← HZ.out]; exact heap_alloc_new _ _
  case hn => simp [Nat.min_eq_left h1]
  case hpos =>
    intro j v hj
    match j, hj with
    | 0, hj => simp at hj; subst hj; rw [Addr.add_zero']; exact pw_cell_below ((pw_below_drewN (Below.refl _ _) m).alloc (Nat.le_refl _) _) hc
  case hfit => simp [Repeat_int.zeros]; omega
  case h1 => intro v hv; simp at hv; subst hv; rfl
  case hb => exact (pw_below_drewN (Below.refl _ _) m).alloc (Nat.le_refl _) _
  case h =>
    intro W1 hh1 hB1
    have hg1 : Aside0 (W1.heap[w.heap.size]? = some (.cells (Repeat_int.zeros n).toArray 3 (0, 0))) := by
      have := hh1.out
      rw [show ([.int .i64 0] : List Value) = Repeat_int.zeros 1 from rfl, Repeat_int.spliced n 0 1 (by omega)] at this
      exact ⟨this⟩
    have HB1 := Aside0.mk hB1
    have HN := Aside0.mk hn
    have H1 := Aside0.mk h1
    clear hh1 hB1 HM hs1
    go_wp2_with fail
    go_loopg [8] (n - 1) (fun kq v8 wr => ∃ p : Nat, v8 = .int .i64 (p : Int) ∧ Aside0 (n - p = kq) ∧ Aside0 (1 ≤ p ∧ p ≤ n) ∧ Aside0 (wr.heap[w.heap.size]? = some (.cells (Repeat_int.zeros n).toArray 3 (0, 0))) ∧ Aside0 (Below w.heap.size w wr))
    case atStart => exact ⟨1, rfl, ⟨rfl⟩, ⟨Nat.le_refl _, h1⟩, hg1, HB1⟩
    case round =>
      clear hg1 HB1
      obtain ⟨p, rfl, HK, HP, HG, HB⟩ := hrel
      have hp1 := HP.out.1
      have hp2 := HP.out.2
      by_cases hlt : p < n
      · have hlt' : decide ((p : Int) < (n : Int)) = true := decide_eq_true (by omega)
        have hcp : Sem.run Try.prog (Builtin.copy_ #[90, 90] 3 #[.slice (some ⟨w.heap.size, p, none⟩) (n - p) (n - p), .slice (some ⟨w.heap.size, 0, none⟩) p n]) wr.drew = _ := Repeat_int.copied wr.drew w.heap.size n p hp2 HG.out (by kernel_rfl)
        have hnp : ¬ (n = p) := by omega
        have hk1 : 1 ≤ Nat.min p (n - p) := by show 1 ≤ min p (n - p); omega
        have hk2 : p + Nat.min p (n - p) ≤ n := by show p + min p (n - p) ≤ n; omega
        generalize Nat.min p (n - p) = k at hcp hk1 hk2
        go_wp2_with fail
        go_region
        all_goals
          go_wp2
          go_roundg (n - (p + k))
          case measure => have := HK.out; omega
          case rel => exact ⟨p + k, by go_num, ⟨rfl⟩, ⟨by omega, by omega⟩, HG, ⟨below_drew HB.out⟩⟩
      · have hlt' : decide ((p : Int) < (n : Int)) = false := decide_eq_false (by omega)
        go_wp2
        go_ret
        exact ⟨_, rfl, Nat.le_refl _, HZ.out ▸ HG.out, HB.out⟩


/-! ### term_Below: function 195 -/
def term_Below.l0 : Nat → List (S214) → Int → List Int → Int → Option (List Int)
  | 0, _, _, _, _ => none
  | k + 1, x0, x1, x5, x6 => if 0 ≤ x1 then (if x1 < (x0.length : Int) then ((term_Arity.f k ((rd_T214 x0 x1).f0)).bind fun t132 => (if (x5.length : Int) < t132 then (if x5.length < 17592186044416 then ((term_End.f k x0 x6).bind fun t136 => (term_Below.l0 k x0 x1 (x5 ++ [x6]) t136)) else (none)) else (some x5))) else (none)) else (none)
def term_Below.f (k : Nat) (l0 : List (S214)) (a1 : Int) : Option (List Int) := (term_End.f k l0 a1).bind fun t130 => (if t130 < 0 then (some ([] : List Int)) else (term_Below.l0 k l0 a1 ([] : List Int) (wrap64 (a1 + 1))))
theorem term_Below.mono_l : ∀ k, (∀ y0 y1 y2 y3, LeO (term_Below.l0 k y0 y1 y2 y3) (term_Below.l0 (k + 1) y0 y1 y2 y3))
  | 0 => fun _ _ _ _ r h => by simp [term_Below.l0] at h
  | k + 1 => by
    have ih0 := term_Below.mono_l k
    · intro y0 y1 y2 y3
      unfold term_Below.l0
      exact mo_
theorem term_Below.mono : ∀ a0 a1 k, LeO (term_Below.f k a0 a1) (term_Below.f (k + 1) a0 a1) := by
  intro a0 a1 k
  have ih0 := term_Below.mono_l k
  unfold term_Below.f
  exact mo_
instance term_Below.lc : ∀ a0 a1 k, LeC (term_Below.f k a0 a1) (term_Below.f (k + 1) a0 a1) := fun a0 a1 k => ⟨term_Below.mono a0 a1 k⟩
set_option maxHeartbeats 8000000 in
set_option maxRecDepth 100000 in
theorem term_Below.calls (k : Nat) (A0 : Option Addr) (c0 : Nat) (l0 : List (S214)) (a1 : Int) (r : List Int) (w : World) (hr0 : Kd.C k214 w A0 l0.length l0) (hc0 : l0.length ≤ c0) (h : term_Below.f k l0 a1 = some r) :
  Calls Try.prog 195 #[.slice A0 l0.length c0, .int .i64 a1] w fun e w' => ∃ v0_ : Value, e = .returned (v0_) ∧ Kd.R (Kd.int .i64) 3 w' w.heap.size (fun _ => True) v0_ r ∧ Below w.heap.size w w' := by
 have HR0 := Aside0.mk hr0
 have HC0 := Aside0.mk hc0
 clear hr0 hc0
 have HB := Aside0.mk (Below.refl w.heap.size w)
 unfold term_Below.f at h
 have H := h
 clear h
 replace H := bi_ H; obtain ⟨t130, A3, H⟩ := H
 replace H := iu_ H; obtain ⟨c4b0, H⟩ | ⟨c4b0, H⟩ := H
 ·obtain rfl := Option.some.inj H
  go_enter Try.func195, Try.ntmps195
  go_wp2_with (first | ((with_reducible refine gate_callee (f := 185) rfl ?_); refine gl_ (some 9) Try.func185 #[.slice A0 l0.length c0, .int .i64 a1] ?_; (with_reducible refine (term_End.calls k _ _ l0 a1 t130 _ (kg_ HR0.out) HC0.out A3.out).mono ?_); rintro e w' ⟨rfl, ⟨nd, rfl⟩⟩; refine ⟨_, rfl, ?_⟩))
  go_ret
  exact ⟨_, rv_, by first | exact Kd.R_nil _ _ _ _ _ | exact Kd.N_nil _ _ _ _ _ | exact Kd.V_nil _ _ _ _ _ | exact Kd.Q_nil _ _ _ _ _ | exact Kd.S_nil _ _ _ _ _, by repeat (first | (with_reducible first | exact HB.out | apply below_alloc | apply pw_below_drewN | apply below_drew1) | exact HB.out)⟩
 have H' := Aside0.mk H
 clear H
 go_enter Try.func195, Try.ntmps195
 go_wp2_with (first | ((with_reducible refine gate_callee (f := 185) rfl ?_); refine gl_ (some 9) Try.func185 #[.slice A0 l0.length c0, .int .i64 a1] ?_; (with_reducible refine (term_End.calls k _ _ l0 a1 t130 _ (kg_ HR0.out) HC0.out A3.out).mono ?_); rintro e w' ⟨rfl, ⟨nd, rfl⟩⟩; refine ⟨_, rfl, ?_⟩))
 go_loopg [5, 6] k (fun kq v5 v6 w' => ∃ (x5_1 : List Int) (x6_1 : Int), v6 = .int .i64 x6_1 ∧ Aside0 (term_Below.l0 kq l0 a1 x5_1 x6_1 = some r) ∧ Aside0 (kq ≤ k) ∧ Aside0 (Kd.R (Kd.int .i64) 3 w' w.heap.size (fun _ => True) v5 x5_1) ∧ Aside0 (Below w.heap.size w w'))
 case atStart => exact ⟨(([] : List Int)), (wrap64 (a1 + 1)), rl_, H', ⟨Nat.le_refl _⟩, ⟨by first | exact Kd.R_nil _ _ _ _ _ | exact Kd.N_nil _ _ _ _ _ | exact Kd.V_nil _ _ _ _ _ | exact Kd.Q_nil _ _ _ _ _ | exact Kd.S_nil _ _ _ _ _⟩, ⟨bw_⟩⟩
 case round =>
  clear H'
  try clear c4b0
  obtain ⟨x5_1, x6_1, rfl, HA, HK1, HO_5, HB⟩ := hrel
  cases gk with
  | zero => exact absurd HA.out (by simp [term_Below.l0])
  | succ k1 =>
   have H := HA.out
   clear HA
   simp only [term_Below.l0] at H
   replace H := ic_ H; obtain ⟨c5, H⟩ | ⟨c5, H⟩ := H
   ·exact absurd H (by simp)

   have c5b0 : decide (0 ≤ a1) = true := decide_eq_true c5
   clear c5
   replace H := is_ H; obtain ⟨c6b0, H⟩ := H
   replace H := bi_ H; obtain ⟨t132, A7, H⟩ := H
   replace H := it_ H; obtain ⟨c8b0, H⟩ | ⟨c8b0, H⟩ := H
   ·obtain rfl := Option.some.inj H
    obtain ⟨Ao13, co13, eo13⟩ := Kd.R_slice HO_5.out
    subst eo13
    obtain ⟨ad131, e131, hx131_0, hx131_1, hx131_2, p131, q131⟩ := au_T214 HR0 HB a1; cases e131
    go_wp2_with (first | ((with_reducible refine gate_callee (f := 193) rfl ?_); refine gl_ (some 20) Try.func193 #[.int .i64 ((rd_T214 l0 a1).f0)] ?_; (with_reducible refine (term_Arity.calls k1 ((rd_T214 l0 a1).f0) t132 _ A7.out).mono ?_); rintro e w' ⟨rfl, ⟨nd, rfl⟩⟩; refine ⟨_, rfl, ?_⟩))
    go_ret
    exact ⟨_, rv_, by (with_reducible repeat (first | apply Kd.R_alloc | apply Kd.R_drewN | apply Kd.R_drew)); exact HO_5.out, by repeat (first | (with_reducible first | exact HB.out | apply below_alloc | apply pw_below_drewN | apply below_drew1) | exact HB.out)⟩
   replace H := ip_ H; obtain ⟨c9, H⟩ := H
   have LMc9 := Aside0.mk c9
   clear c9
   obtain ⟨y133, hy133⟩ : ∃ y_ : List Int, y_ = (x5_1 ++ [x6_1]) := ⟨_, rfl⟩
   replace H : ((term_End.f k1 l0 x6_1).bind fun t136 => (term_Below.l0 k1 l0 a1 y133 t136)) = some r := by first | (rw [hy133]; with_reducible exact H) | (have H2_ := (Option.bind_some _ _).symm.trans H; rw [hy133]; with_reducible exact H2_) | (have H2_ := (Option.bind_some _ _).symm.trans H; with_reducible exact H2_) | with_reducible exact H | (rw [hy133]; exact H) | exact H
   have Ny133 := Aside0.mk hy133
   clear hy133
   replace H := bi_ H; obtain ⟨t136, A10, H⟩ := H
   have H' := Aside0.mk H
   clear H
   obtain ⟨Ao11, co11, eo11⟩ := Kd.R_slice HO_5.out
   subst eo11
   obtain ⟨ad131, e131, hx131_0, hx131_1, hx131_2, p131, q131⟩ := au_T214 HR0 HB a1; cases e131
   go_wp2_with (first | ((with_reducible refine gate_callee (f := 193) rfl ?_); refine gl_ (some 20) Try.func193 #[.int .i64 ((rd_T214 l0 a1).f0)] ?_; (with_reducible refine (term_Arity.calls k1 ((rd_T214 l0 a1).f0) t132 _ A7.out).mono ?_); rintro e w' ⟨rfl, ⟨nd, rfl⟩⟩; refine ⟨_, rfl, ?_⟩) | ((with_reducible refine gate_builtin (b := .append) (xs := #[.tmp 25, .tmp 27]) rfl ?_); at_builtin; refine Kd.R_append (Kd.int .i64) (w0 := w) w.heap.size rfl (.tmp 25) (.tmp 27) 90 3 (.int .i64 0) 8 rfl Try.underlying90 info3 rfl (by decide) (by omega) (.slice Ao11 x5_1.length co11) x5_1 x6_1 [.int .i64 x6_1] (fun _ => True) (fun _ => False) rfl rfl ?aP (fun _ hk => hk.elim) ?aF ?aO ?aB ?aS ?aL ?_; (case aP => exact rfl); (case aB => exact (brw HB.out)); (case aF => exact (fun _ _ => trivial)); (case aO => exact (kR_ HO_5)); (case aS => exact (below_size (brw HB.out))); (case aL => have := LMc9.out; omega); intro v134 w12 ho hb hg hat; rw [← Ny133.out] at ho; have HO135 := Aside0.mk (ho); replace HB := Aside0.mk (hb); clear ho hb hg hat) | ((with_reducible refine gate_callee (f := 185) rfl ?_); refine gl_ (some 24) Try.func185 #[.slice (some ad131) l0.length c0, .int .i64 x6_1] ?_; (with_reducible refine (term_End.calls k1 _ _ l0 x6_1 t136 _ (kc_ HR0 HB) HC0.out A10.out).mono ?_); rintro e w' ⟨rfl, ⟨nd, rfl⟩⟩; refine ⟨_, rfl, ?_⟩))
   go_roundg k1
   case measure => have := HK1.out; omega
   case rel => exact ⟨(y133), (t136), rl_, H', ⟨kn_ HK1⟩, ⟨by (with_reducible repeat (first | apply Kd.R_alloc | apply Kd.R_drewN | apply Kd.R_drew)); exact HO135.out⟩, ⟨bw_⟩⟩
/-! ### term_fold: function 187 -/
-- USES slices.Repeat[[]int,int]
/-- what those below came to -/
def term_fold.vals (come bl : List Int) : Option (List Int) :=
  if bl.length ≤ 100 then (if (bl.all fun x => decide (0 ≤ x) && decide (x < come.length)) = true then some (bl.map (rd come)) else none) else none
def term_fold.go (k : Nat) (mk : Int → List Int → Option Int) (l : List (S214)) : Nat → List Int → Option (List Int)
  | 0, come => some come
  | n + 1, come => (term_Below.f k l (n : Int)).bind fun bl => (term_fold.vals come bl).bind fun vs => (mk (rd_T214 l (n : Int)).f0 vs).bind fun r => term_fold.go k mk l n (come.set n r)
def term_fold.f (k : Nat) (mk : Int → List Int → Option Int) (l : List (S214)) : Option Int :=
  (term_whole.f k l).bind fun b => if b = true then (if 1 ≤ l.length ∧ l.length ≤ 40 then (term_fold.go k mk l l.length (List.replicate l.length 0)).bind fun come => some (rd come 0) else none) else some 0
theorem term_fold.go_mono (k : Nat) (mk mk' : Int → List Int → Option Int) (h : ∀ op vs, LeO (mk op vs) (mk' op vs)) (l : List (S214)) : ∀ n come, LeO (term_fold.go k mk l n come) (term_fold.go (k + 1) mk' l n come)
  | 0, come => LeO.refl _
  | n + 1, come => LeO.bind (term_Below.mono l n k) (fun bl => LeO.bind (LeO.refl _) (fun vs => LeO.bind (h _ _) (fun r => term_fold.go_mono k mk mk' h l n _)))
theorem term_fold.mono (k : Nat) (mk mk' : Int → List Int → Option Int) (h : ∀ op vs, LeO (mk op vs) (mk' op vs)) (l : List (S214)) : LeO (term_fold.f k mk l) (term_fold.f (k + 1) mk' l) := by
  unfold term_fold.f
  refine LeO.bind (term_whole.mono l k) (fun b => LeO.ite (LeO.ite (LeO.bind (term_fold.go_mono k mk mk' h l _ _) (fun _ => LeO.refl _)) (LeO.refl _)) (LeO.refl _))
/-- the numbers that were come to, as they lie -/
def term_fold.At (W : World) (g : Nat) (come : List Int) : Prop := W.heap[g]? = some (.cells (come.map (Value.int .i64)).toArray 3 (0, 0))
theorem term_fold.At.cell {W : World} {g : Nat} {come : List Int} (h : term_fold.At W g come) (i : Int) (h0 : 0 ≤ i) (hi : i < come.length) : W.cell? ⟨g, i.toNat, none⟩ = some (.int .i64 (rd come i)) ∧ W.frozen? ⟨g, i.toNat, none⟩ = false := by
  have h1 : i.toNat < come.length := by omega
  unfold term_fold.At at h
  constructor
  · simp [World.cell?, h, rd, h1]
  · simp [World.frozen?, h]
theorem term_fold.At.set {W : World} {g : Nat} {come : List Int} (h : term_fold.At W g come) (i : Nat) (r : Int) : term_fold.At (W.setCell ⟨g, i, none⟩ (.int .i64 r)) g (come.set i r) := by
  unfold term_fold.At at h ⊢
  rw [List.map_set, ← List.setIfInBounds_toArray]
  exact blk_set h i _
theorem term_fold.At.below {W W1 : World} {g : Nat} {come : List Int} (h : term_fold.At W g come) {B : Nat} (hb : Below B W W1) (hg : g < B) : term_fold.At W1 g come := (hb.block g hg).trans h
set_option maxHeartbeats 4000000 in
set_option maxRecDepth 100000 in
theorem term_fold.calls (k : Nat) (mk : Int → List Int → Option Int) (g : Nat) (eg : ∀ args w, (callFunc g args).run Try.prog w = .ok (.enter g args) w)
    (hmk : ∀ (W : World) (base : Nat) (op : Int) (v : Value) (vs : List Int) (r : Int), base ≤ W.heap.size → vs.length ≤ 100 → Kd.R (Kd.int .i64) 3 W base (fun _ => True) v vs → mk op vs = some r → Calls Try.prog g #[.int .i64 op, v] W fun e w' => e = .returned (.int .i64 r) ∧ W.grownBy w' v.ownBlock)
    (A0 : Option Addr) (c0 : Nat) (l0 : List (S214)) (r : Int) (w : World) (hr0 : Kd.C k214 w A0 l0.length l0) (hc0 : l0.length ≤ c0) (h : term_fold.f k mk l0 = some r) :
    Calls Try.prog 187 #[.slice A0 l0.length c0, .func (.func g) #[] #[]] w fun e w' => e = .returned (.int .i64 r) ∧ Below w.heap.size w w' := by
  unfold term_fold.f at h
  cases hw : term_whole.f k l0 with
  | none => rw [hw] at h; cases h
  | some b =>
    rw [hw, Option.bind_some] at h
    have HW := Aside0.mk hw
    have HR := Aside0.mk hr0
    have HMK := Aside0.mk hmk
    clear hw hr0 hmk
    cases b with
    | false =>
      have H := Option.some.inj h
      subst H
      clear h
      go_enter Try.func187, Try.ntmps187
      go_wp2_with (go_at_call 175; refine (term_whole.calls k A0 c0 l0 false _ HR.out hc0 HW.out).mono ?_; rintro e w' ⟨rfl, hd⟩)
      go_ret
      exact ⟨rfl, hd.below⟩
    | true =>
      rw [if_pos rfl] at h
      by_cases hl : 1 ≤ l0.length ∧ l0.length ≤ 40
      · rw [if_pos hl] at h
        obtain ⟨hl1, hl2⟩ := hl
        cases hgo : term_fold.go k mk l0 l0.length (List.replicate l0.length 0) with
        | none => rw [hgo] at h; cases h
        | some come =>
          rw [hgo, Option.bind_some] at h
          have H := Option.some.inj h
          have HGO := Aside0.mk hgo
          have HH := Aside0.mk H
          clear h H hgo
          go_enter Try.func187, Try.ntmps187
          go_wp2_with (go_at_call 175; refine (term_whole.calls k A0 c0 l0 true _ HR.out hc0 HW.out).mono ?_; rintro e w' ⟨rfl, ⟨m, rfl⟩⟩)
          refine (Repeat_int.calls ⟨w.heap.size, 0, none⟩ 1 l0.length _ hl1 hl2 ?rc).mono ?_
          case rc => exact cell_of_one (heap_alloc_new _ _)
          rintro e w1 ⟨g0, rfl, hg1, hg2, hb1⟩
          have hsz : w.heap.size ≤ g0 := Nat.le_trans (show w.heap.size ≤ ((w.drewN m).alloc _).heap.size by rw [World.size_alloc]; exact Nat.le_succ _) hg1
          have hAt : term_fold.At w1 g0 (List.replicate l0.length 0) := by
            unfold term_fold.At
            rw [hg2]; simp [Repeat_int.zeros]
          have hB : Below w.heap.size w w1 := ((pw_below_drewN (Below.refl _ _) m).alloc (Nat.le_refl _) _).trans (hb1.mono (show w.heap.size ≤ ((w.drewN m).alloc _).heap.size by rw [World.size_alloc]; exact Nat.le_succ _))
          have HA := Aside0.mk hAt
          have HB := Aside0.mk hB
          clear hAt hB hb1 hg2
          go_wp2_with fail
          have HSZ := Aside0.mk hsz
          have hg1' : g0 < w1.heap.size := lt_of_block HA.out
          clear hsz hg1 hg1'
          go_loopg [6] l0.length (fun kq v6 wr => ∃ (n : Nat) (cm : List Int), Aside0 (kq = n) ∧ Aside0 (n ≤ l0.length) ∧ Aside0 (cm.length = l0.length) ∧ v6 = .int .i64 ((n : Int) - 1) ∧ Aside0 (term_fold.go k mk l0 n cm = some come) ∧ Aside0 (term_fold.At wr g0 cm) ∧ Aside0 (Below w.heap.size w wr))
          case atStart => exact ⟨l0.length, _, ⟨rfl⟩, ⟨Nat.le_refl _⟩, ⟨List.length_replicate⟩, rfl, HGO, HA, HB⟩
          case round =>
            clear HGO HA HB
            obtain ⟨n, cm, HK, HN, HC, rfl, HGO, HA, HB⟩ := hrel
            have hC := Kd.C_below HR.out HB.out
            cases n with
            | zero =>
              have hlt : decide ((0 : Int) ≤ ((0 : Nat) : Int) - 1) = false := decide_eq_false (by omega)
              have hcm : cm = come := by have := HGO.out; simp only [term_fold.go] at this; exact Option.some.inj this
              subst hcm
              obtain ⟨hc0', -⟩ := HA.out.cell 0 (Int.le_refl _) (by have := HC.out; omega)
              rw [HH.out] at hc0'
              have hlpos : (0 : Int) < (l0.length : Int) := by omega
              have hlpos' : 0 < l0.length := by omega
              clear hC
              have hc1 : wr.cell? ⟨g0, 0, none⟩ = some (.int .i64 r) := hc0'
              clear hc0'
              go_wp2
              go_ret
              exact ⟨rfl, HB.out⟩
            | succ n =>
              have hnl : n < l0.length := by have := HN.out; omega
              have hi1 : ((n + 1 : Nat) : Int) - 1 = (n : Int) := by omega
              rw [hi1]
              clear hi1
              have hlt : decide ((0 : Int) ≤ (n : Int)) = true := decide_eq_true (by omega)
              have hgo := HGO.out
              simp only [term_fold.go] at hgo
              obtain ⟨bl, hbl, hgo⟩ := Option.bind_eq_some_iff.mp hgo
              obtain ⟨vs, hvs, hgo⟩ := Option.bind_eq_some_iff.mp hgo
              obtain ⟨x, hx, hgo⟩ := Option.bind_eq_some_iff.mp hgo
              have HBL := Aside0.mk hbl
              have HVS := Aside0.mk hvs
              have HX := Aside0.mk hx
              have HGO2 := Aside0.mk hgo
              have HCC := Aside0.mk hC
              clear hbl hvs hx hgo HGO hC
              go_wp2_with (go_at_call 195; refine (term_Below.calls k A0 c0 l0 (n : Int) bl _ HCC.out hc0 HBL.out).mono ?_; rintro e w2 ⟨vb, rfl, hrow, hb2⟩; obtain ⟨Ab, cb, rfl, hlb, hCb⟩ := Kd.R_reads hrow; have HRW := Aside0.mk hCb; have HB2 := Aside0.mk hb2; clear hrow hb2 hCb)
              have hg0 : g0 < wr.heap.size := lt_of_block HA.out
              have HA2 := Aside0.mk (HA.out.below HB2.out hg0)
              have hvals := HVS.out
              unfold term_fold.vals at hvals
              split at hvals
              case isFalse => cases hvals
              case isTrue hbl100 =>
              split at hvals
              case isFalse => cases hvals
              case isTrue hall =>
              have hvs := Option.some.inj hvals
              have HVV := Aside0.mk hvs
              have HALL := Aside0.mk (List.all_eq_true.1 hall)
              clear hvals hall hvs hlb
              go_loopg [7, 28] bl.length (fun kq v7' v28 wi' => ∃ (v7 : Value) (wi : World) (j : Nat) (xs : List Int), v7 = v7' ∧ wi = wi' ∧ Aside0 (bl.length - j = kq) ∧ Aside0 (j ≤ bl.length) ∧ v28 = .int .i64 (j : Int) ∧ Aside0 (xs = (bl.take j).map (rd cm)) ∧ Aside0 (Kd.R (Kd.int .i64) 3 wi w2.heap.size (fun _ => True) v7 xs) ∧ Aside0 (Below w2.heap.size w2 wi))
              case atStart => exact ⟨_, _, 0, [], rfl, rfl, ⟨rfl⟩, ⟨Nat.zero_le _⟩, rfl, ⟨by simp⟩, ⟨Kd.R_nil _ _ _ _ _⟩, ⟨Below.refl _ _⟩⟩
              case round =>
                obtain ⟨v7, wi, j, xs, rfl, rfl, HJ, HJL, rfl, HXS, HO, HBI⟩ := hrel
                by_cases hj : j < bl.length
                · have hlt2 : decide ((j : Int) < (bl.length : Int)) = true := decide_eq_true (by omega)
                  have hCb := Kd.C_below HRW.out HBI.out
                  obtain ⟨adb, e1, hx0⟩ := Kd.at_int hCb (j : Int) (by omega) (by omega)
                  subst e1
                  rw [Int.toNat_natCast] at hx0
                  have hmem : rd bl (j : Int) ∈ bl := by simp only [rd, Int.toNat_natCast, List.getD, List.getElem?_eq_getElem hj, Option.getD_some]; exact List.getElem_mem hj
                  have hin := HALL.out _ hmem
                  simp only [Bool.and_eq_true, decide_eq_true_eq] at hin
                  obtain ⟨hin1, hin2⟩ := hin
                  have hin3 : rd bl (j : Int) < (l0.length : Int) := by have := HC.out; omega
                  obtain ⟨hcc, -⟩ := (HA2.out.below HBI.out (Nat.lt_of_lt_of_le hg0 HB2.out.size)).cell (rd bl (j : Int)) hin1 hin2
                  have hxs : xs ++ [rd cm (rd bl (j : Int))] = (bl.take (j + 1)).map (rd cm) := by
                    rw [HXS.out, List.take_succ_eq_append_getElem hj, List.map_append]
                    simp [rd, hj]
                  have HXS2 := Aside0.mk hxs
                  have hxl : xs.length ≤ 100 := by rw [HXS.out]; simp; omega
                  generalize rd bl (j : Int) = q at *
                  clear hmem hCb hxs
                  obtain ⟨A7, c7, e7⟩ := Kd.R_slice HO.out
                  subst e7
                  have hbi := HBI.out.size
                  go_wp2_with ((with_reducible refine gate_builtin (b := .append) (xs := #[.tmp 32, .tmp 37]) rfl ?_); at_builtin; refine Kd.R_append (Kd.int .i64) (w0 := w2) w2.heap.size rfl (.tmp 32) (.tmp 37) 90 3 (.int .i64 0) 8 rfl Try.underlying90 info3 rfl (by decide) (by omega) (.slice A7 xs.length c7) xs (rd cm q) [.int .i64 (rd cm q)] (fun _ => True) (fun _ => False) rfl rfl ?aP (fun _ hk => hk.elim) ?aF ?aO ?aB ?aS ?aL ?aK)
                  case aP => exact rfl
                  case aF => exact fun _ _ => trivial
                  case aO => exact HO.out
                  case aB => exact HBI.out
                  case aS => exact hbi
                  case aL => omega
                  case aK =>
                    intro v1 w3 ho hb hg hat
                    rw [HXS2.out] at ho
                    have HO3 := Aside0.mk ho
                    have HB3 := Aside0.mk hb
                    clear ho hb hg hat
                    go_wp2
                    go_roundg (bl.length - (j + 1))
                    case measure => have := HJ.out; omega
                    case rel => exact ⟨_, _, j + 1, _, rfl, rfl, ⟨rfl⟩, ⟨hj⟩, by go_num, ⟨rfl⟩, HO3, HB3⟩
                · have hlt2 : decide ((j : Int) < (bl.length : Int)) = false := decide_eq_false (by omega)
                  have hxs : xs = vs := by
                    rw [HXS.out, ← HVV.out, List.take_of_length_le (by omega)]
                  subst hxs
                  have hx100 : xs.length ≤ 100 := by rw [HXS.out]; simp; omega
                  have hCl := Kd.C_below HCC.out (HB2.out.trans (HBI.out.mono HB2.out.size))
                  obtain ⟨adl, el, hy0, hy1, hy2⟩ := at_T214 hCl (n : Int) (by omega) (by omega)
                  subst el
                  rw [Int.toNat_natCast] at hy0 hy1 hy2
                  have HAI := Aside0.mk (HA2.out.below HBI.out (Nat.lt_of_lt_of_le hg0 HB2.out.size))
                  have HMC := Aside0.mk (HMK.out wi w2.heap.size (rd_T214 l0 (n : Int)).f0 v7 xs x HBI.out.size hx100 HO.out HX.out)
                  generalize (rd_T214 l0 (n : Int)).f0 = opn at *
                  clear hCl hy1 hy2
                  have hnc : (n : Int) < (l0.length : Int) := by omega
                  go_wp2_with fail
                  refine HMC.out.mono ?_
                  rintro e w3 ⟨rfl, hgr⟩
                  have hne : some g0 ≠ v7.ownBlock := by
                    intro e
                    have h1 := (Kd.R_own HO.out).elim (fun inner ho => ho.lt g0 e.symm)
                    have h2 := HB2.out.size
                    omega
                  have hA3 : term_fold.At w3 g0 cm := (hgr.block g0 (lt_of_block HAI.out) hne).trans HAI.out
                  obtain ⟨hs1, hs2⟩ := hA3.cell (n : Int) (by omega) (by have := HC.out; omega)
                  rw [Int.toNat_natCast] at hs1 hs2
                  have hB3 : Below w.heap.size w w3 := by
                    have h2 : Below w2.heap.size w2 w3 := HBI.out.grown hgr HBI.out.size (fun k hk => (Kd.R_own HO.out).elim (fun inner ho => (ho.lt k hk).1))
                    exact (HB.out.trans (HB2.out.mono HB.out.size)).trans (h2.mono (Nat.le_trans HB.out.size HB2.out.size))
                  have HA3 := Aside0.mk hA3
                  have HB3 := Aside0.mk hB3
                  clear hA3 hB3 hgr hne
                  go_wp2
                  go_roundg n
                  case measure => have := HK.out; omega
                  case rel => exact ⟨n, cm.set n x, ⟨rfl⟩, ⟨by omega⟩, ⟨by rw [List.length_set]; exact HC.out⟩, rfl, HGO2, ⟨HA3.out.set n x⟩, ⟨HB3.out.setCell (p := ⟨g0, n, none⟩) HSZ.out _⟩⟩
      · rw [if_neg hl] at h; cases h


/-! ### slices_Max_int_int: function 189 -/
/-- the greatest of some whole numbers; none: there are none -/
def Max_int.f : List Int → Option Int
  | [] => none
  | x :: l => some (l.foldl (fun a b => if a < b then b else a) x)
theorem Max_int.take (x : Int) (l : List Int) (n : Nat) (hn : n < l.length) : (l.take (n + 1)).foldl (fun a b => if a < b then b else a) x = (if (l.take n).foldl (fun a b => if a < b then b else a) x < l[n] then l[n] else (l.take n).foldl (fun a b => if a < b then b else a) x) := by
  rw [List.take_succ_eq_append_getElem hn, List.foldl_append]
  rfl
set_option maxHeartbeats 2000000 in
set_option maxRecDepth 100000 in
theorem Max_int.calls (A0 : Option Addr) (c0 : Nat) (l0 : List Int) (r : Int) (w : World) (hr0 : Kd.C (Kd.int .i64) w A0 l0.length l0) (hc0 : l0.length ≤ c0) (h : Max_int.f l0 = some r) :
    Calls Try.prog 189 #[.slice A0 l0.length c0] w fun e w' => e = .returned (.int .i64 r) ∧ Drawn0 w w' := by
  cases l0 with
  | nil => cases h
  | cons x l =>
    have H := Option.some.inj h
    have HH := Aside0.mk H
    have hbig := hr0.2.1
    have HR := Aside0.mk hr0
    obtain ⟨ad, e1, hx0⟩ := Kd.at_int hr0 0 (Int.le_refl _) (by simp)
    subst e1
    have hx0' : w.cell? (ad.add (0 : Int).toNat) = some (.int .i64 x) := hx0
    clear h H hr0 hx0
    generalize hn : (x :: l).length = n at *
    have hn0 : 0 < n := by rw [← hn]; simp
    have HN := Aside0.mk hn
    clear hn
    have g1 : decide ((n : Int) < 1) = false := decide_eq_false (by omega)
    have g2 : decide (n < 1) = false := decide_eq_false (by omega)
    have g3 : (0 : Int) < (n : Int) := by omega
    have hx1 : w.cell? ad = some (.int .i64 x) := by rw [← Addr.add_zero' ad]; exact hx0'
    clear hx0'
    go_enter Try.func189, Try.ntmps189
    go_wp2
    go_loopg [3, 4] (n - 1) (fun kq v3 v4 wr => ∃ j : Nat, Aside0 (n - (j + 1) = kq) ∧ Aside0 (j + 1 ≤ n) ∧ v4 = .int .i64 ((j : Int) + 1) ∧ v3 = .int .i64 ((l.take j).foldl (fun a b => if a < b then b else a) x) ∧ Drawn0 w wr)
    case atStart => exact ⟨0, ⟨rfl⟩, ⟨hn0⟩, rfl, rfl, Drawn0.refl _⟩
    case round =>
      obtain ⟨j, HJ, HJL, rfl, rfl, ⟨m, rfl⟩⟩ := hrel
      by_cases hj : j + 1 < n
      · have g4 : decide (((j : Int) + 1) < (n : Int)) = true := decide_eq_true (by omega)
        have g5 : ((j : Int) + 1) < (n : Int) := by omega
        have hjl : j < l.length := by have := HN.out; simp at this; omega
        obtain ⟨ad2, e2, hx2⟩ := Kd.at_int HR.out ((j : Int) + 1) (by omega) g5
        cases e2
        have hv : rd (x :: l) ((j : Int) + 1) = l[j] := by simp [rd, show ((j : Int) + 1).toNat = j + 1 by omega, hjl]
        rw [hv, show ((j : Int) + 1).toNat = j + 1 by omega, Addr.add_succ'] at hx2
        have ht := Max_int.take x l j hjl
        generalize l[j] = y at hx2 ht
        generalize hfo : (l.take j).foldl (fun a b => if a < b then b else a) x = f0 at *
        have HT := Aside0.mk ht
        clear ht hfo hv
        by_cases hfy : f0 < y
        all_goals
          go_wp2
          go_roundg (n - (j + 1 + 1))
          case measure => have := HJ.out; omega
          case rel => exact ⟨j + 1, ⟨rfl⟩, ⟨hj⟩, by go_num, (by rw [HT.out]; first | rw [if_pos hfy] | rw [if_neg (by omega)]), ⟨⟨m, rfl⟩⟩⟩
      · have g4 : decide (((j : Int) + 1) < (n : Int)) = false := decide_eq_false (by omega)
        have hjl : j = l.length := by have := HN.out; have := HJL.out; simp at *; omega
        subst hjl
        have HH2 := HH.out
        rw [List.take_length]
        rw [HH2]
        go_wp2
        go_ret
        exact ⟨rfl, ⟨⟨m, rfl⟩⟩⟩


/-! ### term_Depth: function 179 -/
-- USES semblance/term.fold
-- USES slices.Max[[]int,int]
/-- a term's depth, of the depths of those below -/
def term_Depth.mk (k : Nat) (op : Int) (vs : List Int) : Option Int := (Max_int.f (vs ++ [0])).bind fun m => some (wrap64 (1 + m))
def term_Depth.f (k : Nat) (l0 : List (S214)) : Option Int := term_fold.f k (term_Depth.mk k) l0
theorem term_Depth.mono : ∀ a0 k, LeO (term_Depth.f k a0) (term_Depth.f (k + 1) a0) := fun a0 k =>
  term_fold.mono k _ _ (fun op vs => LeO.refl _) a0
instance term_Depth.lc : ∀ a0 k, LeC (term_Depth.f k a0) (term_Depth.f (k + 1) a0) := fun a0 k => ⟨term_Depth.mono a0 k⟩
set_option maxHeartbeats 2000000 in
set_option maxRecDepth 100000 in
theorem term_Depth.lit (k : Nat) (W : World) (base : Nat) (op : Int) (v : Value) (vs : List Int) (r : Int) (hb : base ≤ W.heap.size) (hn : vs.length ≤ 100) (hr : Kd.R (Kd.int .i64) 3 W base (fun _ => True) v vs) (h : term_Depth.mk k op vs = some r) :
    Calls Try.prog 188 #[.int .i64 op, v] W fun e w' => e = .returned (.int .i64 r) ∧ W.grownBy w' v.ownBlock := by
  unfold term_Depth.mk at h
  obtain ⟨m, hm, h⟩ := Option.bind_eq_some_iff.mp h
  have H := Option.some.inj h
  subst H
  generalize hys : vs ++ [0] = ys at hm
  have HY := Aside0.mk hys
  have HM := Aside0.mk hm
  have HR := Aside0.mk hr
  obtain ⟨A1, c1, e1⟩ := Kd.R_slice hr
  subst e1
  clear h hm hr hys
  go_enter Try.func188, Try.ntmps188
  go_wp2_with ((with_reducible refine gate_builtin (b := .append) (xs := #[.tmp 5, .tmp 6]) rfl ?_); at_builtin; refine Kd.R_append (Kd.int .i64) (w0 := W) base rfl (.tmp 5) (.tmp 6) 90 3 (.int .i64 0) 8 rfl Try.underlying90 info3 rfl (by decide) (by omega) (.slice A1 vs.length c1) vs 0 [.int .i64 0] (fun _ => True) (fun _ => False) rfl rfl ?aP (fun _ hk => hk.elim) ?aF ?aO ?aB ?aS ?aL ?aK)
  case aP => exact rfl
  case aF => exact fun _ _ => trivial
  case aO => exact HR.out
  case aB => exact Below.refl _ _
  case aS => exact hb
  case aL => omega
  case aK =>
    intro v1 w1 ho _ hg _
    rw [HY.out] at ho
    obtain ⟨A2, c2, rfl, hl2, hC2⟩ := Kd.R_reads ho
    have HC2 := Aside0.mk hC2
    have HG := Aside0.mk hg
    clear ho hC2 hg
    go_wp2_with fail
    refine (Max_int.calls A2 c2 ys m _ HC2.out hl2 HM.out).mono ?_
    rintro e w' ⟨rfl, ⟨nd, rfl⟩⟩
    go_wp2
    go_ret
    exact ⟨rfl, ⟨HG.out.os, HG.out.tape, HG.out.output, HG.out.size, HG.out.block⟩⟩
set_option maxHeartbeats 2000000 in
theorem term_Depth.calls (k : Nat) (A0 : Option Addr) (c0 : Nat) (l0 : List (S214)) (r : Int) (w : World) (hr0 : Kd.C k214 w A0 l0.length l0) (hc0 : l0.length ≤ c0) (h : term_Depth.f k l0 = some r) :
    Calls Try.prog 179 #[.slice A0 l0.length c0] w fun e w' => e = .returned (.int .i64 r) ∧ Below w.heap.size w w' := by
  have HC := Aside0.mk (term_fold.calls k (term_Depth.mk k) 188 (Go.Proofs.enters_of Try.func188 (by kernel_rfl) rfl) (fun W base op v vs r hb hn hr h => term_Depth.lit k W base op v vs r hb hn hr h) A0 c0 l0 r w hr0 hc0 h)
  clear hr0 h
  go_enter Try.func179, Try.ntmps179
  go_wp2_with fail
  refine HC.out.mono ?_
  rintro e w' ⟨rfl, hb⟩
  go_wp2
  go_ret
  exact ⟨rfl, hb⟩


/-! ### term_Check: function 168 -/
-- USES slices.ContainsFunc[[]semblance/api.Term,semblance/api.Term]
-- USES semblance/term.Depth
def term_Check.f (k : Nat) (l0 : List (S214)) : Option Int :=
  if 40 < l0.length then some 8 else (term_whole.f k l0).bind fun b => if b = true then ((l0.mapM fun x => term_may.f k x.f0 x.f1 x.f2).bind fun bs => if (bs.any fun b => !b) = true then some 1 else (term_Depth.f k l0).bind fun d => if 12 < d then some 6 else some 0) else some 1
theorem term_Check.mono : ∀ a0 k, LeO (term_Check.f k a0) (term_Check.f (k + 1) a0) := by
  intro l k
  unfold term_Check.f
  refine LeO.ite (LeO.refl _) (LeO.bind (term_whole.mono l k) (fun b => LeO.ite (LeO.bind ?_ (fun bs => LeO.ite (LeO.refl _) (LeO.bind (term_Depth.mono l k) (fun d => LeO.refl _)))) (LeO.refl _)))
  intro bs hbs
  exact Go.Proofs.Ytbkaiojofgmbnaa.XFind.mapM_le (fun x r hx => term_may.mono _ _ _ k r hx) hbs
instance term_Check.lc : ∀ a0 k, LeC (term_Check.f k a0) (term_Check.f (k + 1) a0) := fun a0 k => ⟨term_Check.mono a0 k⟩
set_option maxHeartbeats 2000000 in
theorem term_Check.lit (k : Nat) (x : S214) (b : Bool) (W : World) (h : term_may.f k x.f0 x.f1 x.f2 = some b) :
    Calls Try.prog 177 #[.agg #[.int .i64 x.f0, .int .i64 x.f1, .string x.f2]] W fun e w' => e = .returned (.bool (!b)) ∧ Below W.heap.size W w' := by
  have H := Aside0.mk h
  clear h
  have hu := Try.underlying214
  go_enter Try.func177, Try.ntmps177
  go_wp2_with fail
  refine (term_may.calls k x.f0 x.f1 x.f2 b _ H.out).mono ?_
  rintro e w' ⟨rfl, hb⟩
  go_wp2
  go_ret
  exact ⟨rfl, ((Below.refl _ _).alloc (Nat.le_refl _) _).trans (hb.mono (by rw [World.size_alloc]; exact Nat.le_succ _))⟩
set_option maxHeartbeats 2000000 in
theorem term_Check.calls (k : Nat) (A0 : Option Addr) (c0 : Nat) (l0 : List (S214)) (r : Int) (w : World) (hr0 : Kd.C k214 w A0 l0.length l0) (hc0 : l0.length ≤ c0) (h : term_Check.f k l0 = some r) :
    Calls Try.prog 168 #[.slice A0 l0.length c0] w fun e w' => e = .returned (.int .i64 r) ∧ Below w.heap.size w w' := by
  unfold term_Check.f at h
  by_cases h40 : 40 < l0.length
  · rw [if_pos h40] at h
    have H := Option.some.inj h
    subst H
    have c1 : decide (40 < l0.length) = true := decide_eq_true h40
    have c2 : decide ((40 : Int) < (l0.length : Int)) = true := decide_eq_true (by omega)
    clear h hr0
    go_enter Try.func168, Try.ntmps168
    go_wp2_with fail
    go_ret
    exact ⟨rfl, Below.refl _ _⟩
  · rw [if_neg h40] at h
    have c1 : decide (40 < l0.length) = false := decide_eq_false h40
    have c2 : decide ((40 : Int) < (l0.length : Int)) = false := decide_eq_false (by omega)
    obtain ⟨b, hw, h⟩ := Option.bind_eq_some_iff.mp h
    have HW := Aside0.mk hw
    have HR := Aside0.mk hr0
    clear hw hr0
    cases b with
    | false =>
      have H := Option.some.inj h
      subst H
      clear h
      go_enter Try.func168, Try.ntmps168
      go_wp2_with (go_at_call 175; refine (term_whole.calls k A0 c0 l0 false _ HR.out hc0 HW.out).mono ?_; rintro e w' ⟨rfl, hd⟩)
      go_ret
      exact ⟨rfl, hd.below⟩
    | true =>
      rw [if_pos rfl] at h
      obtain ⟨bs, hbs, h⟩ := Option.bind_eq_some_iff.mp h
      obtain ⟨_, hall, hany⟩ := Go.Proofs.Ytbkaiojofgmbnaa.XFind.mapM_some hbs
      rw [hany (fun b => !b) true] at h
      have eg := Go.Proofs.enters_of Try.func177 (by kernel_rfl) rfl
      have hcont := fun W (hW : Below w.heap.size w W) => ContainsFunc_Term.calls (fun x => !((term_may.f k x.f0 x.f1 x.f2).getD true)) 177 #[] eg A0 c0 l0 W (Kd.C_below HR.out hW)
        (fun W2 h2 x hx => by
          obtain ⟨b, hb⟩ := hall x hx
          rw [hb]
          exact (term_Check.lit k x b W2 hb).mono fun e w' ⟨he, hw⟩ => ⟨he, h2.trans (hw.mono h2.size)⟩)
      generalize (l0.any fun x => !((term_may.f k x.f0 x.f1 x.f2).getD true)) = q at h hcont
      have HCO := Aside0.mk hcont
      clear hcont hbs hall hany
      cases q with
      | true =>
        have H := Option.some.inj h
        subst H
        clear h
        go_enter Try.func168, Try.ntmps168
        go_wp2_with (go_at_call 175; refine (term_whole.calls k A0 c0 l0 true _ HR.out hc0 HW.out).mono ?_; rintro e w' ⟨rfl, ⟨m, rfl⟩⟩)
        refine (HCO.out _ (pw_below_drewN (Below.refl _ _) m)).mono ?_
        rintro e w' ⟨rfl, hb⟩
        go_wp2
        go_ret
        exact ⟨rfl, (pw_below_drewN (Below.refl _ _) m).trans hb⟩
      | false =>
        rw [if_neg (by simp)] at h
        obtain ⟨d, hd, h⟩ := Option.bind_eq_some_iff.mp h
        have HD := Aside0.mk hd
        clear hd
        by_cases h12 : 12 < d
        · rw [if_pos h12] at h
          have H := Option.some.inj h
          subst H
          have d1 : decide (12 < d) = true := decide_eq_true h12
          clear h
          go_enter Try.func168, Try.ntmps168
          go_wp2_with (go_at_call 175; refine (term_whole.calls k A0 c0 l0 true _ HR.out hc0 HW.out).mono ?_; rintro e w' ⟨rfl, ⟨m, rfl⟩⟩)
          refine (HCO.out _ (pw_below_drewN (Below.refl _ _) m)).mono ?_
          rintro e w1 ⟨rfl, hb⟩
          have hb1 := (pw_below_drewN (Below.refl _ _) m).trans hb
          go_wp2_with (go_at_call 179; refine (term_Depth.calls k A0 c0 l0 d _ (Kd.C_below HR.out hb1) hc0 HD.out).mono ?_; rintro e w2 ⟨rfl, hb2⟩)
          go_ret
          exact ⟨rfl, hb1.trans (hb2.mono hb1.size)⟩
        · rw [if_neg h12] at h
          have H := Option.some.inj h
          subst H
          have d1 : decide (12 < d) = false := decide_eq_false h12
          clear h
          go_enter Try.func168, Try.ntmps168
          go_wp2_with (go_at_call 175; refine (term_whole.calls k A0 c0 l0 true _ HR.out hc0 HW.out).mono ?_; rintro e w' ⟨rfl, ⟨m, rfl⟩⟩)
          refine (HCO.out _ (pw_below_drewN (Below.refl _ _) m)).mono ?_
          rintro e w1 ⟨rfl, hb⟩
          have hb1 := (pw_below_drewN (Below.refl _ _) m).trans hb
          go_wp2_with (go_at_call 179; refine (term_Depth.calls k A0 c0 l0 d _ (Kd.C_below HR.out hb1) hc0 HD.out).mono ?_; rintro e w2 ⟨rfl, hb2⟩)
          go_ret
          exact ⟨rfl, hb1.trans (hb2.mono hb1.size)⟩


end Go.Proofs.Ytbkaiojofgmbnaa.XL
