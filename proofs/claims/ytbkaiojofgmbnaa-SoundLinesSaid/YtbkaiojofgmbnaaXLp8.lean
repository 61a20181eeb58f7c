-- written by wip/xprint.py out of the translation
import Derived.Test.YtbkaiojofgmbnaaXShort
import Derived.Test.YtbkaiojofgmbnaaXLp0
import Derived.Test.YtbkaiojofgmbnaaXLp2
import Derived.Test.YtbkaiojofgmbnaaXLp5
import Derived.Test.YtbkaiojofgmbnaaXLp7
namespace Go.Proofs.Ytbkaiojofgmbnaa.XL
open Go.Proofs.Ytbkaiojofgmbnaa.XShort Go.Proofs.Ytbkaiojofgmbnaa.XReg Go.Proofs.Ytbkaiojofgmbnaa.XGrow Go.RowKit Go.Proofs.YtbkaiojofgmbnaaW.PrintWords Go.Proofs.YtbkaiojofgmbnaaW.PrintLast Go.Proofs.YtbkaiojofgmbnaaW.PrintMore
attribute [local go_sem] max2_int min2_int max_two min_two max_three min_three max_four min_four   -- for this text's walks alone
set_option linter.unusedVariables false
set_option linter.unusedSimpArgs false

/-! ### sound_Of: function 65 -/
def sound_Of.l0 : Nat → List (S64) → Int → ByteArray → List ByteArray → List (S152) → List (S108) → Option ((List (S64)) × Int)
  | 0, _, _, _, _, _, _ => none
  | k + 1, x5, x6, x181000, x181001, x181002, x181003 => if x6 < 11 then ((rules_Broken.f k x181000 x181001 x181002 x181003 x6).bind fun t182 => (if x5.length + t182.length < 5864062014805 then (sound_Of.l0 k (x5 ++ t182) (wrap64 (x6 + 1)) x181000 x181001 x181002 x181003) else (none))) else (some (x5, 0))
def sound_Of.f (k : Nat) (a0_0 : ByteArray) (l0_1 : List ByteArray) (l0_2 : List (S152)) (l0_3 : List (S108)) : Option ((List (S64)) × Int) := (print_Check.f k a0_0 l0_1 l0_2 l0_3).bind fun t181 => (if t181 = 0 then (sound_Of.l0 k ([] : List (S64)) 1 a0_0 l0_1 l0_2 l0_3) else (some (([] : List (S64)), t181)))
theorem sound_Of.mono_l : ∀ k, (∀ y0 y1 y2 y3 y4 y5, LeO (sound_Of.l0 k y0 y1 y2 y3 y4 y5) (sound_Of.l0 (k + 1) y0 y1 y2 y3 y4 y5))
  | 0 => fun _ _ _ _ _ _ r h => by simp [sound_Of.l0] at h
  | k + 1 => by
    have ih0 := sound_Of.mono_l k
    · intro y0 y1 y2 y3 y4 y5
      unfold sound_Of.l0
      exact mo_
theorem sound_Of.mono : ∀ a0 a1 a2 a3 k, LeO (sound_Of.f k a0 a1 a2 a3) (sound_Of.f (k + 1) a0 a1 a2 a3) := by
  intro a0 a1 a2 a3 k
  have ih0 := sound_Of.mono_l k
  unfold sound_Of.f
  exact mo_
instance sound_Of.lc : ∀ a0 a1 a2 a3 k, LeC (sound_Of.f k a0 a1 a2 a3) (sound_Of.f (k + 1) a0 a1 a2 a3) := fun a0 a1 a2 a3 k => ⟨sound_Of.mono a0 a1 a2 a3 k⟩
set_option maxHeartbeats 8000000 in
set_option maxRecDepth 100000 in
theorem sound_Of.calls (k : Nat) (a0_0 : ByteArray) (A0_1 : Option Addr) (c0_1 : Nat) (l0_1 : List ByteArray) (A0_2 : Option Addr) (c0_2 : Nat) (l0_2 : List (S152)) (A0_3 : Option Addr) (c0_3 : Nat) (l0_3 : List (S108)) (r1 : List (S64)) (r2 : Int) (w : World) (hr0_1 : Kd.C Kd.string w A0_1 l0_1.length l0_1) (hc0_1 : l0_1.length ≤ c0_1) (hr0_2 : Kd.C k152 w A0_2 l0_2.length l0_2) (hc0_2 : l0_2.length ≤ c0_2) (hr0_3 : Kd.C k108 w A0_3 l0_3.length l0_3) (hc0_3 : l0_3.length ≤ c0_3) (h : sound_Of.f k a0_0 l0_1 l0_2 l0_3 = some (r1, r2)) :
  Calls Try.prog 65 #[.agg #[.string a0_0, .slice A0_1 l0_1.length c0_1, .slice A0_2 l0_2.length c0_2, .slice A0_3 l0_3.length c0_3]] w fun e w' => ∃ v0_ : Value, e = .returned (.tuple #[v0_, .int .i64 r2]) ∧ Kd.R k64 64 w' w.heap.size (fun _ => True) v0_ r1 ∧ Below w.heap.size w w' := by
 have hu112 := Try.underlying112
 have HR0_1 := Aside0.mk hr0_1
 have HC0_1 := Aside0.mk hc0_1
 clear hr0_1 hc0_1
 have HR0_2 := Aside0.mk hr0_2
 have HC0_2 := Aside0.mk hc0_2
 clear hr0_2 hc0_2
 have HR0_3 := Aside0.mk hr0_3
 have HC0_3 := Aside0.mk hc0_3
 clear hr0_3 hc0_3
 have HB := Aside0.mk (Below.refl w.heap.size w)
 have H : ((print_Check.f k a0_0 l0_1 l0_2 l0_3).bind fun t181 => (if t181 = 0 then (sound_Of.l0 k ([] : List (S64)) 1 a0_0 l0_1 l0_2 l0_3) else (some (([] : List (S64)), t181)))) = some (r1, r2) := h
 clear h
 replace H := Option.bind_eq_some_iff.mp H
 obtain ⟨t181, A20, H⟩ := H
 replace H : (if t181 = 0 then (sound_Of.l0 k ([] : List (S64)) 1 a0_0 l0_1 l0_2 l0_3) else (some (([] : List (S64)), t181))) = some (r1, r2) := H
 have A2 := Aside0.mk A20
 clear A20
 replace H := ic_ H; obtain ⟨c3, H⟩ | ⟨c3, H⟩ := H
 ·have c3b0 : (t181 == 0) = false := beq_eq_false_iff_ne.mpr c3
  have c3b1 : (t181 != 0) = true := bne_iff_ne.mpr c3
  simp only [Option.some.injEq, Prod.mk.injEq] at H
  obtain ⟨rfl, rfl⟩ := H
  go_enter Try.func65, Try.ntmps65
  go_wp2_with (first | ((with_reducible refine gate_dst (N := 1) rfl ?_); refine bx_ HB (N := 1) (cs := #[.string a0_0, .slice A0_1 l0_1.length c0_1, .slice A0_2 l0_2.length c0_2, .slice A0_3 l0_3.length c0_3]) (t := 112) ?_; clear HB; intro gb180 w14 HB BK180 GW180 GE180; obtain ⟨z15_0, z15_1, z15_2, z15_3, y15_0, y15_1, y15_2, y15_3⟩ := cw4_ BK180.out) | ((with_reducible refine gate_callee (f := 94) rfl ?_); refine gl_ (some 8) Try.func94 #[.agg #[.string a0_0, .slice A0_1 l0_1.length c0_1, .slice A0_2 l0_2.length c0_2, .slice A0_3 l0_3.length c0_3]] ?_; (with_reducible refine cm_ (print_Check.calls k a0_0 _ _ l0_1 _ _ l0_2 _ _ l0_3 t181 _ (kc_ HR0_1 HB) HC0_1.out (kc_ HR0_2 HB) HC0_2.out (kc_ HR0_3 HB) HC0_3.out A2.out) ?_); intro w16 hb; refine ⟨_, rfl, ?_⟩; replace BK180 := tb_ BK180 hb; replace HB := ts_ HB hb; clear hb))
  go_ret2
  exact ⟨_, rv_, by first | exact Kd.R_nil _ _ _ _ _ | exact Kd.N_nil _ _ _ _ _ | exact Kd.V_nil _ _ _ _ _ | exact Kd.Q_nil _ _ _ _ _ | exact Kd.S_nil _ _ _ _ _, by repeat (first | (with_reducible first | exact HB.out | apply below_alloc | apply pw_below_drewN | apply below_drew1 | refine below_set ?_ GE180.out) | exact HB.out)⟩

 have c3b0 : (t181 == 0) = true := beq_iff_eq.mpr c3
 have c3b1 : (t181 != 0) = false := bne_eq_false_iff_eq.mpr c3
 clear c3
 have H' := Aside0.mk H
 clear H
 go_enter Try.func65, Try.ntmps65
 go_wp2_with (first | ((with_reducible refine gate_dst (N := 1) rfl ?_); refine bx_ HB (N := 1) (cs := #[.string a0_0, .slice A0_1 l0_1.length c0_1, .slice A0_2 l0_2.length c0_2, .slice A0_3 l0_3.length c0_3]) (t := 112) ?_; clear HB; intro gb180 w4 HB BK180 GW180 GE180; obtain ⟨z5_0, z5_1, z5_2, z5_3, y5_0, y5_1, y5_2, y5_3⟩ := cw4_ BK180.out) | ((with_reducible refine gate_callee (f := 94) rfl ?_); refine gl_ (some 8) Try.func94 #[.agg #[.string a0_0, .slice A0_1 l0_1.length c0_1, .slice A0_2 l0_2.length c0_2, .slice A0_3 l0_3.length c0_3]] ?_; (with_reducible refine cm_ (print_Check.calls k a0_0 _ _ l0_1 _ _ l0_2 _ _ l0_3 t181 _ (kc_ HR0_1 HB) HC0_1.out (kc_ HR0_2 HB) HC0_2.out (kc_ HR0_3 HB) HC0_3.out A2.out) ?_); intro w6 hb; refine ⟨_, rfl, ?_⟩; replace BK180 := tb_ BK180 hb; replace HB := ts_ HB hb; clear hb))
 go_loopg [5, 6] k (fun kq v5 v6 w' => ∃ (x5_1 : List (S64)) (x6_1 : Int), v6 = .int .i64 x6_1 ∧ Aside0 (sound_Of.l0 kq x5_1 x6_1 a0_0 l0_1 l0_2 l0_3 = some (r1, r2)) ∧ Aside0 (kq ≤ k) ∧ Aside0 (Kd.R k64 64 w' w.heap.size (fun _ => True) v5 x5_1) ∧ Aside0 (w'.heap[gb180]? = some (.cells #[.string a0_0, (.slice A0_1 l0_1.length c0_1), (.slice A0_2 l0_2.length c0_2), (.slice A0_3 l0_3.length c0_3)] 112 (0, 0))) ∧ Aside0 (Below w.heap.size w w'))
 case atStart => exact ⟨(([] : List (S64))), (1), rl_, H', ⟨Nat.le_refl _⟩, ⟨by first | exact Kd.R_nil _ _ _ _ _ | exact Kd.N_nil _ _ _ _ _ | exact Kd.V_nil _ _ _ _ _ | exact Kd.Q_nil _ _ _ _ _ | exact Kd.S_nil _ _ _ _ _⟩, ⟨grw BK180.out⟩, ⟨bw_⟩⟩
 case round =>
  clear H'
  try clear c3b0
  try clear c3b1
  try clear z5_0 z5_1 z5_2 z5_3
  try clear y5_0 y5_1 y5_2 y5_3
  obtain ⟨x5_1, x6_1, rfl, HA, HK1, HO_5, BK180, HB⟩ := hrel
  cases gk with
  | zero => exact absurd HA.out (by simp [sound_Of.l0])
  | succ k1 =>
   have H := HA.out
   clear HA
   simp only [sound_Of.l0] at H
   replace H := it_ H; obtain ⟨c7b0, H⟩ | ⟨c7b0, H⟩ := H
   ·simp only [Option.some.injEq, Prod.mk.injEq] at H
    obtain ⟨rfl, rfl⟩ := H
    go_wp2
    go_ret2
    exact ⟨_, rv_, by (with_reducible repeat (first | apply Kd.R_alloc | apply Kd.R_drewN | apply Kd.R_drew)); exact HO_5.out, by repeat (first | (with_reducible first | exact HB.out | apply below_alloc | apply pw_below_drewN | apply below_drew1 | refine below_set ?_ GE180.out) | exact HB.out)⟩
   replace H := Option.bind_eq_some_iff.mp H
   obtain ⟨t182, A80, H⟩ := H
   replace H : (if x5_1.length + t182.length < 5864062014805 then (sound_Of.l0 k1 (x5_1 ++ t182) (wrap64 (x6_1 + 1)) a0_0 l0_1 l0_2 l0_3) else (none)) = some (r1, r2) := H
   have A8 := Aside0.mk A80
   clear A80
   replace H := ip_ H; obtain ⟨c9, H⟩ := H
   have LMc9 := Aside0.mk c9
   clear c9
   obtain ⟨y185, hy185⟩ : ∃ y_ : List (S64), y_ = (x5_1 ++ t182) := ⟨_, rfl⟩
   replace H : (sound_Of.l0 k1 y185 (wrap64 (x6_1 + 1)) a0_0 l0_1 l0_2 l0_3) = some (r1, r2) := by first | (rw [hy185]; with_reducible exact H) | (have H2_ := (Option.bind_some _ _).symm.trans H; rw [hy185]; with_reducible exact H2_) | (have H2_ := (Option.bind_some _ _).symm.trans H; with_reducible exact H2_) | with_reducible exact H | (rw [hy185]; exact H) | exact H
   have Ny185 := Aside0.mk hy185
   clear hy185
   have H' := Aside0.mk H
   clear H
   obtain ⟨z10_0, z10_1, z10_2, z10_3, y10_0, y10_1, y10_2, y10_3⟩ := cw4_ BK180.out
   go_wp2_with (first | ((with_reducible refine gate_callee (f := 95) rfl ?_); refine gl_ (some 19) Try.func95 #[.agg #[.string a0_0, .slice A0_1 l0_1.length c0_1, .slice A0_2 l0_2.length c0_2, .slice A0_3 l0_3.length c0_3], .int .i64 x6_1] ?_; (with_reducible refine (rules_Broken.calls k1 a0_0 _ _ l0_1 _ _ l0_2 _ _ l0_3 x6_1 t182 _ (kc_ HR0_1 HB) HC0_1.out (kc_ HR0_2 HB) HC0_2.out (kc_ HR0_3 HB) HC0_3.out A8.out).mono ?_); rintro e w11 ⟨v183, rfl, ho0, hb⟩; have hB_ := bu_ HB hb; refine ⟨_, rfl, ?_⟩; have HO184 := Aside0.mk (Kd.R_lower (Kd.R_new' ho0 (Kd.R_lt (kR_ HO_5))) (below_size hB_)); replace HO_5 := Aside0.mk (Kd.R_elder' (kR_ HO_5) (Kd.R_base ho0) hb); replace BK180 := tb_ BK180 hb; replace HB := Aside0.mk (below_step hB_ hb); clear hb; (try clear ho0); obtain ⟨Ao13, co13, eo13⟩ := Kd.R_slice HO184.out; subst eo13) | ((with_reducible refine gate_builtin (b := .append) (xs := #[.tmp 16, .tmp 19]) rfl ?_); at_builtin; refine Kd.R_append_rows k64 (w0 := w) w.heap.size rfl (.tmp 16) (.tmp 19) 59 64 (.agg #[(.int .i64 0), (.int .i64 0), (.int .i64 0)]) 24 rfl Try.underlying59 info64 rfl (by decide) (by omega) u5 x5_1 t182 _ _ _ (fun k_ => some k_ ≠ (.slice Ao13 t182.length co13 : Value).ownBlock) (fun _ => False) rfl rfl ?aO ?aR (fun _ _ h => h) (fun _ h => h.elim) ?aF ?aB ?aS ?aL ?_; (case aR => repeat (first | exact (Kd.R_reads' HO184.out).2.2 | (with_reducible refine Kd.C_alloc ?_ _) | (with_reducible refine Kd.C_drewN ?_ _) | (with_reducible refine Kd.C_drew ?_))); (case aB => exact bw_); (case aF => exact (fun k_ hk => Kd.fresh' (Kd.R_lt (kR_ HO184)) k_ hk)); (case aO => exact (by (with_reducible repeat (first | apply Kd.R_alloc | apply Kd.R_drewN | apply Kd.R_drew)); exact Kd.R_mono HO_5.out (fun _ hk => hk.2))); (case aS => exact (below_size bw_)); (case aL => have := LMc9.out; omega); intro v186 w12 ho hb hg hat; rw [← Ny185.out] at ho; have HO187 := Aside0.mk (ho); replace BK180 := Aside0.mk (blk_grown (grw BK180.out) hg (Kd.R_ne HO_5.out BK180.out (by decide))); replace HO184 := Aside0.mk (Kd.R_after (ok := (fun _ => True)) (kR_ HO184) hg hat); replace HB := Aside0.mk (hb); clear ho hb hg hat))
   go_roundg k1
   case measure => have := HK1.out; omega
   case rel => exact ⟨(y185), (wrap64 (x6_1 + 1)), rl_, H', ⟨kn_ HK1⟩, ⟨by (with_reducible repeat (first | apply Kd.R_alloc | apply Kd.R_drewN | apply Kd.R_drew)); exact Kd.R_mono HO187.out (fun _ hk => trivial)⟩, ⟨grw BK180.out⟩, ⟨bw_⟩⟩
/-! ### sound_Is: function 64 -/
def sound_Is.f (k : Nat) (a0_0 : ByteArray) (l0_1 : List ByteArray) (l0_2 : List (S152)) (l0_3 : List (S108)) : Option (Bool) := (sound_Of.f k a0_0 l0_1 l0_2 l0_3).bind fun bt189 => (if bt189.2 = 0 then (some ((bt189.1.length : Int) == 0)) else (some false))
theorem sound_Is.mono : ∀ a0 a1 a2 a3 k, LeO (sound_Is.f k a0 a1 a2 a3) (sound_Is.f (k + 1) a0 a1 a2 a3) := by
  intro a0 a1 a2 a3 k
  unfold sound_Is.f
  exact mo_
instance sound_Is.lc : ∀ a0 a1 a2 a3 k, LeC (sound_Is.f k a0 a1 a2 a3) (sound_Is.f (k + 1) a0 a1 a2 a3) := fun a0 a1 a2 a3 k => ⟨sound_Is.mono a0 a1 a2 a3 k⟩
set_option maxHeartbeats 8000000 in
set_option maxRecDepth 100000 in
theorem sound_Is.calls (k : Nat) (a0_0 : ByteArray) (A0_1 : Option Addr) (c0_1 : Nat) (l0_1 : List ByteArray) (A0_2 : Option Addr) (c0_2 : Nat) (l0_2 : List (S152)) (A0_3 : Option Addr) (c0_3 : Nat) (l0_3 : List (S108)) (r : Bool) (w : World) (hr0_1 : Kd.C Kd.string w A0_1 l0_1.length l0_1) (hc0_1 : l0_1.length ≤ c0_1) (hr0_2 : Kd.C k152 w A0_2 l0_2.length l0_2) (hc0_2 : l0_2.length ≤ c0_2) (hr0_3 : Kd.C k108 w A0_3 l0_3.length l0_3) (hc0_3 : l0_3.length ≤ c0_3) (h : sound_Is.f k a0_0 l0_1 l0_2 l0_3 = some r) :
  Calls Try.prog 64 #[.agg #[.string a0_0, .slice A0_1 l0_1.length c0_1, .slice A0_2 l0_2.length c0_2, .slice A0_3 l0_3.length c0_3]] w fun e w' => e = .returned (.bool r) ∧ Below w.heap.size w w' := by
 have hu112 := Try.underlying112
 have HR0_1 := Aside0.mk hr0_1
 have HC0_1 := Aside0.mk hc0_1
 clear hr0_1 hc0_1
 have HR0_2 := Aside0.mk hr0_2
 have HC0_2 := Aside0.mk hc0_2
 clear hr0_2 hc0_2
 have HR0_3 := Aside0.mk hr0_3
 have HC0_3 := Aside0.mk hc0_3
 clear hr0_3 hc0_3
 have HB := Aside0.mk (Below.refl w.heap.size w)
 unfold sound_Is.f at h
 have H := h
 clear h
 replace H := Option.bind_eq_some_iff.mp H
 obtain ⟨⟨t189, t192⟩, A20, H⟩ := H
 replace H : (if t192 = 0 then (some ((t189.length : Int) == 0)) else (some false)) = some r := H
 have A2 := Aside0.mk A20
 clear A20
 replace H := ic_ H; obtain ⟨c3, H⟩ | ⟨c3, H⟩ := H
 ·have c3b0 : (t192 == 0) = false := beq_eq_false_iff_ne.mpr c3
  have c3b1 : (t192 != 0) = true := bne_iff_ne.mpr c3
  obtain rfl := Option.some.inj H
  go_enter Try.func64, Try.ntmps64
  go_wp2_with (first | ((with_reducible refine gate_dst (N := 1) rfl ?_); (try (refine gate_guard (by rfl) ?_; dsimp only)); refine bx_ HB (N := 1) (cs := #[.string a0_0, .slice A0_1 l0_1.length c0_1, .slice A0_2 l0_2.length c0_2, .slice A0_3 l0_3.length c0_3]) (t := 112) ?_; clear HB; intro gb188 w8 HB BK188 GW188 GE188; obtain ⟨z9_0, z9_1, z9_2, z9_3, y9_0, y9_1, y9_2, y9_3⟩ := cw4_ BK188.out) | ((with_reducible refine gate_callee (f := 65) rfl ?_); refine gl_ (some 7) Try.func65 #[.agg #[.string a0_0, .slice A0_1 l0_1.length c0_1, .slice A0_2 l0_2.length c0_2, .slice A0_3 l0_3.length c0_3]] ?_; (with_reducible refine (sound_Of.calls k a0_0 _ _ l0_1 _ _ l0_2 _ _ l0_3 t189 t192 _ (kc_ HR0_1 HB) HC0_1.out (kc_ HR0_2 HB) HC0_2.out (kc_ HR0_3 HB) HC0_3.out A2.out).mono ?_); rintro e w10 ⟨v190, rfl, ho0, hb⟩; have hB_ := bu_ HB hb; refine ⟨_, rfl, ?_⟩; have HO191 := Aside0.mk (Kd.R_lower ho0 (below_size hB_)); replace BK188 := tb_ BK188 hb; replace HB := Aside0.mk (below_step hB_ hb); clear hb; (try clear ho0)))
  go_ret
  exact ⟨rv_, bw_⟩

 have c3b0 : (t192 == 0) = true := beq_iff_eq.mpr c3
 have c3b1 : (t192 != 0) = false := bne_eq_false_iff_eq.mpr c3
 clear c3
 obtain rfl := Option.some.inj H
 go_enter Try.func64, Try.ntmps64
 go_wp2_with (first | ((with_reducible refine gate_dst (N := 1) rfl ?_); (try (refine gate_guard (by rfl) ?_; dsimp only)); refine bx_ HB (N := 1) (cs := #[.string a0_0, .slice A0_1 l0_1.length c0_1, .slice A0_2 l0_2.length c0_2, .slice A0_3 l0_3.length c0_3]) (t := 112) ?_; clear HB; intro gb188 w4 HB BK188 GW188 GE188; obtain ⟨z5_0, z5_1, z5_2, z5_3, y5_0, y5_1, y5_2, y5_3⟩ := cw4_ BK188.out) | ((with_reducible refine gate_callee (f := 65) rfl ?_); refine gl_ (some 7) Try.func65 #[.agg #[.string a0_0, .slice A0_1 l0_1.length c0_1, .slice A0_2 l0_2.length c0_2, .slice A0_3 l0_3.length c0_3]] ?_; (with_reducible refine (sound_Of.calls k a0_0 _ _ l0_1 _ _ l0_2 _ _ l0_3 t189 t192 _ (kc_ HR0_1 HB) HC0_1.out (kc_ HR0_2 HB) HC0_2.out (kc_ HR0_3 HB) HC0_3.out A2.out).mono ?_); rintro e w6 ⟨v190, rfl, ho0, hb⟩; have hB_ := bu_ HB hb; refine ⟨_, rfl, ?_⟩; have HO191 := Aside0.mk (Kd.R_lower ho0 (below_size hB_)); replace BK188 := tb_ BK188 hb; replace HB := Aside0.mk (below_step hB_ hb); clear hb; (try clear ho0); obtain ⟨Ao7, co7, eo7⟩ := Kd.R_slice HO191.out; subst eo7))
 go_ret
 exact ⟨rv_, bw_⟩
/-! ### semblancelaw15_awake: function 33 -/
def semblancelaw15_awake.f (k : Nat)  : Option (Bool) := (sound_Is.f k (⟨#[99]⟩ : ByteArray) ([] : List ByteArray) ([] : List (S152)) (([(⟨(⟨#[97]⟩ : ByteArray), 1, (-1), ([] : List (S189)), ([] : List (S189)), ([] : List (S182))⟩ : S108)] : List (S108)))).bind fun t197 => ((some (([(⟨(⟨#[97]⟩ : ByteArray), 2, (-1), ([] : List (S189)), ([] : List (S189)), ([] : List (S182))⟩ : S108)] : List (S108)) : List (S108))).bind fun y198 => ((sound_Of.f k (⟨#[99]⟩ : ByteArray) ([] : List ByteArray) ([] : List (S152)) y198).bind fun bt201 => ((sound_Lines.f k bt201.1).bind fun t205 => (if t197 = true then ((sound_Is.f k (⟨#[99]⟩ : ByteArray) ([] : List ByteArray) ([] : List (S152)) y198).bind fun t208 => (if t208 = true then (some false) else (if bt201.2 = 0 then (if (t205.length : Int) = 1 then (if 0 < (t205.length : Int) then (some ((rdOf ByteArray.empty t205 0).toList == ([107, 105, 100, 115, 32, 48, 32, 48] : List UInt8))) else (none)) else (some false)) else (some false)))) else (some false)))))
theorem semblancelaw15_awake.mono : ∀ k, LeO (semblancelaw15_awake.f k ) (semblancelaw15_awake.f (k + 1) ) := by
  intro  k
  unfold semblancelaw15_awake.f
  exact mo_
instance semblancelaw15_awake.lc : ∀ k, LeC (semblancelaw15_awake.f k ) (semblancelaw15_awake.f (k + 1) ) := fun k => ⟨semblancelaw15_awake.mono k⟩
set_option maxHeartbeats 8000000 in
set_option maxRecDepth 100000 in
theorem semblancelaw15_awake.calls0 (k : Nat) (r : Bool) (w : World) (hr : r = true) (h : semblancelaw15_awake.f k  = some r) :
  Calls Try.prog 33 #[] w fun e w' => e = .returned (.bool r) ∧ Below w.heap.size w w' := by
 have hu108 := Try.underlying108
 have hu112 := Try.underlying112
 have HB := Aside0.mk (Below.refl w.heap.size w)
 unfold semblancelaw15_awake.f at h
 have H := h
 clear h
 obtain ⟨y193, hy193⟩ : ∃ y_ : List (S108), y_ = (([(⟨(⟨#[97]⟩ : ByteArray), 1, (-1), ([] : List (S189)), ([] : List (S189)), ([] : List (S182))⟩ : S108)] : List (S108))) := ⟨_, rfl⟩
 replace H : ((sound_Is.f k (⟨#[99]⟩ : ByteArray) ([] : List ByteArray) ([] : List (S152)) y193).bind fun t197 => ((some (([(⟨(⟨#[97]⟩ : ByteArray), 2, (-1), ([] : List (S189)), ([] : List (S189)), ([] : List (S182))⟩ : S108)] : List (S108)) : List (S108))).bind fun y198 => ((sound_Of.f k (⟨#[99]⟩ : ByteArray) ([] : List ByteArray) ([] : List (S152)) y198).bind fun bt201 => ((sound_Lines.f k bt201.1).bind fun t205 => (if t197 = true then ((sound_Is.f k (⟨#[99]⟩ : ByteArray) ([] : List ByteArray) ([] : List (S152)) y198).bind fun t208 => (if t208 = true then (some false) else (if bt201.2 = 0 then (if (t205.length : Int) = 1 then (if 0 < (t205.length : Int) then (some ((rdOf ByteArray.empty t205 0).toList == ([107, 105, 100, 115, 32, 48, 32, 48] : List UInt8))) else (none)) else (some false)) else (some false)))) else (some false)))))) = some r := by first | (rw [hy193]; with_reducible exact H) | (have H2_ := (Option.bind_some _ _).symm.trans H; rw [hy193]; with_reducible exact H2_) | (have H2_ := (Option.bind_some _ _).symm.trans H; with_reducible exact H2_) | with_reducible exact H | (rw [hy193]; exact H) | exact H
 have Ny193 := Aside0.mk hy193
 clear hy193
 replace H := bi_ H; obtain ⟨t197, A1, H⟩ := H
 obtain ⟨y198, hy198⟩ : ∃ y_ : List (S108), y_ = (([(⟨(⟨#[97]⟩ : ByteArray), 2, (-1), ([] : List (S189)), ([] : List (S189)), ([] : List (S182))⟩ : S108)] : List (S108))) := ⟨_, rfl⟩
 replace H : ((sound_Of.f k (⟨#[99]⟩ : ByteArray) ([] : List ByteArray) ([] : List (S152)) y198).bind fun bt201 => ((sound_Lines.f k bt201.1).bind fun t205 => (if t197 = true then ((sound_Is.f k (⟨#[99]⟩ : ByteArray) ([] : List ByteArray) ([] : List (S152)) y198).bind fun t208 => (if t208 = true then (some false) else (if bt201.2 = 0 then (if (t205.length : Int) = 1 then (if 0 < (t205.length : Int) then (some ((rdOf ByteArray.empty t205 0).toList == ([107, 105, 100, 115, 32, 48, 32, 48] : List UInt8))) else (none)) else (some false)) else (some false)))) else (some false)))) = some r := by first | (rw [hy198]; with_reducible exact H) | (have H2_ := (Option.bind_some _ _).symm.trans H; rw [hy198]; with_reducible exact H2_) | (have H2_ := (Option.bind_some _ _).symm.trans H; with_reducible exact H2_) | with_reducible exact H | (rw [hy198]; exact H) | exact H
 have Ny198 := Aside0.mk hy198
 clear hy198
 replace H := Option.bind_eq_some_iff.mp H
 obtain ⟨⟨t201, t204⟩, A20, H⟩ := H
 replace H : ((sound_Lines.f k t201).bind fun t205 => (if t197 = true then ((sound_Is.f k (⟨#[99]⟩ : ByteArray) ([] : List ByteArray) ([] : List (S152)) y198).bind fun t208 => (if t208 = true then (some false) else (if t204 = 0 then (if (t205.length : Int) = 1 then (if 0 < (t205.length : Int) then (some ((rdOf ByteArray.empty t205 0).toList == ([107, 105, 100, 115, 32, 48, 32, 48] : List UInt8))) else (none)) else (some false)) else (some false)))) else (some false))) = some r := H
 have A2 := Aside0.mk A20
 clear A20
 replace H := bi_ H; obtain ⟨t205, A3, H⟩ := H
 replace H := ib_ H; obtain ⟨rfl, H⟩ | ⟨rfl, H⟩ := H
 ·rw [hr] at H
  exact absurd (Option.some.inj H) Bool.false_ne_true
 replace H := bi_ H; obtain ⟨t208, A5, H⟩ := H
 replace H := ie_ H; obtain ⟨rfl, H⟩ | ⟨rfl, H⟩ := H
 ·rw [hr] at H
  exact absurd (Option.some.inj H) Bool.false_ne_true
 replace H := ic_ H; obtain ⟨c22, H⟩ | ⟨c22, H⟩ := H
 ·have c22b0 : (t204 == 0) = false := beq_eq_false_iff_ne.mpr c22
  have c22b1 : (t204 != 0) = true := bne_iff_ne.mpr c22
  rw [hr] at H
  exact absurd (Option.some.inj H) Bool.false_ne_true
 have c22b0 : (t204 == 0) = true := beq_iff_eq.mpr c22
 have c22b1 : (t204 != 0) = false := bne_eq_false_iff_eq.mpr c22
 clear c22
 replace H := ic_ H; obtain ⟨c23, H⟩ | ⟨c23, H⟩ := H
 ·have c23b0 : ((t205.length : Int) == 1) = false := beq_eq_false_iff_ne.mpr c23
  have c23b1 : ((t205.length : Int) != 1) = true := bne_iff_ne.mpr c23
  rw [hr] at H
  exact absurd (Option.some.inj H) Bool.false_ne_true
 have c23b0 : ((t205.length : Int) == 1) = true := beq_iff_eq.mpr c23
 have c23b1 : ((t205.length : Int) != 1) = false := bne_eq_false_iff_eq.mpr c23
 clear c23
 replace H := ip_ H; obtain ⟨c24, H⟩ := H
 have c24b0 : decide (0 < (t205.length : Int)) = true := decide_eq_true c24
 have c24b1 : decide (0 < t205.length) = true := decide_eq_true (by omega)
 clear c24
 obtain rfl := Option.some.inj H
 go_enter Try.func33, Try.ntmps33
 go_wp2_with (first | ((with_reducible refine gate_dst (N := 7) rfl ?_); (try (refine gate_guard (by rfl) ?_; dsimp only)); refine Kd.R_lit k108 _ 108 ?hg (N := 7) ?hd (xs := ([(⟨(⟨#[97]⟩ : ByteArray), 1, (-1), ([] : List (S189)), ([] : List (S189)), ([] : List (S182))⟩ : S108)] : List (S108))) (inner := [.string (⟨#[97]⟩ : ByteArray), .int .i64 1, .int .i64 (-1), .slice none 0 0, .slice none 0 0, .slice none 0 0]) (ok := fun _ => True) (okp := fun _ => True) ?hr ?hp (fun _ hk => hk) trivial (Below.refl _ _) (Nat.le_refl _) (by simp) ?_; (case hd => rfl); (case hg => rfl); (case hr => first | (go_simp; done) | (go_simp; rfl)); (case hp => exact (Reps.c6 (show Kd.M k108 _ _ _ (⟨(⟨#[97]⟩ : ByteArray), 1, (-1), ([] : List (S189)), ([] : List (S189)), ([] : List (S182))⟩ : S108) [.string (⟨#[97]⟩ : ByteArray), .int .i64 1, .int .i64 (-1), .slice none 0 0, .slice none 0 0, .slice none 0 0] from (k108_mkM _ _ _ (⟨(⟨#[97]⟩ : ByteArray), 1, (-1), ([] : List (S189)), ([] : List (S189)), ([] : List (S182))⟩ : S108) (Kd.R_nil _ _ _ _ _) (Kd.R_nil _ _ _ _ _) (Kd.R_nil _ _ _ _ _))) (Reps.none _ _))); intro v194 w25 ho26 hb hg_ hnew_; clear hg_ hnew_; (first | rw [← Ny193.out] at ho26 | (simp only [Int.reduceToNat] at ho26; rw [← Ny193.out] at ho26)); have HO195 := Aside0.mk (Kd.R_lower ho26 (below_size (brw HB.out))); replace HB := ts_ HB hb; clear hb ho26; obtain ⟨Ao27, co27, eo27⟩ := Kd.R_slice HO195.out; subst eo27) | ((with_reducible refine gate_dst (N := 1) rfl ?_); (try (refine gate_guard (by rfl) ?_; dsimp only)); refine by_ HB (N := 1) (cs := #[.string (⟨#[]⟩ : ByteArray), .slice none 0 0, .slice none 0 0, .slice none 0 0]) (t := 112) ?_; intro gb196 hg w28 hbox hb hB_; have BK196 := Aside0.mk (hbox); have GW196 := gw_ hg hB_; have GE196 := gw_ hg hB_; replace HO195 := Aside0.mk (Kd.R_below (kR_ HO195) hb); replace HB := Aside0.mk (below_step hB_ hb); clear hb hbox hg; obtain ⟨z29_0, z29_1, z29_2, z29_3, y29_0, y29_1, y29_2, y29_3⟩ := cw4_ BK196.out) | ((with_reducible refine gate_callee (f := 64) rfl ?_); refine gl_ (some 10) Try.func64 #[.agg #[.string (⟨#[99]⟩ : ByteArray), .slice none 0 0, .slice none 0 0, .slice Ao27 y193.length co27]] ?_; (refine (sound_Is.calls k (⟨#[99]⟩ : ByteArray) _ _ ([] : List ByteArray) _ _ ([] : List (S152)) _ _ y193 true _ ?side1 ?side2 ?side3 ?side4 ?side5 (Kd.R_reads' HO195.out).2.1 A1.out).mono ?_); (case side1 => exact Kd.C_nil _ _); (case side2 => exact Nat.le_refl _); (case side3 => exact Kd.C_nil _ _); (case side4 => exact Nat.le_refl _); (case side5 => refine (Kd.R_reads' (e := 108) (base := w.heap.size) (ok := fun k_ => True) (n := y193.length) (c := co27) ?_).2.2; exact (by (with_reducible repeat (first | apply Kd.R_alloc | apply Kd.R_drewN | apply Kd.R_drew)); exact (Kd.R_mono (Kd.R_far (p := ⟨gb196, 3, none⟩) (Kd.R_far (p := ⟨gb196, 2, none⟩) (Kd.R_far (p := ⟨gb196, 1, none⟩) (Kd.R_far (p := ⟨gb196, 0, none⟩) (Kd.R_types HO195.out BK196.out (by decide)) (fun _ hk => hk.2) (.string (⟨#[99]⟩ : ByteArray))) (fun _ hk => hk.2) (.slice none 0 0)) (fun _ hk => hk.2) (.slice none 0 0)) (fun _ hk => hk.2) (.slice Ao27 y193.length co27)) (fun _ h_ => h_.1)))); rintro e w30 ⟨rfl, hb⟩; refine ⟨_, rfl, ?_⟩; replace HO195 := Aside0.mk (Kd.R_below (by (with_reducible repeat (first | apply Kd.R_alloc | apply Kd.R_drewN | apply Kd.R_drew)); exact (Kd.R_mono (Kd.R_far (p := ⟨gb196, 3, none⟩) (Kd.R_far (p := ⟨gb196, 2, none⟩) (Kd.R_far (p := ⟨gb196, 1, none⟩) (Kd.R_far (p := ⟨gb196, 0, none⟩) (Kd.R_types HO195.out BK196.out (by decide)) (fun _ hk => hk.2) (.string (⟨#[99]⟩ : ByteArray))) (fun _ hk => hk.2) (.slice none 0 0)) (fun _ hk => hk.2) (.slice none 0 0)) (fun _ hk => hk.2) (.slice Ao27 y193.length co27)) (fun _ h_ => h_.1))) hb); replace BK196 := Aside0.mk (blk_below (g := gb196) (o := .cells #[.string (⟨#[99]⟩ : ByteArray), .slice none 0 0, .slice none 0 0, .slice Ao27 y193.length co27] 112 (0, 0)) (by refine grO ?_; refine blk_put (cs := #[.string (⟨#[99]⟩ : ByteArray), .slice none 0 0, .slice none 0 0, .slice none 0 0]) ?_ 3 _ rfl; refine grO ?_; refine blk_put (cs := #[.string (⟨#[99]⟩ : ByteArray), .slice none 0 0, .slice none 0 0, .slice none 0 0]) ?_ 2 _ rfl; refine grO ?_; refine blk_put (cs := #[.string (⟨#[99]⟩ : ByteArray), .slice none 0 0, .slice none 0 0, .slice none 0 0]) ?_ 1 _ rfl; refine grO ?_; refine blk_put (cs := #[.string (⟨#[]⟩ : ByteArray), .slice none 0 0, .slice none 0 0, .slice none 0 0]) ?_ 0 _ rfl; refine grO ?_; exact BK196.out) hb); replace HB := ts_ HB hb; clear hb) | ((with_reducible refine gate_dst (N := 12) rfl ?_); (try (refine gate_guard (by rfl) ?_; dsimp only)); refine Kd.R_lit k108 _ 108 ?hg (N := 12) ?hd (xs := ([(⟨(⟨#[97]⟩ : ByteArray), 2, (-1), ([] : List (S189)), ([] : List (S189)), ([] : List (S182))⟩ : S108)] : List (S108))) (inner := [.string (⟨#[97]⟩ : ByteArray), .int .i64 2, .int .i64 (-1), .slice none 0 0, .slice none 0 0, .slice none 0 0]) (ok := fun _ => True) (okp := fun _ => True) ?hr ?hp (fun _ hk => hk) trivial (Below.refl _ _) (Nat.le_refl _) (by simp) ?_; (case hd => rfl); (case hg => rfl); (case hr => first | (go_simp; done) | (go_simp; rfl)); (case hp => exact (Reps.c6 (show Kd.M k108 _ _ _ (⟨(⟨#[97]⟩ : ByteArray), 2, (-1), ([] : List (S189)), ([] : List (S189)), ([] : List (S182))⟩ : S108) [.string (⟨#[97]⟩ : ByteArray), .int .i64 2, .int .i64 (-1), .slice none 0 0, .slice none 0 0, .slice none 0 0] from (k108_mkM _ _ _ (⟨(⟨#[97]⟩ : ByteArray), 2, (-1), ([] : List (S189)), ([] : List (S189)), ([] : List (S182))⟩ : S108) (Kd.R_nil _ _ _ _ _) (Kd.R_nil _ _ _ _ _) (Kd.R_nil _ _ _ _ _))) (Reps.none _ _))); intro v199 w31 ho32 hb hg_ hnew_; clear hg_ hnew_; (first | rw [← Ny198.out] at ho32 | (simp only [Int.reduceToNat] at ho32; rw [← Ny198.out] at ho32)); have HO200 := Aside0.mk (Kd.R_lower (Kd.R_new' ho32 (Kd.R_lt (kR_ HO195))) (below_size bw_)); replace HO195 := Aside0.mk (Kd.R_elder' (kR_ HO195) (Kd.R_base ho32) hb); replace BK196 := Aside0.mk (blk_below (g := gb196) (o := .cells #[.string (⟨#[99]⟩ : ByteArray), .slice none 0 0, .slice none 0 0, .slice Ao27 y193.length co27] 112 (0, 0)) (grw BK196.out) hb); replace HB := ts_ HB hb; clear hb ho32; obtain ⟨Ao33, co33, eo33⟩ := Kd.R_slice HO200.out; subst eo33; obtain ⟨z34_0, z34_1, z34_2, z34_3, y34_0, y34_1, y34_2, y34_3⟩ := cw4_ BK196.out) | ((with_reducible refine gate_callee (f := 65) rfl ?_); refine gl_ (some 16) Try.func65 #[.agg #[.string (⟨#[99]⟩ : ByteArray), .slice none 0 0, .slice none 0 0, .slice Ao33 y198.length co33]] ?_; (refine (sound_Of.calls k (⟨#[99]⟩ : ByteArray) _ _ ([] : List ByteArray) _ _ ([] : List (S152)) _ _ y198 t201 t204 _ ?side1 ?side2 ?side3 ?side4 ?side5 (Kd.R_reads' HO200.out).2.1 A2.out).mono ?_); (case side1 => exact Kd.C_nil _ _); (case side2 => exact Nat.le_refl _); (case side3 => exact Kd.C_nil _ _); (case side4 => exact Nat.le_refl _); (case side5 => refine (Kd.R_reads' (e := 108) (base := w.heap.size) (ok := fun k_ => (True ∧ some k_ ≠ (.slice Ao27 y193.length co27 : Value).ownBlock)) (n := y198.length) (c := co33) ?_).2.2; exact (by (with_reducible repeat (first | apply Kd.R_alloc | apply Kd.R_drewN | apply Kd.R_drew)); exact (Kd.R_mono (Kd.R_far (p := ⟨gb196, 3, none⟩) (Kd.R_types HO200.out BK196.out (by decide)) (fun _ hk => hk.2) (.slice Ao33 y198.length co33)) (fun _ h_ => h_.1)))); rintro e w35 ⟨v202, rfl, ho0, hb⟩; have hB_ := bu_ HB hb; refine ⟨_, rfl, ?_⟩; have HO203 := Aside0.mk (Kd.R_lower ho0 (below_size hB_)); replace HO195 := Aside0.mk (Kd.R_below (by (with_reducible repeat (first | apply Kd.R_alloc | apply Kd.R_drewN | apply Kd.R_drew)); exact (Kd.R_mono (Kd.R_far (p := ⟨gb196, 3, none⟩) (Kd.R_types HO195.out BK196.out (by decide)) (fun _ hk => hk.2) (.slice Ao33 y198.length co33)) (fun _ h_ => h_.1))) hb); replace HO200 := Aside0.mk (Kd.R_below (by (with_reducible repeat (first | apply Kd.R_alloc | apply Kd.R_drewN | apply Kd.R_drew)); exact (Kd.R_mono (Kd.R_far (p := ⟨gb196, 3, none⟩) (Kd.R_types HO200.out BK196.out (by decide)) (fun _ hk => hk.2) (.slice Ao33 y198.length co33)) (fun _ h_ => h_.1))) hb); replace BK196 := Aside0.mk (blk_below (g := gb196) (o := .cells #[.string (⟨#[99]⟩ : ByteArray), .slice none 0 0, .slice none 0 0, .slice Ao33 y198.length co33] 112 (0, 0)) (by refine grO ?_; refine blk_put (cs := #[.string (⟨#[99]⟩ : ByteArray), .slice none 0 0, .slice none 0 0, .slice Ao27 y193.length co27]) ?_ 3 _ rfl; refine grO ?_; exact BK196.out) hb); replace HB := Aside0.mk (below_step hB_ hb); clear hb; (try clear ho0); obtain ⟨Ao36, co36, eo36⟩ := Kd.R_slice HO203.out; subst eo36) | ((with_reducible refine gate_callee (f := 35) rfl ?_); refine gl_ (some 20) Try.func35 #[.slice Ao36 t201.length co36] ?_; (with_reducible refine (sound_Lines.calls k _ _ t201 t205 _ (kg_ (Kd.R_reads' HO203.out).2.2) (Kd.R_reads' HO203.out).2.1 A3.out).mono ?_); rintro e w37 ⟨v206, rfl, ho0, hb⟩; have hB_ := bu_ HB hb; refine ⟨_, rfl, ?_⟩; have HO207 := Aside0.mk (Kd.R_lower ho0 (below_size hB_)); replace HO195 := Aside0.mk (Kd.R_below (kR_ HO195) hb); replace HO200 := Aside0.mk (Kd.R_below (kR_ HO200) hb); replace HO203 := Aside0.mk (Kd.R_below (kR_ HO203) hb); replace BK196 := Aside0.mk (blk_below (g := gb196) (o := .cells #[.string (⟨#[99]⟩ : ByteArray), .slice none 0 0, .slice none 0 0, .slice Ao33 y198.length co33] 112 (0, 0)) (grw BK196.out) hb); replace HB := Aside0.mk (below_step hB_ hb); clear hb; (try clear ho0); obtain ⟨z38_0, z38_1, z38_2, z38_3, y38_0, y38_1, y38_2, y38_3⟩ := cw4_ BK196.out) | (go_at_call 64; (refine (sound_Is.calls k (⟨#[99]⟩ : ByteArray) _ _ ([] : List ByteArray) _ _ ([] : List (S152)) _ _ y198 false _ ?side1 ?side2 ?side3 ?side4 (kg_ (Kd.R_reads' HO200.out).2.2) (Kd.R_reads' HO200.out).2.1 A5.out).mono ?_); (case side1 => exact Kd.C_nil _ _); (case side2 => exact Nat.le_refl _); (case side3 => exact Kd.C_nil _ _); (case side4 => exact Nat.le_refl _); rintro e w39 ⟨rfl, hb⟩; replace HO195 := Aside0.mk (Kd.R_below (kR_ HO195) hb); replace HO200 := Aside0.mk (Kd.R_below (kR_ HO200) hb); replace HO203 := Aside0.mk (Kd.R_below (kR_ HO203) hb); replace HO207 := Aside0.mk (Kd.R_below (kR_ HO207) hb); replace BK196 := Aside0.mk (blk_below (g := gb196) (o := .cells #[.string (⟨#[99]⟩ : ByteArray), .slice none 0 0, .slice none 0 0, .slice Ao33 y198.length co33] 112 (0, 0)) (grw BK196.out) hb); replace HB := ts_ HB hb; clear hb; obtain ⟨Ao40, co40, eo40⟩ := Kd.R_slice HO207.out; subst eo40; have p209 : 0 ≤ (0 : Int) := (by omega); have q209 : 0 < (t205.length : Int) := of_decide_eq_true (by first | (with_reducible assumption) | assumption); obtain ⟨ad209, e209, hx209_0⟩ := Kd.at_string (Kd.R_reads' HO207.out).2.2 0 p209 q209; cases e209; have qi209 : (0 < t205.length) = True := eq_true (by omega); (try rw [show ((0 : Int)).toNat = 0 from rfl] at hx209_0); (try rw [Addr.add_zero'] at hx209_0); replace p209 := eq_true p209; replace q209 := eq_true q209))
 go_ret
 exact ⟨rv_, bw_⟩
set_option maxRecDepth 100000 in
theorem semblancelaw15_awake.calls (k : Nat)  (r : Bool) (w : World) (h : semblancelaw15_awake.f k  = some r) :
  Calls Try.prog 33 #[] w fun e w' => e = .returned (.bool r) ∧ Below w.heap.size w w' := by
 have hK : semblancelaw15_awake.f 60 = some true := by decide +kernel
 have a_ := at_rounds (g := fun n => semblancelaw15_awake.f n) (fun n => semblancelaw15_awake.mono n) (Nat.le_max_left k 60) h
 have b_ := at_rounds (g := fun n => semblancelaw15_awake.f n) (fun n => semblancelaw15_awake.mono n) (Nat.le_max_right k 60) hK
 exact semblancelaw15_awake.calls0 k r w (Option.some.inj (a_.symm.trans b_)) h

/-! ### semblanceref15_Words: function 34 -/
def semblanceref15_Words.f  : Option (List ByteArray) := some (([(⟨#[]⟩ : ByteArray), (⟨#[101, 118, 101, 110, 116]⟩ : ByteArray), (⟨#[118, 97, 114]⟩ : ByteArray), (⟨#[114, 97, 110, 103, 101]⟩ : ByteArray), (⟨#[110, 97, 109, 101]⟩ : ByteArray), (⟨#[107, 105, 100, 115]⟩ : ByteArray), (⟨#[111, 110]⟩ : ByteArray), (⟨#[116, 97, 114, 103, 101, 116]⟩ : ByteArray), (⟨#[103, 117, 97, 114, 100]⟩ : ByteArray), (⟨#[97, 99, 116, 115]⟩ : ByteArray), (⟨#[101, 100, 103, 101]⟩ : ByteArray)] : List ByteArray))
set_option maxHeartbeats 8000000 in
set_option maxRecDepth 100000 in
theorem semblanceref15_Words.calls  (r : List ByteArray) (w : World) (h : semblanceref15_Words.f  = some r) :
  Calls Try.prog 34 #[] w fun e w' => ∃ v0_ : Value, e = .returned (v0_) ∧ Kd.R Kd.string 9 w' w.heap.size (fun _ => True) v0_ r ∧ Below w.heap.size w w' := by
 have HB := Aside0.mk (Below.refl w.heap.size w)
 unfold semblanceref15_Words.f at h
 have H := h
 clear h
 obtain ⟨y210, hy210⟩ : ∃ y_ : List ByteArray, y_ = (([(⟨#[]⟩ : ByteArray), (⟨#[101, 118, 101, 110, 116]⟩ : ByteArray), (⟨#[118, 97, 114]⟩ : ByteArray), (⟨#[114, 97, 110, 103, 101]⟩ : ByteArray), (⟨#[110, 97, 109, 101]⟩ : ByteArray), (⟨#[107, 105, 100, 115]⟩ : ByteArray), (⟨#[111, 110]⟩ : ByteArray), (⟨#[116, 97, 114, 103, 101, 116]⟩ : ByteArray), (⟨#[103, 117, 97, 114, 100]⟩ : ByteArray), (⟨#[97, 99, 116, 115]⟩ : ByteArray), (⟨#[101, 100, 103, 101]⟩ : ByteArray)] : List ByteArray)) := ⟨_, rfl⟩
 replace H : (some y210) = some r := by first | (rw [hy210]; with_reducible exact H) | (have H2_ := (Option.bind_some _ _).symm.trans H; rw [hy210]; with_reducible exact H2_) | (have H2_ := (Option.bind_some _ _).symm.trans H; with_reducible exact H2_) | with_reducible exact H | (rw [hy210]; exact H) | exact H
 have Ny210 := Aside0.mk hy210
 clear hy210
 obtain rfl := Option.some.inj H
 go_enter Try.func34, Try.ntmps34
 go_wp2_with (first | ((with_reducible refine gate_dst (N := 1) rfl ?_); refine Kd.R_lit Kd.string _ 9 ?hg (N := 1) ?hd (xs := ([(⟨#[]⟩ : ByteArray), (⟨#[101, 118, 101, 110, 116]⟩ : ByteArray), (⟨#[118, 97, 114]⟩ : ByteArray), (⟨#[114, 97, 110, 103, 101]⟩ : ByteArray), (⟨#[110, 97, 109, 101]⟩ : ByteArray), (⟨#[107, 105, 100, 115]⟩ : ByteArray), (⟨#[111, 110]⟩ : ByteArray), (⟨#[116, 97, 114, 103, 101, 116]⟩ : ByteArray), (⟨#[103, 117, 97, 114, 100]⟩ : ByteArray), (⟨#[97, 99, 116, 115]⟩ : ByteArray), (⟨#[101, 100, 103, 101]⟩ : ByteArray)] : List ByteArray)) (inner := [.string (⟨#[]⟩ : ByteArray), .string (⟨#[101, 118, 101, 110, 116]⟩ : ByteArray), .string (⟨#[118, 97, 114]⟩ : ByteArray), .string (⟨#[114, 97, 110, 103, 101]⟩ : ByteArray), .string (⟨#[110, 97, 109, 101]⟩ : ByteArray), .string (⟨#[107, 105, 100, 115]⟩ : ByteArray), .string (⟨#[111, 110]⟩ : ByteArray), .string (⟨#[116, 97, 114, 103, 101, 116]⟩ : ByteArray), .string (⟨#[103, 117, 97, 114, 100]⟩ : ByteArray), .string (⟨#[97, 99, 116, 115]⟩ : ByteArray), .string (⟨#[101, 100, 103, 101]⟩ : ByteArray)]) (ok := fun _ => True) (okp := fun _ => True) ?hr ?hp (fun _ hk => hk) trivial (Below.refl _ _) (Nat.le_refl _) (by simp) ?_; (case hd => rfl); (case hg => rfl); (case hr => first | (go_simp; done) | (go_simp; rfl)); (case hp => exact (Reps.one (show Kd.M Kd.string _ _ _ (⟨#[]⟩ : ByteArray) [.string (⟨#[]⟩ : ByteArray)] from rfl) (Reps.one (show Kd.M Kd.string _ _ _ (⟨#[101, 118, 101, 110, 116]⟩ : ByteArray) [.string (⟨#[101, 118, 101, 110, 116]⟩ : ByteArray)] from rfl) (Reps.one (show Kd.M Kd.string _ _ _ (⟨#[118, 97, 114]⟩ : ByteArray) [.string (⟨#[118, 97, 114]⟩ : ByteArray)] from rfl) (Reps.one (show Kd.M Kd.string _ _ _ (⟨#[114, 97, 110, 103, 101]⟩ : ByteArray) [.string (⟨#[114, 97, 110, 103, 101]⟩ : ByteArray)] from rfl) (Reps.one (show Kd.M Kd.string _ _ _ (⟨#[110, 97, 109, 101]⟩ : ByteArray) [.string (⟨#[110, 97, 109, 101]⟩ : ByteArray)] from rfl) (Reps.one (show Kd.M Kd.string _ _ _ (⟨#[107, 105, 100, 115]⟩ : ByteArray) [.string (⟨#[107, 105, 100, 115]⟩ : ByteArray)] from rfl) (Reps.one (show Kd.M Kd.string _ _ _ (⟨#[111, 110]⟩ : ByteArray) [.string (⟨#[111, 110]⟩ : ByteArray)] from rfl) (Reps.one (show Kd.M Kd.string _ _ _ (⟨#[116, 97, 114, 103, 101, 116]⟩ : ByteArray) [.string (⟨#[116, 97, 114, 103, 101, 116]⟩ : ByteArray)] from rfl) (Reps.one (show Kd.M Kd.string _ _ _ (⟨#[103, 117, 97, 114, 100]⟩ : ByteArray) [.string (⟨#[103, 117, 97, 114, 100]⟩ : ByteArray)] from rfl) (Reps.one (show Kd.M Kd.string _ _ _ (⟨#[97, 99, 116, 115]⟩ : ByteArray) [.string (⟨#[97, 99, 116, 115]⟩ : ByteArray)] from rfl) (Reps.one (show Kd.M Kd.string _ _ _ (⟨#[101, 100, 103, 101]⟩ : ByteArray) [.string (⟨#[101, 100, 103, 101]⟩ : ByteArray)] from rfl) (Reps.none _ _))))))))))))); intro v211 w1 ho2 hb hg_ hnew_; clear hg_ hnew_; (first | rw [← Ny210.out] at ho2 | (simp only [Int.reduceToNat] at ho2; rw [← Ny210.out] at ho2)); have HO212 := Aside0.mk (Kd.R_lower ho2 (below_size (brw HB.out))); replace HB := ts_ HB hb; clear hb ho2))
 go_ret
 exact ⟨_, rv_, by (with_reducible repeat (first | apply Kd.R_alloc | apply Kd.R_drewN | apply Kd.R_drew)); exact HO212.out, by repeat (first | (with_reducible first | exact HB.out | apply below_alloc | apply pw_below_drewN | apply below_drew1) | exact HB.out)⟩

/-! ### semblanceref01_Text: function 68 -/
def semblanceref01_Text.f : Nat → Int → Option (ByteArray)
  | 0, _ => none
  | k + 1, a0 => if 0 ≤ (Int.tmod a0 10) then (if (Int.tmod a0 10) ≤ (wrap64 ((Int.tmod a0 10) + 1)) then (if (wrap64 ((Int.tmod a0 10) + 1)) ≤ 10 then (if a0 < 10 then (some ((⟨#[48, 49, 50, 51, 52, 53, 54, 55, 56, 57]⟩ : ByteArray).extract ((Int.tmod a0 10) : Int).toNat ((wrap64 ((Int.tmod a0 10) + 1)) : Int).toNat)) else ((semblanceref01_Text.f k (wrap64 (Int.tdiv a0 10))).bind fun t213 => (if t213.size + ((⟨#[48, 49, 50, 51, 52, 53, 54, 55, 56, 57]⟩ : ByteArray).extract ((Int.tmod a0 10) : Int).toNat ((wrap64 ((Int.tmod a0 10) + 1)) : Int).toNat).size ≤ 9223372036854775807 then (some (t213 ++ ((⟨#[48, 49, 50, 51, 52, 53, 54, 55, 56, 57]⟩ : ByteArray).extract ((Int.tmod a0 10) : Int).toNat ((wrap64 ((Int.tmod a0 10) + 1)) : Int).toNat))) else (none)))) else (none)) else (none)) else (none)
theorem semblanceref01_Text.mono_l : ∀ k, (∀ y0, LeO (semblanceref01_Text.f k y0) (semblanceref01_Text.f (k + 1) y0))
  | 0 => fun _ r h => by simp [semblanceref01_Text.f] at h
  | k + 1 => by
    have ih0 := semblanceref01_Text.mono_l k
    · intro y0
      unfold semblanceref01_Text.f
      exact mo_
theorem semblanceref01_Text.mono : ∀ a0 k, LeO (semblanceref01_Text.f k a0) (semblanceref01_Text.f (k + 1) a0) := by
  intro a0 k
  have ih0 := semblanceref01_Text.mono_l k
  exact ih0 a0
instance semblanceref01_Text.lc : ∀ a0 k, LeC (semblanceref01_Text.f k a0) (semblanceref01_Text.f (k + 1) a0) := fun a0 k => ⟨semblanceref01_Text.mono a0 k⟩
set_option maxHeartbeats 8000000 in
set_option maxRecDepth 100000 in
theorem semblanceref01_Text.calls (k : Nat) : ∀ (a0 : Int) (r : ByteArray) (w : World) (h : semblanceref01_Text.f k a0 = some r),
  Calls Try.prog 68 #[.int .i64 a0] w fun e w' => e = .returned (.string r) ∧ Drawn0 w w' := by
 induction k using Nat.strongRecOn with
 | _ k ih =>
 intro a0 r w h
 cases k with
 | zero => exact absurd h (by simp [semblanceref01_Text.f])
 | succ k =>
 simp only [semblanceref01_Text.f] at h
 have H : (if 0 ≤ (Int.tmod a0 10) then (if (Int.tmod a0 10) ≤ (wrap64 ((Int.tmod a0 10) + 1)) then (if (wrap64 ((Int.tmod a0 10) + 1)) ≤ 10 then (if a0 < 10 then (some ((⟨#[48, 49, 50, 51, 52, 53, 54, 55, 56, 57]⟩ : ByteArray).extract ((Int.tmod a0 10) : Int).toNat ((wrap64 ((Int.tmod a0 10) + 1)) : Int).toNat)) else ((semblanceref01_Text.f k (wrap64 (Int.tdiv a0 10))).bind fun t213 => (if t213.size + ((⟨#[48, 49, 50, 51, 52, 53, 54, 55, 56, 57]⟩ : ByteArray).extract ((Int.tmod a0 10) : Int).toNat ((wrap64 ((Int.tmod a0 10) + 1)) : Int).toNat).size ≤ 9223372036854775807 then (some (t213 ++ ((⟨#[48, 49, 50, 51, 52, 53, 54, 55, 56, 57]⟩ : ByteArray).extract ((Int.tmod a0 10) : Int).toNat ((wrap64 ((Int.tmod a0 10) + 1)) : Int).toNat))) else (none)))) else (none)) else (none)) else (none)) = some r := h
 clear h
 obtain ⟨ji2, hji2⟩ : ∃ j_ : Int, (Int.tmod a0 10) = j_ := ⟨_, rfl⟩
 replace H : (if 0 ≤ (ji2) then (if (ji2) ≤ (wrap64 ((ji2) + 1)) then (if (wrap64 ((ji2) + 1)) ≤ 10 then (if a0 < 10 then (some ((⟨#[48, 49, 50, 51, 52, 53, 54, 55, 56, 57]⟩ : ByteArray).extract ((ji2) : Int).toNat ((wrap64 ((ji2) + 1)) : Int).toNat)) else ((semblanceref01_Text.f k (wrap64 (Int.tdiv a0 10))).bind fun t213 => (if t213.size + ((⟨#[48, 49, 50, 51, 52, 53, 54, 55, 56, 57]⟩ : ByteArray).extract ((ji2) : Int).toNat ((wrap64 ((ji2) + 1)) : Int).toNat).size ≤ 9223372036854775807 then (some (t213 ++ ((⟨#[48, 49, 50, 51, 52, 53, 54, 55, 56, 57]⟩ : ByteArray).extract ((ji2) : Int).toNat ((wrap64 ((ji2) + 1)) : Int).toNat))) else (none)))) else (none)) else (none)) else (none)) = some r := by first | (rw [hji2] at H; exact H) | (simp only [hji2] at H ⊢; exact H)
 replace H := ic_ H; obtain ⟨c3, H⟩ | ⟨c3, H⟩ := H
 ·exact absurd H (by simp)

 have c3b0 := eq_true c3
 have c3b1 : decide (0 ≤ (ji2)) = true := decide_eq_true c3
 clear c3
 replace H := ip_ H; obtain ⟨c4, H⟩ := H
 have c4b0 := eq_true c4
 have c4b1 : decide ((ji2) ≤ (wrap64 ((ji2) + 1))) = true := decide_eq_true c4
 replace H := ip_ H; obtain ⟨c5, H⟩ := H
 have c5b0 := eq_true c5
 have c5b1 : decide ((wrap64 ((ji2) + 1)) ≤ 10) = true := decide_eq_true c5
 replace H := iu_ H; obtain ⟨c6b0, H⟩ | ⟨c6b0, H⟩ := H
 ·obtain rfl := Option.some.inj H
  go_enter Try.func68, Try.ntmps68
  go_wp2
  go_ret
  exact ⟨by first | rfl | (simp; done) | (simp only [← hji2] <;> (first | rfl | simp)) | (simp [*]; done), dw_⟩
 replace H := bi_ H; obtain ⟨t213, A7, H⟩ := H
 replace H := ip_ H; obtain ⟨c8, H⟩ := H
 have c8b0 := eq_true c8
 have c8b1 : decide (t213.size + ((⟨#[48, 49, 50, 51, 52, 53, 54, 55, 56, 57]⟩ : ByteArray).extract ((ji2) : Int).toNat ((wrap64 ((ji2) + 1)) : Int).toNat).size ≤ 9223372036854775807) = true := decide_eq_true c8
 try have c8b2 : (9223372036854775807 < t213.size + ((⟨#[48, 49, 50, 51, 52, 53, 54, 55, 56, 57]⟩ : ByteArray).extract ((ji2) : Int).toNat ((wrap64 ((ji2) + 1)) : Int).toNat).size) = False := eq_false (Nat.not_lt.2 c8)
 try have c8b3 : (9223372036854775807 < t213.size + (⟨#[48, 49, 50, 51, 52, 53, 54, 55, 56, 57]⟩ : ByteArray).extract ((ji2) : Int).toNat ((wrap64 ((ji2) + 1)) : Int).toNat.size) = False := by have h_ := c8b2; simp only [ByteArray.size_append] at h_; exact h_
 obtain rfl := Option.some.inj H
 go_enter Try.func68, Try.ntmps68
 go_wp2_with (first | ((with_reducible refine gate_callee (f := 68) rfl ?_); refine gl_ (some 15) Try.func68 #[.int .i64 (wrap64 (Int.tdiv a0 10))] ?_; (with_reducible refine (ih k (by omega) (wrap64 (Int.tdiv a0 10)) t213 _ A7.out).mono ?_); rintro e w' ⟨rfl, ⟨nd, rfl⟩⟩; refine ⟨_, rfl, ?_⟩))
 go_ret
 exact ⟨by first | rfl | (simp; done) | (simp only [← hji2] <;> (first | rfl | simp)) | (simp [*]; done), dw_⟩
/-! ### semblanceref01_Put: function 37 -/
def semblanceref01_Put.f (k : Nat) (a0 : Int) : Option (ByteArray) := if a0 ≥ 0 then ((semblanceref01_Text.f k a0).bind fun t214 => (some t214)) else (if 0 ≤ (wrap64 (-(Int.tmod a0 10))) then (if (wrap64 (-(Int.tmod a0 10))) ≤ (wrap64 ((wrap64 (-(Int.tmod a0 10))) + 1)) then (if (wrap64 ((wrap64 (-(Int.tmod a0 10))) + 1)) ≤ 10 then (if a0 > (-10) then (if 1 + ((⟨#[48, 49, 50, 51, 52, 53, 54, 55, 56, 57]⟩ : ByteArray).extract ((wrap64 (-(Int.tmod a0 10))) : Int).toNat ((wrap64 ((wrap64 (-(Int.tmod a0 10))) + 1)) : Int).toNat).size ≤ 9223372036854775807 then (some ((⟨#[45]⟩ : ByteArray) ++ ((⟨#[48, 49, 50, 51, 52, 53, 54, 55, 56, 57]⟩ : ByteArray).extract ((wrap64 (-(Int.tmod a0 10))) : Int).toNat ((wrap64 ((wrap64 (-(Int.tmod a0 10))) + 1)) : Int).toNat))) else (none)) else ((semblanceref01_Text.f k (wrap64 (-(wrap64 (Int.tdiv a0 10))))).bind fun t215 => (if 1 + t215.size ≤ 9223372036854775807 then (if ((⟨#[45]⟩ : ByteArray) ++ t215).size + ((⟨#[48, 49, 50, 51, 52, 53, 54, 55, 56, 57]⟩ : ByteArray).extract ((wrap64 (-(Int.tmod a0 10))) : Int).toNat ((wrap64 ((wrap64 (-(Int.tmod a0 10))) + 1)) : Int).toNat).size ≤ 9223372036854775807 then (some (((⟨#[45]⟩ : ByteArray) ++ t215) ++ ((⟨#[48, 49, 50, 51, 52, 53, 54, 55, 56, 57]⟩ : ByteArray).extract ((wrap64 (-(Int.tmod a0 10))) : Int).toNat ((wrap64 ((wrap64 (-(Int.tmod a0 10))) + 1)) : Int).toNat))) else (none)) else (none)))) else (none)) else (none)) else (none))
theorem semblanceref01_Put.mono : ∀ a0 k, LeO (semblanceref01_Put.f k a0) (semblanceref01_Put.f (k + 1) a0) := by
  intro a0 k
  unfold semblanceref01_Put.f
  exact mo_
instance semblanceref01_Put.lc : ∀ a0 k, LeC (semblanceref01_Put.f k a0) (semblanceref01_Put.f (k + 1) a0) := fun a0 k => ⟨semblanceref01_Put.mono a0 k⟩
set_option maxHeartbeats 8000000 in
set_option maxRecDepth 100000 in
theorem semblanceref01_Put.calls (k : Nat) (a0 : Int) (r : ByteArray) (w : World) (h : semblanceref01_Put.f k a0 = some r) :
  Calls Try.prog 37 #[.int .i64 a0] w fun e w' => e = .returned (.string r) ∧ Drawn0 w w' := by
 unfold semblanceref01_Put.f at h
 have H := h
 clear h
 replace H := id_ H; obtain ⟨c2, H⟩ | ⟨c2, H⟩ := H
 ·have c2b0 : decide (0 ≤ a0) = true := decide_eq_true c2
  clear c2
  replace H := bi_ H; obtain ⟨t214, A3, H⟩ := H
  obtain rfl := Option.some.inj H
  go_enter Try.func37, Try.ntmps37
  go_wp2_with (first | ((with_reducible refine gate_callee (f := 68) rfl ?_); refine gl_ (some 8) Try.func68 #[.int .i64 a0] ?_; (with_reducible refine (semblanceref01_Text.calls k a0 t214 _ A3.out).mono ?_); rintro e w' ⟨rfl, ⟨nd, rfl⟩⟩; refine ⟨_, rfl, ?_⟩))
  go_ret
  exact ⟨rl_, dw_⟩
 have c2b0 : decide (0 ≤ a0) = false := decide_eq_false c2
 clear c2
 obtain ⟨ji4, hji4⟩ : ∃ j_ : Int, (wrap64 (-(Int.tmod a0 10))) = j_ := ⟨_, rfl⟩
 replace H : (if 0 ≤ (ji4) then (if (ji4) ≤ (wrap64 ((ji4) + 1)) then (if (wrap64 ((ji4) + 1)) ≤ 10 then (if a0 > (-10) then (if 1 + ((⟨#[48, 49, 50, 51, 52, 53, 54, 55, 56, 57]⟩ : ByteArray).extract ((ji4) : Int).toNat ((wrap64 ((ji4) + 1)) : Int).toNat).size ≤ 9223372036854775807 then (some ((⟨#[45]⟩ : ByteArray) ++ ((⟨#[48, 49, 50, 51, 52, 53, 54, 55, 56, 57]⟩ : ByteArray).extract ((ji4) : Int).toNat ((wrap64 ((ji4) + 1)) : Int).toNat))) else (none)) else ((semblanceref01_Text.f k (wrap64 (-(wrap64 (Int.tdiv a0 10))))).bind fun t215 => (if 1 + t215.size ≤ 9223372036854775807 then (if ((⟨#[45]⟩ : ByteArray) ++ t215).size + ((⟨#[48, 49, 50, 51, 52, 53, 54, 55, 56, 57]⟩ : ByteArray).extract ((ji4) : Int).toNat ((wrap64 ((ji4) + 1)) : Int).toNat).size ≤ 9223372036854775807 then (some (((⟨#[45]⟩ : ByteArray) ++ t215) ++ ((⟨#[48, 49, 50, 51, 52, 53, 54, 55, 56, 57]⟩ : ByteArray).extract ((ji4) : Int).toNat ((wrap64 ((ji4) + 1)) : Int).toNat))) else (none)) else (none)))) else (none)) else (none)) else (none)) = some r := by first | (rw [hji4] at H; exact H) | (simp only [hji4] at H ⊢; exact H)
 have hji4w : (IntKind.i64.wrap (-(Int.tmod a0 10))) = ji4 := (i64_w _).trans hji4
 replace H := ic_ H; obtain ⟨c5, H⟩ | ⟨c5, H⟩ := H
 ·exact absurd H (by simp)

 have c5b0 := eq_true c5
 have c5b1 : decide (0 ≤ (ji4)) = true := decide_eq_true c5
 clear c5
 replace H := ip_ H; obtain ⟨c6, H⟩ := H
 have c6b0 := eq_true c6
 have c6b1 : decide ((ji4) ≤ (wrap64 ((ji4) + 1))) = true := decide_eq_true c6
 replace H := ip_ H; obtain ⟨c7, H⟩ := H
 have c7b0 := eq_true c7
 have c7b1 : decide ((wrap64 ((ji4) + 1)) ≤ 10) = true := decide_eq_true c7
 replace H := id_ H; obtain ⟨c8, H⟩ | ⟨c8, H⟩ := H
 ·have c8b0 : decide ((-10) < a0) = true := decide_eq_true c8
  clear c8
  replace H := ip_ H; obtain ⟨c9, H⟩ := H
  have c9b0 := eq_true c9
  have c9b1 : decide (1 + ((⟨#[48, 49, 50, 51, 52, 53, 54, 55, 56, 57]⟩ : ByteArray).extract ((ji4) : Int).toNat ((wrap64 ((ji4) + 1)) : Int).toNat).size ≤ 9223372036854775807) = true := decide_eq_true c9
  try have c9b2 : (9223372036854775807 < 1 + ((⟨#[48, 49, 50, 51, 52, 53, 54, 55, 56, 57]⟩ : ByteArray).extract ((ji4) : Int).toNat ((wrap64 ((ji4) + 1)) : Int).toNat).size) = False := eq_false (Nat.not_lt.2 c9)
  try have c9b3 : (9223372036854775807 < 1 + (⟨#[48, 49, 50, 51, 52, 53, 54, 55, 56, 57]⟩ : ByteArray).extract ((ji4) : Int).toNat ((wrap64 ((ji4) + 1)) : Int).toNat.size) = False := by have h_ := c9b2; simp only [ByteArray.size_append] at h_; exact h_
  obtain rfl := Option.some.inj H
  go_enter Try.func37, Try.ntmps37
  go_wp2
  go_ret
  exact ⟨by first | rfl | (simp; done) | (simp only [← hji4] <;> (first | rfl | simp)) | (simp [*]; done), dw_⟩
 have c8b0 : decide ((-10) < a0) = false := decide_eq_false c8
 clear c8
 replace H := bi_ H; obtain ⟨t215, A10, H⟩ := H
 replace H := ip_ H; obtain ⟨c11, H⟩ := H
 have c11b0 := eq_true c11
 have c11b1 : decide (1 + t215.size ≤ 9223372036854775807) = true := decide_eq_true c11
 try have c11b2 : (9223372036854775807 < 1 + t215.size) = False := eq_false (Nat.not_lt.2 c11)
 replace H := ip_ H; obtain ⟨c12, H⟩ := H
 have c12b0 := eq_true c12
 have c12b1 : decide (((⟨#[45]⟩ : ByteArray) ++ t215).size + ((⟨#[48, 49, 50, 51, 52, 53, 54, 55, 56, 57]⟩ : ByteArray).extract ((ji4) : Int).toNat ((wrap64 ((ji4) + 1)) : Int).toNat).size ≤ 9223372036854775807) = true := decide_eq_true c12
 try have c12b2 : (9223372036854775807 < ((⟨#[45]⟩ : ByteArray) ++ t215).size + ((⟨#[48, 49, 50, 51, 52, 53, 54, 55, 56, 57]⟩ : ByteArray).extract ((ji4) : Int).toNat ((wrap64 ((ji4) + 1)) : Int).toNat).size) = False := eq_false (Nat.not_lt.2 c12)
 try have c12b3 : (9223372036854775807 < 1 + t215.size + (⟨#[48, 49, 50, 51, 52, 53, 54, 55, 56, 57]⟩ : ByteArray).extract ((ji4) : Int).toNat ((wrap64 ((ji4) + 1)) : Int).toNat.size) = False := by have h_ := c12b2; simp only [ByteArray.size_append] at h_; exact h_
 obtain rfl := Option.some.inj H
 go_enter Try.func37, Try.ntmps37
 go_wp2_with (first | ((with_reducible refine gate_callee (f := 68) rfl ?_); refine gl_ (some 23) Try.func68 #[.int .i64 (wrap64 (-(wrap64 (Int.tdiv a0 10))))] ?_; (with_reducible refine (semblanceref01_Text.calls k (wrap64 (-(wrap64 (Int.tdiv a0 10)))) t215 _ A10.out).mono ?_); rintro e w' ⟨rfl, ⟨nd, rfl⟩⟩; refine ⟨_, rfl, ?_⟩))
 go_ret
 exact ⟨by first | rfl | (simp; done) | (simp only [← hji4] <;> (first | rfl | simp)) | (simp [*]; done), dw_⟩
end Go.Proofs.Ytbkaiojofgmbnaa.XL
