-- written by wip/xprint.py out of the translation
import Derived.Test.YtbkaiojofgmbnaaGreatXShort
import Derived.Test.YtbkaiojofgmbnaaGreatXSp0
import Derived.Test.YtbkaiojofgmbnaaGreatXSp8
import Derived.Test.YtbkaiojofgmbnaaGreatXSp9
namespace Go.Proofs.YtbkaiojofgmbnaaGreat.XS
open Go.Proofs.YtbkaiojofgmbnaaGreat.XShort Go.Proofs.YtbkaiojofgmbnaaGreat.XReg Go.Proofs.YtbkaiojofgmbnaaGreat.XGrow Go.RowKit Go.Proofs.YtbkaiojofgmbnaaGreatW.PrintWords Go.Proofs.YtbkaiojofgmbnaaGreatW.PrintLast Go.Proofs.YtbkaiojofgmbnaaGreatW.PrintMore
attribute [local go_sem] max2_int min2_int max_two min_two max_three min_three max_four min_four   -- for this text's walks alone
set_option linter.unusedVariables false
set_option linter.unusedSimpArgs false

/-! ### term_Names: function 124 -/
def term_Names.l0 : Nat → Int → List ByteArray → List (S78) → Int → Int → Option (List ByteArray)
  | 0, _, _, _, _, _ => none
  | k + 1, x1, x5, x8, x9, x10 => if x10 < x9 then (if 0 ≤ x10 then (if x10 < (x8.length : Int) then (if ((rd_T78 x8 x10).f0) = x1 then (if x5.length < 8796093022208 then (term_Names.l0 k x1 (x5 ++ [(rd_T78 x8 x10).f2]) x8 x9 (wrap64 (x10 + 1))) else (none)) else (term_Names.l0 k x1 x5 x8 x9 (wrap64 (x10 + 1)))) else (none)) else (none)) else (some x5)
def term_Names.f (k : Nat) (l0 : List (S78)) (a1 : Int) : Option (List ByteArray) := term_Names.l0 k a1 ([] : List ByteArray) l0 (l0.length : Int) 0
theorem term_Names.mono_l : ∀ k, (∀ y0 y1 y2 y3 y4, LeO (term_Names.l0 k y0 y1 y2 y3 y4) (term_Names.l0 (k + 1) y0 y1 y2 y3 y4))
  | 0 => fun _ _ _ _ _ r h => by simp [term_Names.l0] at h
  | k + 1 => by
    have ih0 := term_Names.mono_l k
    · intro y0 y1 y2 y3 y4
      unfold term_Names.l0
      exact mo_
theorem term_Names.mono : ∀ a0 a1 k, LeO (term_Names.f k a0 a1) (term_Names.f (k + 1) a0 a1) := by
  intro a0 a1 k
  have ih0 := term_Names.mono_l k
  unfold term_Names.f
  exact mo_
instance term_Names.lc : ∀ a0 a1 k, LeC (term_Names.f k a0 a1) (term_Names.f (k + 1) a0 a1) := fun a0 a1 k => ⟨term_Names.mono a0 a1 k⟩
set_option maxHeartbeats 8000000 in
set_option maxRecDepth 100000 in
theorem term_Names.calls (k : Nat) (A0 : Option Addr) (c0 : Nat) (l0 : List (S78)) (a1 : Int) (r : List ByteArray) (w : World) (hr0 : Kd.C k78 w A0 l0.length l0) (hc0 : l0.length ≤ c0) (h : term_Names.f k l0 a1 = some r) :
  Calls Tryz.prog 124 #[.slice A0 l0.length c0, .int .i64 a1] w fun e w' => ∃ v0_ : Value, e = .returned (v0_) ∧ Kd.R Kd.string 9 w' w.heap.size (fun _ => True) v0_ r ∧ Below w.heap.size w w' := by
 have hu78 := Tryz.underlying78
 have HR0 := Aside0.mk hr0
 have HC0 := Aside0.mk hc0
 clear hr0 hc0
 have HB := Aside0.mk (Below.refl w.heap.size w)
 unfold term_Names.f at h
 have H := h
 clear h
 have H' := Aside0.mk H
 clear H
 go_enter Tryz.func124, Tryz.ntmps124
 go_wp2
 go_loopg [5, 10] k (fun kq v5 v10 w' => ∃ (x5_1 : List ByteArray) (x10_1 : Int), v10 = .int .i64 x10_1 ∧ Aside0 (term_Names.l0 kq a1 x5_1 l0 (l0.length : Int) x10_1 = some r) ∧ Aside0 (kq ≤ k) ∧ Aside0 (Kd.R Kd.string 9 w' w.heap.size (fun _ => True) v5 x5_1) ∧ Aside0 (Below w.heap.size w w'))
 case atStart => exact ⟨(([] : List ByteArray)), (0), rl_, H', ⟨Nat.le_refl _⟩, ⟨by first | exact Kd.R_nil _ _ _ _ _ | exact Kd.N_nil _ _ _ _ _ | exact Kd.V_nil _ _ _ _ _ | exact Kd.Q_nil _ _ _ _ _ | exact Kd.S_nil _ _ _ _ _⟩, ⟨bw_⟩⟩
 case round =>
  clear H'
  obtain ⟨x5_1, x10_1, rfl, HA, HK1, HO_5, HB⟩ := hrel
  cases gk with
  | zero => exact absurd HA.out (by simp [term_Names.l0])
  | succ k1 =>
   have H := HA.out
   clear HA
   simp only [term_Names.l0] at H
   replace H := it_ H; obtain ⟨c3b0, H⟩ | ⟨c3b0, H⟩ := H
   ·obtain rfl := Option.some.inj H
    go_wp2
    go_ret
    exact ⟨_, rv_, by (with_reducible repeat (first | apply Kd.R_alloc | apply Kd.R_drewN | apply Kd.R_drew)); exact HO_5.out, by repeat (first | (with_reducible first | exact HB.out | apply below_alloc | apply pw_below_drewN | apply below_drew1) | exact HB.out)⟩

   replace H := is_ H; obtain ⟨c4b0, H⟩ := H
   replace H := is_ H; obtain ⟨c5b0, H⟩ := H
   replace H := ic_ H; obtain ⟨c6, H⟩ | ⟨c6, H⟩ := H
   ·have c6b0 : (((rd_T78 l0 x10_1).f0) == a1) = false := beq_eq_false_iff_ne.mpr c6
    have c6b1 : (((rd_T78 l0 x10_1).f0) != a1) = true := bne_iff_ne.mpr c6
    have H' := Aside0.mk H
    clear H
    obtain ⟨ad240, e240, hx240_0, hx240_1, hx240_2, p240, q240⟩ := au_T78 HR0 HB x10_1; cases e240
    go_wp2_with (first | ((with_reducible refine gate_dst (N := 7) rfl ?_); refine by_ HB (N := 7) (cs := #[.int .i64 0, .int .i64 0, .string (⟨#[]⟩ : ByteArray)]) (t := 78) ?_; intro gb241 hg w11 hbox hb hB_; have BK241 := Aside0.mk (hbox); have GW241 := gw_ hg hB_; have GE241 := gw_ hg hB_; replace HO_5 := Aside0.mk (Kd.R_below (kR_ HO_5) hb); replace HB := Aside0.mk (below_step hB_ hb); clear hb hbox hg; obtain ⟨z12_0, z12_1, z12_2, y12_0, y12_1, y12_2⟩ := cw3_ BK241.out))
    go_roundg k1
    case measure => have := HK1.out; omega
    case rel => exact ⟨(x5_1), (wrap64 (x10_1 + 1)), rl_, H', ⟨kn_ HK1⟩, ⟨by (with_reducible repeat (first | apply Kd.R_alloc | apply Kd.R_drewN | apply Kd.R_drew)); exact Kd.R_mono (Kd.R_far (p := ⟨gb241, 2, none⟩) (Kd.R_far (p := ⟨gb241, 1, none⟩) (Kd.R_far (p := ⟨gb241, 0, none⟩) (Kd.R_types HO_5.out BK241.out (by decide)) (fun _ hk => hk.2) (.int .i64 ((rd_T78 l0 x10_1).f0))) (fun _ hk => hk.2) (.int .i64 ((rd_T78 l0 x10_1).f1))) (fun _ hk => hk.2) (.string ((rd_T78 l0 x10_1).f2))) (fun _ hk => trivial)⟩, ⟨bw_⟩⟩
   have c6b0 : (((rd_T78 l0 x10_1).f0) == a1) = true := beq_iff_eq.mpr c6
   have c6b1 : (((rd_T78 l0 x10_1).f0) != a1) = false := bne_eq_false_iff_eq.mpr c6
   clear c6
   replace H := ip_ H; obtain ⟨c7, H⟩ := H
   have LMc7 := Aside0.mk c7
   clear c7
   obtain ⟨y242, hy242⟩ : ∃ y_ : List ByteArray, y_ = (x5_1 ++ [(rd_T78 l0 x10_1).f2]) := ⟨_, rfl⟩
   replace H : (term_Names.l0 k1 a1 y242 l0 (l0.length : Int) (wrap64 (x10_1 + 1))) = some r := by first | (rw [hy242]; with_reducible exact H) | (have H2_ := (Option.bind_some _ _).symm.trans H; rw [hy242]; with_reducible exact H2_) | (have H2_ := (Option.bind_some _ _).symm.trans H; with_reducible exact H2_) | with_reducible exact H | (rw [hy242]; exact H) | exact H
   have Ny242 := Aside0.mk hy242
   clear hy242
   have H' := Aside0.mk H
   clear H
   obtain ⟨ad240, e240, hx240_0, hx240_1, hx240_2, p240, q240⟩ := au_T78 HR0 HB x10_1; cases e240
   go_wp2_with (first | ((with_reducible refine gate_dst (N := 7) rfl ?_); refine by_ HB (N := 7) (cs := #[.int .i64 0, .int .i64 0, .string (⟨#[]⟩ : ByteArray)]) (t := 78) ?_; intro gb241 hg w8 hbox hb hB_; have BK241 := Aside0.mk (hbox); have GW241 := gw_ hg hB_; have GE241 := gw_ hg hB_; replace HO_5 := Aside0.mk (Kd.R_below (kR_ HO_5) hb); replace HB := Aside0.mk (below_step hB_ hb); clear hb hbox hg; obtain ⟨z9_0, z9_1, z9_2, y9_0, y9_1, y9_2⟩ := cw3_ BK241.out) | ((with_reducible refine gate_builtin (b := .append) (xs := #[.tmp 18, .tmp 21]) rfl ?_); at_builtin; refine Kd.R_append Kd.string (w0 := w) w.heap.size rfl (.tmp 18) (.tmp 21) 22 9 (.string ⟨#[]⟩) 16 rfl Tryz.underlying22 info9 rfl (by decide) (by omega) u5 x5_1 ((rd_T78 l0 x10_1).f2) [.string ((rd_T78 l0 x10_1).f2)] (fun _ => True) (fun _ => False) rfl (by first | (go_simp; done) | (go_simp; rfl)) ?aP (fun _ hk => hk.elim) ?aF ?aO ?aB ?aS ?aL ?_; (case aP => exact rfl); (case aB => exact bw_); (case aF => exact (fun _ _ => trivial)); (case aO => exact (by (with_reducible repeat (first | apply Kd.R_alloc | apply Kd.R_drewN | apply Kd.R_drew)); exact Kd.R_mono (Kd.R_far (p := ⟨gb241, 2, none⟩) (Kd.R_far (p := ⟨gb241, 1, none⟩) (Kd.R_far (p := ⟨gb241, 0, none⟩) (Kd.R_types HO_5.out BK241.out (by decide)) (fun _ hk => hk.2) (.int .i64 ((rd_T78 l0 x10_1).f0))) (fun _ hk => hk.2) (.int .i64 ((rd_T78 l0 x10_1).f1))) (fun _ hk => hk.2) (.string ((rd_T78 l0 x10_1).f2))) (fun _ hk => trivial))); (case aS => exact (below_size bw_)); (case aL => have := LMc7.out; omega); intro v243 w10 ho hb hg hat; rw [← Ny242.out] at ho; have HO244 := Aside0.mk (ho); replace BK241 := Aside0.mk (blk_grown (g := gb241) (o := .cells #[.int .i64 ((rd_T78 l0 x10_1).f0), .int .i64 ((rd_T78 l0 x10_1).f1), .string ((rd_T78 l0 x10_1).f2)] 78 (0, 0)) (by refine grO ?_; refine blk_put (cs := #[.int .i64 ((rd_T78 l0 x10_1).f0), .int .i64 ((rd_T78 l0 x10_1).f1), .string (⟨#[]⟩ : ByteArray)]) ?_ 2 _ rfl; refine grO ?_; refine blk_put (cs := #[.int .i64 ((rd_T78 l0 x10_1).f0), .int .i64 0, .string (⟨#[]⟩ : ByteArray)]) ?_ 1 _ rfl; refine grO ?_; refine blk_put (cs := #[.int .i64 0, .int .i64 0, .string (⟨#[]⟩ : ByteArray)]) ?_ 0 _ rfl; refine grO ?_; exact BK241.out) hg (Kd.R_ne HO_5.out BK241.out (by decide))); replace HB := Aside0.mk (hb); clear ho hb hg hat))
   go_roundg k1
   case measure => have := HK1.out; omega
   case rel => exact ⟨(y242), (wrap64 (x10_1 + 1)), rl_, H', ⟨kn_ HK1⟩, ⟨by (with_reducible repeat (first | apply Kd.R_alloc | apply Kd.R_drewN | apply Kd.R_drew)); exact HO244.out⟩, ⟨bw_⟩⟩
/-! ### rules_book_foreign: function 109 -/
-- USES semblance/rules.none
-- USES (*semblance/rules.book).note
-- USES semblance/term.Type
-- USES semblance/term.Names
def rules_foreign.f (k : Nat) (b : rules_bk.Bk) (l : List (S78)) (a1 : Int) : Option Bool :=
  (term_Type.f k l).bind fun t => if t = a1 then (term_Names.f k l 2).bind fun ns => if rules_none.f ns b.lV = true then some true else (term_Names.f k l 11).bind fun ms => some (rules_none.f ms b.lS) else some true
theorem rules_foreign.mono : ∀ b l a1 k, LeO (rules_foreign.f k b l a1) (rules_foreign.f (k + 1) b l a1) := by
  intro b l a1 k
  unfold rules_foreign.f
  exact LeO.bind (term_Type.mono _ k) (fun t => LeO.ite (LeO.bind (term_Names.mono _ _ k) (fun ns => LeO.ite (LeO.refl _) (LeO.bind (term_Names.mono _ _ k) (fun ms => LeO.refl _)))) (LeO.refl _))
instance rules_foreign.lc : ∀ b l a1 k, LeC (rules_foreign.f k b l a1) (rules_foreign.f (k + 1) b l a1) := fun b l a1 k => ⟨rules_foreign.mono b l a1 k⟩
set_option maxHeartbeats 4000000 in
set_option maxRecDepth 100000 in
open Go.Proofs.YtbkaiojofgmbnaaGreat.XReg in
theorem rules_foreign.calls (k : Nat) (n₁ n₀ B : Nat) (b : rules_bk.Bk) (out : List (S65)) (vo : Value) (A0 : Option Addr) (c0 : Nat) (l0 : List (S78)) (a1 : Int) (r : Bool) (W : World) (hA : rules_bk.At n₁ n₀ W B b out vo) (hV : b.lV.length ≤ 100000) (hS : b.lS.length ≤ 100000)
    (hr0 : Kd.C k78 W A0 l0.length l0) (hc0 : l0.length ≤ c0) (h : rules_foreign.f k b l0 a1 = some r) :
    Calls Tryz.prog 109 #[.pointer (some ⟨B, 0, none⟩), .slice A0 l0.length c0, .int .i64 a1] W fun e w' => e = .returned (.bool r) ∧ Below W.heap.size W w' := by
  unfold rules_foreign.f at h
  obtain ⟨t, ht, h⟩ := Option.bind_eq_some_iff.mp h
  have hu := Tryz.underlying90
  have HR := Aside0.mk hr0
  have HA := Aside0.mk hA
  have HT := Aside0.mk ht
  have HVS := Aside0.mk (And.intro hV hS)
  clear hr0 hA ht hV hS
  by_cases c1 : t = a1
  · rw [if_pos c1] at h
    have c1b : (t != a1) = false := bne_eq_false_iff_eq.mpr c1
    clear c1
    obtain ⟨ns, hns, h⟩ := Option.bind_eq_some_iff.mp h
    have HN := Aside0.mk hns
    clear hns
    by_cases c2 : rules_none.f ns b.lV = true
    · rw [if_pos c2] at h
      obtain rfl := Option.some.inj h
      have HC2 := Aside0.mk c2
      clear h c2
      go_enter Tryz.func109, Tryz.ntmps109
      go_wp2_with fail
      refine rs_ 23 [0, 2, 1, 3, 4, 5, 7, 8, 9, 10, 6, 11, 12, 13, 14, 15, 16, 17, 18, 19, 20, 21, 22] (fun w' => w'.cell? ⟨B, 4, none⟩ = some (.slice b.AV b.lV.length b.cV) ∧ w'.cell? ⟨B, 5, none⟩ = some (.slice b.AS b.lS.length b.cS)) rfl (by kernel_rfl) ⟨(HA.out.below (below_drew1 (Below.refl _ _))).cells.2.2.2.2.1, (HA.out.below (below_drew1 (Below.refl _ _))).cells.2.2.2.2.2.1⟩ (fun hHeld => ?_)
      iterate 2 (first | refine pq_ ?_ | refine tq_ hHeld ?_)
      refine cq_ Tryz.func122 ?_
      refine (term_Type.calls k A0 c0 l0 t _ (Kd.C_drew HR.out) hc0 HT.out).mono ?_
      rintro e w2 ⟨rfl, hb2⟩; have HB2 := Aside0.mk (below_step (below_drew1 (Below.refl _ W)) hb2); clear hb2
      refine ⟨_, rfl, ⟨(HA.out.below HB2.out).cells.2.2.2.2.1, (HA.out.below HB2.out).cells.2.2.2.2.2.1⟩, fun hHeld => ?_⟩
      (try simp only [Act.put, sb_, s0_, s1_])
      iterate 7 (first | refine pq_ ?_ | refine tq_ hHeld ?_)
      refine cq_ Tryz.func124 ?_
      refine (term_Names.calls k A0 c0 l0 2 ns _ (Kd.C_below HR.out HB2.out) hc0 HN.out).mono ?_
      rintro e w3 ⟨v3, rfl, hR3, hb3⟩; obtain ⟨A3, c3, rfl, hl3, hC3⟩ := Kd.R_reads hR3; have HB3 := Aside0.mk (below_step HB2.out hb3); have HC3 := Aside0.mk hC3; clear hR3 hC3 hb3
      refine ⟨_, rfl, ⟨(HA.out.below HB3.out).cells.2.2.2.2.1, (HA.out.below HB3.out).cells.2.2.2.2.2.1⟩, fun hHeld => ?_⟩
      (try simp only [Act.put, sb_, s0_, s1_])
      refine cq_ Tryz.func123 ?_
      refine (rules_none.calls A3 c3 ns b.AV b.cV b.lV w3 HC3.out (Kd.R_reads' (HA.out.below HB3.out).vars).2.2 (Kd.R_reads' (HA.out.below HB3.out).vars).2.1 HVS.out.1).mono ?_
      rw [HC2.out]; rintro e w4 ⟨rfl, hb4⟩; have HB4 := Aside0.mk (below_step HB3.out hb4); clear hb4
      refine ⟨_, rfl, ⟨(HA.out.below HB4.out).cells.2.2.2.2.1, (HA.out.below HB4.out).cells.2.2.2.2.2.1⟩, fun hHeld => ?_⟩
      (try simp only [Act.put, sb_, s0_, s1_])
      iterate 11 (first | refine pq_ ?_ | refine tq_ hHeld ?_)
      refine dn_ (by kernel_rfl) ?_
      go_wp2
      go_ret
      exact ⟨rfl, HB4.out⟩
    · rw [if_neg c2] at h
      obtain ⟨ms, hms, h⟩ := Option.bind_eq_some_iff.mp h
      obtain rfl := Option.some.inj h
      have HC2 := Aside0.mk (Bool.eq_false_iff.2 c2)
      have HM := Aside0.mk hms
      clear h c2 hms
      generalize hq : rules_none.f ms b.lS = q
      have HQ := Aside0.mk hq
      clear hq
      go_enter Tryz.func109, Tryz.ntmps109
      go_wp2_with fail
      refine rs_ 23 [0, 2, 1, 3, 4, 5, 7, 8, 9, 10, 6, 11, 12, 13, 14, 16, 17, 18, 19, 15, 20, 21, 22] (fun w' => w'.cell? ⟨B, 4, none⟩ = some (.slice b.AV b.lV.length b.cV) ∧ w'.cell? ⟨B, 5, none⟩ = some (.slice b.AS b.lS.length b.cS)) rfl (by kernel_rfl) ⟨(HA.out.below (below_drew1 (Below.refl _ _))).cells.2.2.2.2.1, (HA.out.below (below_drew1 (Below.refl _ _))).cells.2.2.2.2.2.1⟩ (fun hHeld => ?_)
      iterate 2 (first | refine pq_ ?_ | refine tq_ hHeld ?_)
      refine cq_ Tryz.func122 ?_
      refine (term_Type.calls k A0 c0 l0 t _ (Kd.C_drew HR.out) hc0 HT.out).mono ?_
      rintro e w2 ⟨rfl, hb2⟩; have HB2 := Aside0.mk (below_step (below_drew1 (Below.refl _ W)) hb2); clear hb2
      refine ⟨_, rfl, ⟨(HA.out.below HB2.out).cells.2.2.2.2.1, (HA.out.below HB2.out).cells.2.2.2.2.2.1⟩, fun hHeld => ?_⟩
      (try simp only [Act.put, sb_, s0_, s1_])
      iterate 7 (first | refine pq_ ?_ | refine tq_ hHeld ?_)
      refine cq_ Tryz.func124 ?_
      refine (term_Names.calls k A0 c0 l0 2 ns _ (Kd.C_below HR.out HB2.out) hc0 HN.out).mono ?_
      rintro e w3 ⟨v3, rfl, hR3, hb3⟩; obtain ⟨A3, c3, rfl, hl3, hC3⟩ := Kd.R_reads hR3; have HB3 := Aside0.mk (below_step HB2.out hb3); have HC3 := Aside0.mk hC3; clear hR3 hC3 hb3
      refine ⟨_, rfl, ⟨(HA.out.below HB3.out).cells.2.2.2.2.1, (HA.out.below HB3.out).cells.2.2.2.2.2.1⟩, fun hHeld => ?_⟩
      (try simp only [Act.put, sb_, s0_, s1_])
      refine cq_ Tryz.func123 ?_
      refine (rules_none.calls A3 c3 ns b.AV b.cV b.lV w3 HC3.out (Kd.R_reads' (HA.out.below HB3.out).vars).2.2 (Kd.R_reads' (HA.out.below HB3.out).vars).2.1 HVS.out.1).mono ?_
      rw [HC2.out]; rintro e w4 ⟨rfl, hb4⟩; have HB4 := Aside0.mk (below_step HB3.out hb4); clear hb4
      refine ⟨_, rfl, ⟨(HA.out.below HB4.out).cells.2.2.2.2.1, (HA.out.below HB4.out).cells.2.2.2.2.2.1⟩, fun hHeld => ?_⟩
      (try simp only [Act.put, sb_, s0_, s1_])
      iterate 7 (first | refine pq_ ?_ | refine tq_ hHeld ?_)
      refine cq_ Tryz.func124 ?_
      refine (term_Names.calls k A0 c0 l0 11 ms _ (Kd.C_below HR.out HB4.out) hc0 HM.out).mono ?_
      rintro e w5 ⟨v5, rfl, hR5, hb5⟩; obtain ⟨A5, c5, rfl, hl5, hC5⟩ := Kd.R_reads hR5; have HB5 := Aside0.mk (below_step HB4.out hb5); have HC5 := Aside0.mk hC5; clear hR5 hC5 hb5
      refine ⟨_, rfl, ⟨(HA.out.below HB5.out).cells.2.2.2.2.1, (HA.out.below HB5.out).cells.2.2.2.2.2.1⟩, fun hHeld => ?_⟩
      (try simp only [Act.put, sb_, s0_, s1_])
      refine cq_ Tryz.func123 ?_
      refine (rules_none.calls A5 c5 ms b.AS b.cS b.lS w5 HC5.out (Kd.R_reads' (HA.out.below HB5.out).states).2.2 (Kd.R_reads' (HA.out.below HB5.out).states).2.1 HVS.out.2).mono ?_
      rw [HQ.out]; rintro e w6 ⟨rfl, hb6⟩; have HB6 := Aside0.mk (below_step HB5.out hb6); clear hb6
      refine ⟨_, rfl, ⟨(HA.out.below HB6.out).cells.2.2.2.2.1, (HA.out.below HB6.out).cells.2.2.2.2.2.1⟩, fun hHeld => ?_⟩
      (try simp only [Act.put, sb_, s0_, s1_])
      iterate 2 (first | refine pq_ ?_ | refine tq_ hHeld ?_)
      refine dn_ (by kernel_rfl) ?_
      go_wp2
      go_ret
      exact ⟨rfl, HB6.out⟩
  · rw [if_neg c1] at h
    obtain rfl := Option.some.inj h
    have c1b : (t != a1) = true := bne_iff_ne.mpr c1
    clear c1 h
    go_enter Tryz.func109, Tryz.ntmps109
    go_wp2_with fail
    refine rs_ 23 [0, 2, 1, 3, 4, 5, 6, 7, 8, 9, 10, 11, 12, 13, 14, 15, 16, 17, 18, 19, 20, 21, 22] (fun w' => w'.cell? ⟨B, 4, none⟩ = some (.slice b.AV b.lV.length b.cV) ∧ w'.cell? ⟨B, 5, none⟩ = some (.slice b.AS b.lS.length b.cS)) rfl (by kernel_rfl) ⟨(HA.out.below (below_drew1 (Below.refl _ _))).cells.2.2.2.2.1, (HA.out.below (below_drew1 (Below.refl _ _))).cells.2.2.2.2.2.1⟩ (fun hHeld => ?_)
    iterate 2 (first | refine pq_ ?_ | refine tq_ hHeld ?_)
    refine cq_ Tryz.func122 ?_
    refine (term_Type.calls k A0 c0 l0 t _ (Kd.C_drew HR.out) hc0 HT.out).mono ?_
    rintro e w2 ⟨rfl, hb2⟩; have HB2 := Aside0.mk (below_step (below_drew1 (Below.refl _ W)) hb2); clear hb2
    refine ⟨_, rfl, ⟨(HA.out.below HB2.out).cells.2.2.2.2.1, (HA.out.below HB2.out).cells.2.2.2.2.2.1⟩, fun hHeld => ?_⟩
    (try simp only [Act.put, sb_, s0_, s1_])
    iterate 20 (first | refine pq_ ?_ | refine tq_ hHeld ?_)
    refine dn_ (by kernel_rfl) ?_
    go_wp2
    go_ret
    exact ⟨rfl, HB2.out⟩


/-! ### rules_book_acts: function 86 -/
-- USES (*semblance/rules.book).foreign
-- USES slices.ContainsFunc[[]semblance/api.Act,semblance/api.Act]
/-- is an act not of the chart? -/
def rules_acts.one (k : Nat) (b : rules_bk.Bk) (x : S76) : Option Bool := if rules_at b.lV x.f0 < 0 then some true else if x.f1 = true then some false else rules_foreign.f k b x.f2 1
def rules_acts.f (k : Nat) (b : rules_bk.Bk) (l : List (S76)) : Option Bool := if (l.all fun x => (rules_acts.one k b x).isSome) = true then some (l.any fun x => (rules_acts.one k b x).getD false) else none
theorem rules_acts.one_mono : ∀ b x k, LeO (rules_acts.one k b x) (rules_acts.one (k + 1) b x) := by
  intro b x k
  unfold rules_acts.one
  exact LeO.ite (LeO.refl _) (LeO.ite (LeO.refl _) (rules_foreign.mono _ _ _ k))
theorem rules_acts.mono : ∀ b l k, LeO (rules_acts.f k b l) (rules_acts.f (k + 1) b l) := by
  intro b l k r h
  unfold rules_acts.f at h ⊢
  split at h
  case isFalse => cases h
  case isTrue hall =>
    have h1 := List.all_eq_true.1 hall
    have h2 : ∀ x ∈ l, rules_acts.one (k + 1) b x = rules_acts.one k b x := fun x hx => by
      obtain ⟨v, hv⟩ := Option.isSome_iff_exists.1 (h1 x hx)
      rw [hv]
      exact rules_acts.one_mono b x k v hv
    rw [if_pos (List.all_eq_true.2 fun x hx => by rw [h2 x hx]; exact h1 x hx)]
    rw [← h]
    congr 1
    refine Bool.eq_iff_iff.2 ?_
    simp only [List.any_eq_true]
    exact ⟨fun ⟨x, hx, h3⟩ => ⟨x, hx, by rw [← h2 x hx]; exact h3⟩, fun ⟨x, hx, h3⟩ => ⟨x, hx, by rw [h2 x hx]; exact h3⟩⟩
instance rules_acts.lc : ∀ b l k, LeC (rules_acts.f k b l) (rules_acts.f (k + 1) b l) := fun b l k => ⟨rules_acts.mono b l k⟩
theorem rules_acts.any {k : Nat} {b : rules_bk.Bk} {l : List (S76)} {r : Bool} (h : rules_acts.f k b l = some r) : (∀ x ∈ l, rules_acts.one k b x = some ((rules_acts.one k b x).getD false)) ∧ l.any (fun x => (rules_acts.one k b x).getD false) = r := by
  unfold rules_acts.f at h
  split at h
  case isFalse => cases h
  case isTrue hall =>
    refine ⟨fun x hx => ?_, Option.some.inj h⟩
    obtain ⟨v, hv⟩ := Option.isSome_iff_exists.1 (List.all_eq_true.1 hall x hx)
    rw [hv]
    rfl
set_option maxHeartbeats 4000000 in
set_option maxRecDepth 100000 in
open Go.Proofs.YtbkaiojofgmbnaaGreat.XReg in
theorem rules_acts.lit (k : Nat) (n₁ n₀ B g : Nat) (b : rules_bk.Bk) (out : List (S65)) (vo : Value) (x : S76) (A2 : Option Addr) (c2 : Nat) (r : Bool) (W : World) (hA : rules_bk.At n₁ n₀ W B b out vo) (hV : b.lV.length ≤ 100000) (hS : b.lS.length ≤ 100000)
    (hg : W.cell? ⟨g, 0, none⟩ = some (.pointer (some ⟨B, 0, none⟩))) (hr2 : Kd.C k78 W A2 x.f2.length x.f2) (hc2 : x.f2.length ≤ c2) (h : rules_acts.one k b x = some r) :
    Calls Tryz.prog 107 #[.agg #[.string x.f0, .bool x.f1, .slice A2 x.f2.length c2], .pointer (some ⟨g, 0, none⟩)] W fun e w' => e = .returned (.bool r) ∧ Below W.heap.size W w' := by
  unfold rules_acts.one at h
  have hu := Tryz.underlying90
  have hu2 := Tryz.underlying76
  obtain ⟨w1, hw1⟩ : ∃ w1, w1 = W.alloc (.cells #[.string x.f0, .bool x.f1, .slice A2 x.f2.length c2] 76) := ⟨_, rfl⟩
  have hb1 : Below W.heap.size W w1 := by rw [hw1]; exact (Below.refl _ _).alloc (Nat.le_refl _) _
  have hk1 : w1.heap[W.heap.size]? = some (.cells #[.string x.f0, .bool x.f1, .slice A2 x.f2.length c2] 76 (0, 0)) := by rw [hw1]; exact heap_alloc_new W _
  have hg1 : w1.cell? ⟨g, 0, none⟩ = some (.pointer (some ⟨B, 0, none⟩)) := pw_cell_below hb1 hg
  have HS : Aside0 (∀ w', Below w1.heap.size w1 w' → w'.cell? ⟨g, 0, none⟩ = some (.pointer (some ⟨B, 0, none⟩)) ∧ w'.cell? ⟨B, 4, none⟩ = some (.slice b.AV b.lV.length b.cV) ∧ w'.cell? ⟨W.heap.size, 0, none⟩ = some (.string x.f0) ∧ w'.cell? ⟨W.heap.size, 1, none⟩ = some (.bool x.f1) ∧ w'.cell? ⟨W.heap.size, 2, none⟩ = some (.slice A2 x.f2.length c2)) := ⟨fun w' hb => by
    obtain ⟨h0, h1, h2⟩ := cz3_ (blk_below hk1 hb)
    exact ⟨pw_cell_below hb hg1, ((hA.below hb1).below hb).cells.2.2.2.2.1, h0, h1, h2⟩⟩
  have HA := Aside0.mk (hA.below hb1)
  have HR := Aside0.mk (Kd.C_below hr2 hb1)
  have HB1 := Aside0.mk hb1
  have HP := Aside0.mk (fun w' (hb : Below w1.heap.size w1 w') => rules_at.place b.AV b.cV b.lV x.f0 w' (Kd.R_reads' ((hA.below hb1).below hb).vars).2.2 (Kd.R_reads' ((hA.below hb1).below hb).vars).2.1 hV)
  have HVS := Aside0.mk (And.intro hV hS)
  clear hA hr2 hb1 hk1 hg1 hg hV hS
  generalize rules_at b.lV x.f0 = q at *
  by_cases c1 : q < 0
  · rw [if_pos c1] at h
    obtain rfl := Option.some.inj h
    have c1b : decide (q < 0) = true := decide_eq_true c1
    clear c1 h
    subst hw1
    go_enter Tryz.func107, Tryz.ntmps107
    go_wp2_with fail
    refine rs_ 20 [0, 1, 2, 3, 4, 5, 6, 7, 8, 9, 10, 11, 12, 13, 14, 15, 16, 17, 18, 19] (fun w' => w'.cell? ⟨g, 0, none⟩ = some (.pointer (some ⟨B, 0, none⟩)) ∧ w'.cell? ⟨B, 4, none⟩ = some (.slice b.AV b.lV.length b.cV) ∧ w'.cell? ⟨W.heap.size, 0, none⟩ = some (.string x.f0) ∧ w'.cell? ⟨W.heap.size, 1, none⟩ = some (.bool x.f1) ∧ w'.cell? ⟨W.heap.size, 2, none⟩ = some (.slice A2 x.f2.length c2)) rfl (by kernel_rfl) (HS.out _ (below_drew1 (Below.refl _ _))) (fun hHeld => ?_)
    iterate 6 (first | refine pq_ ?_ | refine tq_ hHeld ?_)
    refine cq_ Tryz.func108 ?_
    refine (HP.out _ (below_drew1 (Below.refl _ _))).mono ?_
    rintro e w2 ⟨rfl, hd2⟩; have HB2 := Aside0.mk (below_step (below_drew1 (Below.refl _ _)) hd2.below); clear hd2
    refine ⟨_, rfl, HS.out _ HB2.out, fun hHeld => ?_⟩
    (try simp only [Act.put, sb_, s0_, s1_])
    iterate 13 (first | refine pq_ ?_ | refine tq_ hHeld ?_)
    refine dn_ (by kernel_rfl) ?_
    go_wp2
    go_ret
    exact ⟨rfl, (below_step HB1.out HB2.out)⟩
  · rw [if_neg c1] at h
    have c1b : decide (q < 0) = false := decide_eq_false c1
    clear c1
    by_cases cx : x.f1 = true
    · rw [if_pos cx] at h
      obtain rfl := Option.some.inj h
      clear h
      rw [cx] at HS
      rw [cx] at hw1
      rw [cx]
      clear cx
      subst hw1
      go_enter Tryz.func107, Tryz.ntmps107
      go_wp2_with fail
      refine rs_ 20 [0, 1, 2, 3, 4, 5, 6, 7, 8, 9, 10, 11, 12, 13, 14, 15, 16, 17, 18, 19] (fun w' => w'.cell? ⟨g, 0, none⟩ = some (.pointer (some ⟨B, 0, none⟩)) ∧ w'.cell? ⟨B, 4, none⟩ = some (.slice b.AV b.lV.length b.cV) ∧ w'.cell? ⟨W.heap.size, 0, none⟩ = some (.string x.f0) ∧ w'.cell? ⟨W.heap.size, 1, none⟩ = some (.bool true) ∧ w'.cell? ⟨W.heap.size, 2, none⟩ = some (.slice A2 x.f2.length c2)) rfl (by kernel_rfl) (HS.out _ (below_drew1 (Below.refl _ _))) (fun hHeld => ?_)
      iterate 6 (first | refine pq_ ?_ | refine tq_ hHeld ?_)
      refine cq_ Tryz.func108 ?_
      refine (HP.out _ (below_drew1 (Below.refl _ _))).mono ?_
      rintro e w2 ⟨rfl, hd2⟩; have HB2 := Aside0.mk (below_step (below_drew1 (Below.refl _ _)) hd2.below); clear hd2
      refine ⟨_, rfl, HS.out _ HB2.out, fun hHeld => ?_⟩
      (try simp only [Act.put, sb_, s0_, s1_])
      iterate 13 (first | refine pq_ ?_ | refine tq_ hHeld ?_)
      refine dn_ (by kernel_rfl) ?_
      go_wp2
      go_ret
      exact ⟨rfl, (below_step HB1.out HB2.out)⟩
    · rw [if_neg cx] at h
      have cx := Bool.eq_false_iff.2 cx
      rw [cx] at HS
      rw [cx] at hw1
      rw [cx]
      clear cx
      have HH := Aside0.mk h
      clear h
      subst hw1
      go_enter Tryz.func107, Tryz.ntmps107
      go_wp2_with fail
      refine rs_ 20 [0, 1, 2, 3, 4, 5, 6, 7, 8, 9, 10, 11, 12, 13, 14, 15, 16, 17, 18, 19] (fun w' => w'.cell? ⟨g, 0, none⟩ = some (.pointer (some ⟨B, 0, none⟩)) ∧ w'.cell? ⟨B, 4, none⟩ = some (.slice b.AV b.lV.length b.cV) ∧ w'.cell? ⟨W.heap.size, 0, none⟩ = some (.string x.f0) ∧ w'.cell? ⟨W.heap.size, 1, none⟩ = some (.bool false) ∧ w'.cell? ⟨W.heap.size, 2, none⟩ = some (.slice A2 x.f2.length c2)) rfl (by kernel_rfl) (HS.out _ (below_drew1 (Below.refl _ _))) (fun hHeld => ?_)
      iterate 6 (first | refine pq_ ?_ | refine tq_ hHeld ?_)
      refine cq_ Tryz.func108 ?_
      refine (HP.out _ (below_drew1 (Below.refl _ _))).mono ?_
      rintro e w2 ⟨rfl, hd2⟩; have HB2 := Aside0.mk (below_step (below_drew1 (Below.refl _ _)) hd2.below); clear hd2
      refine ⟨_, rfl, HS.out _ HB2.out, fun hHeld => ?_⟩
      (try simp only [Act.put, sb_, s0_, s1_])
      iterate 9 (first | refine pq_ ?_ | refine tq_ hHeld ?_)
      refine cq_ Tryz.func109 ?_
      refine (rules_foreign.calls k n₁ n₀ B b out vo A2 c2 x.f2 1 r _ (HA.out.below HB2.out) HVS.out.1 HVS.out.2 (Kd.C_below HR.out HB2.out) hc2 HH.out).mono ?_
      rintro e w3 ⟨rfl, hb3⟩; have HB3 := Aside0.mk (below_step HB2.out hb3); clear hb3
      refine ⟨_, rfl, HS.out _ HB3.out, fun hHeld => ?_⟩
      (try simp only [Act.put, sb_, s0_, s1_])
      iterate 3 (first | refine pq_ ?_ | refine tq_ hHeld ?_)
      refine dn_ (by kernel_rfl) ?_
      go_wp2
      go_ret
      exact ⟨rfl, (below_step HB1.out HB3.out)⟩

set_option maxHeartbeats 4000000 in
theorem rules_acts.calls (k : Nat) (n₁ n₀ B : Nat) (b : rules_bk.Bk) (out : List (S65)) (vo : Value) (A0 : Option Addr) (c0 : Nat) (l0 : List (S76)) (r : Bool) (W : World) (hA : rules_bk.At n₁ n₀ W B b out vo) (hV : b.lV.length ≤ 100000) (hS : b.lS.length ≤ 100000)
    (hr0 : Kd.C k76 W A0 l0.length l0) (h : rules_acts.f k b l0 = some r) :
    Calls Tryz.prog 86 #[.pointer (some ⟨B, 0, none⟩), .slice A0 l0.length c0] W fun e w' => e = .returned (.bool r) ∧ Below W.heap.size W w' := by
  obtain ⟨h1, h2⟩ := rules_acts.any h
  have eg := Go.Proofs.enters_of Tryz.func107 (by kernel_rfl) rfl
  have hb1 : Below W.heap.size W (W.alloc (.cells #[.pointer (some ⟨B, 0, none⟩)] 86)) := (Below.refl _ _).alloc (Nat.le_refl _) _
  have hcs := cell_of_one (heap_alloc_new W (.cells #[.pointer (some ⟨B, 0, none⟩)] 86))
  have hcall := ContainsFunc_Act.calls (fun x => (rules_acts.one k b x).getD false) 107 #[.pointer (some ⟨W.heap.size, 0, none⟩)] eg A0 c0 l0 _ (Kd.C_below hr0 hb1)
    (fun W2 hb2 x hx A2 c2 hk => by
      obtain ⟨A2', c2', e, hl, hC⟩ := k76_open hk
      simp only [List.cons.injEq, Value.slice.injEq, and_true, true_and] at e
      obtain ⟨rfl, rfl⟩ := e
      exact (rules_acts.lit k n₁ n₀ B W.heap.size b out vo x A2 c2 _ W2 ((hA.below hb1).below hb2) hV hS ((hb2.cell (p := ⟨W.heap.size, 0, none⟩) (by simp)).trans hcs) hC hl (h1 x hx)).mono fun e w' ⟨he, hw⟩ => ⟨he, hb2.trans (hw.mono hb2.size)⟩)
  rw [h2] at hcall
  have HC := Aside0.mk hcall
  have HB := Aside0.mk hb1
  clear hr0 hcs hb1 hcall hA h h1 h2
  go_enter Tryz.func86, Tryz.ntmps86
  go_wp2_with (go_at_call 87; refine HC.out.mono ?_; rintro e w' ⟨rfl, hb⟩)
  go_ret
  exact ⟨rfl, HB.out.trans (hb.mono HB.out.size)⟩


/-! ### rules_book_bad: function 88 -/
-- USES (*semblance/rules.book).foreign
-- USES (*semblance/rules.book).acts
/-- does a transition break the rule? -/
def rules_bad.f (k : Nat) (b : rules_bk.Bk) (x : S54) : Option Bool :=
  if b.rule = 6 then some (if x.f0.toList = ([] : List UInt8) then false else decide (rules_at b.l1 x.f0 < 0))
  else if b.rule = 7 then some (if x.f3.toList = ([] : List UInt8) then false else decide (rules_at b.lS x.f3 < 0))
  else if b.rule = 8 then (if (x.f1.length : Int) > 0 then rules_foreign.f k b x.f1 2 else some false)
  else if b.rule = 9 then rules_acts.f k b x.f2 else some false
theorem rules_bad.mono : ∀ b x k, LeO (rules_bad.f k b x) (rules_bad.f (k + 1) b x) := by
  intro b x k
  unfold rules_bad.f
  exact LeO.ite (LeO.refl _) (LeO.ite (LeO.refl _) (LeO.ite (LeO.ite (rules_foreign.mono _ _ _ k) (LeO.refl _)) (LeO.ite (rules_acts.mono _ _ k) (LeO.refl _))))
instance rules_bad.lc : ∀ b x k, LeC (rules_bad.f k b x) (rules_bad.f (k + 1) b x) := fun b x k => ⟨rules_bad.mono b x k⟩
set_option maxHeartbeats 8000000 in
set_option maxRecDepth 100000 in
open Go.Proofs.YtbkaiojofgmbnaaGreat.XReg in
theorem rules_bad.calls (k : Nat) (n₁ n₀ B : Nat) (b : rules_bk.Bk) (out : List (S65)) (vo : Value) (x : S54) (A1 : Option Addr) (c1 : Nat) (A2 : Option Addr) (c2 : Nat) (r : Bool) (W : World) (hA : rules_bk.At n₁ n₀ W B b out vo) (hV : b.lV.length ≤ 100000) (hS : b.lS.length ≤ 100000)
    (hE : Kd.C Kd.string W b.A1 b.l1.length b.l1) (hcE : b.l1.length ≤ b.c1) (hE2 : b.l1.length ≤ 100000) (hr1 : Kd.C k78 W A1 x.f1.length x.f1) (hc1 : x.f1.length ≤ c1) (hr2 : Kd.C k76 W A2 x.f2.length x.f2) (hc2 : x.f2.length ≤ c2) (h : rules_bad.f k b x = some r) :
    Calls Tryz.prog 88 #[.pointer (some ⟨B, 0, none⟩), .agg #[.string x.f0, .slice A1 x.f1.length c1, .slice A2 x.f2.length c2, .string x.f3]] W fun e w' => e = .returned (.bool r) ∧ Below W.heap.size W w' := by
  unfold rules_bad.f at h
  have hu := Tryz.underlying90
  have hu2 := Tryz.underlying54
  have hu3 := Tryz.underlying26
  obtain ⟨w1, hw1⟩ : ∃ w1, w1 = W.alloc (.cells #[.string x.f0, .slice A1 x.f1.length c1, .slice A2 x.f2.length c2, .string x.f3] 54) := ⟨_, rfl⟩
  have hb1 : Below W.heap.size W w1 := by rw [hw1]; exact (Below.refl _ _).alloc (Nat.le_refl _) _
  have hk1 : w1.heap[W.heap.size]? = some (.cells #[.string x.f0, .slice A1 x.f1.length c1, .slice A2 x.f2.length c2, .string x.f3] 54 (0, 0)) := by rw [hw1]; exact heap_alloc_new W _
  have HS : Aside0 (∀ w', Below w1.heap.size w1 w' → w'.cell? ⟨B, 1, none⟩ = some (.slice b.A1 b.l1.length b.c1) ∧ w'.cell? ⟨B, 5, none⟩ = some (.slice b.AS b.lS.length b.cS) ∧ w'.cell? ⟨W.heap.size, 0, none⟩ = some (.string x.f0) ∧ w'.cell? ⟨W.heap.size, 3, none⟩ = some (.string x.f3)) := ⟨fun w' hb => by
    obtain ⟨h0, h1, h2, h3⟩ := cz4_ (blk_below hk1 hb)
    have hc := ((hA.below hb1).below hb).cells
    exact ⟨hc.2.1, hc.2.2.2.2.2.1, h0, h3⟩⟩
  have HA := Aside0.mk (hA.below hb1)
  have HR1 := Aside0.mk (Kd.C_below hr1 hb1)
  have HR2 := Aside0.mk (Kd.C_below hr2 hb1)
  have HB1 := Aside0.mk hb1
  have HPE := Aside0.mk (fun w' (hb : Below w1.heap.size w1 w') => rules_at.place b.A1 b.c1 b.l1 x.f0 w' (Kd.C_below (Kd.C_below hE hb1) hb) hcE hE2)
  have HPS := Aside0.mk (fun w' (hb : Below w1.heap.size w1 w') => rules_at.place b.AS b.cS b.lS x.f3 w' (Kd.R_reads' ((hA.below hb1).below hb).states).2.2 (Kd.R_reads' ((hA.below hb1).below hb).states).2.1 hS)
  have HVS := Aside0.mk (And.intro hV hS)
  have HCE := Aside0.mk (And.intro (cz4_ hk1) (hA.below hb1).cells.2.2.2.2.2.2.1)
  clear hA hr1 hr2 hb1 hk1 hE hE2 hV hS
  have hcr := HCE.out.2
  by_cases c6 : b.rule = 6
  · rw [if_pos c6] at h
    have c6b : (b.rule == 6) = true := beq_iff_eq.mpr c6
    clear c6
    by_cases ce : x.f0.toList = ([] : List UInt8)
    · rw [if_pos ce] at h
      obtain rfl := Option.some.inj h
      have ceb0 : (x.f0.toList == ([] : List UInt8)) = true := beq_iff_eq.mpr ce
      have ceb1 : (x.f0.toList != ([] : List UInt8)) = false := bne_eq_false_iff_eq.mpr ce
      clear h ce
      subst hw1
      go_enter Tryz.func88, Tryz.ntmps88
      go_wp2_with fail
      refine rs_ 15 [0, 1, 2, 3, 4, 5, 6, 7, 8, 9, 10, 11, 12, 13, 14] (fun w' => w'.cell? ⟨B, 1, none⟩ = some (.slice b.A1 b.l1.length b.c1) ∧ w'.cell? ⟨B, 5, none⟩ = some (.slice b.AS b.lS.length b.cS) ∧ w'.cell? ⟨W.heap.size, 0, none⟩ = some (.string x.f0) ∧ w'.cell? ⟨W.heap.size, 3, none⟩ = some (.string x.f3)) rfl (by kernel_rfl) (HS.out _ (below_drew1 (Below.refl _ _))) (fun hHeld => ?_)
      iterate 15 (first | refine pq_ ?_ | refine tq_ hHeld ?_)
      refine dn_ (by kernel_rfl) ?_
      go_wp2
      go_ret
      exact ⟨rfl, (below_step HB1.out (below_drew1 (Below.refl _ _)))⟩
    · rw [if_neg ce] at h
      obtain rfl := Option.some.inj h
      have ceb0 : (x.f0.toList == ([] : List UInt8)) = false := beq_eq_false_iff_ne.mpr ce
      have ceb1 : (x.f0.toList != ([] : List UInt8)) = true := bne_iff_ne.mpr ce
      clear h ce
      generalize rules_at b.l1 x.f0 = q at *
      subst hw1
      go_enter Tryz.func88, Tryz.ntmps88
      go_wp2_with fail
      refine rs_ 15 [0, 1, 2, 3, 4, 5, 6, 7, 8, 9, 10, 11, 12, 13, 14] (fun w' => w'.cell? ⟨B, 1, none⟩ = some (.slice b.A1 b.l1.length b.c1) ∧ w'.cell? ⟨B, 5, none⟩ = some (.slice b.AS b.lS.length b.cS) ∧ w'.cell? ⟨W.heap.size, 0, none⟩ = some (.string x.f0) ∧ w'.cell? ⟨W.heap.size, 3, none⟩ = some (.string x.f3)) rfl (by kernel_rfl) (HS.out _ (below_drew1 (Below.refl _ _))) (fun hHeld => ?_)
      iterate 11 (first | refine pq_ ?_ | refine tq_ hHeld ?_)
      refine cq_ Tryz.func108 ?_
      refine (HPE.out _ (below_drew1 (Below.refl _ _))).mono ?_
      rintro e w2 ⟨rfl, hd2⟩; have HB2 := Aside0.mk (below_step (below_drew1 (Below.refl _ _)) hd2.below); clear hd2
      refine ⟨_, rfl, HS.out _ HB2.out, fun hHeld => ?_⟩
      (try simp only [Act.put, sb_, s0_, s1_])
      iterate 3 (first | refine pq_ ?_ | refine tq_ hHeld ?_)
      refine dn_ (by kernel_rfl) ?_
      go_wp2
      go_ret
      exact ⟨rfl, (below_step HB1.out HB2.out)⟩
  rw [if_neg c6] at h
  have c6b : (b.rule == 6) = false := beq_eq_false_iff_ne.mpr c6
  clear c6
  by_cases c7 : b.rule = 7
  · rw [if_pos c7] at h
    have c7b : (b.rule == 7) = true := beq_iff_eq.mpr c7
    clear c7
    by_cases ce : x.f3.toList = ([] : List UInt8)
    · rw [if_pos ce] at h
      obtain rfl := Option.some.inj h
      have ceb0 : (x.f3.toList == ([] : List UInt8)) = true := beq_iff_eq.mpr ce
      have ceb1 : (x.f3.toList != ([] : List UInt8)) = false := bne_eq_false_iff_eq.mpr ce
      clear h ce
      subst hw1
      go_enter Tryz.func88, Tryz.ntmps88
      go_wp2_with fail
      refine rs_ 14 [0, 1, 2, 3, 4, 5, 6, 7, 8, 9, 10, 11, 12, 13] (fun w' => w'.cell? ⟨B, 1, none⟩ = some (.slice b.A1 b.l1.length b.c1) ∧ w'.cell? ⟨B, 5, none⟩ = some (.slice b.AS b.lS.length b.cS) ∧ w'.cell? ⟨W.heap.size, 0, none⟩ = some (.string x.f0) ∧ w'.cell? ⟨W.heap.size, 3, none⟩ = some (.string x.f3)) rfl (by kernel_rfl) (HS.out _ (below_drew1 (Below.refl _ _))) (fun hHeld => ?_)
      iterate 14 (first | refine pq_ ?_ | refine tq_ hHeld ?_)
      refine dn_ (by kernel_rfl) ?_
      go_wp2
      go_ret
      exact ⟨rfl, (below_step HB1.out (below_drew1 (Below.refl _ _)))⟩
    · rw [if_neg ce] at h
      obtain rfl := Option.some.inj h
      have ceb0 : (x.f3.toList == ([] : List UInt8)) = false := beq_eq_false_iff_ne.mpr ce
      have ceb1 : (x.f3.toList != ([] : List UInt8)) = true := bne_iff_ne.mpr ce
      clear h ce
      generalize rules_at b.lS x.f3 = q at *
      subst hw1
      go_enter Tryz.func88, Tryz.ntmps88
      go_wp2_with fail
      refine rs_ 14 [0, 1, 2, 3, 4, 5, 6, 7, 8, 9, 10, 11, 12, 13] (fun w' => w'.cell? ⟨B, 1, none⟩ = some (.slice b.A1 b.l1.length b.c1) ∧ w'.cell? ⟨B, 5, none⟩ = some (.slice b.AS b.lS.length b.cS) ∧ w'.cell? ⟨W.heap.size, 0, none⟩ = some (.string x.f0) ∧ w'.cell? ⟨W.heap.size, 3, none⟩ = some (.string x.f3)) rfl (by kernel_rfl) (HS.out _ (below_drew1 (Below.refl _ _))) (fun hHeld => ?_)
      iterate 10 (first | refine pq_ ?_ | refine tq_ hHeld ?_)
      refine cq_ Tryz.func108 ?_
      refine (HPS.out _ (below_drew1 (Below.refl _ _))).mono ?_
      rintro e w2 ⟨rfl, hd2⟩; have HB2 := Aside0.mk (below_step (below_drew1 (Below.refl _ _)) hd2.below); clear hd2
      refine ⟨_, rfl, HS.out _ HB2.out, fun hHeld => ?_⟩
      (try simp only [Act.put, sb_, s0_, s1_])
      iterate 3 (first | refine pq_ ?_ | refine tq_ hHeld ?_)
      refine dn_ (by kernel_rfl) ?_
      go_wp2
      go_ret
      exact ⟨rfl, (below_step HB1.out HB2.out)⟩
  rw [if_neg c7] at h
  have c7b : (b.rule == 7) = false := beq_eq_false_iff_ne.mpr c7
  clear c7
  obtain ⟨⟨ht0, ht1, ht2, ht3⟩, _⟩ := HCE.out
  by_cases c8 : b.rule = 8
  · rw [if_pos c8] at h
    have c8b : (b.rule == 8) = true := beq_iff_eq.mpr c8
    clear c8
    by_cases cg : (x.f1.length : Int) > 0
    · rw [if_pos cg] at h
      have cgb : 0 < x.f1.length := by omega
      have HH := Aside0.mk h
      clear h cg
      subst hw1
      go_enter Tryz.func88, Tryz.ntmps88
      go_wp2_with (go_at_call 109; refine (rules_foreign.calls k n₁ n₀ B b out vo A1 c1 x.f1 2 r _ HA.out HVS.out.1 HVS.out.2 HR1.out hc1 HH.out).mono ?_; rintro e w3 ⟨rfl, hb3⟩; have HB3 := Aside0.mk hb3; clear hb3)
      go_ret
      exact ⟨rfl, below_step HB1.out HB3.out⟩
    · rw [if_neg cg] at h
      obtain rfl := Option.some.inj h
      have cgb : ¬ 0 < x.f1.length := by omega
      clear h cg
      subst hw1
      go_enter Tryz.func88, Tryz.ntmps88
      go_wp2
      go_ret
      exact ⟨rfl, HB1.out⟩
  rw [if_neg c8] at h
  have c8b : (b.rule == 8) = false := beq_eq_false_iff_ne.mpr c8
  clear c8
  by_cases c9 : b.rule = 9
  · rw [if_pos c9] at h
    have c9b : (b.rule == 9) = true := beq_iff_eq.mpr c9
    have HH := Aside0.mk h
    clear h c9
    subst hw1
    go_enter Tryz.func88, Tryz.ntmps88
    go_wp2_with (go_at_call 86; refine (rules_acts.calls k n₁ n₀ B b out vo A2 c2 x.f2 r _ HA.out HVS.out.1 HVS.out.2 HR2.out HH.out).mono ?_; rintro e w3 ⟨rfl, hb3⟩; have HB3 := Aside0.mk hb3; clear hb3)
    go_ret
    exact ⟨rfl, below_step HB1.out HB3.out⟩
  · rw [if_neg c9] at h
    obtain rfl := Option.some.inj h
    have c9b : (b.rule == 9) = false := beq_eq_false_iff_ne.mpr c9
    clear h c9
    subst hw1
    go_enter Tryz.func88, Tryz.ntmps88
    go_wp2
    go_ret
    exact ⟨rfl, HB1.out⟩


/-! ### rules_book_transitions: function 56 -/
-- USES (*semblance/rules.book).ranges
-- USES (*semblance/rules.book).bad
theorem rules_if {α : Type} (c : Bool) (X : List α) (f : α) : X ++ (if c = true then [f] else []) = if c = true then X ++ [f] else X := by cases c <;> simp
def rules_transitions.one (k : Nat) (b : rules_bk.Bk) (i : Nat) (l : List (S54)) (m : Nat) : List (S65) := if (rules_bad.f k b (rd_T54 l (m : Int))).getD false = true then [⟨b.rule, (i : Int), (m : Int)⟩] else []
def rules_transitions.at_ (k : Nat) (b : rules_bk.Bk) (i : Nat) : List (S65) := rules_all (rd_T46 b.l3 (i : Int)).f5.length (rules_transitions.one k b i (rd_T46 b.l3 (i : Int)).f5)
def rules_transitions.f (k : Nat) (b : rules_bk.Bk) : Option (List (S65)) := if ((List.range b.l3.length).all fun i => (List.range (rd_T46 b.l3 (i : Int)).f5.length).all fun m => (rules_bad.f k b (rd_T54 (rd_T46 b.l3 (i : Int)).f5 (m : Int))).isSome) = true then some (rules_all b.l3.length (rules_transitions.at_ k b)) else none
theorem rules_transitions.parts {k : Nat} {b : rules_bk.Bk} {fl : List (S65)} (h : rules_transitions.f k b = some fl) : (∀ i, i < b.l3.length → ∀ m, m < (rd_T46 b.l3 (i : Int)).f5.length → ∃ v, rules_bad.f k b (rd_T54 (rd_T46 b.l3 (i : Int)).f5 (m : Int)) = some v) ∧ rules_all b.l3.length (rules_transitions.at_ k b) = fl := by
  unfold rules_transitions.f at h
  split at h
  case isFalse => cases h
  case isTrue hall => exact ⟨fun i hi m hm => Option.isSome_iff_exists.1 (List.all_eq_true.1 (List.all_eq_true.1 hall i (List.mem_range.2 hi)) m (List.mem_range.2 hm)), Option.some.inj h⟩
set_option maxHeartbeats 16000000 in
set_option maxRecDepth 100000 in
theorem rules_transitions.calls (k : Nat) (w : World) (n₀ B : Nat) (b : rules_bk.Bk) (out : List (S65)) (vo : Value) (W : World) (hA : rules_bk.At w.heap.size n₀ W B b out vo) (hW : Below w.heap.size w W) (hr3 : Kd.C k46 w b.A3 b.l3.length b.l3) (hc3 : b.l3.length ≤ b.c3) (hV : b.lV.length ≤ 100000) (hS : b.lS.length ≤ 100000) (hr1 : Kd.C Kd.string w b.A1 b.l1.length b.l1) (hcE : b.l1.length ≤ b.c1) (hE2 : b.l1.length ≤ 100000) (fl : List (S65)) (h : rules_transitions.f k b = some fl)
    (hlen : (out ++ fl).length ≤ 1000000) :
    Calls Tryz.prog 56 #[.pointer (some ⟨B, 0, none⟩)] W fun e W' => (∃ u, e = .returned u) ∧ (∃ vo', rules_bk.At w.heap.size n₀ W' B b (out ++ fl) vo') ∧ rules_bk.Fr w.heap.size n₀ B W W' := by
  obtain ⟨hok, rfl⟩ := rules_transitions.parts h
  have hmax := Kd.C_max hr3
  have hu := Tryz.underlying90
  have hu2 := Tryz.underlying26
  have hu3 := Tryz.underlying46
  obtain ⟨hc0, hc1, hc2, hc3', hc4, hc5, hc6, hc7⟩ := hA.cells
  have HR := Aside0.mk hr3
  have HA := Aside0.mk hA
  have HW := Aside0.mk hW
  have HL := Aside0.mk hlen
  have HOK := Aside0.mk hok
  have HVS := Aside0.mk (And.intro hV hS)
  have HE := Aside0.mk hr1
  have HC3 := Aside0.mk hc3
  have hu4 := Tryz.underlying54
  clear hr1 hV hS hc3 hr3 hA hW hlen hc0 hc1 hc2 hc4 hc5 hc6 hc7 hok h
  go_enter Tryz.func56, Tryz.ntmps56
  go_wp2_with fail
  clear hc3'
  generalize hAS : b.A3 = AS3 at *
  have HAS := Aside0.mk hAS
  clear hAS
  go_loopg [12] b.l3.length (fun kq v9 wr => ∃ (i : Nat) (vo' : Value), Aside0 (b.l3.length - i = kq) ∧ Aside0 (i ≤ b.l3.length) ∧ v9 = .int .i64 (i : Int) ∧ Aside0 (rules_bk.At w.heap.size n₀ wr B b (out ++ rules_all i (rules_transitions.at_ k b)) vo') ∧ Aside0 (rules_bk.Fr w.heap.size n₀ B W wr))
  case atStart => exact ⟨0, vo, ⟨rfl⟩, ⟨Nat.zero_le _⟩, rfl, ⟨by simpa [rules_all] using HA.out⟩, ⟨rules_bk.Fr.refl _ _ _ _⟩⟩
  case round =>
    obtain ⟨i, vo', HK, HI, rfl, HAt, HFr⟩ := hrel
    by_cases hi : i < b.l3.length
    · have hlt : decide ((i : Int) < (b.l3.length : Int)) = true := decide_eq_true (by omega)
      obtain ⟨ad, A3, c3, A4, c4, A5, c5, e1, hx0, hx1, hx2, hx3, hx4, hx5, hl3, hi3, hl4, hi4, hl5, hi5⟩ := at_T46 HR.out (i : Int) (by omega) (by omega)
      subst e1
      rw [Int.toNat_natCast] at hx0 hx1 hx2 hx3 hx4 hx5
      have HBR := Aside0.mk (HW.out.trans HFr.out.bel)
      replace hx0 := pw_cell_below HBR.out hx0
      replace hx1 := pw_cell_below HBR.out hx1
      replace hx2 := pw_cell_below HBR.out hx2
      replace hx3 := pw_cell_below HBR.out hx3
      replace hx4 := pw_cell_below HBR.out hx4
      replace hx5 := pw_cell_below HBR.out hx5
      have hle : (out ++ rules_all (i + 1) (rules_transitions.at_ k b)).length ≤ 1000000 := by
        have h1 := HL.out
        have h2 := rules_all_le (rules_transitions.at_ k b) (show i + 1 ≤ b.l3.length by omega)
        rw [List.length_append] at h1 ⊢
        omega
      have HLE := Aside0.mk hle
      have HI3 := Aside0.mk hi3
      have HI4 := Aside0.mk hi4
      have HI5 := Aside0.mk hi5
      have hok := HOK.out i hi
      clear hle hi3 hi4 hi5
      have hat : rules_transitions.at_ k b i = rules_all (rd_T46 b.l3 (i : Int)).f5.length (rules_transitions.one k b i (rd_T46 b.l3 (i : Int)).f5) := rfl
      generalize rd_T46 b.l3 (i : Int) = x at *
      have HOK2 := Aside0.mk hok
      have HAT := Aside0.mk hat
      have hm5 := Kd.C_max HI5.out
      clear hok hat
      go_wp2_with (first
          | ((with_reducible refine gate_dst (N := 3) rfl ?_); refine box_event ?hg (N := 3) ?hd (cs := #[.string (⟨#[]⟩ : ByteArray), .int .i64 0, .int .i64 0, .slice none 0 0, .slice none 0 0, .slice none 0 0]) (t := 46) ?hr ?_; (case hd => rfl); (case hg => rfl); (case hr => first | (go_simp; done) | (go_simp; rfl)); intro g hg w1 hbox hb; have HGE := Aside0.mk (Nat.le_of_eq hg.symm); clear hg)
          | (refine rules_store (n := wr.heap.size) (W0 := wr) (vs := #[.string x.f0, .int .i64 x.f1, .int .i64 x.f2, .slice A3 x.f3.length c3, .slice A4 x.f4.length c4, .slice A5 x.f5.length c5]) rfl rfl (.tmp 3) (.tmp 16) rfl rfl rfl hbox (by kernel_rfl) rfl (by simp [Value.oneCell']) hb HGE.out ?_; intro w2 hbox2 hb2; have HA2 := Aside0.mk (HAt.out.below hb2); have HF2 := Aside0.mk (HAt.out.fr hb2); have HB2 := Aside0.mk hb2; obtain ⟨hz0, hz1, hz2, hz3, hz4, hz5⟩ := cz6_ hbox2; clear hbox hb hbox2 hb2))
      go_loopg [20] x.f5.length (fun kq2 v20 wq => ∃ (m : Nat) (vo2 : Value), Aside0 (x.f5.length - m = kq2) ∧ Aside0 (m ≤ x.f5.length) ∧ v20 = .int .i64 (m : Int) ∧ Aside0 (rules_bk.At w.heap.size n₀ wq B b ((out ++ rules_all i (rules_transitions.at_ k b)) ++ rules_all m (rules_transitions.one k b i x.f5)) vo2) ∧ Aside0 (rules_bk.Fr w.heap.size n₀ B w2 wq))
      case atStart => exact ⟨0, vo', ⟨rfl⟩, ⟨Nat.zero_le _⟩, rfl, ⟨by simpa [rules_all] using HA2.out⟩, ⟨rules_bk.Fr.refl _ _ _ _⟩⟩
      case round =>
        obtain ⟨m, vo2, HK2, HM2, rfl, HAq, HFq⟩ := hrel
        by_cases hm : m < x.f5.length
        · have hlt2 : decide ((m : Int) < (x.f5.length : Int)) = true := decide_eq_true (by omega)
          obtain ⟨ad5, B1, d1, B2, d2, e5, hs0, hs1, hs2, hs3, hd1, hi1, hd2, hi2⟩ := at_T54 HI5.out (m : Int) (by omega) (by omega)
          subst e5
          rw [Int.toNat_natCast] at hs0 hs1 hs2 hs3
          have HBQ := Aside0.mk (HBR.out.trans (HF2.out.bel.trans HFq.out.bel))
          replace hs0 := pw_cell_below HBQ.out hs0
          replace hs1 := pw_cell_below HBQ.out hs1
          replace hs2 := pw_cell_below HBQ.out hs2
          replace hs3 := pw_cell_below HBQ.out hs3
          have HI1 := Aside0.mk hi1
          have HI2 := Aside0.mk hi2
          obtain ⟨rb, hrb⟩ := HOK2.out m hm
          have hone : rules_transitions.one k b i x.f5 m = if rb = true then [⟨b.rule, (i : Int), (m : Int)⟩] else [] := by unfold rules_transitions.one; rw [hrb]; rfl
          have hlen2 : ((out ++ rules_all i (rules_transitions.at_ k b)) ++ rules_all m (rules_transitions.one k b i x.f5)).length ≤ 1000000 := by
            have h1 := HLE.out
            have h2 := rules_all_le (rules_transitions.one k b i x.f5) HM2.out
            rw [rules_all_succ, HAT.out] at h1
            simp only [List.length_append] at h1 ⊢
            omega
          generalize rd_T54 x.f5 (m : Int) = y at *
          have HRB := Aside0.mk hrb
          have HONE := Aside0.mk hone
          have HLEN := Aside0.mk hlen2
          clear hi1 hi2 hrb hone hlen2
          go_wp2_with (first
            | ((with_reducible refine gate_dst (N := 5) rfl ?_); refine box_event ?hg (N := 5) ?hd (cs := #[.string (⟨#[]⟩ : ByteArray), .slice none 0 0, .slice none 0 0, .string (⟨#[]⟩ : ByteArray)]) (t := 54) ?hr ?_; (case hd => rfl); (case hg => rfl); (case hr => first | (go_simp; done) | (go_simp; rfl)); intro g5 hg w5 hbox hb; have HGE5 := Aside0.mk (Nat.le_of_eq hg.symm); clear hg)
            | (refine rules_store (n := wr.heap.size) (W0 := wr) (vs := #[.string y.f0, .slice B1 y.f1.length d1, .slice B2 y.f2.length d2, .string y.f3]) rfl rfl (.tmp 5) (.tmp 24) rfl rfl rfl hbox (by kernel_rfl) rfl (by simp [Value.oneCell']) hb HGE5.out ?_; intro w6 hbox2 hb2; have HA6 := Aside0.mk (HAq.out.below hb2); have HF6 := Aside0.mk (HAq.out.fr hb2); have HB6 := Aside0.mk hb2; obtain ⟨hv0, hv1, hv2, hv3⟩ := cz4_ hbox2; clear hbox hb hbox2 hb2)
            | (go_at_call 88; refine (rules_bad.calls k w.heap.size n₀ B b _ _ y B1 d1 B2 d2 rb w6 HA6.out HVS.out.1 HVS.out.2 (Kd.C_below HE.out (below_step HBQ.out HB6.out)) hcE hE2 (Kd.C_below HI1.out (below_step HBQ.out HB6.out)) hd1 (Kd.C_below HI2.out (below_step HBQ.out HB6.out)) hd2 HRB.out).mono ?_; rintro e w7 ⟨rfl, hb7⟩; have HA7 := Aside0.mk (HA6.out.below hb7); have HF7 := Aside0.mk (HF6.out.trans (HA6.out.fr hb7)); clear hb7)
            | (go_at_call 83; refine (rules_bk.note w.heap.size n₀ B b _ _ rb (i : Int) (m : Int) w7 HA7.out HLEN.out).mono ?_; rintro e w8 ⟨⟨u, rfl⟩, ⟨vo3, hA3⟩, hF3⟩; have HA8 := Aside0.mk hA3; have HF8 := Aside0.mk hF3; clear hA3 hF3))
          go_roundg (x.f5.length - (m + 1))
          case measure => have := HK2.out; omega
          case rel => exact ⟨m + 1, vo3, ⟨rfl⟩, ⟨hm⟩, by go_num, ⟨by rw [rules_all_succ, HONE.out, ← List.append_assoc, rules_if]; exact HA8.out⟩, ⟨HFq.out.trans (HF7.out.trans HF8.out)⟩⟩
        · have hlt2 : decide ((m : Int) < (x.f5.length : Int)) = false := decide_eq_false (by omega)
          have hml : m = x.f5.length := by have := HM2.out; omega
          have HML := Aside0.mk hml
          clear hml
          go_wp2
          go_roundg (b.l3.length - (i + 1))
          case measure => have := HK.out; omega
          case rel => exact ⟨i + 1, vo2, ⟨rfl⟩, ⟨hi⟩, by go_num, ⟨by rw [rules_all_succ, HAT.out, ← List.append_assoc, ← HML.out]; exact HAq.out⟩, ⟨HFr.out.trans (HF2.out.trans HFq.out)⟩⟩
    · have hlt : decide ((i : Int) < (b.l3.length : Int)) = false := decide_eq_false (by omega)
      have hil : i = b.l3.length := by have := HI.out; omega
      have HIL := Aside0.mk hil
      clear hil
      go_wp2
      go_end0
      exact ⟨⟨_, rfl⟩, ⟨vo', by rw [HIL.out] at HAt; exact HAt.out⟩, HFr.out⟩


/-! ### rules_book_edges: function 55 -/
-- USES (*semblance/rules.book).ranges
-- USES (*semblance/rules.book).acts
-- USES (*semblance/rules.book).transitions
def rules_edge (k : Nat) (b : rules_bk.Bk) (l : List (S76)) : Option Bool := (rules_acts.f k b l).bind fun r => some (r || l.any fun x => x.f1)
def rules_edges.one (k : Nat) (b : rules_bk.Bk) (i : Nat) (x : S46) (j : Nat) : List (S65) := if (rules_edge k b (if j = 0 then x.f3 else x.f4)).getD false = true then [⟨b.rule, (i : Int), (j : Int)⟩] else []
def rules_edges.at_ (k : Nat) (b : rules_bk.Bk) (i : Nat) : List (S65) := rules_all 2 (rules_edges.one k b i (rd_T46 b.l3 (i : Int)))
def rules_edges.f (k : Nat) (b : rules_bk.Bk) : Option (List (S65)) := if ((List.range b.l3.length).all fun i => (rules_edge k b (rd_T46 b.l3 (i : Int)).f3).isSome && (rules_edge k b (rd_T46 b.l3 (i : Int)).f4).isSome) = true then some (rules_all b.l3.length (rules_edges.at_ k b)) else none
theorem rules_edges.parts {k : Nat} {b : rules_bk.Bk} {fl : List (S65)} (h : rules_edges.f k b = some fl) : (∀ i, i < b.l3.length → (∃ v, rules_edge k b (rd_T46 b.l3 (i : Int)).f3 = some v) ∧ ∃ v, rules_edge k b (rd_T46 b.l3 (i : Int)).f4 = some v) ∧ rules_all b.l3.length (rules_edges.at_ k b) = fl := by
  unfold rules_edges.f at h
  split at h
  case isFalse => cases h
  case isTrue hall =>
    refine ⟨fun i hi => ?_, Option.some.inj h⟩
    have h1 := List.all_eq_true.1 hall i (List.mem_range.2 hi)
    rw [Bool.and_eq_true] at h1
    exact ⟨Option.isSome_iff_exists.1 h1.1, Option.isSome_iff_exists.1 h1.2⟩
set_option maxHeartbeats 2000000 in
theorem rules_edges.lit (x : S76) (A2 : Option Addr) (c2 : Nat) (W : World) :
    Calls Tryz.prog 85 #[.agg #[.string x.f0, .bool x.f1, .slice A2 x.f2.length c2]] W fun e w' => e = .returned (.bool x.f1) ∧ Below W.heap.size W w' := by
  have hu := Tryz.underlying76
  go_enter Tryz.func85, Tryz.ntmps85
  go_wp2
  go_ret
  exact ⟨rfl, (Below.refl _ _).alloc (Nat.le_refl _) _⟩
theorem rules_edges.any (A0 : Option Addr) (c0 : Nat) (l0 : List (S76)) (W : World) (hr0 : Kd.C k76 W A0 l0.length l0) :
    Calls Tryz.prog 87 #[.slice A0 l0.length c0, .func (.func 85) #[] #[]] W fun e w' => e = .returned (.bool (l0.any fun x => x.f1)) ∧ Below W.heap.size W w' :=
  ContainsFunc_Act.calls (fun x => x.f1) 85 #[] (Go.Proofs.enters_of Tryz.func85 (by kernel_rfl) rfl) A0 c0 l0 W hr0 (fun W2 h2 x _ A2 c2 _ => (rules_edges.lit x A2 c2 W2).mono fun e w' ⟨he, hw⟩ => ⟨he, h2.trans (hw.mono h2.size)⟩)
set_option maxHeartbeats 16000000 in
set_option maxRecDepth 100000 in
theorem rules_edges.calls (k : Nat) (w : World) (n₀ B : Nat) (b : rules_bk.Bk) (out : List (S65)) (vo : Value) (W : World) (hA : rules_bk.At w.heap.size n₀ W B b out vo) (hW : Below w.heap.size w W) (hr3 : Kd.C k46 w b.A3 b.l3.length b.l3) (hc3 : b.l3.length ≤ b.c3) (hV : b.lV.length ≤ 100000) (hS : b.lS.length ≤ 100000) (fl : List (S65)) (h : rules_edges.f k b = some fl)
    (hlen : (out ++ fl).length ≤ 1000000) :
    Calls Tryz.prog 55 #[.pointer (some ⟨B, 0, none⟩)] W fun e W' => (∃ u, e = .returned u) ∧ (∃ vo', rules_bk.At w.heap.size n₀ W' B b (out ++ fl) vo') ∧ rules_bk.Fr w.heap.size n₀ B W W' := by
  obtain ⟨hok, rfl⟩ := rules_edges.parts h
  have hmax := Kd.C_max hr3
  have hu := Tryz.underlying90
  have hu2 := Tryz.underlying26
  have hu3 := Tryz.underlying46
  obtain ⟨hc0, hc1, hc2, hc3', hc4, hc5, hc6, hc7⟩ := hA.cells
  have HR := Aside0.mk hr3
  have HA := Aside0.mk hA
  have HW := Aside0.mk hW
  have HL := Aside0.mk hlen
  have HOK := Aside0.mk hok
  have HVS := Aside0.mk (And.intro hV hS)
  have HC3 := Aside0.mk hc3
  clear hV hS hc3 hr3 hA hW hlen hc0 hc1 hc2 hc4 hc5 hc6 hc7 hok h
  go_enter Tryz.func55, Tryz.ntmps55
  go_wp2_with fail
  clear hc3'
  generalize hAS : b.A3 = AS3 at *
  have HAS := Aside0.mk hAS
  clear hAS
  go_loopg [13] b.l3.length (fun kq v9 wr => ∃ (i : Nat) (vo' : Value), Aside0 (b.l3.length - i = kq) ∧ Aside0 (i ≤ b.l3.length) ∧ v9 = .int .i64 (i : Int) ∧ Aside0 (rules_bk.At w.heap.size n₀ wr B b (out ++ rules_all i (rules_edges.at_ k b)) vo') ∧ Aside0 (rules_bk.Fr w.heap.size n₀ B W wr))
  case atStart => exact ⟨0, vo, ⟨rfl⟩, ⟨Nat.zero_le _⟩, rfl, ⟨by simpa [rules_all] using HA.out⟩, ⟨rules_bk.Fr.refl _ _ _ _⟩⟩
  case round =>
    obtain ⟨i, vo', HK, HI, rfl, HAt, HFr⟩ := hrel
    by_cases hi : i < b.l3.length
    · have hlt : decide ((i : Int) < (b.l3.length : Int)) = true := decide_eq_true (by omega)
      obtain ⟨ad, A3, c3, A4, c4, A5, c5, e1, hx0, hx1, hx2, hx3, hx4, hx5, hl3, hi3, hl4, hi4, hl5, hi5⟩ := at_T46 HR.out (i : Int) (by omega) (by omega)
      subst e1
      rw [Int.toNat_natCast] at hx0 hx1 hx2 hx3 hx4 hx5
      have HBR := Aside0.mk (HW.out.trans HFr.out.bel)
      replace hx0 := pw_cell_below HBR.out hx0
      replace hx1 := pw_cell_below HBR.out hx1
      replace hx2 := pw_cell_below HBR.out hx2
      replace hx3 := pw_cell_below HBR.out hx3
      replace hx4 := pw_cell_below HBR.out hx4
      replace hx5 := pw_cell_below HBR.out hx5
      have hle : (out ++ rules_all (i + 1) (rules_edges.at_ k b)).length ≤ 1000000 := by
        have h1 := HL.out
        have h2 := rules_all_le (rules_edges.at_ k b) (show i + 1 ≤ b.l3.length by omega)
        rw [List.length_append] at h1 ⊢
        omega
      have HLE := Aside0.mk hle
      have HI3 := Aside0.mk hi3
      have HI4 := Aside0.mk hi4
      have HI5 := Aside0.mk hi5
      have hok := HOK.out i hi
      clear hle hi3 hi4 hi5
      have hat : rules_edges.at_ k b i = rules_all 2 (rules_edges.one k b i (rd_T46 b.l3 (i : Int))) := rfl
      generalize rd_T46 b.l3 (i : Int) = x at *
      have HOK2 := Aside0.mk hok
      have HAT := Aside0.mk hat
      clear hok hat
      go_wp2_with (first
          | ((with_reducible refine gate_dst (N := 4) rfl ?_); refine box_event ?hg (N := 4) ?hd (cs := #[.string (⟨#[]⟩ : ByteArray), .int .i64 0, .int .i64 0, .slice none 0 0, .slice none 0 0, .slice none 0 0]) (t := 46) ?hr ?_; (case hd => rfl); (case hg => rfl); (case hr => first | (go_simp; done) | (go_simp; rfl)); intro g hg w1 hbox hb; have HGE := Aside0.mk (Nat.le_of_eq hg.symm); clear hg)
          | (refine rules_store (n := wr.heap.size) (W0 := wr) (vs := #[.string x.f0, .int .i64 x.f1, .int .i64 x.f2, .slice A3 x.f3.length c3, .slice A4 x.f4.length c4, .slice A5 x.f5.length c5]) rfl rfl (.tmp 4) (.tmp 17) rfl rfl rfl hbox (by kernel_rfl) rfl (by simp [Value.oneCell']) hb HGE.out ?_; intro w2 hbox2 hb2; have HA2 := Aside0.mk (HAt.out.below hb2); have HF2 := Aside0.mk (HAt.out.fr hb2); have HB2 := Aside0.mk hb2; obtain ⟨hz0, hz1, hz2, hz3, hz4, hz5⟩ := cz6_ hbox2; clear hbox hb hbox2 hb2))
      have hkG := heap_alloc_new w2 (.cells #[.slice A3 x.f3.length c3, .slice A4 x.f4.length c4] 43)
      have hbG : Below w2.heap.size w2 (w2.alloc (.cells #[.slice A3 x.f3.length c3, .slice A4 x.f4.length c4] 43)) := (Below.refl _ _).alloc (Nat.le_refl _) _
      have HAG := Aside0.mk (HA2.out.below hbG)
      have HFG := Aside0.mk (HF2.out.trans (HA2.out.fr hbG))
      have HNE := Aside0.mk (show w2.heap.size ≠ B by have := HA2.out.hi; have := HA2.out.size; omega)
      have HKG := Aside0.mk hkG
      clear hkG hbG
      generalize w2.heap.size = G at *
      generalize w2.alloc (.cells #[.slice A3 x.f3.length c3, .slice A4 x.f4.length c4] 43) = wG at *
      go_loopg [24] 2 (fun kq2 v20 wq => ∃ (m : Nat) (vo2 : Value), Aside0 (2 - m = kq2) ∧ Aside0 (m ≤ 2) ∧ v20 = .int .i64 (m : Int) ∧ Aside0 (rules_bk.At w.heap.size n₀ wq B b ((out ++ rules_all i (rules_edges.at_ k b)) ++ rules_all m (rules_edges.one k b i x)) vo2) ∧ Aside0 (rules_bk.Fr w.heap.size n₀ B wG wq))
      case atStart => exact ⟨0, vo', ⟨rfl⟩, ⟨Nat.zero_le _⟩, rfl, ⟨by simpa [rules_all] using HAG.out⟩, ⟨rules_bk.Fr.refl _ _ _ _⟩⟩
      case round =>
        obtain ⟨m, vo2, HK2, HM2, rfl, HAq, HFq⟩ := hrel
        by_cases hm : m < 2
        · have hlt2 : decide ((m : Int) < 2) = true := decide_eq_true (by omega)
          have HBQ := Aside0.mk (HBR.out.trans (HFG.out.bel.trans HFq.out.bel))
          have hlen2 : ((out ++ rules_all i (rules_edges.at_ k b)) ++ rules_all m (rules_edges.one k b i x)).length ≤ 1000000 := by
            have h1 := HLE.out
            have h2 := rules_all_le (rules_edges.one k b i x) HM2.out
            rw [rules_all_succ, HAT.out] at h1
            simp only [List.length_append] at h1 ⊢
            omega
          have HLEN := Aside0.mk hlen2
          have hkq := HFq.out.kind G _ _ _ HNE.out (by decide) HKG.out
          obtain ⟨l, Al, cl, rl, hcl, HIl, hrl, hone⟩ : ∃ (l : List (S76)) (Al : Option Addr) (cl : Nat) (rl : Bool), wr.cell? ⟨G, m, none⟩ = some (.slice Al l.length cl) ∧ Aside0 (Kd.C k76 w Al l.length l) ∧ rules_edge k b l = some rl ∧ rules_edges.one k b i x m = if rl = true then [⟨b.rule, (i : Int), (m : Int)⟩] else [] := by
            have hm2 : m = 0 ∨ m = 1 := by omega
            rcases hm2 with rfl | rfl
            · obtain ⟨v, hv⟩ := HOK2.out.1
              exact ⟨x.f3, A3, c3, v, (blk_cell hkq 0).trans rfl, HI3, hv, by unfold rules_edges.one; rw [show (if (0 : Nat) = 0 then x.f3 else x.f4) = x.f3 from rfl, hv]; rfl⟩
            · obtain ⟨v, hv⟩ := HOK2.out.2
              exact ⟨x.f4, A4, c4, v, (blk_cell hkq 1).trans rfl, HI4, hv, by unfold rules_edges.one; rw [show (if (1 : Nat) = 0 then x.f3 else x.f4) = x.f4 from rfl, hv]; rfl⟩
          have HONE := Aside0.mk hone
          unfold rules_edge at hrl
          obtain ⟨ra, hra, hrl⟩ := Option.bind_eq_some_iff.mp hrl
          have HRA := Aside0.mk hra
          have HRL := Aside0.mk (Option.some.inj hrl)
          clear hlen2 hkq hone hrl hra
          generalize hqq : (l.any fun x => x.f1) = q at *
          have HQ := Aside0.mk hqq
          clear hqq
          cases ra <;>
           (go_wp2_with (first
            | (go_at_call 86; refine (rules_acts.calls k w.heap.size n₀ B b _ _ Al cl l _ wr HAq.out HVS.out.1 HVS.out.2 (Kd.C_below HIl.out HBQ.out) HRA.out).mono ?_; rintro e w6 ⟨rfl, hb6⟩; have HA6 := Aside0.mk (HAq.out.below hb6); have HF6 := Aside0.mk (HAq.out.fr hb6); have HB6 := Aside0.mk hb6; clear hb6)
            | (go_at_call 87; refine (rules_edges.any Al cl l w6 (Kd.C_below HIl.out (below_step HBQ.out HB6.out))).mono ?_; rw [HQ.out]; rintro e w7 ⟨rfl, hb7⟩; have HA7 := Aside0.mk (HA6.out.below hb7); have HF7 := Aside0.mk (HF6.out.trans (HA6.out.fr hb7)); clear hb7)
            | (go_at_call 83; (first | refine (rules_bk.note w.heap.size n₀ B b _ _ q (i : Int) (m : Int) w7 HA7.out HLEN.out).mono ?_ | refine (rules_bk.note w.heap.size n₀ B b _ _ true (i : Int) (m : Int) w6 HA6.out HLEN.out).mono ?_); rintro e w8 ⟨⟨u, rfl⟩, ⟨vo3, hA3⟩, hF3⟩; have HA8 := Aside0.mk hA3; have HF8 := Aside0.mk hF3; clear hA3 hF3))
            go_roundg (2 - (m + 1))
            case measure => have := HK2.out; omega
            case rel => exact ⟨m + 1, vo3, ⟨rfl⟩, ⟨hm⟩, by go_num, ⟨by rw [rules_all_succ, HONE.out, ← List.append_assoc, rules_if, ← HRL.out]; simpa using HA8.out⟩, ⟨HFq.out.trans (by first | exact HF7.out.trans HF8.out | exact HF6.out.trans HF8.out)⟩⟩)
        · have hlt2 : decide ((m : Int) < 2) = false := decide_eq_false (by omega)
          have hml : m = 2 := by have := HM2.out; omega
          have HML := Aside0.mk hml
          clear hml
          go_wp2
          go_roundg (b.l3.length - (i + 1))
          case measure => have := HK.out; omega
          case rel => exact ⟨i + 1, vo2, ⟨rfl⟩, ⟨hi⟩, by go_num, ⟨by rw [rules_all_succ, HAT.out, ← List.append_assoc, ← HML.out]; exact HAq.out⟩, ⟨HFr.out.trans (HFG.out.trans HFq.out)⟩⟩
    · have hlt : decide ((i : Int) < (b.l3.length : Int)) = false := decide_eq_false (by omega)
      have hil : i = b.l3.length := by have := HI.out; omega
      have HIL := Aside0.mk hil
      clear hil
      go_wp2
      go_end0
      exact ⟨⟨_, rfl⟩, ⟨vo', by rw [HIL.out] at HAt; exact HAt.out⟩, HFr.out⟩


/-! ### rules_Broken: function 26 -/
-- USES semblance/rules.open
-- USES (*semblance/rules.book).twins
-- USES (*semblance/rules.book).ranges
-- USES (*semblance/rules.book).kids
-- USES (*semblance/rules.book).edges
-- USES (*semblance/rules.book).transitions
/-- a book without places -/
def rules_bk0 (a0 : ByteArray) (l1 : List ByteArray) (l2 : List (S50)) (l3 : List (S46)) (rule : Int) : rules_bk.Bk := ⟨a0, none, 0, l1, none, 0, l2, none, 0, l3, none, 0, l2.map (fun x => x.f0), none, 0, l3.map (fun x => x.f0), rule⟩
def rules_twins.of (rule : Int) (l : List ByteArray) : Option (List (S65)) := (names_Twins.f l).map fun ts => rules_all ts.length (fun j => [⟨rule, rd ts (j : Int), 0⟩])
def rules_Broken.g (k : Nat) (a0 : ByteArray) (l1 : List ByteArray) (l2 : List (S50)) (l3 : List (S46)) (a1 : Int) : Option (List (S65)) :=
  if a1 = 1 then rules_twins.of a1 l1 else if a1 = 2 then rules_twins.of a1 (l2.map (fun x => x.f0)) else if a1 = 3 then some (rules_all l2.length (rules_ranges.at_ (rules_bk0 a0 l1 l2 l3 a1)))
  else if a1 = 4 then rules_twins.of a1 (l3.map (fun x => x.f0)) else if a1 = 5 then rules_kids.f k (rules_bk0 a0 l1 l2 l3 a1) else if a1 = 10 then rules_edges.f k (rules_bk0 a0 l1 l2 l3 a1) else rules_transitions.f k (rules_bk0 a0 l1 l2 l3 a1)
def rules_Broken.f (k : Nat) (a0 : ByteArray) (l1 : List ByteArray) (l2 : List (S50)) (l3 : List (S46)) (a1 : Int) : Option (List (S65)) :=
  if l1.length ≤ 100000 ∧ l2.length ≤ 100000 ∧ l3.length ≤ 100000 then (rules_Broken.g k a0 l1 l2 l3 a1).bind fun fl => if fl.length ≤ 1000000 then some fl else none else none
theorem rules_kids.mono : ∀ b k, LeO (rules_kids.f k b) (rules_kids.f (k + 1) b) := by
  intro b k r h
  obtain ⟨h1, h2⟩ := rules_kids.parts h
  have h3 : ∀ i, i < b.l3.length → shape_Kids.f (k + 1) b.l3 (i : Int) = shape_Kids.f k b.l3 (i : Int) := fun i hi => by
    obtain ⟨v, hv⟩ := h1 i hi
    rw [hv]
    exact shape_Kids.mono _ _ k v hv
  unfold rules_kids.f
  rw [if_pos (List.all_eq_true.2 fun i hi => by rw [h3 i (List.mem_range.1 hi)]; obtain ⟨v, hv⟩ := h1 i (List.mem_range.1 hi); rw [hv]; rfl), ← h2]
  congr 1
  exact rules_all_congr (fun i hi => by unfold rules_kids.at_; rw [h3 i hi])
instance rules_kids.lc : ∀ b k, LeC (rules_kids.f k b) (rules_kids.f (k + 1) b) := fun b k => ⟨rules_kids.mono b k⟩
theorem rules_edges.mono : ∀ b k, LeO (rules_edges.f k b) (rules_edges.f (k + 1) b) := by
  intro b k r h
  obtain ⟨h1, h2⟩ := rules_edges.parts h
  have he : ∀ l, LeO (rules_edge k b l) (rules_edge (k + 1) b l) := fun l => LeO.bind (rules_acts.mono b l k) (fun _ => LeO.refl _)
  have h3 : ∀ i, i < b.l3.length → rules_edge (k + 1) b (rd_T46 b.l3 (i : Int)).f3 = rules_edge k b (rd_T46 b.l3 (i : Int)).f3 ∧ rules_edge (k + 1) b (rd_T46 b.l3 (i : Int)).f4 = rules_edge k b (rd_T46 b.l3 (i : Int)).f4 := fun i hi => by
    obtain ⟨⟨v, hv⟩, ⟨u, hu⟩⟩ := h1 i hi
    rw [hv, hu]
    exact ⟨he _ v hv, he _ u hu⟩
  unfold rules_edges.f
  rw [if_pos (List.all_eq_true.2 fun i hi => by
    obtain ⟨⟨v, hv⟩, ⟨u, hu⟩⟩ := h1 i (List.mem_range.1 hi)
    rw [(h3 i (List.mem_range.1 hi)).1, (h3 i (List.mem_range.1 hi)).2, hv, hu]
    rfl), ← h2]
  congr 1
  exact rules_all_congr (fun i hi => rules_all_congr (fun j hj => by
    unfold rules_edges.one
    by_cases hz : j = 0
    · simp only [hz, if_true]; rw [(h3 i hi).1]
    · simp only [hz, if_false]; rw [(h3 i hi).2]))
instance rules_edges.lc : ∀ b k, LeC (rules_edges.f k b) (rules_edges.f (k + 1) b) := fun b k => ⟨rules_edges.mono b k⟩
theorem rules_transitions.mono : ∀ b k, LeO (rules_transitions.f k b) (rules_transitions.f (k + 1) b) := by
  intro b k r h
  obtain ⟨h1, h2⟩ := rules_transitions.parts h
  have h3 : ∀ i, i < b.l3.length → ∀ m, m < (rd_T46 b.l3 (i : Int)).f5.length → rules_bad.f (k + 1) b (rd_T54 (rd_T46 b.l3 (i : Int)).f5 (m : Int)) = rules_bad.f k b (rd_T54 (rd_T46 b.l3 (i : Int)).f5 (m : Int)) := fun i hi m hm => by
    obtain ⟨v, hv⟩ := h1 i hi m hm
    rw [hv]
    exact rules_bad.mono _ _ k v hv
  unfold rules_transitions.f
  rw [if_pos (List.all_eq_true.2 fun i hi => List.all_eq_true.2 fun m hm => by
    rw [h3 i (List.mem_range.1 hi) m (List.mem_range.1 hm)]
    obtain ⟨v, hv⟩ := h1 i (List.mem_range.1 hi) m (List.mem_range.1 hm)
    rw [hv]
    rfl), ← h2]
  congr 1
  exact rules_all_congr (fun i hi => rules_all_congr (fun m hm => by unfold rules_transitions.one; rw [h3 i hi m hm]))
instance rules_transitions.lc : ∀ b k, LeC (rules_transitions.f k b) (rules_transitions.f (k + 1) b) := fun b k => ⟨rules_transitions.mono b k⟩
theorem rules_Broken.mono : ∀ a0 l1 l2 l3 a1 k, LeO (rules_Broken.f k a0 l1 l2 l3 a1) (rules_Broken.f (k + 1) a0 l1 l2 l3 a1) := by
  intro a0 l1 l2 l3 a1 k
  unfold rules_Broken.f rules_Broken.g
  exact LeO.ite (LeO.bind (LeO.ite (LeO.refl _) (LeO.ite (LeO.refl _) (LeO.ite (LeO.refl _) (LeO.ite (LeO.refl _) (LeO.ite (rules_kids.mono _ k) (LeO.ite (rules_edges.mono _ k) (rules_transitions.mono _ k))))))) (fun _ => LeO.refl _)) (LeO.refl _)
instance rules_Broken.lc : ∀ a0 l1 l2 l3 a1 k, LeC (rules_Broken.f k a0 l1 l2 l3 a1) (rules_Broken.f (k + 1) a0 l1 l2 l3 a1) := fun a0 l1 l2 l3 a1 k => ⟨rules_Broken.mono a0 l1 l2 l3 a1 k⟩
set_option maxHeartbeats 8000000 in
set_option maxRecDepth 100000 in
theorem rules_Broken.calls (k : Nat) (a0_0 : ByteArray) (A0_1 : Option Addr) (c0_1 : Nat) (l0_1 : List ByteArray) (A0_2 : Option Addr) (c0_2 : Nat) (l0_2 : List (S50)) (A0_3 : Option Addr) (c0_3 : Nat) (l0_3 : List (S46)) (a1 : Int) (r : List (S65)) (w : World) (hr0_1 : Kd.C Kd.string w A0_1 l0_1.length l0_1) (hc0_1 : l0_1.length ≤ c0_1) (hr0_2 : Kd.C k50 w A0_2 l0_2.length l0_2) (hc0_2 : l0_2.length ≤ c0_2) (hr0_3 : Kd.C k46 w A0_3 l0_3.length l0_3) (hc0_3 : l0_3.length ≤ c0_3) (h : rules_Broken.f k a0_0 l0_1 l0_2 l0_3 a1 = some r) :
    Calls Tryz.prog 26 #[.agg #[.string a0_0, .slice A0_1 l0_1.length c0_1, .slice A0_2 l0_2.length c0_2, .slice A0_3 l0_3.length c0_3], .int .i64 a1] w fun e w' => ∃ v0_ : Value, e = .returned v0_ ∧ Kd.R k65 65 w' w.heap.size (fun _ => True) v0_ r ∧ Below w.heap.size w w' := by
  unfold rules_Broken.f at h
  split at h
  case isFalse => cases h
  case isTrue hg =>
  obtain ⟨fl, hfl, h⟩ := Option.bind_eq_some_iff.mp h
  split at h
  case isFalse => cases h
  case isTrue hlen =>
  obtain rfl := Option.some.inj h
  obtain ⟨w1, hw1⟩ : ∃ w1, w1 = w.alloc (.cells #[.string a0_0, .slice A0_1 l0_1.length c0_1, .slice A0_2 l0_2.length c0_2, .slice A0_3 l0_3.length c0_3] 26) := ⟨_, rfl⟩
  have hb1 : Below w.heap.size w w1 := by rw [hw1]; exact (Below.refl _ _).alloc (Nat.le_refl _) _
  have HK : Aside0 (w1.heap[w.heap.size]? = some (.cells #[.string a0_0, .slice A0_1 l0_1.length c0_1, .slice A0_2 l0_2.length c0_2, .slice A0_3 l0_3.length c0_3] 26 (0, 0))) := ⟨by rw [hw1]; exact heap_alloc_new w _⟩
  have HR1 := Aside0.mk (Kd.C_below hr0_1 hb1)
  have HR2 := Aside0.mk (Kd.C_below hr0_2 hb1)
  have HR3 := Aside0.mk (Kd.C_below hr0_3 hb1)
  have HC := Aside0.mk (And.intro hc0_1 hc0_3)
  have HB1 := Aside0.mk hb1
  have HG := Aside0.mk hg
  have hu := Tryz.underlying90
  have hu2 := Tryz.underlying26
  clear h hr0_1 hr0_2 hr0_3 hb1 hc0_1 hc0_2 hc0_3 hg
  unfold rules_Broken.g at hfl
  obtain ⟨lv, hlv⟩ : ∃ lv, l0_2.map (fun x => x.f0) = lv := ⟨_, rfl⟩
  obtain ⟨ls, hls⟩ : ∃ ls, l0_3.map (fun x => x.f0) = ls := ⟨_, rfl⟩
  have HLV := Aside0.mk (And.intro hlv hls)
  have HLL := Aside0.mk (show lv.length ≤ 100000 ∧ ls.length ≤ 100000 by rw [← hlv, ← hls, List.length_map, List.length_map]; exact HG.out.2)
  rw [hlv, hls] at hfl
  clear hlv hls
  by_cases d1 : a1 = 1
  · rw [if_pos d1] at hfl
    have d1b : (a1 == 1) = true := beq_iff_eq.mpr d1
    clear d1
    unfold rules_twins.of at hfl
    obtain ⟨ts, hts, rfl⟩ := Option.map_eq_some_iff.mp hfl
    have HT := Aside0.mk hts
    have HLN := Aside0.mk hlen
    clear hts hfl hlen
    subst hw1
    go_enter Tryz.func26, Tryz.ntmps26
    go_wp2_with (first | (go_at_call 51; refine (rules_open.calls a0_0 A0_1 c0_1 l0_1 A0_2 c0_2 l0_2 A0_3 c0_3 l0_3 a1 _ HR2.out HR3.out HG.out.2.1 HG.out.2.2).mono ?_; rintro e W ⟨B, AV, cV, AS, cS, rfl, hA, hb⟩; rw [HLV.out.1, HLV.out.2] at hA; have HA := Aside0.mk hA; have HB := Aside0.mk hb; obtain ⟨hd0, hd1, hd2, hd3⟩ := cz4_ (blk_below HK.out hb); have hcc := hA.cells; obtain ⟨hy0, hy1, hy2, hy3, hy4, hy5, hy6, hy7⟩ := hcc; clear hA hb) | (go_at_call 52; refine (rules_twins.calls _ W.heap.size B _ [] _ A0_1 c0_1 (l0_1) ts W HA.out (Kd.C_below HR1.out HB.out) HC.out.1 HT.out HLN.out).mono ?_; rintro e W2 ⟨⟨u, rfl⟩, ⟨vo, hA2⟩, hF⟩; have HA2 := Aside0.mk hA2; have HF := Aside0.mk hF; have hv7 := hA2.cells.2.2.2.2.2.2.2; obtain ⟨A9, c9, rfl⟩ := Kd.R_slice hA2.row; clear hA2 hF))
    go_ret
    exact ⟨_, rfl, Kd.R_mono (Kd.R_lower HA2.out.row (Nat.le_trans HB1.out.size HB.out.size)) (fun _ _ => trivial), HB1.out.trans ((HB.out.trans HF.out.bel).mono HB1.out.size)⟩
  rw [if_neg d1] at hfl
  have d1b : (a1 == 1) = false := beq_eq_false_iff_ne.mpr d1
  clear d1
  by_cases d2 : a1 = 2
  · rw [if_pos d2] at hfl
    have d2b : (a1 == 2) = true := beq_iff_eq.mpr d2
    clear d2
    unfold rules_twins.of at hfl
    obtain ⟨ts, hts, rfl⟩ := Option.map_eq_some_iff.mp hfl
    have HT := Aside0.mk hts
    have HLN := Aside0.mk hlen
    clear hts hfl hlen
    subst hw1
    go_enter Tryz.func26, Tryz.ntmps26
    go_wp2_with (first | (go_at_call 51; refine (rules_open.calls a0_0 A0_1 c0_1 l0_1 A0_2 c0_2 l0_2 A0_3 c0_3 l0_3 a1 _ HR2.out HR3.out HG.out.2.1 HG.out.2.2).mono ?_; rintro e W ⟨B, AV, cV, AS, cS, rfl, hA, hb⟩; rw [HLV.out.1, HLV.out.2] at hA; have HA := Aside0.mk hA; have HB := Aside0.mk hb; obtain ⟨hd0, hd1, hd2, hd3⟩ := cz4_ (blk_below HK.out hb); have hcc := hA.cells; obtain ⟨hy0, hy1, hy2, hy3, hy4, hy5, hy6, hy7⟩ := hcc; clear hA hb) | (go_at_call 52; refine (rules_twins.calls _ W.heap.size B _ [] _ AV cV (lv) ts W HA.out (Kd.R_reads' HA.out.vars).2.2 (Kd.R_reads' HA.out.vars).2.1 HT.out HLN.out).mono ?_; rintro e W2 ⟨⟨u, rfl⟩, ⟨vo, hA2⟩, hF⟩; have HA2 := Aside0.mk hA2; have HF := Aside0.mk hF; have hv7 := hA2.cells.2.2.2.2.2.2.2; obtain ⟨A9, c9, rfl⟩ := Kd.R_slice hA2.row; clear hA2 hF))
    go_ret
    exact ⟨_, rfl, Kd.R_mono (Kd.R_lower HA2.out.row (Nat.le_trans HB1.out.size HB.out.size)) (fun _ _ => trivial), HB1.out.trans ((HB.out.trans HF.out.bel).mono HB1.out.size)⟩
  rw [if_neg d2] at hfl
  have d2b : (a1 == 2) = false := beq_eq_false_iff_ne.mpr d2
  clear d2
  by_cases d3 : a1 = 3
  · rw [if_pos d3] at hfl
    have d3b : (a1 == 3) = true := beq_iff_eq.mpr d3
    clear d3
    obtain rfl := Option.some.inj hfl
    have HLN := Aside0.mk hlen
    clear hfl hlen
    subst hw1
    go_enter Tryz.func26, Tryz.ntmps26
    go_wp2_with (first | (go_at_call 51; refine (rules_open.calls a0_0 A0_1 c0_1 l0_1 A0_2 c0_2 l0_2 A0_3 c0_3 l0_3 a1 _ HR2.out HR3.out HG.out.2.1 HG.out.2.2).mono ?_; rintro e W ⟨B, AV, cV, AS, cS, rfl, hA, hb⟩; rw [HLV.out.1, HLV.out.2] at hA; have HA := Aside0.mk hA; have HB := Aside0.mk hb; obtain ⟨hd0, hd1, hd2, hd3⟩ := cz4_ (blk_below HK.out hb); have hcc := hA.cells; obtain ⟨hy0, hy1, hy2, hy3, hy4, hy5, hy6, hy7⟩ := hcc; clear hA hb) | (go_at_call 53; refine (rules_ranges.calls _ W.heap.size B _ [] _ W HA.out HB.out HR2.out HLN.out).mono ?_; rintro e W2 ⟨⟨u, rfl⟩, ⟨vo, hA2⟩, hF⟩; have HA2 := Aside0.mk hA2; have HF := Aside0.mk hF; have hv7 := hA2.cells.2.2.2.2.2.2.2; obtain ⟨A9, c9, rfl⟩ := Kd.R_slice hA2.row; clear hA2 hF))
    go_ret
    exact ⟨_, rfl, Kd.R_mono (Kd.R_lower HA2.out.row (Nat.le_trans HB1.out.size HB.out.size)) (fun _ _ => trivial), HB1.out.trans ((HB.out.trans HF.out.bel).mono HB1.out.size)⟩
  rw [if_neg d3] at hfl
  have d3b : (a1 == 3) = false := beq_eq_false_iff_ne.mpr d3
  clear d3
  by_cases d4 : a1 = 4
  · rw [if_pos d4] at hfl
    have d4b : (a1 == 4) = true := beq_iff_eq.mpr d4
    clear d4
    unfold rules_twins.of at hfl
    obtain ⟨ts, hts, rfl⟩ := Option.map_eq_some_iff.mp hfl
    have HT := Aside0.mk hts
    have HLN := Aside0.mk hlen
    clear hts hfl hlen
    subst hw1
    go_enter Tryz.func26, Tryz.ntmps26
    go_wp2_with (first | (go_at_call 51; refine (rules_open.calls a0_0 A0_1 c0_1 l0_1 A0_2 c0_2 l0_2 A0_3 c0_3 l0_3 a1 _ HR2.out HR3.out HG.out.2.1 HG.out.2.2).mono ?_; rintro e W ⟨B, AV, cV, AS, cS, rfl, hA, hb⟩; rw [HLV.out.1, HLV.out.2] at hA; have HA := Aside0.mk hA; have HB := Aside0.mk hb; obtain ⟨hd0, hd1, hd2, hd3⟩ := cz4_ (blk_below HK.out hb); have hcc := hA.cells; obtain ⟨hy0, hy1, hy2, hy3, hy4, hy5, hy6, hy7⟩ := hcc; clear hA hb) | (go_at_call 52; refine (rules_twins.calls _ W.heap.size B _ [] _ AS cS (ls) ts W HA.out (Kd.R_reads' HA.out.states).2.2 (Kd.R_reads' HA.out.states).2.1 HT.out HLN.out).mono ?_; rintro e W2 ⟨⟨u, rfl⟩, ⟨vo, hA2⟩, hF⟩; have HA2 := Aside0.mk hA2; have HF := Aside0.mk hF; have hv7 := hA2.cells.2.2.2.2.2.2.2; obtain ⟨A9, c9, rfl⟩ := Kd.R_slice hA2.row; clear hA2 hF))
    go_ret
    exact ⟨_, rfl, Kd.R_mono (Kd.R_lower HA2.out.row (Nat.le_trans HB1.out.size HB.out.size)) (fun _ _ => trivial), HB1.out.trans ((HB.out.trans HF.out.bel).mono HB1.out.size)⟩
  rw [if_neg d4] at hfl
  have d4b : (a1 == 4) = false := beq_eq_false_iff_ne.mpr d4
  clear d4
  have HLN := Aside0.mk hlen
  clear hlen
  by_cases d5 : a1 = 5
  · rw [if_pos d5] at hfl
    have d5b : (a1 == 5) = true := beq_iff_eq.mpr d5
    have HFL := Aside0.mk hfl
    clear d5 hfl
    subst hw1
    go_enter Tryz.func26, Tryz.ntmps26
    go_wp2_with (first | (go_at_call 51; refine (rules_open.calls a0_0 A0_1 c0_1 l0_1 A0_2 c0_2 l0_2 A0_3 c0_3 l0_3 a1 _ HR2.out HR3.out HG.out.2.1 HG.out.2.2).mono ?_; rintro e W ⟨B, AV, cV, AS, cS, rfl, hA, hb⟩; rw [HLV.out.1, HLV.out.2] at hA; have HA := Aside0.mk hA; have HB := Aside0.mk hb; obtain ⟨hd0, hd1, hd2, hd3⟩ := cz4_ (blk_below HK.out hb); have hcc := hA.cells; obtain ⟨hy0, hy1, hy2, hy3, hy4, hy5, hy6, hy7⟩ := hcc; clear hA hb) | (go_at_call 54; refine (rules_kids.calls k _ W.heap.size B _ [] _ W HA.out HB.out HR3.out HC.out.2 fl HFL.out HLN.out).mono ?_; rintro e W2 ⟨⟨u, rfl⟩, ⟨vo, hA2⟩, hF⟩; have HA2 := Aside0.mk hA2; have HF := Aside0.mk hF; have hv7 := hA2.cells.2.2.2.2.2.2.2; obtain ⟨A9, c9, rfl⟩ := Kd.R_slice hA2.row; clear hA2 hF))
    go_ret
    exact ⟨_, rfl, Kd.R_mono (Kd.R_lower HA2.out.row (Nat.le_trans HB1.out.size HB.out.size)) (fun _ _ => trivial), HB1.out.trans ((HB.out.trans HF.out.bel).mono HB1.out.size)⟩
  rw [if_neg d5] at hfl
  have d5b : (a1 == 5) = false := beq_eq_false_iff_ne.mpr d5
  clear d5
  by_cases d10 : a1 = 10
  · rw [if_pos d10, rules_bk0, HLV.out.1, HLV.out.2] at hfl
    have d10b : (a1 == 10) = true := beq_iff_eq.mpr d10
    have HFL := Aside0.mk hfl
    clear d10 hfl
    subst hw1
    go_enter Tryz.func26, Tryz.ntmps26
    go_wp2_with (first | (go_at_call 51; refine (rules_open.calls a0_0 A0_1 c0_1 l0_1 A0_2 c0_2 l0_2 A0_3 c0_3 l0_3 a1 _ HR2.out HR3.out HG.out.2.1 HG.out.2.2).mono ?_; rintro e W ⟨B, AV, cV, AS, cS, rfl, hA, hb⟩; rw [HLV.out.1, HLV.out.2] at hA; have HA := Aside0.mk hA; have HB := Aside0.mk hb; obtain ⟨hd0, hd1, hd2, hd3⟩ := cz4_ (blk_below HK.out hb); have hcc := hA.cells; obtain ⟨hy0, hy1, hy2, hy3, hy4, hy5, hy6, hy7⟩ := hcc; clear hA hb) | (go_at_call 55; refine (rules_edges.calls k _ W.heap.size B _ [] _ W HA.out HB.out HR3.out HC.out.2 HLL.out.1 HLL.out.2 fl HFL.out HLN.out).mono ?_; rintro e W2 ⟨⟨u, rfl⟩, ⟨vo, hA2⟩, hF⟩; have HA2 := Aside0.mk hA2; have HF := Aside0.mk hF; have hv7 := hA2.cells.2.2.2.2.2.2.2; obtain ⟨A9, c9, rfl⟩ := Kd.R_slice hA2.row; clear hA2 hF))
    go_ret
    exact ⟨_, rfl, Kd.R_mono (Kd.R_lower HA2.out.row (Nat.le_trans HB1.out.size HB.out.size)) (fun _ _ => trivial), HB1.out.trans ((HB.out.trans HF.out.bel).mono HB1.out.size)⟩
  · rw [if_neg d10, rules_bk0, HLV.out.1, HLV.out.2] at hfl
    have d10b : (a1 == 10) = false := beq_eq_false_iff_ne.mpr d10
    have HFL := Aside0.mk hfl
    clear d10 hfl
    subst hw1
    go_enter Tryz.func26, Tryz.ntmps26
    go_wp2_with (first | (go_at_call 51; refine (rules_open.calls a0_0 A0_1 c0_1 l0_1 A0_2 c0_2 l0_2 A0_3 c0_3 l0_3 a1 _ HR2.out HR3.out HG.out.2.1 HG.out.2.2).mono ?_; rintro e W ⟨B, AV, cV, AS, cS, rfl, hA, hb⟩; rw [HLV.out.1, HLV.out.2] at hA; have HA := Aside0.mk hA; have HB := Aside0.mk hb; obtain ⟨hd0, hd1, hd2, hd3⟩ := cz4_ (blk_below HK.out hb); have hcc := hA.cells; obtain ⟨hy0, hy1, hy2, hy3, hy4, hy5, hy6, hy7⟩ := hcc; clear hA hb) | (go_at_call 56; refine (rules_transitions.calls k _ W.heap.size B _ [] _ W HA.out HB.out HR3.out HC.out.2 HLL.out.1 HLL.out.2 HR1.out HC.out.1 HG.out.1 fl HFL.out HLN.out).mono ?_; rintro e W2 ⟨⟨u, rfl⟩, ⟨vo, hA2⟩, hF⟩; have HA2 := Aside0.mk hA2; have HF := Aside0.mk hF; have hv7 := hA2.cells.2.2.2.2.2.2.2; obtain ⟨A9, c9, rfl⟩ := Kd.R_slice hA2.row; clear hA2 hF))
    go_ret
    exact ⟨_, rfl, Kd.R_mono (Kd.R_lower HA2.out.row (Nat.le_trans HB1.out.size HB.out.size)) (fun _ _ => trivial), HB1.out.trans ((HB.out.trans HF.out.bel).mono HB1.out.size)⟩


/-! ### sound_Of: function 8 -/
def sound_Of.l0 : Nat → List (S65) → Int → ByteArray → List ByteArray → List (S50) → List (S46) → Option ((List (S65)) × Int)
  | 0, _, _, _, _, _, _ => none
  | k + 1, x5, x6, x246000, x246001, x246002, x246003 => if x6 < 11 then ((rules_Broken.f k x246000 x246001 x246002 x246003 x6).bind fun t247 => (if x5.length + t247.length < 5864062014805 then (sound_Of.l0 k (x5 ++ t247) (wrap64 (x6 + 1)) x246000 x246001 x246002 x246003) else (none))) else (some (x5, 0))
def sound_Of.f (k : Nat) (a0_0 : ByteArray) (l0_1 : List ByteArray) (l0_2 : List (S50)) (l0_3 : List (S46)) : Option ((List (S65)) × Int) := (print_Check.f k a0_0 l0_1 l0_2 l0_3).bind fun t246 => (if t246 = 0 then (sound_Of.l0 k ([] : List (S65)) 1 a0_0 l0_1 l0_2 l0_3) else (some (([] : List (S65)), t246)))
theorem sound_Of.mono_l : ∀ k, (∀ y0 y1 y2 y3 y4 y5, LeO (sound_Of.l0 k y0 y1 y2 y3 y4 y5) (sound_Of.l0 (k + 1) y0 y1 y2 y3 y4 y5))
  | 0 => fun _ _ _ _ _ _ r h => by simp [sound_Of.l0] at h
  | k + 1 => by
    have ih0 := sound_Of.mono_l k
    · intro y0 y1 y2 y3 y4 y5
      unfold sound_Of.l0
      exact mo_
theorem sound_Of.mono : ∀ a0 a1 a2 a3 k, LeO (sound_Of.f k a0 a1 a2 a3) (sound_Of.f (k + 1) a0 a1 a2 a3) := by
  intro a0 a1 a2 a3 k
  have ih0 := sound_Of.mono_l k
  unfold sound_Of.f
  exact mo_
instance sound_Of.lc : ∀ a0 a1 a2 a3 k, LeC (sound_Of.f k a0 a1 a2 a3) (sound_Of.f (k + 1) a0 a1 a2 a3) := fun a0 a1 a2 a3 k => ⟨sound_Of.mono a0 a1 a2 a3 k⟩
set_option maxHeartbeats 8000000 in
set_option maxRecDepth 100000 in
theorem sound_Of.calls (k : Nat) (a0_0 : ByteArray) (A0_1 : Option Addr) (c0_1 : Nat) (l0_1 : List ByteArray) (A0_2 : Option Addr) (c0_2 : Nat) (l0_2 : List (S50)) (A0_3 : Option Addr) (c0_3 : Nat) (l0_3 : List (S46)) (r1 : List (S65)) (r2 : Int) (w : World) (hr0_1 : Kd.C Kd.string w A0_1 l0_1.length l0_1) (hc0_1 : l0_1.length ≤ c0_1) (hr0_2 : Kd.C k50 w A0_2 l0_2.length l0_2) (hc0_2 : l0_2.length ≤ c0_2) (hr0_3 : Kd.C k46 w A0_3 l0_3.length l0_3) (hc0_3 : l0_3.length ≤ c0_3) (h : sound_Of.f k a0_0 l0_1 l0_2 l0_3 = some (r1, r2)) :
  Calls Tryz.prog 8 #[.agg #[.string a0_0, .slice A0_1 l0_1.length c0_1, .slice A0_2 l0_2.length c0_2, .slice A0_3 l0_3.length c0_3]] w fun e w' => ∃ v0_ : Value, e = .returned (.tuple #[v0_, .int .i64 r2]) ∧ Kd.R k65 65 w' w.heap.size (fun _ => True) v0_ r1 ∧ Below w.heap.size w w' := by
 have hu26 := Tryz.underlying26
 have HR0_1 := Aside0.mk hr0_1
 have HC0_1 := Aside0.mk hc0_1
 clear hr0_1 hc0_1
 have HR0_2 := Aside0.mk hr0_2
 have HC0_2 := Aside0.mk hc0_2
 clear hr0_2 hc0_2
 have HR0_3 := Aside0.mk hr0_3
 have HC0_3 := Aside0.mk hc0_3
 clear hr0_3 hc0_3
 have HB := Aside0.mk (Below.refl w.heap.size w)
 have H : ((print_Check.f k a0_0 l0_1 l0_2 l0_3).bind fun t246 => (if t246 = 0 then (sound_Of.l0 k ([] : List (S65)) 1 a0_0 l0_1 l0_2 l0_3) else (some (([] : List (S65)), t246)))) = some (r1, r2) := h
 clear h
 replace H := Option.bind_eq_some_iff.mp H
 obtain ⟨t246, A20, H⟩ := H
 replace H : (if t246 = 0 then (sound_Of.l0 k ([] : List (S65)) 1 a0_0 l0_1 l0_2 l0_3) else (some (([] : List (S65)), t246))) = some (r1, r2) := H
 have A2 := Aside0.mk A20
 clear A20
 replace H := ic_ H; obtain ⟨c3, H⟩ | ⟨c3, H⟩ := H
 ·have c3b0 : (t246 == 0) = false := beq_eq_false_iff_ne.mpr c3
  have c3b1 : (t246 != 0) = true := bne_iff_ne.mpr c3
  simp only [Option.some.injEq, Prod.mk.injEq] at H
  obtain ⟨rfl, rfl⟩ := H
  go_enter Tryz.func8, Tryz.ntmps8
  go_wp2_with (first | ((with_reducible refine gate_dst (N := 1) rfl ?_); refine bx_ HB (N := 1) (cs := #[.string a0_0, .slice A0_1 l0_1.length c0_1, .slice A0_2 l0_2.length c0_2, .slice A0_3 l0_3.length c0_3]) (t := 26) ?_; clear HB; intro gb245 w14 HB BK245 GW245 GE245; obtain ⟨z15_0, z15_1, z15_2, z15_3, y15_0, y15_1, y15_2, y15_3⟩ := cw4_ BK245.out) | ((with_reducible refine gate_callee (f := 25) rfl ?_); refine gl_ (some 8) Tryz.func25 #[.agg #[.string a0_0, .slice A0_1 l0_1.length c0_1, .slice A0_2 l0_2.length c0_2, .slice A0_3 l0_3.length c0_3]] ?_; (with_reducible refine cm_ (print_Check.calls k a0_0 _ _ l0_1 _ _ l0_2 _ _ l0_3 t246 _ (kc_ HR0_1 HB) HC0_1.out (kc_ HR0_2 HB) HC0_2.out (kc_ HR0_3 HB) HC0_3.out A2.out) ?_); intro w16 hb; refine ⟨_, rfl, ?_⟩; replace BK245 := tb_ BK245 hb; replace HB := ts_ HB hb; clear hb))
  go_ret2
  exact ⟨_, rv_, by first | exact Kd.R_nil _ _ _ _ _ | exact Kd.N_nil _ _ _ _ _ | exact Kd.V_nil _ _ _ _ _ | exact Kd.Q_nil _ _ _ _ _ | exact Kd.S_nil _ _ _ _ _, by repeat (first | (with_reducible first | exact HB.out | apply below_alloc | apply pw_below_drewN | apply below_drew1 | refine below_set ?_ GE245.out) | exact HB.out)⟩

 have c3b0 : (t246 == 0) = true := beq_iff_eq.mpr c3
 have c3b1 : (t246 != 0) = false := bne_eq_false_iff_eq.mpr c3
 clear c3
 have H' := Aside0.mk H
 clear H
 go_enter Tryz.func8, Tryz.ntmps8
 go_wp2_with (first | ((with_reducible refine gate_dst (N := 1) rfl ?_); refine bx_ HB (N := 1) (cs := #[.string a0_0, .slice A0_1 l0_1.length c0_1, .slice A0_2 l0_2.length c0_2, .slice A0_3 l0_3.length c0_3]) (t := 26) ?_; clear HB; intro gb245 w4 HB BK245 GW245 GE245; obtain ⟨z5_0, z5_1, z5_2, z5_3, y5_0, y5_1, y5_2, y5_3⟩ := cw4_ BK245.out) | ((with_reducible refine gate_callee (f := 25) rfl ?_); refine gl_ (some 8) Tryz.func25 #[.agg #[.string a0_0, .slice A0_1 l0_1.length c0_1, .slice A0_2 l0_2.length c0_2, .slice A0_3 l0_3.length c0_3]] ?_; (with_reducible refine cm_ (print_Check.calls k a0_0 _ _ l0_1 _ _ l0_2 _ _ l0_3 t246 _ (kc_ HR0_1 HB) HC0_1.out (kc_ HR0_2 HB) HC0_2.out (kc_ HR0_3 HB) HC0_3.out A2.out) ?_); intro w6 hb; refine ⟨_, rfl, ?_⟩; replace BK245 := tb_ BK245 hb; replace HB := ts_ HB hb; clear hb))
 go_loopg [5, 6] k (fun kq v5 v6 w' => ∃ (x5_1 : List (S65)) (x6_1 : Int), v6 = .int .i64 x6_1 ∧ Aside0 (sound_Of.l0 kq x5_1 x6_1 a0_0 l0_1 l0_2 l0_3 = some (r1, r2)) ∧ Aside0 (kq ≤ k) ∧ Aside0 (Kd.R k65 65 w' w.heap.size (fun _ => True) v5 x5_1) ∧ Aside0 (w'.heap[gb245]? = some (.cells #[.string a0_0, (.slice A0_1 l0_1.length c0_1), (.slice A0_2 l0_2.length c0_2), (.slice A0_3 l0_3.length c0_3)] 26 (0, 0))) ∧ Aside0 (Below w.heap.size w w'))
 case atStart => exact ⟨(([] : List (S65))), (1), rl_, H', ⟨Nat.le_refl _⟩, ⟨by first | exact Kd.R_nil _ _ _ _ _ | exact Kd.N_nil _ _ _ _ _ | exact Kd.V_nil _ _ _ _ _ | exact Kd.Q_nil _ _ _ _ _ | exact Kd.S_nil _ _ _ _ _⟩, ⟨grw BK245.out⟩, ⟨bw_⟩⟩
 case round =>
  clear H'
  try clear c3b0
  try clear c3b1
  try clear z5_0 z5_1 z5_2 z5_3
  try clear y5_0 y5_1 y5_2 y5_3
  obtain ⟨x5_1, x6_1, rfl, HA, HK1, HO_5, BK245, HB⟩ := hrel
  cases gk with
  | zero => exact absurd HA.out (by simp [sound_Of.l0])
  | succ k1 =>
   have H := HA.out
   clear HA
   simp only [sound_Of.l0] at H
   replace H := it_ H; obtain ⟨c7b0, H⟩ | ⟨c7b0, H⟩ := H
   ·simp only [Option.some.injEq, Prod.mk.injEq] at H
    obtain ⟨rfl, rfl⟩ := H
    go_wp2
    go_ret2
    exact ⟨_, rv_, by (with_reducible repeat (first | apply Kd.R_alloc | apply Kd.R_drewN | apply Kd.R_drew)); exact HO_5.out, by repeat (first | (with_reducible first | exact HB.out | apply below_alloc | apply pw_below_drewN | apply below_drew1 | refine below_set ?_ GE245.out) | exact HB.out)⟩
   replace H := Option.bind_eq_some_iff.mp H
   obtain ⟨t247, A80, H⟩ := H
   replace H : (if x5_1.length + t247.length < 5864062014805 then (sound_Of.l0 k1 (x5_1 ++ t247) (wrap64 (x6_1 + 1)) a0_0 l0_1 l0_2 l0_3) else (none)) = some (r1, r2) := H
   have A8 := Aside0.mk A80
   clear A80
   replace H := ip_ H; obtain ⟨c9, H⟩ := H
   have LMc9 := Aside0.mk c9
   clear c9
   obtain ⟨y250, hy250⟩ : ∃ y_ : List (S65), y_ = (x5_1 ++ t247) := ⟨_, rfl⟩
   replace H : (sound_Of.l0 k1 y250 (wrap64 (x6_1 + 1)) a0_0 l0_1 l0_2 l0_3) = some (r1, r2) := by first | (rw [hy250]; with_reducible exact H) | (have H2_ := (Option.bind_some _ _).symm.trans H; rw [hy250]; with_reducible exact H2_) | (have H2_ := (Option.bind_some _ _).symm.trans H; with_reducible exact H2_) | with_reducible exact H | (rw [hy250]; exact H) | exact H
   have Ny250 := Aside0.mk hy250
   clear hy250
   have H' := Aside0.mk H
   clear H
   obtain ⟨z10_0, z10_1, z10_2, z10_3, y10_0, y10_1, y10_2, y10_3⟩ := cw4_ BK245.out
   go_wp2_with (first | ((with_reducible refine gate_callee (f := 26) rfl ?_); refine gl_ (some 19) Tryz.func26 #[.agg #[.string a0_0, .slice A0_1 l0_1.length c0_1, .slice A0_2 l0_2.length c0_2, .slice A0_3 l0_3.length c0_3], .int .i64 x6_1] ?_; (with_reducible refine (rules_Broken.calls k1 a0_0 _ _ l0_1 _ _ l0_2 _ _ l0_3 x6_1 t247 _ (kc_ HR0_1 HB) HC0_1.out (kc_ HR0_2 HB) HC0_2.out (kc_ HR0_3 HB) HC0_3.out A8.out).mono ?_); rintro e w11 ⟨v248, rfl, ho0, hb⟩; have hB_ := bu_ HB hb; refine ⟨_, rfl, ?_⟩; have HO249 := Aside0.mk (Kd.R_lower (Kd.R_new' ho0 (Kd.R_lt (kR_ HO_5))) (below_size hB_)); replace HO_5 := Aside0.mk (Kd.R_elder' (kR_ HO_5) (Kd.R_base ho0) hb); replace BK245 := tb_ BK245 hb; replace HB := Aside0.mk (below_step hB_ hb); clear hb; (try clear ho0); obtain ⟨Ao13, co13, eo13⟩ := Kd.R_slice HO249.out; subst eo13) | ((with_reducible refine gate_builtin (b := .append) (xs := #[.tmp 16, .tmp 19]) rfl ?_); at_builtin; refine Kd.R_append_rows k65 (w0 := w) w.heap.size rfl (.tmp 16) (.tmp 19) 29 65 (.agg #[(.int .i64 0), (.int .i64 0), (.int .i64 0)]) 24 rfl Tryz.underlying29 info65 rfl (by decide) (by omega) u5 x5_1 t247 _ _ _ (fun k_ => some k_ ≠ (.slice Ao13 t247.length co13 : Value).ownBlock) (fun _ => False) rfl rfl ?aO ?aR (fun _ _ h => h) (fun _ h => h.elim) ?aF ?aB ?aS ?aL ?_; (case aR => repeat (first | exact (Kd.R_reads' HO249.out).2.2 | (with_reducible refine Kd.C_alloc ?_ _) | (with_reducible refine Kd.C_drewN ?_ _) | (with_reducible refine Kd.C_drew ?_))); (case aB => exact bw_); (case aF => exact (fun k_ hk => Kd.fresh' (Kd.R_lt (kR_ HO249)) k_ hk)); (case aO => exact (by (with_reducible repeat (first | apply Kd.R_alloc | apply Kd.R_drewN | apply Kd.R_drew)); exact Kd.R_mono HO_5.out (fun _ hk => hk.2))); (case aS => exact (below_size bw_)); (case aL => have := LMc9.out; omega); intro v251 w12 ho hb hg hat; rw [← Ny250.out] at ho; have HO252 := Aside0.mk (ho); replace BK245 := Aside0.mk (blk_grown (grw BK245.out) hg (Kd.R_ne HO_5.out BK245.out (by decide))); replace HO249 := Aside0.mk (Kd.R_after (ok := (fun _ => True)) (kR_ HO249) hg hat); replace HB := Aside0.mk (hb); clear ho hb hg hat))
   go_roundg k1
   case measure => have := HK1.out; omega
   case rel => exact ⟨(y250), (wrap64 (x6_1 + 1)), rl_, H', ⟨kn_ HK1⟩, ⟨by (with_reducible repeat (first | apply Kd.R_alloc | apply Kd.R_drewN | apply Kd.R_drew)); exact Kd.R_mono HO252.out (fun _ hk => trivial)⟩, ⟨grw BK245.out⟩, ⟨bw_⟩⟩
/-! ### sound_Is: function 9 -/
def sound_Is.f (k : Nat) (a0_0 : ByteArray) (l0_1 : List ByteArray) (l0_2 : List (S50)) (l0_3 : List (S46)) : Option (Bool) := (sound_Of.f k a0_0 l0_1 l0_2 l0_3).bind fun bt254 => (if bt254.2 = 0 then (some ((bt254.1.length : Int) == 0)) else (some false))
theorem sound_Is.mono : ∀ a0 a1 a2 a3 k, LeO (sound_Is.f k a0 a1 a2 a3) (sound_Is.f (k + 1) a0 a1 a2 a3) := by
  intro a0 a1 a2 a3 k
  unfold sound_Is.f
  exact mo_
instance sound_Is.lc : ∀ a0 a1 a2 a3 k, LeC (sound_Is.f k a0 a1 a2 a3) (sound_Is.f (k + 1) a0 a1 a2 a3) := fun a0 a1 a2 a3 k => ⟨sound_Is.mono a0 a1 a2 a3 k⟩
set_option maxHeartbeats 8000000 in
set_option maxRecDepth 100000 in
theorem sound_Is.calls (k : Nat) (a0_0 : ByteArray) (A0_1 : Option Addr) (c0_1 : Nat) (l0_1 : List ByteArray) (A0_2 : Option Addr) (c0_2 : Nat) (l0_2 : List (S50)) (A0_3 : Option Addr) (c0_3 : Nat) (l0_3 : List (S46)) (r : Bool) (w : World) (hr0_1 : Kd.C Kd.string w A0_1 l0_1.length l0_1) (hc0_1 : l0_1.length ≤ c0_1) (hr0_2 : Kd.C k50 w A0_2 l0_2.length l0_2) (hc0_2 : l0_2.length ≤ c0_2) (hr0_3 : Kd.C k46 w A0_3 l0_3.length l0_3) (hc0_3 : l0_3.length ≤ c0_3) (h : sound_Is.f k a0_0 l0_1 l0_2 l0_3 = some r) :
  Calls Tryz.prog 9 #[.agg #[.string a0_0, .slice A0_1 l0_1.length c0_1, .slice A0_2 l0_2.length c0_2, .slice A0_3 l0_3.length c0_3]] w fun e w' => e = .returned (.bool r) ∧ Below w.heap.size w w' := by
 have hu26 := Tryz.underlying26
 have HR0_1 := Aside0.mk hr0_1
 have HC0_1 := Aside0.mk hc0_1
 clear hr0_1 hc0_1
 have HR0_2 := Aside0.mk hr0_2
 have HC0_2 := Aside0.mk hc0_2
 clear hr0_2 hc0_2
 have HR0_3 := Aside0.mk hr0_3
 have HC0_3 := Aside0.mk hc0_3
 clear hr0_3 hc0_3
 have HB := Aside0.mk (Below.refl w.heap.size w)
 unfold sound_Is.f at h
 have H := h
 clear h
 replace H := Option.bind_eq_some_iff.mp H
 obtain ⟨⟨t254, t257⟩, A20, H⟩ := H
 replace H : (if t257 = 0 then (some ((t254.length : Int) == 0)) else (some false)) = some r := H
 have A2 := Aside0.mk A20
 clear A20
 replace H := ic_ H; obtain ⟨c3, H⟩ | ⟨c3, H⟩ := H
 ·have c3b0 : (t257 == 0) = false := beq_eq_false_iff_ne.mpr c3
  have c3b1 : (t257 != 0) = true := bne_iff_ne.mpr c3
  obtain rfl := Option.some.inj H
  go_enter Tryz.func9, Tryz.ntmps9
  go_wp2_with (first | ((with_reducible refine gate_dst (N := 1) rfl ?_); (try (refine gate_guard (by rfl) ?_; dsimp only)); refine bx_ HB (N := 1) (cs := #[.string a0_0, .slice A0_1 l0_1.length c0_1, .slice A0_2 l0_2.length c0_2, .slice A0_3 l0_3.length c0_3]) (t := 26) ?_; clear HB; intro gb253 w8 HB BK253 GW253 GE253; obtain ⟨z9_0, z9_1, z9_2, z9_3, y9_0, y9_1, y9_2, y9_3⟩ := cw4_ BK253.out) | ((with_reducible refine gate_callee (f := 8) rfl ?_); refine gl_ (some 7) Tryz.func8 #[.agg #[.string a0_0, .slice A0_1 l0_1.length c0_1, .slice A0_2 l0_2.length c0_2, .slice A0_3 l0_3.length c0_3]] ?_; (with_reducible refine (sound_Of.calls k a0_0 _ _ l0_1 _ _ l0_2 _ _ l0_3 t254 t257 _ (kc_ HR0_1 HB) HC0_1.out (kc_ HR0_2 HB) HC0_2.out (kc_ HR0_3 HB) HC0_3.out A2.out).mono ?_); rintro e w10 ⟨v255, rfl, ho0, hb⟩; have hB_ := bu_ HB hb; refine ⟨_, rfl, ?_⟩; have HO256 := Aside0.mk (Kd.R_lower ho0 (below_size hB_)); replace BK253 := tb_ BK253 hb; replace HB := Aside0.mk (below_step hB_ hb); clear hb; (try clear ho0)))
  go_ret
  exact ⟨rv_, bw_⟩

 have c3b0 : (t257 == 0) = true := beq_iff_eq.mpr c3
 have c3b1 : (t257 != 0) = false := bne_eq_false_iff_eq.mpr c3
 clear c3
 obtain rfl := Option.some.inj H
 go_enter Tryz.func9, Tryz.ntmps9
 go_wp2_with (first | ((with_reducible refine gate_dst (N := 1) rfl ?_); (try (refine gate_guard (by rfl) ?_; dsimp only)); refine bx_ HB (N := 1) (cs := #[.string a0_0, .slice A0_1 l0_1.length c0_1, .slice A0_2 l0_2.length c0_2, .slice A0_3 l0_3.length c0_3]) (t := 26) ?_; clear HB; intro gb253 w4 HB BK253 GW253 GE253; obtain ⟨z5_0, z5_1, z5_2, z5_3, y5_0, y5_1, y5_2, y5_3⟩ := cw4_ BK253.out) | ((with_reducible refine gate_callee (f := 8) rfl ?_); refine gl_ (some 7) Tryz.func8 #[.agg #[.string a0_0, .slice A0_1 l0_1.length c0_1, .slice A0_2 l0_2.length c0_2, .slice A0_3 l0_3.length c0_3]] ?_; (with_reducible refine (sound_Of.calls k a0_0 _ _ l0_1 _ _ l0_2 _ _ l0_3 t254 t257 _ (kc_ HR0_1 HB) HC0_1.out (kc_ HR0_2 HB) HC0_2.out (kc_ HR0_3 HB) HC0_3.out A2.out).mono ?_); rintro e w6 ⟨v255, rfl, ho0, hb⟩; have hB_ := bu_ HB hb; refine ⟨_, rfl, ?_⟩; have HO256 := Aside0.mk (Kd.R_lower ho0 (below_size hB_)); replace BK253 := tb_ BK253 hb; replace HB := Aside0.mk (below_step hB_ hb); clear hb; (try clear ho0); obtain ⟨Ao7, co7, eo7⟩ := Kd.R_slice HO256.out; subst eo7))
 go_ret
 exact ⟨rv_, bw_⟩
/-! ### cmp_Or_string: function 40 -/
/-- the first text that is not empty -/
def cmp_Or_string.f : List ByteArray → Option ByteArray
  | [] => some ⟨#[]⟩
  | x :: l => if x.toList = ([] : List UInt8) then cmp_Or_string.f l else some x
set_option maxHeartbeats 4000000 in
set_option maxRecDepth 100000 in
theorem cmp_Or_string.calls (A0 : Option Addr) (c0 : Nat) (l0 : List ByteArray) (r : ByteArray) (w : World) (hr0 : Kd.C Kd.string w A0 l0.length l0) (hc0 : l0.length ≤ c0) (h : cmp_Or_string.f l0 = some r) : Calls Tryz.prog 40 #[.slice A0 l0.length c0] w fun e w' => e = .returned (.string r) ∧ Below w.heap.size w w' := by
  have HL := Aside0.mk (show l0.length ≤ 9223372036854775807 from hr0.2.1)
  have HR := Aside0.mk hr0
  have HF := Aside0.mk (show cmp_Or_string.f (l0.drop 0) = some r by rw [List.drop_zero]; exact h)
  have HB := Aside0.mk (Below.refl w.heap.size w)
  clear hr0 h hc0
  go_enter Tryz.func40, Tryz.ntmps40
  go_wp2_with fail
  go_loopg [8] l0.length (fun kq v8 wr => ∃ n : Nat, v8 = .int .i64 (n : Int) ∧ Aside0 (n + kq = l0.length) ∧ Aside0 (cmp_Or_string.f (l0.drop n) = some r) ∧ Aside0 (Below w.heap.size w wr))
  case atStart => exact ⟨0, rfl, ⟨Nat.zero_add _⟩, HF, HB⟩
  case round =>
    clear HF HB
    obtain ⟨n, rfl, HN, HF, HB⟩ := hrel
    by_cases hn : n < l0.length
    · have c1 : decide ((n : Int) < (l0.length : Int)) = true := decide_eq_true (by omega)
      have c2 : wrap64 ((n : Int) + 1) = ((n + 1 : Nat) : Int) := by have := HL.out; unfold wrap64; omega
      obtain ⟨ad, e1, hx⟩ := Kd.at_string (Kd.C_below HR.out HB.out) (n : Int) (by omega) (by omega)
      subst e1
      rw [Int.toNat_natCast] at hx
      have hg : rdOf ByteArray.empty l0 (n : Int) = l0[n] := by simp [rdOf, hn]
      have hd := HF.out
      rw [List.drop_eq_getElem_cons hn, cmp_Or_string.f, ← hg] at hd
      have d1 : ((n : Int) < (l0.length : Int)) = True := eq_true (by omega)
      have d0 : ((0 : Int) ≤ (n : Int)) = True := eq_true (by omega)
      have HH := Aside0.mk hn
      clear hg hn
      generalize rdOf ByteArray.empty l0 (n : Int) = x at hx hd
      by_cases hx0 : x.toList = ([] : List UInt8)
      · rw [if_pos hx0] at hd
        have c3 : x.toList.isEmpty = true := by rw [hx0]; rfl
        have HD := Aside0.mk hd
        clear hd hx0
        go_wp2_with fail
        go_roundg (l0.length - (n + 1))
        case measure => have := HN.out; have := HH.out; omega
        case rel => exact ⟨n + 1, rl_, ⟨kn_ HH⟩, HD, HB⟩
      · rw [if_neg hx0] at hd
        have c3 : x.toList.isEmpty = false := by cases h : x.toList with | nil => exact absurd h hx0 | cons _ _ => rfl
        obtain rfl := Option.some.inj hd
        clear hd hx0
        go_wp2_with fail
        go_ret
        exact ⟨rfl, HB.out⟩
    · have c1 : decide ((n : Int) < (l0.length : Int)) = false := decide_eq_false (by omega)
      have c2 : decide (n < l0.length) = false := decide_eq_false hn
      have hd := HF.out
      rw [List.drop_of_length_le (by omega), cmp_Or_string.f] at hd
      obtain rfl := Option.some.inj hd
      clear hd hn
      go_wp2
      go_ret
      exact ⟨rfl, HB.out⟩


/-! ### sound_Word: function 41 -/
/-- the rules' words -/
def sound_Word.ws : List ByteArray := [(⟨#[]⟩ : ByteArray), (⟨#[101, 118, 101, 110, 116]⟩ : ByteArray), (⟨#[118, 97, 114]⟩ : ByteArray), (⟨#[114, 97, 110, 103, 101]⟩ : ByteArray), (⟨#[110, 97, 109, 101]⟩ : ByteArray), (⟨#[107, 105, 100, 115]⟩ : ByteArray), (⟨#[111, 110]⟩ : ByteArray), (⟨#[116, 97, 114, 103, 101, 116]⟩ : ByteArray), (⟨#[103, 117, 97, 114, 100]⟩ : ByteArray), (⟨#[97, 99, 116, 115]⟩ : ByteArray), (⟨#[101, 100, 103, 101]⟩ : ByteArray)]
def sound_Word.f (a0 : Int) : Option ByteArray := some (if a0 < 0 then ⟨#[]⟩ else rdOf ByteArray.empty sound_Word.ws a0)
theorem sound_Word.cell : ∀ n : Nat, n < 11 → (#[.string (⟨#[]⟩ : ByteArray), .string (⟨#[101, 118, 101, 110, 116]⟩ : ByteArray), .string (⟨#[118, 97, 114]⟩ : ByteArray), .string (⟨#[114, 97, 110, 103, 101]⟩ : ByteArray), .string (⟨#[110, 97, 109, 101]⟩ : ByteArray), .string (⟨#[107, 105, 100, 115]⟩ : ByteArray), .string (⟨#[111, 110]⟩ : ByteArray), .string (⟨#[116, 97, 114, 103, 101, 116]⟩ : ByteArray), .string (⟨#[103, 117, 97, 114, 100]⟩ : ByteArray), .string (⟨#[97, 99, 116, 115]⟩ : ByteArray), .string (⟨#[101, 100, 103, 101]⟩ : ByteArray)] : Array Value)[n]? = some (.string (rdOf ByteArray.empty sound_Word.ws (n : Int)))
  | 0, _ => rfl
  | 1, _ => rfl
  | 2, _ => rfl
  | 3, _ => rfl
  | 4, _ => rfl
  | 5, _ => rfl
  | 6, _ => rfl
  | 7, _ => rfl
  | 8, _ => rfl
  | 9, _ => rfl
  | 10, _ => rfl
  | n + 11, h => absurd h (by omega)
set_option maxHeartbeats 4000000 in
set_option maxRecDepth 100000 in
theorem sound_Word.calls (a0 : Int) (r : ByteArray) (w : World) (h : sound_Word.f a0 = some r) : Calls Tryz.prog 41 #[.int .i64 a0] w fun e w' => e = .returned (.string r) ∧ Below w.heap.size w w' := by
  have HR := Aside0.mk (Option.some.inj h)
  clear h
  by_cases c1 : a0 < 0
  · have d1 : decide (a0 < 0) = true := decide_eq_true c1
    rw [if_pos c1] at HR
    clear c1
    go_enter Tryz.func41, Tryz.ntmps41
    go_wp2_with (first | ((with_reducible refine gate_dst (N := 3) rfl ?_); refine box_store rfl rfl (N := 3) rfl rfl (cs := #[.string (⟨#[]⟩ : ByteArray), .string (⟨#[]⟩ : ByteArray), .string (⟨#[]⟩ : ByteArray), .string (⟨#[]⟩ : ByteArray), .string (⟨#[]⟩ : ByteArray), .string (⟨#[]⟩ : ByteArray), .string (⟨#[]⟩ : ByteArray), .string (⟨#[]⟩ : ByteArray), .string (⟨#[]⟩ : ByteArray), .string (⟨#[]⟩ : ByteArray), .string (⟨#[]⟩ : ByteArray)]) (vs := #[.string (⟨#[]⟩ : ByteArray), .string (⟨#[101, 118, 101, 110, 116]⟩ : ByteArray), .string (⟨#[118, 97, 114]⟩ : ByteArray), .string (⟨#[114, 97, 110, 103, 101]⟩ : ByteArray), .string (⟨#[110, 97, 109, 101]⟩ : ByteArray), .string (⟨#[107, 105, 100, 115]⟩ : ByteArray), .string (⟨#[111, 110]⟩ : ByteArray), .string (⟨#[116, 97, 114, 103, 101, 116]⟩ : ByteArray), .string (⟨#[103, 117, 97, 114, 100]⟩ : ByteArray), .string (⟨#[97, 99, 116, 115]⟩ : ByteArray), .string (⟨#[101, 100, 103, 101]⟩ : ByteArray)]) (t := 105) (.tmp 4) ?hr rfl (fun _ => rfl) (fun _ => rfl) (by kernel_rfl) rfl (by simp [Value.oneCell']) ?_; (case hr => first | (go_simp; done) | (go_simp; rfl)); intro gb hg w3 hbox hb; have HB := Aside0.mk hb; have HBX := Aside0.mk hbox; clear hbox hb hg))
    go_ret
    exact ⟨by rw [← HR.out]; rfl, HB.out⟩
  rw [if_neg c1] at HR
  have d1 : decide (a0 < 0) = false := decide_eq_false c1
  by_cases c2 : 11 ≤ a0
  · have d2 : decide (11 ≤ a0) = true := decide_eq_true c2
    have HE := Aside0.mk (show rdOf ByteArray.empty sound_Word.ws a0 = (⟨#[]⟩ : ByteArray) by
      unfold rdOf
      rw [List.getD, List.getElem?_eq_none (show sound_Word.ws.length ≤ a0.toNat by show 11 ≤ a0.toNat; omega)]; rfl)
    clear c1 c2
    go_enter Tryz.func41, Tryz.ntmps41
    go_wp2_with (first | ((with_reducible refine gate_dst (N := 3) rfl ?_); refine box_store rfl rfl (N := 3) rfl rfl (cs := #[.string (⟨#[]⟩ : ByteArray), .string (⟨#[]⟩ : ByteArray), .string (⟨#[]⟩ : ByteArray), .string (⟨#[]⟩ : ByteArray), .string (⟨#[]⟩ : ByteArray), .string (⟨#[]⟩ : ByteArray), .string (⟨#[]⟩ : ByteArray), .string (⟨#[]⟩ : ByteArray), .string (⟨#[]⟩ : ByteArray), .string (⟨#[]⟩ : ByteArray), .string (⟨#[]⟩ : ByteArray)]) (vs := #[.string (⟨#[]⟩ : ByteArray), .string (⟨#[101, 118, 101, 110, 116]⟩ : ByteArray), .string (⟨#[118, 97, 114]⟩ : ByteArray), .string (⟨#[114, 97, 110, 103, 101]⟩ : ByteArray), .string (⟨#[110, 97, 109, 101]⟩ : ByteArray), .string (⟨#[107, 105, 100, 115]⟩ : ByteArray), .string (⟨#[111, 110]⟩ : ByteArray), .string (⟨#[116, 97, 114, 103, 101, 116]⟩ : ByteArray), .string (⟨#[103, 117, 97, 114, 100]⟩ : ByteArray), .string (⟨#[97, 99, 116, 115]⟩ : ByteArray), .string (⟨#[101, 100, 103, 101]⟩ : ByteArray)]) (t := 105) (.tmp 4) ?hr rfl (fun _ => rfl) (fun _ => rfl) (by kernel_rfl) rfl (by simp [Value.oneCell']) ?_; (case hr => first | (go_simp; done) | (go_simp; rfl)); intro gb hg w3 hbox hb; have HB := Aside0.mk hb; have HBX := Aside0.mk hbox; clear hbox hb hg))
    go_ret
    exact ⟨by rw [← HR.out, HE.out]; rfl, HB.out⟩
  have d2 : decide (11 ≤ a0) = false := decide_eq_false c2
  obtain ⟨n, rfl⟩ : ∃ n : Nat, a0 = n := ⟨a0.toNat, by omega⟩
  have HN := Aside0.mk (show n < 11 by omega)
  have d3 : ((n : Int) < 11) = True := eq_true (by omega)
  clear c1 c2
  go_enter Tryz.func41, Tryz.ntmps41
  go_wp2_with (first | ((with_reducible refine gate_dst (N := 3) rfl ?_); refine box_store rfl rfl (N := 3) rfl rfl (cs := #[.string (⟨#[]⟩ : ByteArray), .string (⟨#[]⟩ : ByteArray), .string (⟨#[]⟩ : ByteArray), .string (⟨#[]⟩ : ByteArray), .string (⟨#[]⟩ : ByteArray), .string (⟨#[]⟩ : ByteArray), .string (⟨#[]⟩ : ByteArray), .string (⟨#[]⟩ : ByteArray), .string (⟨#[]⟩ : ByteArray), .string (⟨#[]⟩ : ByteArray), .string (⟨#[]⟩ : ByteArray)]) (vs := #[.string (⟨#[]⟩ : ByteArray), .string (⟨#[101, 118, 101, 110, 116]⟩ : ByteArray), .string (⟨#[118, 97, 114]⟩ : ByteArray), .string (⟨#[114, 97, 110, 103, 101]⟩ : ByteArray), .string (⟨#[110, 97, 109, 101]⟩ : ByteArray), .string (⟨#[107, 105, 100, 115]⟩ : ByteArray), .string (⟨#[111, 110]⟩ : ByteArray), .string (⟨#[116, 97, 114, 103, 101, 116]⟩ : ByteArray), .string (⟨#[103, 117, 97, 114, 100]⟩ : ByteArray), .string (⟨#[97, 99, 116, 115]⟩ : ByteArray), .string (⟨#[101, 100, 103, 101]⟩ : ByteArray)]) (t := 105) (.tmp 4) ?hr rfl (fun _ => rfl) (fun _ => rfl) (by kernel_rfl) rfl (by simp [Value.oneCell']) ?_; (case hr => first | (go_simp; done) | (go_simp; rfl)); intro gb hg w3 hbox hb; have HB := Aside0.mk hb; have HBX := Aside0.mk hbox; have hz := (blk_cell hbox n).trans (sound_Word.cell n HN.out); clear hbox hb hg))
  go_ret
  exact ⟨by rw [← HR.out]; rfl, HB.out⟩


end Go.Proofs.YtbkaiojofgmbnaaGreat.XS
