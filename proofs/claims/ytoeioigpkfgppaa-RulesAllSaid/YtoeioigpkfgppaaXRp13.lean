-- written by wip/xprint.py out of the translation
import Derived.Test.YtoeioigpkfgppaaXRp0
import Derived.Test.YtoeioigpkfgppaaXRp3
import Derived.Test.YtoeioigpkfgppaaXRp6
import Derived.Test.YtoeioigpkfgppaaXRp12
namespace Go.Proofs.Ytoeioigpkfgppaa.XR
open Go.Proofs.Ytoeioigpkfgppaa.XGrow Go.RowKit Go.Proofs.YtoeioigpkfgppaaW.PrintWords Go.Proofs.YtoeioigpkfgppaaW.PrintLast Go.Proofs.YtoeioigpkfgppaaW.PrintMore
attribute [local go_sem] max2_int min2_int max_two min_two max_three min_three max_four min_four   -- for this text's walks alone
set_option linter.unusedVariables false
set_option linter.unusedSimpArgs false

/-! ### semblanceref14_expr: function 74 -/
-- USES semblance/semblanceref12.small
-- USES semblance/semblanceref14.HasVar
-- USES semblance/semblanceref14.HasState
-- USES semblance/semblanceref05.Type
/-- is a term's name there? -/
def semblanceref14_expr.ok (k : Nat) (a0 : ByteArray) (l1 : List ByteArray) (l2 : List (S51)) (l3 : List (S55)) (x : S47) : Option Bool := if x.f0 = 2 then semblanceref14_HasVar.f k a0 l1 l2 l3 x.f2 else if x.f0 = 11 then semblanceref14_HasState.f k a0 l1 l2 l3 x.f2 else some true
def semblanceref14_expr.f (k : Nat) (a0 : ByteArray) (l1 : List ByteArray) (l2 : List (S51)) (l3 : List (S55)) (l : List (S47)) (kind : Int) : Option Bool := (allO l (semblanceref14_expr.ok k a0 l1 l2 l3)).bind fun e => if e = true then (semblanceref05_Type.f k l 0).bind fun t => some (t == kind) else some false
theorem semblanceref14_expr.ok_mono : ∀ k a0 l1 l2 l3 x, LeO (semblanceref14_expr.ok k a0 l1 l2 l3 x) (semblanceref14_expr.ok (k + 1) a0 l1 l2 l3 x) := by
  intro k a0 l1 l2 l3 x
  unfold semblanceref14_expr.ok
  exact LeO.ite (semblanceref14_HasVar.mono _ _ _ _ _ k) (LeO.ite (semblanceref14_HasState.mono _ _ _ _ _ k) (LeO.refl _))
theorem semblanceref14_expr.mono : ∀ a0 l1 l2 l3 l kind k, LeO (semblanceref14_expr.f k a0 l1 l2 l3 l kind) (semblanceref14_expr.f (k + 1) a0 l1 l2 l3 l kind) := by
  intro a0 l1 l2 l3 l kind k
  unfold semblanceref14_expr.f
  exact LeO.bind (allO_mono (fun x => semblanceref14_expr.ok_mono k a0 l1 l2 l3 x)) (fun _ => LeO.ite (LeO.bind (semblanceref05_Type.mono _ _ k) (fun _ => LeO.refl _)) (LeO.refl _))
set_option maxHeartbeats 16000000 in
set_option maxRecDepth 100000 in
open Go.Proofs.Ytoeioigpkfgppaa.XReg in
theorem semblanceref14_expr.calls (k : Nat) (a0_0 : ByteArray) (A0_1 : Option Addr) (c0_1 : Nat) (l0_1 : List ByteArray) (A0_2 : Option Addr) (c0_2 : Nat) (l0_2 : List (S51)) (A0_3 : Option Addr) (c0_3 : Nat) (l0_3 : List (S55)) (A1 : Option Addr) (c1 : Nat) (l1 : List (S47)) (a2 : Int) (r : Bool) (w : World) (hr0_1 : Kd.C Kd.string w A0_1 l0_1.length l0_1) (hc0_1 : l0_1.length ≤ c0_1) (hr0_2 : Kd.C k51 w A0_2 l0_2.length l0_2) (hc0_2 : l0_2.length ≤ c0_2) (hr0_3 : Kd.C k55 w A0_3 l0_3.length l0_3) (hc0_3 : l0_3.length ≤ c0_3) (hr1 : Kd.C k47 w A1 l1.length l1) (hc1 : l1.length ≤ c1) (h : semblanceref14_expr.f k a0_0 l0_1 l0_2 l0_3 l1 a2 = some r) :
    Calls Try.prog 74 #[.agg #[.string a0_0, .slice A0_1 l0_1.length c0_1, .slice A0_2 l0_2.length c0_2, .slice A0_3 l0_3.length c0_3], .slice A1 l1.length c1, .int .i64 a2] w fun e w' => e = .returned (.bool r) ∧ Below w.heap.size w w' := by
  unfold semblanceref14_expr.f at h
  obtain ⟨e0, he, h⟩ := Option.bind_eq_some_iff.mp h
  have HE := Aside0.mk he
  have HH := Aside0.mk h
  clear he h
  obtain ⟨w1, hw1⟩ : ∃ w1, w1 = w.alloc (.cells #[.string a0_0, .slice A0_1 l0_1.length c0_1, .slice A0_2 l0_2.length c0_2, .slice A0_3 l0_3.length c0_3] 26) := ⟨_, rfl⟩
  have hb1 : Below w.heap.size w w1 := by rw [hw1]; exact (Below.refl _ _).alloc (Nat.le_refl _) _
  have HK : Aside0 (w1.heap[w.heap.size]? = some (.cells #[.string a0_0, .slice A0_1 l0_1.length c0_1, .slice A0_2 l0_2.length c0_2, .slice A0_3 l0_3.length c0_3] 26 (0, 0))) := ⟨by rw [hw1]; exact heap_alloc_new w _⟩
  have HR1 := Aside0.mk (Kd.C_below hr0_1 hb1)
  have HR2 := Aside0.mk (Kd.C_below hr0_2 hb1)
  have HR3 := Aside0.mk (Kd.C_below hr0_3 hb1)
  have HCC := Aside0.mk (And.intro hc0_1 (And.intro hc0_2 hc0_3))
  have HB1 := Aside0.mk hb1
  have hu2 := Try.underlying26
  have HRL := Aside0.mk (Kd.C_below hr1 hb1)
  have HC1 := Aside0.mk hc1
  have hm1 := Kd.C_max hr1
  have hu3 := Try.underlying47
  clear hr0_1 hr0_2 hr0_3 hb1 hc0_1 hc0_2 hc0_3 hr1 hc1
  subst hw1
  go_enter Try.func74, Try.ntmps74
  go_wp2_with fail
  generalize w.alloc (.cells #[.string a0_0, .slice A0_1 l0_1.length c0_1, .slice A0_2 l0_2.length c0_2, .slice A0_3 l0_3.length c0_3] 26) = w1 at *
  go_loopg [7] l1.length (fun kq v9 wr => ∃ i : Nat, Aside0 (l1.length - i = kq) ∧ Aside0 (i ≤ l1.length) ∧ v9 = .int .i64 (i : Int) ∧ Aside0 (Below w1.heap.size w1 wr) ∧ Aside0 (∀ j : Nat, j < i → semblanceref14_expr.ok k a0_0 l0_1 l0_2 l0_3 (l1.getD j z47) = some true))
  case atStart => exact ⟨0, ⟨rfl⟩, ⟨Nat.zero_le _⟩, rfl, ⟨Below.refl _ _⟩, ⟨fun j hj => absurd hj (Nat.not_lt_zero _)⟩⟩
  case round =>
    obtain ⟨i, HKQ, HI, rfl, HB, HP⟩ := hrel
    by_cases hi : i < l1.length
    · have hlt : decide ((i : Int) < (l1.length : Int)) = true := decide_eq_true (by omega)
      obtain ⟨ad, e1, hx0, hx1, hx2⟩ := at_T47 HRL.out (i : Int) (by omega) (by omega)
      subst e1
      rw [Int.toNat_natCast] at hx0 hx1 hx2
      have hrd : rd_T47 l1 (i : Int) = l1.getD i z47 := by unfold rd_T47; rw [Int.toNat_natCast]
      rw [hrd] at hx0 hx1 hx2
      obtain ⟨q, hq, hqf⟩ := allO_get HE.out z47 i hi
      generalize hxx : l1.getD i z47 = x at *
      have HX := Aside0.mk hxx
      have HQ := Aside0.mk hq
      have HQF := Aside0.mk hqf
      have HSE : Aside0 (∀ w', Below w1.heap.size w1 w' → w'.cell? ⟨w.heap.size, 0, none⟩ = some (.string a0_0) ∧ w'.cell? ⟨w.heap.size, 1, none⟩ = some (.slice A0_1 l0_1.length c0_1) ∧ w'.cell? ⟨w.heap.size, 2, none⟩ = some (.slice A0_2 l0_2.length c0_2) ∧ w'.cell? ⟨w.heap.size, 3, none⟩ = some (.slice A0_3 l0_3.length c0_3) ∧ w'.cell? (ad.add (i * 3)) = some (.int .i64 x.f0) ∧ w'.cell? ⟨(ad.add (i * 3)).block, (ad.add (i * 3)).off + 2, none⟩ = some (.string x.f2)) := ⟨fun w' hb => by
        obtain ⟨h0, h1, h2, h3⟩ := cz4_ (blk_below HK.out hb)
        exact ⟨h0, h1, h2, h3, pw_cell_below hb hx0, pw_cell_below hb hx2⟩⟩
      clear hxx hqf hrd hx0 hx1 hx2
      unfold semblanceref14_expr.ok at hq
      by_cases c2 : x.f0 = 2
      · rw [if_pos c2] at hq
        have HO := Aside0.mk hq
        have c2b : (x.f0 == 2) = true := beq_iff_eq.mpr c2
        have c11b : (x.f0 == 11) = false := beq_eq_false_iff_ne.mpr (by omega)
        clear c2 hq
        cases q with
        | false =>
          have HZ := Aside0.mk (show r = false by have h1 := HH.out; rw [HQF.out (by first | rfl | trivial), if_neg (by decide)] at h1; exact (Option.some.inj h1).symm)
          go_wp2_with fail
          refine rs_ 34 [0, 1, 2, 3, 4, 5, 6, 7, 8, 9, 10, 11, 12, 13, 14, 15, 16, 17, 18, 19, 20, 21, 22, 23, 24, 25, 26, 27, 28, 29, 30, 31, 32, 33] (fun w' => w'.cell? ⟨w.heap.size, 0, none⟩ = some (.string a0_0) ∧ w'.cell? ⟨w.heap.size, 1, none⟩ = some (.slice A0_1 l0_1.length c0_1) ∧ w'.cell? ⟨w.heap.size, 2, none⟩ = some (.slice A0_2 l0_2.length c0_2) ∧ w'.cell? ⟨w.heap.size, 3, none⟩ = some (.slice A0_3 l0_3.length c0_3) ∧ w'.cell? (ad.add (i * 3)) = some (.int .i64 x.f0) ∧ w'.cell? ⟨(ad.add (i * 3)).block, (ad.add (i * 3)).off + 2, none⟩ = some (.string x.f2)) rfl (by kernel_rfl) (HSE.out _ (below_drew1 HB.out)) (fun hHeld => ?_)
          iterate 13 (first | (refine pu_ (a' := ?_) rfl rfl (by kernel_rfl) (fun _ _ _ h => h) (by rfl) ?_ ?_; rotate_left; (focus (simp only [Act.put, sb_, s0_, s1_, i64_w]; rfl))) | (refine tk_ (a' := ?_) (v := ?_) hHeld rfl rfl (by kernel_rfl) (fun _ _ _ h => h) (by rfl) ?_ ?_ ?_; rotate_left 2; (focus (intro W_ hS_; (repeat (obtain ⟨hs_, hS_⟩ := hS_)); go_simp; with_reducible rfl)); (focus (simp only [Act.put, sb_, s0_, s1_, i64_w]; rfl))))
          refine cs_ (args := ?_) rfl rfl rfl (by kernel_rfl) Try.func73 (by kernel_rfl) rfl (by rfl) ?_ ?_
          rotate_left; (focus (go_simp; with_reducible rfl))
          refine (semblanceref14_HasVar.calls k a0_0 A0_1 c0_1 l0_1 A0_2 c0_2 l0_2 A0_3 c0_3 l0_3 x.f2 false _ (Kd.C_below HR1.out (below_drew1 HB.out)) HCC.out.1 (Kd.C_below HR2.out (below_drew1 HB.out)) HCC.out.2.1 (Kd.C_below HR3.out (below_drew1 HB.out)) HCC.out.2.2 HO.out).mono ?_
          rintro e w5 ⟨rfl, hd5⟩; have HB5 := Aside0.mk (below_step (below_drew1 HB.out) hd5); clear hd5
          refine ⟨_, rfl, HSE.out _ HB5.out, fun hHeld => ?_⟩
          (try simp only [Act.put, sb_, s0_, s1_])
          iterate 20 (first | (refine pu_ (a' := ?_) rfl rfl (by kernel_rfl) (fun _ _ _ h => h) (by rfl) ?_ ?_; rotate_left; (focus (simp only [Act.put, sb_, s0_, s1_, i64_w]; rfl))) | (refine tk_ (a' := ?_) (v := ?_) hHeld rfl rfl (by kernel_rfl) (fun _ _ _ h => h) (by rfl) ?_ ?_ ?_; rotate_left 2; (focus (intro W_ hS_; (repeat (obtain ⟨hs_, hS_⟩ := hS_)); go_simp; with_reducible rfl)); (focus (simp only [Act.put, sb_, s0_, s1_, i64_w]; rfl))))
          refine dn_ (by kernel_rfl) ?_
          clear hHeld
          go_wp2
          go_ret
          exact ⟨by rw [HZ.out]; try rfl, HB1.out.trans ((HB5).out.mono HB1.out.size)⟩
        | true =>
          go_wp2_with fail
          refine rs_ 34 [0, 1, 2, 3, 4, 5, 6, 7, 8, 9, 10, 11, 12, 13, 14, 15, 16, 17, 18, 19, 20, 21, 22, 23, 24, 25, 26, 27, 28, 29, 30, 31, 32, 33] (fun w' => w'.cell? ⟨w.heap.size, 0, none⟩ = some (.string a0_0) ∧ w'.cell? ⟨w.heap.size, 1, none⟩ = some (.slice A0_1 l0_1.length c0_1) ∧ w'.cell? ⟨w.heap.size, 2, none⟩ = some (.slice A0_2 l0_2.length c0_2) ∧ w'.cell? ⟨w.heap.size, 3, none⟩ = some (.slice A0_3 l0_3.length c0_3) ∧ w'.cell? (ad.add (i * 3)) = some (.int .i64 x.f0) ∧ w'.cell? ⟨(ad.add (i * 3)).block, (ad.add (i * 3)).off + 2, none⟩ = some (.string x.f2)) rfl (by kernel_rfl) (HSE.out _ (below_drew1 HB.out)) (fun hHeld => ?_)
          iterate 13 (first | (refine pu_ (a' := ?_) rfl rfl (by kernel_rfl) (fun _ _ _ h => h) (by rfl) ?_ ?_; rotate_left; (focus (simp only [Act.put, sb_, s0_, s1_, i64_w]; rfl))) | (refine tk_ (a' := ?_) (v := ?_) hHeld rfl rfl (by kernel_rfl) (fun _ _ _ h => h) (by rfl) ?_ ?_ ?_; rotate_left 2; (focus (intro W_ hS_; (repeat (obtain ⟨hs_, hS_⟩ := hS_)); go_simp; with_reducible rfl)); (focus (simp only [Act.put, sb_, s0_, s1_, i64_w]; rfl))))
          refine cs_ (args := ?_) rfl rfl rfl (by kernel_rfl) Try.func73 (by kernel_rfl) rfl (by rfl) ?_ ?_
          rotate_left; (focus (go_simp; with_reducible rfl))
          refine (semblanceref14_HasVar.calls k a0_0 A0_1 c0_1 l0_1 A0_2 c0_2 l0_2 A0_3 c0_3 l0_3 x.f2 true _ (Kd.C_below HR1.out (below_drew1 HB.out)) HCC.out.1 (Kd.C_below HR2.out (below_drew1 HB.out)) HCC.out.2.1 (Kd.C_below HR3.out (below_drew1 HB.out)) HCC.out.2.2 HO.out).mono ?_
          rintro e w5 ⟨rfl, hd5⟩; have HB5 := Aside0.mk (below_step (below_drew1 HB.out) hd5); clear hd5
          refine ⟨_, rfl, HSE.out _ HB5.out, fun hHeld => ?_⟩
          (try simp only [Act.put, sb_, s0_, s1_])
          iterate 20 (first | (refine pu_ (a' := ?_) rfl rfl (by kernel_rfl) (fun _ _ _ h => h) (by rfl) ?_ ?_; rotate_left; (focus (simp only [Act.put, sb_, s0_, s1_, i64_w]; rfl))) | (refine tk_ (a' := ?_) (v := ?_) hHeld rfl rfl (by kernel_rfl) (fun _ _ _ h => h) (by rfl) ?_ ?_ ?_; rotate_left 2; (focus (intro W_ hS_; (repeat (obtain ⟨hs_, hS_⟩ := hS_)); go_simp; with_reducible rfl)); (focus (simp only [Act.put, sb_, s0_, s1_, i64_w]; rfl))))
          refine dn_ (by kernel_rfl) ?_
          clear hHeld
          go_wp2
          go_roundg (l1.length - (i + 1))
          case measure => have := HKQ.out; omega
          case rel =>
            refine ⟨i + 1, ⟨rfl⟩, ⟨hi⟩, by go_num, HB5, ⟨fun j hj => ?_⟩⟩
            by_cases e : j = i
            · subst e; rw [HX.out]; exact HQ.out
            · exact HP.out j (by omega)
      · rw [if_neg c2] at hq
        have c2b : (x.f0 == 2) = false := beq_eq_false_iff_ne.mpr c2
        by_cases c11 : x.f0 = 11
        · rw [if_pos c11] at hq
          have HO := Aside0.mk hq
          have c11b : (x.f0 == 11) = true := beq_iff_eq.mpr c11
          clear c2 c11 hq
          cases q with
          | false =>
            have HZ := Aside0.mk (show r = false by have h1 := HH.out; rw [HQF.out (by first | rfl | trivial), if_neg (by decide)] at h1; exact (Option.some.inj h1).symm)
            go_wp2_with fail
            refine rs_ 34 [0, 1, 2, 3, 4, 5, 6, 7, 8, 9, 10, 11, 12, 13, 14, 15, 16, 17, 18, 19, 20, 21, 22, 23, 24, 25, 26, 27, 28, 29, 30, 31, 32, 33] (fun w' => w'.cell? ⟨w.heap.size, 0, none⟩ = some (.string a0_0) ∧ w'.cell? ⟨w.heap.size, 1, none⟩ = some (.slice A0_1 l0_1.length c0_1) ∧ w'.cell? ⟨w.heap.size, 2, none⟩ = some (.slice A0_2 l0_2.length c0_2) ∧ w'.cell? ⟨w.heap.size, 3, none⟩ = some (.slice A0_3 l0_3.length c0_3) ∧ w'.cell? (ad.add (i * 3)) = some (.int .i64 x.f0) ∧ w'.cell? ⟨(ad.add (i * 3)).block, (ad.add (i * 3)).off + 2, none⟩ = some (.string x.f2)) rfl (by kernel_rfl) (HSE.out _ (below_drew1 HB.out)) (fun hHeld => ?_)
            iterate 30 (first | (refine pu_ (a' := ?_) rfl rfl (by kernel_rfl) (fun _ _ _ h => h) (by rfl) ?_ ?_; rotate_left; (focus (simp only [Act.put, sb_, s0_, s1_, i64_w]; rfl))) | (refine tk_ (a' := ?_) (v := ?_) hHeld rfl rfl (by kernel_rfl) (fun _ _ _ h => h) (by rfl) ?_ ?_ ?_; rotate_left 2; (focus (intro W_ hS_; (repeat (obtain ⟨hs_, hS_⟩ := hS_)); go_simp; with_reducible rfl)); (focus (simp only [Act.put, sb_, s0_, s1_, i64_w]; rfl))))
            refine cs_ (args := ?_) rfl rfl rfl (by kernel_rfl) Try.func76 (by kernel_rfl) rfl (by rfl) ?_ ?_
            rotate_left; (focus (go_simp; with_reducible rfl))
            refine (semblanceref14_HasState.calls k a0_0 A0_1 c0_1 l0_1 A0_2 c0_2 l0_2 A0_3 c0_3 l0_3 x.f2 false _ (Kd.C_below HR1.out (below_drew1 HB.out)) HCC.out.1 (Kd.C_below HR2.out (below_drew1 HB.out)) HCC.out.2.1 (Kd.C_below HR3.out (below_drew1 HB.out)) HCC.out.2.2 HO.out).mono ?_
            rintro e w5 ⟨rfl, hd5⟩; have HB5 := Aside0.mk (below_step (below_drew1 HB.out) hd5); clear hd5
            refine ⟨_, rfl, HSE.out _ HB5.out, fun hHeld => ?_⟩
            (try simp only [Act.put, sb_, s0_, s1_])
            iterate 3 (first | (refine pu_ (a' := ?_) rfl rfl (by kernel_rfl) (fun _ _ _ h => h) (by rfl) ?_ ?_; rotate_left; (focus (simp only [Act.put, sb_, s0_, s1_, i64_w]; rfl))) | (refine tk_ (a' := ?_) (v := ?_) hHeld rfl rfl (by kernel_rfl) (fun _ _ _ h => h) (by rfl) ?_ ?_ ?_; rotate_left 2; (focus (intro W_ hS_; (repeat (obtain ⟨hs_, hS_⟩ := hS_)); go_simp; with_reducible rfl)); (focus (simp only [Act.put, sb_, s0_, s1_, i64_w]; rfl))))
            refine dn_ (by kernel_rfl) ?_
            clear hHeld
            go_wp2
            go_ret
            exact ⟨by rw [HZ.out]; try rfl, HB1.out.trans ((HB5).out.mono HB1.out.size)⟩
          | true =>
            go_wp2_with fail
            refine rs_ 34 [0, 1, 2, 3, 4, 5, 6, 7, 8, 9, 10, 11, 12, 13, 14, 15, 16, 17, 18, 19, 20, 21, 22, 23, 24, 25, 26, 27, 28, 29, 30, 31, 32, 33] (fun w' => w'.cell? ⟨w.heap.size, 0, none⟩ = some (.string a0_0) ∧ w'.cell? ⟨w.heap.size, 1, none⟩ = some (.slice A0_1 l0_1.length c0_1) ∧ w'.cell? ⟨w.heap.size, 2, none⟩ = some (.slice A0_2 l0_2.length c0_2) ∧ w'.cell? ⟨w.heap.size, 3, none⟩ = some (.slice A0_3 l0_3.length c0_3) ∧ w'.cell? (ad.add (i * 3)) = some (.int .i64 x.f0) ∧ w'.cell? ⟨(ad.add (i * 3)).block, (ad.add (i * 3)).off + 2, none⟩ = some (.string x.f2)) rfl (by kernel_rfl) (HSE.out _ (below_drew1 HB.out)) (fun hHeld => ?_)
            iterate 30 (first | (refine pu_ (a' := ?_) rfl rfl (by kernel_rfl) (fun _ _ _ h => h) (by rfl) ?_ ?_; rotate_left; (focus (simp only [Act.put, sb_, s0_, s1_, i64_w]; rfl))) | (refine tk_ (a' := ?_) (v := ?_) hHeld rfl rfl (by kernel_rfl) (fun _ _ _ h => h) (by rfl) ?_ ?_ ?_; rotate_left 2; (focus (intro W_ hS_; (repeat (obtain ⟨hs_, hS_⟩ := hS_)); go_simp; with_reducible rfl)); (focus (simp only [Act.put, sb_, s0_, s1_, i64_w]; rfl))))
            refine cs_ (args := ?_) rfl rfl rfl (by kernel_rfl) Try.func76 (by kernel_rfl) rfl (by rfl) ?_ ?_
            rotate_left; (focus (go_simp; with_reducible rfl))
            refine (semblanceref14_HasState.calls k a0_0 A0_1 c0_1 l0_1 A0_2 c0_2 l0_2 A0_3 c0_3 l0_3 x.f2 true _ (Kd.C_below HR1.out (below_drew1 HB.out)) HCC.out.1 (Kd.C_below HR2.out (below_drew1 HB.out)) HCC.out.2.1 (Kd.C_below HR3.out (below_drew1 HB.out)) HCC.out.2.2 HO.out).mono ?_
            rintro e w5 ⟨rfl, hd5⟩; have HB5 := Aside0.mk (below_step (below_drew1 HB.out) hd5); clear hd5
            refine ⟨_, rfl, HSE.out _ HB5.out, fun hHeld => ?_⟩
            (try simp only [Act.put, sb_, s0_, s1_])
            iterate 3 (first | (refine pu_ (a' := ?_) rfl rfl (by kernel_rfl) (fun _ _ _ h => h) (by rfl) ?_ ?_; rotate_left; (focus (simp only [Act.put, sb_, s0_, s1_, i64_w]; rfl))) | (refine tk_ (a' := ?_) (v := ?_) hHeld rfl rfl (by kernel_rfl) (fun _ _ _ h => h) (by rfl) ?_ ?_ ?_; rotate_left 2; (focus (intro W_ hS_; (repeat (obtain ⟨hs_, hS_⟩ := hS_)); go_simp; with_reducible rfl)); (focus (simp only [Act.put, sb_, s0_, s1_, i64_w]; rfl))))
            refine dn_ (by kernel_rfl) ?_
            clear hHeld
            go_wp2
            go_roundg (l1.length - (i + 1))
            case measure => have := HKQ.out; omega
            case rel =>
              refine ⟨i + 1, ⟨rfl⟩, ⟨hi⟩, by go_num, HB5, ⟨fun j hj => ?_⟩⟩
              by_cases e : j = i
              · subst e; rw [HX.out]; exact HQ.out
              · exact HP.out j (by omega)
        · rw [if_neg c11] at hq
          obtain rfl := Option.some.inj hq
          have c11b : (x.f0 == 11) = false := beq_eq_false_iff_ne.mpr c11
          clear c2 c11 hq
          go_wp2_with fail
          refine rs_ 34 [0, 1, 2, 3, 4, 5, 6, 7, 8, 9, 10, 11, 12, 13, 14, 15, 16, 17, 18, 19, 20, 21, 22, 23, 24, 25, 26, 27, 28, 29, 30, 31, 32, 33] (fun w' => w'.cell? ⟨w.heap.size, 0, none⟩ = some (.string a0_0) ∧ w'.cell? ⟨w.heap.size, 1, none⟩ = some (.slice A0_1 l0_1.length c0_1) ∧ w'.cell? ⟨w.heap.size, 2, none⟩ = some (.slice A0_2 l0_2.length c0_2) ∧ w'.cell? ⟨w.heap.size, 3, none⟩ = some (.slice A0_3 l0_3.length c0_3) ∧ w'.cell? (ad.add (i * 3)) = some (.int .i64 x.f0) ∧ w'.cell? ⟨(ad.add (i * 3)).block, (ad.add (i * 3)).off + 2, none⟩ = some (.string x.f2)) rfl (by kernel_rfl) (HSE.out _ (below_drew1 HB.out)) (fun hHeld => ?_)
          iterate 34 (first | (refine pu_ (a' := ?_) rfl rfl (by kernel_rfl) (fun _ _ _ h => h) (by rfl) ?_ ?_; rotate_left; (focus (simp only [Act.put, sb_, s0_, s1_, i64_w]; rfl))) | (refine tk_ (a' := ?_) (v := ?_) hHeld rfl rfl (by kernel_rfl) (fun _ _ _ h => h) (by rfl) ?_ ?_ ?_; rotate_left 2; (focus (intro W_ hS_; (repeat (obtain ⟨hs_, hS_⟩ := hS_)); go_simp; with_reducible rfl)); (focus (simp only [Act.put, sb_, s0_, s1_, i64_w]; rfl))))
          have HBD := Aside0.mk (below_drew1 HB.out)
          refine dn_ (by kernel_rfl) ?_
          clear hHeld
          go_wp2
          go_roundg (l1.length - (i + 1))
          case measure => have := HKQ.out; omega
          case rel =>
            refine ⟨i + 1, ⟨rfl⟩, ⟨hi⟩, by go_num, HBD, ⟨fun j hj => ?_⟩⟩
            by_cases e : j = i
            · subst e; rw [HX.out]; exact HQ.out
            · exact HP.out j (by omega)
    · have hlt : decide ((i : Int) < (l1.length : Int)) = false := decide_eq_false (by omega)
      have hil : i = l1.length := by have := HI.out; omega
      subst hil
      have het := allO_true HE.out z47 HP.out
      subst het
      have h1 := HH.out
      rw [if_pos rfl] at h1
      obtain ⟨tt, htt, h1⟩ := Option.bind_eq_some_iff.mp h1
      have HRF := Aside0.mk (Option.some.inj h1)
      have HTT := Aside0.mk htt
      clear HP HE HH htt h1
      go_wp2_with (go_at_call 22; (with_reducible refine (semblanceref05_Type.calls k A1 c1 l1 0 tt _ (Kd.C_below HRL.out HB.out) HC1.out HTT.out).mono ?_); rintro e w5 ⟨rfl, hb5⟩; have HB5 := Aside0.mk (below_step HB.out hb5); clear hb5)
      go_ret
      exact ⟨by rw [← HRF.out]; try rfl, HB1.out.trans (HB5.out.mono HB1.out.size)⟩


/-! ### semblanceref14_acts: function 40 -/
-- USES semblance/semblanceref14.expr
/-- is an act of the chart? -/
def semblanceref14_acts.ok (k : Nat) (a0 : ByteArray) (l1 : List ByteArray) (l2 : List (S51)) (l3 : List (S55)) (any : Bool) (x : S93) : Option Bool := (semblanceref14_HasVar.f k a0 l1 l2 l3 x.f0).bind fun v => if v = true then (if x.f1 = true then some any else semblanceref14_expr.f k a0 l1 l2 l3 x.f2 1) else some false
def semblanceref14_acts.f (k : Nat) (a0 : ByteArray) (l1 : List ByteArray) (l2 : List (S51)) (l3 : List (S55)) (l : List (S93)) (any : Bool) : Option Bool := allO l (semblanceref14_acts.ok k a0 l1 l2 l3 any)
theorem semblanceref14_acts.mono : ∀ a0 l1 l2 l3 l any k, LeO (semblanceref14_acts.f k a0 l1 l2 l3 l any) (semblanceref14_acts.f (k + 1) a0 l1 l2 l3 l any) := by
  intro a0 l1 l2 l3 l any k
  unfold semblanceref14_acts.f
  exact allO_mono (fun x => LeO.bind (semblanceref14_HasVar.mono _ _ _ _ _ k) (fun _ => LeO.ite (LeO.ite (LeO.refl _) (semblanceref14_expr.mono _ _ _ _ _ _ k)) (LeO.refl _)))
set_option maxHeartbeats 16000000 in
set_option maxRecDepth 100000 in
open Go.Proofs.Ytoeioigpkfgppaa.XReg in
theorem semblanceref14_acts.calls (k : Nat) (a0_0 : ByteArray) (A0_1 : Option Addr) (c0_1 : Nat) (l0_1 : List ByteArray) (A0_2 : Option Addr) (c0_2 : Nat) (l0_2 : List (S51)) (A0_3 : Option Addr) (c0_3 : Nat) (l0_3 : List (S55)) (A1 : Option Addr) (c1 : Nat) (l1 : List (S93)) (a2 : Bool) (r : Bool) (w : World) (hr0_1 : Kd.C Kd.string w A0_1 l0_1.length l0_1) (hc0_1 : l0_1.length ≤ c0_1) (hr0_2 : Kd.C k51 w A0_2 l0_2.length l0_2) (hc0_2 : l0_2.length ≤ c0_2) (hr0_3 : Kd.C k55 w A0_3 l0_3.length l0_3) (hc0_3 : l0_3.length ≤ c0_3) (hr1 : Kd.C k93 w A1 l1.length l1) (hc1 : l1.length ≤ c1) (h : semblanceref14_acts.f k a0_0 l0_1 l0_2 l0_3 l1 a2 = some r) :
    Calls Try.prog 40 #[.agg #[.string a0_0, .slice A0_1 l0_1.length c0_1, .slice A0_2 l0_2.length c0_2, .slice A0_3 l0_3.length c0_3], .slice A1 l1.length c1, .bool a2] w fun e w' => e = .returned (.bool r) ∧ Below w.heap.size w w' := by
  unfold semblanceref14_acts.f at h
  have HE := Aside0.mk h
  clear h
  obtain ⟨w1, hw1⟩ : ∃ w1, w1 = w.alloc (.cells #[.string a0_0, .slice A0_1 l0_1.length c0_1, .slice A0_2 l0_2.length c0_2, .slice A0_3 l0_3.length c0_3] 26) := ⟨_, rfl⟩
  have hb1 : Below w.heap.size w w1 := by rw [hw1]; exact (Below.refl _ _).alloc (Nat.le_refl _) _
  have HK : Aside0 (w1.heap[w.heap.size]? = some (.cells #[.string a0_0, .slice A0_1 l0_1.length c0_1, .slice A0_2 l0_2.length c0_2, .slice A0_3 l0_3.length c0_3] 26 (0, 0))) := ⟨by rw [hw1]; exact heap_alloc_new w _⟩
  have HR1 := Aside0.mk (Kd.C_below hr0_1 hb1)
  have HR2 := Aside0.mk (Kd.C_below hr0_2 hb1)
  have HR3 := Aside0.mk (Kd.C_below hr0_3 hb1)
  have HCC := Aside0.mk (And.intro hc0_1 (And.intro hc0_2 hc0_3))
  have HB1 := Aside0.mk hb1
  have hu2 := Try.underlying26
  have HRL := Aside0.mk (Kd.C_below hr1 hb1)
  have HC1 := Aside0.mk hc1
  have hm1 := Kd.C_max hr1
  have hu3 := Try.underlying93
  clear hr0_1 hr0_2 hr0_3 hb1 hc0_1 hc0_2 hc0_3 hr1 hc1
  subst hw1
  go_enter Try.func40, Try.ntmps40
  go_wp2_with fail
  generalize w.alloc (.cells #[.string a0_0, .slice A0_1 l0_1.length c0_1, .slice A0_2 l0_2.length c0_2, .slice A0_3 l0_3.length c0_3] 26) = w1 at *
  go_loopg [7] l1.length (fun kq v9 wr => ∃ i : Nat, Aside0 (l1.length - i = kq) ∧ Aside0 (i ≤ l1.length) ∧ v9 = .int .i64 (i : Int) ∧ Aside0 (Below w1.heap.size w1 wr) ∧ Aside0 (∀ j : Nat, j < i → semblanceref14_acts.ok k a0_0 l0_1 l0_2 l0_3 a2 (l1.getD j z93) = some true))
  case atStart => exact ⟨0, ⟨rfl⟩, ⟨Nat.zero_le _⟩, rfl, ⟨Below.refl _ _⟩, ⟨fun j hj => absurd hj (Nat.not_lt_zero _)⟩⟩
  case round =>
    obtain ⟨i, HKQ, HI, rfl, HB, HP⟩ := hrel
    by_cases hi : i < l1.length
    · have hlt : decide ((i : Int) < (l1.length : Int)) = true := decide_eq_true (by omega)
      obtain ⟨ad, A2, c2, e1, hx0, hx1, hx2, hl2, hi2⟩ := at_T93 HRL.out (i : Int) (by omega) (by omega)
      subst e1
      rw [Int.toNat_natCast] at hx0 hx1 hx2
      have hrd : rd_T93 l1 (i : Int) = l1.getD i z93 := by unfold rd_T93; rw [Int.toNat_natCast]
      rw [hrd] at hx0 hx1 hx2 hl2 hi2
      obtain ⟨q, hq, hqf⟩ := allO_get HE.out z93 i hi
      generalize hxx : l1.getD i z93 = x at *
      have HX := Aside0.mk hxx
      have HQ := Aside0.mk hq
      have HQF := Aside0.mk hqf
      have HI2 := Aside0.mk hi2
      obtain ⟨fb, hfb⟩ : ∃ fb, x.f1 = fb := ⟨_, rfl⟩
      rw [hfb] at hx1
      have HSE : Aside0 (∀ w', Below w1.heap.size w1 w' → w'.cell? ⟨w.heap.size, 0, none⟩ = some (.string a0_0) ∧ w'.cell? ⟨w.heap.size, 1, none⟩ = some (.slice A0_1 l0_1.length c0_1) ∧ w'.cell? ⟨w.heap.size, 2, none⟩ = some (.slice A0_2 l0_2.length c0_2) ∧ w'.cell? ⟨w.heap.size, 3, none⟩ = some (.slice A0_3 l0_3.length c0_3) ∧ w'.cell? (ad.add (i * 3)) = some (.string x.f0) ∧ w'.cell? ⟨(ad.add (i * 3)).block, (ad.add (i * 3)).off + 1, none⟩ = some (.bool fb) ∧ w'.cell? ⟨(ad.add (i * 3)).block, (ad.add (i * 3)).off + 2, none⟩ = some (.slice A2 x.f2.length c2)) := ⟨fun w' hb => by
        obtain ⟨h0, h1, h2, h3⟩ := cz4_ (blk_below HK.out hb)
        exact ⟨h0, h1, h2, h3, pw_cell_below hb hx0, pw_cell_below hb hx1, pw_cell_below hb hx2⟩⟩
      clear hxx hqf hrd hx0 hx1 hx2 hi2
      unfold semblanceref14_acts.ok at hq
      obtain ⟨v, hv, hq⟩ := Option.bind_eq_some_iff.mp hq
      have HO := Aside0.mk hv
      clear hv
      rw [hfb] at hq
      clear hfb
      cases v with
      | false =>
        rw [if_neg (by decide)] at hq
        obtain rfl := Option.some.inj hq
        clear hq
        have HZ := Aside0.mk (show r = false from HQF.out (by first | rfl | trivial))
        go_wp2_with fail
        refine rs_ 37 [0, 1, 2, 3, 4, 5, 6, 7, 8, 9, 10, 11, 12, 13, 14, 15, 16, 17, 18, 19, 20, 21, 22, 23, 24, 25, 26, 27, 28, 29, 30, 31, 32, 33, 34, 35, 36] (fun w' => w'.cell? ⟨w.heap.size, 0, none⟩ = some (.string a0_0) ∧ w'.cell? ⟨w.heap.size, 1, none⟩ = some (.slice A0_1 l0_1.length c0_1) ∧ w'.cell? ⟨w.heap.size, 2, none⟩ = some (.slice A0_2 l0_2.length c0_2) ∧ w'.cell? ⟨w.heap.size, 3, none⟩ = some (.slice A0_3 l0_3.length c0_3) ∧ w'.cell? (ad.add (i * 3)) = some (.string x.f0) ∧ w'.cell? ⟨(ad.add (i * 3)).block, (ad.add (i * 3)).off + 1, none⟩ = some (.bool fb) ∧ w'.cell? ⟨(ad.add (i * 3)).block, (ad.add (i * 3)).off + 2, none⟩ = some (.slice A2 x.f2.length c2)) rfl (by kernel_rfl) (HSE.out _ (below_drew1 HB.out)) (fun hHeld => ?_)
        iterate 6 (first | (refine pu_ (a' := ?_) rfl rfl (by kernel_rfl) (fun _ _ _ h => h) (by rfl) ?_ ?_; rotate_left; (focus (simp only [Act.put, sb_, s0_, s1_, i64_w]; rfl))) | (refine tk_ (a' := ?_) (v := ?_) hHeld rfl rfl (by kernel_rfl) (fun _ _ _ h => h) (by rfl) ?_ ?_ ?_; rotate_left 2; (focus (intro W_ hS_; (repeat (obtain ⟨hs_, hS_⟩ := hS_)); go_simp; with_reducible rfl)); (focus (simp only [Act.put, sb_, s0_, s1_, i64_w]; rfl))))
        refine cs_ (args := ?_) rfl rfl rfl (by kernel_rfl) Try.func73 (by kernel_rfl) rfl (by rfl) ?_ ?_
        rotate_left; (focus (go_simp; with_reducible rfl))
        refine (semblanceref14_HasVar.calls k a0_0 A0_1 c0_1 l0_1 A0_2 c0_2 l0_2 A0_3 c0_3 l0_3 x.f0 false _ (Kd.C_below HR1.out (below_drew1 HB.out)) HCC.out.1 (Kd.C_below HR2.out (below_drew1 HB.out)) HCC.out.2.1 (Kd.C_below HR3.out (below_drew1 HB.out)) HCC.out.2.2 HO.out).mono ?_
        rintro e w5 ⟨rfl, hd5⟩; have HB5 := Aside0.mk (below_step (below_drew1 HB.out) hd5); clear hd5
        refine ⟨_, rfl, HSE.out _ HB5.out, fun hHeld => ?_⟩
        (try simp only [Act.put, sb_, s0_, s1_])
        iterate 30 (first | (refine pu_ (a' := ?_) rfl rfl (by kernel_rfl) (fun _ _ _ h => h) (by rfl) ?_ ?_; rotate_left; (focus (simp only [Act.put, sb_, s0_, s1_, i64_w]; rfl))) | (refine tk_ (a' := ?_) (v := ?_) hHeld rfl rfl (by kernel_rfl) (fun _ _ _ h => h) (by rfl) ?_ ?_ ?_; rotate_left 2; (focus (intro W_ hS_; (repeat (obtain ⟨hs_, hS_⟩ := hS_)); go_simp; with_reducible rfl)); (focus (simp only [Act.put, sb_, s0_, s1_, i64_w]; rfl))))
        refine dn_ (by kernel_rfl) ?_
        clear hHeld
        go_wp2
        go_ret
        exact ⟨by rw [HZ.out]; try rfl, HB1.out.trans ((HB5).out.mono HB1.out.size)⟩
      | true =>
        rw [if_pos rfl] at hq
        cases fb with
        | true =>
          rw [if_pos rfl] at hq
          obtain rfl := Option.some.inj hq
          clear hq
          cases a2 with
          | false =>
            have HZ := Aside0.mk (show r = false from HQF.out (by first | rfl | trivial))
            go_wp2_with fail
            refine rs_ 37 [0, 1, 2, 3, 4, 5, 6, 7, 8, 9, 10, 11, 12, 13, 14, 15, 16, 17, 18, 19, 20, 21, 22, 23, 24, 25, 26, 27, 28, 29, 30, 31, 32, 33, 34, 35, 36] (fun w' => w'.cell? ⟨w.heap.size, 0, none⟩ = some (.string a0_0) ∧ w'.cell? ⟨w.heap.size, 1, none⟩ = some (.slice A0_1 l0_1.length c0_1) ∧ w'.cell? ⟨w.heap.size, 2, none⟩ = some (.slice A0_2 l0_2.length c0_2) ∧ w'.cell? ⟨w.heap.size, 3, none⟩ = some (.slice A0_3 l0_3.length c0_3) ∧ w'.cell? (ad.add (i * 3)) = some (.string x.f0) ∧ w'.cell? ⟨(ad.add (i * 3)).block, (ad.add (i * 3)).off + 1, none⟩ = some (.bool true) ∧ w'.cell? ⟨(ad.add (i * 3)).block, (ad.add (i * 3)).off + 2, none⟩ = some (.slice A2 x.f2.length c2)) rfl (by kernel_rfl) (HSE.out _ (below_drew1 HB.out)) (fun hHeld => ?_)
            iterate 6 (first | (refine pu_ (a' := ?_) rfl rfl (by kernel_rfl) (fun _ _ _ h => h) (by rfl) ?_ ?_; rotate_left; (focus (simp only [Act.put, sb_, s0_, s1_, i64_w]; rfl))) | (refine tk_ (a' := ?_) (v := ?_) hHeld rfl rfl (by kernel_rfl) (fun _ _ _ h => h) (by rfl) ?_ ?_ ?_; rotate_left 2; (focus (intro W_ hS_; (repeat (obtain ⟨hs_, hS_⟩ := hS_)); go_simp; with_reducible rfl)); (focus (simp only [Act.put, sb_, s0_, s1_, i64_w]; rfl))))
            refine cs_ (args := ?_) rfl rfl rfl (by kernel_rfl) Try.func73 (by kernel_rfl) rfl (by rfl) ?_ ?_
            rotate_left; (focus (go_simp; with_reducible rfl))
            refine (semblanceref14_HasVar.calls k a0_0 A0_1 c0_1 l0_1 A0_2 c0_2 l0_2 A0_3 c0_3 l0_3 x.f0 true _ (Kd.C_below HR1.out (below_drew1 HB.out)) HCC.out.1 (Kd.C_below HR2.out (below_drew1 HB.out)) HCC.out.2.1 (Kd.C_below HR3.out (below_drew1 HB.out)) HCC.out.2.2 HO.out).mono ?_
            rintro e w5 ⟨rfl, hd5⟩; have HB5 := Aside0.mk (below_step (below_drew1 HB.out) hd5); clear hd5
            refine ⟨_, rfl, HSE.out _ HB5.out, fun hHeld => ?_⟩
            (try simp only [Act.put, sb_, s0_, s1_])
            iterate 30 (first | (refine pu_ (a' := ?_) rfl rfl (by kernel_rfl) (fun _ _ _ h => h) (by rfl) ?_ ?_; rotate_left; (focus (simp only [Act.put, sb_, s0_, s1_, i64_w]; rfl))) | (refine tk_ (a' := ?_) (v := ?_) hHeld rfl rfl (by kernel_rfl) (fun _ _ _ h => h) (by rfl) ?_ ?_ ?_; rotate_left 2; (focus (intro W_ hS_; (repeat (obtain ⟨hs_, hS_⟩ := hS_)); go_simp; with_reducible rfl)); (focus (simp only [Act.put, sb_, s0_, s1_, i64_w]; rfl))))
            refine dn_ (by kernel_rfl) ?_
            clear hHeld
            go_wp2
            go_ret
            exact ⟨by rw [HZ.out]; try rfl, HB1.out.trans ((HB5).out.mono HB1.out.size)⟩
          | true =>
            go_wp2_with fail
            refine rs_ 37 [0, 1, 2, 3, 4, 5, 6, 7, 8, 9, 10, 11, 12, 13, 14, 15, 16, 17, 18, 19, 20, 21, 22, 23, 24, 25, 26, 27, 28, 29, 30, 31, 32, 33, 34, 35, 36] (fun w' => w'.cell? ⟨w.heap.size, 0, none⟩ = some (.string a0_0) ∧ w'.cell? ⟨w.heap.size, 1, none⟩ = some (.slice A0_1 l0_1.length c0_1) ∧ w'.cell? ⟨w.heap.size, 2, none⟩ = some (.slice A0_2 l0_2.length c0_2) ∧ w'.cell? ⟨w.heap.size, 3, none⟩ = some (.slice A0_3 l0_3.length c0_3) ∧ w'.cell? (ad.add (i * 3)) = some (.string x.f0) ∧ w'.cell? ⟨(ad.add (i * 3)).block, (ad.add (i * 3)).off + 1, none⟩ = some (.bool true) ∧ w'.cell? ⟨(ad.add (i * 3)).block, (ad.add (i * 3)).off + 2, none⟩ = some (.slice A2 x.f2.length c2)) rfl (by kernel_rfl) (HSE.out _ (below_drew1 HB.out)) (fun hHeld => ?_)
            iterate 6 (first | (refine pu_ (a' := ?_) rfl rfl (by kernel_rfl) (fun _ _ _ h => h) (by rfl) ?_ ?_; rotate_left; (focus (simp only [Act.put, sb_, s0_, s1_, i64_w]; rfl))) | (refine tk_ (a' := ?_) (v := ?_) hHeld rfl rfl (by kernel_rfl) (fun _ _ _ h => h) (by rfl) ?_ ?_ ?_; rotate_left 2; (focus (intro W_ hS_; (repeat (obtain ⟨hs_, hS_⟩ := hS_)); go_simp; with_reducible rfl)); (focus (simp only [Act.put, sb_, s0_, s1_, i64_w]; rfl))))
            refine cs_ (args := ?_) rfl rfl rfl (by kernel_rfl) Try.func73 (by kernel_rfl) rfl (by rfl) ?_ ?_
            rotate_left; (focus (go_simp; with_reducible rfl))
            refine (semblanceref14_HasVar.calls k a0_0 A0_1 c0_1 l0_1 A0_2 c0_2 l0_2 A0_3 c0_3 l0_3 x.f0 true _ (Kd.C_below HR1.out (below_drew1 HB.out)) HCC.out.1 (Kd.C_below HR2.out (below_drew1 HB.out)) HCC.out.2.1 (Kd.C_below HR3.out (below_drew1 HB.out)) HCC.out.2.2 HO.out).mono ?_
            rintro e w5 ⟨rfl, hd5⟩; have HB5 := Aside0.mk (below_step (below_drew1 HB.out) hd5); clear hd5
            refine ⟨_, rfl, HSE.out _ HB5.out, fun hHeld => ?_⟩
            (try simp only [Act.put, sb_, s0_, s1_])
            iterate 30 (first | (refine pu_ (a' := ?_) rfl rfl (by kernel_rfl) (fun _ _ _ h => h) (by rfl) ?_ ?_; rotate_left; (focus (simp only [Act.put, sb_, s0_, s1_, i64_w]; rfl))) | (refine tk_ (a' := ?_) (v := ?_) hHeld rfl rfl (by kernel_rfl) (fun _ _ _ h => h) (by rfl) ?_ ?_ ?_; rotate_left 2; (focus (intro W_ hS_; (repeat (obtain ⟨hs_, hS_⟩ := hS_)); go_simp; with_reducible rfl)); (focus (simp only [Act.put, sb_, s0_, s1_, i64_w]; rfl))))
            refine dn_ (by kernel_rfl) ?_
            clear hHeld
            go_wp2
            go_roundg (l1.length - (i + 1))
            case measure => have := HKQ.out; omega
            case rel =>
              refine ⟨i + 1, ⟨rfl⟩, ⟨hi⟩, by go_num, HB5, ⟨fun j hj => ?_⟩⟩
              by_cases e : j = i
              · subst e; rw [HX.out]; exact HQ.out
              · exact HP.out j (by omega)
        | false =>
          rw [if_neg (by decide)] at hq
          have HO2 := Aside0.mk hq
          clear hq
          cases q with
          | false =>
            have HZ := Aside0.mk (show r = false from HQF.out (by first | rfl | trivial))
            go_wp2_with fail
            refine rs_ 37 [0, 1, 2, 3, 4, 5, 6, 7, 8, 9, 10, 11, 12, 13, 14, 15, 16, 17, 18, 19, 20, 21, 22, 23, 24, 25, 26, 27, 28, 29, 30, 31, 32, 33, 34, 35, 36] (fun w' => w'.cell? ⟨w.heap.size, 0, none⟩ = some (.string a0_0) ∧ w'.cell? ⟨w.heap.size, 1, none⟩ = some (.slice A0_1 l0_1.length c0_1) ∧ w'.cell? ⟨w.heap.size, 2, none⟩ = some (.slice A0_2 l0_2.length c0_2) ∧ w'.cell? ⟨w.heap.size, 3, none⟩ = some (.slice A0_3 l0_3.length c0_3) ∧ w'.cell? (ad.add (i * 3)) = some (.string x.f0) ∧ w'.cell? ⟨(ad.add (i * 3)).block, (ad.add (i * 3)).off + 1, none⟩ = some (.bool false) ∧ w'.cell? ⟨(ad.add (i * 3)).block, (ad.add (i * 3)).off + 2, none⟩ = some (.slice A2 x.f2.length c2)) rfl (by kernel_rfl) (HSE.out _ (below_drew1 HB.out)) (fun hHeld => ?_)
            iterate 6 (first | (refine pu_ (a' := ?_) rfl rfl (by kernel_rfl) (fun _ _ _ h => h) (by rfl) ?_ ?_; rotate_left; (focus (simp only [Act.put, sb_, s0_, s1_, i64_w]; rfl))) | (refine tk_ (a' := ?_) (v := ?_) hHeld rfl rfl (by kernel_rfl) (fun _ _ _ h => h) (by rfl) ?_ ?_ ?_; rotate_left 2; (focus (intro W_ hS_; (repeat (obtain ⟨hs_, hS_⟩ := hS_)); go_simp; with_reducible rfl)); (focus (simp only [Act.put, sb_, s0_, s1_, i64_w]; rfl))))
            refine cs_ (args := ?_) rfl rfl rfl (by kernel_rfl) Try.func73 (by kernel_rfl) rfl (by rfl) ?_ ?_
            rotate_left; (focus (go_simp; with_reducible rfl))
            refine (semblanceref14_HasVar.calls k a0_0 A0_1 c0_1 l0_1 A0_2 c0_2 l0_2 A0_3 c0_3 l0_3 x.f0 true _ (Kd.C_below HR1.out (below_drew1 HB.out)) HCC.out.1 (Kd.C_below HR2.out (below_drew1 HB.out)) HCC.out.2.1 (Kd.C_below HR3.out (below_drew1 HB.out)) HCC.out.2.2 HO.out).mono ?_
            rintro e w5 ⟨rfl, hd5⟩; have HB5 := Aside0.mk (below_step (below_drew1 HB.out) hd5); clear hd5
            refine ⟨_, rfl, HSE.out _ HB5.out, fun hHeld => ?_⟩
            (try simp only [Act.put, sb_, s0_, s1_])
            iterate 26 (first | (refine pu_ (a' := ?_) rfl rfl (by kernel_rfl) (fun _ _ _ h => h) (by rfl) ?_ ?_; rotate_left; (focus (simp only [Act.put, sb_, s0_, s1_, i64_w]; rfl))) | (refine tk_ (a' := ?_) (v := ?_) hHeld rfl rfl (by kernel_rfl) (fun _ _ _ h => h) (by rfl) ?_ ?_ ?_; rotate_left 2; (focus (intro W_ hS_; (repeat (obtain ⟨hs_, hS_⟩ := hS_)); go_simp; with_reducible rfl)); (focus (simp only [Act.put, sb_, s0_, s1_, i64_w]; rfl))))
            refine cs_ (args := ?_) rfl rfl rfl (by kernel_rfl) Try.func74 (by kernel_rfl) rfl (by rfl) ?_ ?_
            rotate_left; (focus (go_simp; with_reducible rfl))
            refine (semblanceref14_expr.calls k a0_0 A0_1 c0_1 l0_1 A0_2 c0_2 l0_2 A0_3 c0_3 l0_3 A2 c2 x.f2 1 false _ (Kd.C_below HR1.out HB5.out) HCC.out.1 (Kd.C_below HR2.out HB5.out) HCC.out.2.1 (Kd.C_below HR3.out HB5.out) HCC.out.2.2 (Kd.C_below HI2.out HB5.out) hl2 HO2.out).mono ?_
            rintro e w6 ⟨rfl, hd6⟩; have HB6 := Aside0.mk (below_step HB5.out hd6); clear hd6
            refine ⟨_, rfl, HSE.out _ HB6.out, fun hHeld => ?_⟩
            (try simp only [Act.put, sb_, s0_, s1_])
            iterate 3 (first | (refine pu_ (a' := ?_) rfl rfl (by kernel_rfl) (fun _ _ _ h => h) (by rfl) ?_ ?_; rotate_left; (focus (simp only [Act.put, sb_, s0_, s1_, i64_w]; rfl))) | (refine tk_ (a' := ?_) (v := ?_) hHeld rfl rfl (by kernel_rfl) (fun _ _ _ h => h) (by rfl) ?_ ?_ ?_; rotate_left 2; (focus (intro W_ hS_; (repeat (obtain ⟨hs_, hS_⟩ := hS_)); go_simp; with_reducible rfl)); (focus (simp only [Act.put, sb_, s0_, s1_, i64_w]; rfl))))
            refine dn_ (by kernel_rfl) ?_
            clear hHeld
            go_wp2
            go_ret
            exact ⟨by rw [HZ.out]; try rfl, HB1.out.trans ((HB6).out.mono HB1.out.size)⟩
          | true =>
            go_wp2_with fail
            refine rs_ 37 [0, 1, 2, 3, 4, 5, 6, 7, 8, 9, 10, 11, 12, 13, 14, 15, 16, 17, 18, 19, 20, 21, 22, 23, 24, 25, 26, 27, 28, 29, 30, 31, 32, 33, 34, 35, 36] (fun w' => w'.cell? ⟨w.heap.size, 0, none⟩ = some (.string a0_0) ∧ w'.cell? ⟨w.heap.size, 1, none⟩ = some (.slice A0_1 l0_1.length c0_1) ∧ w'.cell? ⟨w.heap.size, 2, none⟩ = some (.slice A0_2 l0_2.length c0_2) ∧ w'.cell? ⟨w.heap.size, 3, none⟩ = some (.slice A0_3 l0_3.length c0_3) ∧ w'.cell? (ad.add (i * 3)) = some (.string x.f0) ∧ w'.cell? ⟨(ad.add (i * 3)).block, (ad.add (i * 3)).off + 1, none⟩ = some (.bool false) ∧ w'.cell? ⟨(ad.add (i * 3)).block, (ad.add (i * 3)).off + 2, none⟩ = some (.slice A2 x.f2.length c2)) rfl (by kernel_rfl) (HSE.out _ (below_drew1 HB.out)) (fun hHeld => ?_)
            iterate 6 (first | (refine pu_ (a' := ?_) rfl rfl (by kernel_rfl) (fun _ _ _ h => h) (by rfl) ?_ ?_; rotate_left; (focus (simp only [Act.put, sb_, s0_, s1_, i64_w]; rfl))) | (refine tk_ (a' := ?_) (v := ?_) hHeld rfl rfl (by kernel_rfl) (fun _ _ _ h => h) (by rfl) ?_ ?_ ?_; rotate_left 2; (focus (intro W_ hS_; (repeat (obtain ⟨hs_, hS_⟩ := hS_)); go_simp; with_reducible rfl)); (focus (simp only [Act.put, sb_, s0_, s1_, i64_w]; rfl))))
            refine cs_ (args := ?_) rfl rfl rfl (by kernel_rfl) Try.func73 (by kernel_rfl) rfl (by rfl) ?_ ?_
            rotate_left; (focus (go_simp; with_reducible rfl))
            refine (semblanceref14_HasVar.calls k a0_0 A0_1 c0_1 l0_1 A0_2 c0_2 l0_2 A0_3 c0_3 l0_3 x.f0 true _ (Kd.C_below HR1.out (below_drew1 HB.out)) HCC.out.1 (Kd.C_below HR2.out (below_drew1 HB.out)) HCC.out.2.1 (Kd.C_below HR3.out (below_drew1 HB.out)) HCC.out.2.2 HO.out).mono ?_
            rintro e w5 ⟨rfl, hd5⟩; have HB5 := Aside0.mk (below_step (below_drew1 HB.out) hd5); clear hd5
            refine ⟨_, rfl, HSE.out _ HB5.out, fun hHeld => ?_⟩
            (try simp only [Act.put, sb_, s0_, s1_])
            iterate 26 (first | (refine pu_ (a' := ?_) rfl rfl (by kernel_rfl) (fun _ _ _ h => h) (by rfl) ?_ ?_; rotate_left; (focus (simp only [Act.put, sb_, s0_, s1_, i64_w]; rfl))) | (refine tk_ (a' := ?_) (v := ?_) hHeld rfl rfl (by kernel_rfl) (fun _ _ _ h => h) (by rfl) ?_ ?_ ?_; rotate_left 2; (focus (intro W_ hS_; (repeat (obtain ⟨hs_, hS_⟩ := hS_)); go_simp; with_reducible rfl)); (focus (simp only [Act.put, sb_, s0_, s1_, i64_w]; rfl))))
            refine cs_ (args := ?_) rfl rfl rfl (by kernel_rfl) Try.func74 (by kernel_rfl) rfl (by rfl) ?_ ?_
            rotate_left; (focus (go_simp; with_reducible rfl))
            refine (semblanceref14_expr.calls k a0_0 A0_1 c0_1 l0_1 A0_2 c0_2 l0_2 A0_3 c0_3 l0_3 A2 c2 x.f2 1 true _ (Kd.C_below HR1.out HB5.out) HCC.out.1 (Kd.C_below HR2.out HB5.out) HCC.out.2.1 (Kd.C_below HR3.out HB5.out) HCC.out.2.2 (Kd.C_below HI2.out HB5.out) hl2 HO2.out).mono ?_
            rintro e w6 ⟨rfl, hd6⟩; have HB6 := Aside0.mk (below_step HB5.out hd6); clear hd6
            refine ⟨_, rfl, HSE.out _ HB6.out, fun hHeld => ?_⟩
            (try simp only [Act.put, sb_, s0_, s1_])
            iterate 3 (first | (refine pu_ (a' := ?_) rfl rfl (by kernel_rfl) (fun _ _ _ h => h) (by rfl) ?_ ?_; rotate_left; (focus (simp only [Act.put, sb_, s0_, s1_, i64_w]; rfl))) | (refine tk_ (a' := ?_) (v := ?_) hHeld rfl rfl (by kernel_rfl) (fun _ _ _ h => h) (by rfl) ?_ ?_ ?_; rotate_left 2; (focus (intro W_ hS_; (repeat (obtain ⟨hs_, hS_⟩ := hS_)); go_simp; with_reducible rfl)); (focus (simp only [Act.put, sb_, s0_, s1_, i64_w]; rfl))))
            refine dn_ (by kernel_rfl) ?_
            clear hHeld
            go_wp2
            go_roundg (l1.length - (i + 1))
            case measure => have := HKQ.out; omega
            case rel =>
              refine ⟨i + 1, ⟨rfl⟩, ⟨hi⟩, by go_num, HB6, ⟨fun j hj => ?_⟩⟩
              by_cases e : j = i
              · subst e; rw [HX.out]; exact HQ.out
              · exact HP.out j (by omega)
    · have hlt : decide ((i : Int) < (l1.length : Int)) = false := decide_eq_false (by omega)
      have hil : i = l1.length := by have := HI.out; omega
      subst hil
      have het := allO_true HE.out z93 HP.out
      subst het
      clear HP HE
      go_wp2
      go_ret
      exact ⟨by try rfl, HB1.out.trans (HB.out.mono HB1.out.size)⟩


/-! ### semblanceref14_HasEvent: function 75 -/
def semblanceref14_HasEvent.l0 : Nat → ByteArray → Int → ByteArray → List ByteArray → List (S51) → List (S55) → Option (Bool)
  | 0, _, _, _, _, _, _ => none
  | k + 1, x1, x5, x252000, x252001, x252002, x252003 => if x5 < (x252001.length : Int) then (if 0 ≤ x5 then (if (rdOf ByteArray.empty x252001 x5).toList = x1.toList then (some true) else (semblanceref14_HasEvent.l0 k x1 (wrap64 (x5 + 1)) x252000 x252001 x252002 x252003)) else (none)) else (some false)
def semblanceref14_HasEvent.f (k : Nat) (a0_0 : ByteArray) (l0_1 : List ByteArray) (l0_2 : List (S51)) (l0_3 : List (S55)) (a1 : ByteArray) : Option (Bool) := semblanceref14_HasEvent.l0 k a1 0 a0_0 l0_1 l0_2 l0_3
theorem semblanceref14_HasEvent.mono_l : ∀ k, (∀ y0 y1 y2 y3 y4 y5, LeO (semblanceref14_HasEvent.l0 k y0 y1 y2 y3 y4 y5) (semblanceref14_HasEvent.l0 (k + 1) y0 y1 y2 y3 y4 y5))
  | 0 => fun _ _ _ _ _ _ r h => by simp [semblanceref14_HasEvent.l0] at h
  | k + 1 => by
    have ih0 := semblanceref14_HasEvent.mono_l k
    · intro y0 y1 y2 y3 y4 y5
      unfold semblanceref14_HasEvent.l0
      repeat' first
      | (with_reducible exact ih0 _ _ _ _ _ _)
      | (with_reducible exact LeO.refl _)
      | (with_reducible exact LeO.none _)
      | (with_reducible refine LeO.ite ?_ ?_)
      | (with_reducible refine LeO.bind ?_ (fun _ => ?_))
      | exact ih0 _ _ _ _ _ _
      | exact LeO.none _
      | refine LeO.ite ?_ ?_
      | refine LeO.bind ?_ (fun _ => ?_)
theorem semblanceref14_HasEvent.mono : ∀ a0 a1 a2 a3 a4 k, LeO (semblanceref14_HasEvent.f k a0 a1 a2 a3 a4) (semblanceref14_HasEvent.f (k + 1) a0 a1 a2 a3 a4) := by
  intro a0 a1 a2 a3 a4 k
  have ih0 := semblanceref14_HasEvent.mono_l k
  unfold semblanceref14_HasEvent.f
  repeat' first
      | (with_reducible exact ih0 _ _ _ _ _ _)
      | (with_reducible exact LeO.refl _)
      | (with_reducible exact LeO.none _)
      | (with_reducible refine LeO.ite ?_ ?_)
      | (with_reducible refine LeO.bind ?_ (fun _ => ?_))
      | exact ih0 _ _ _ _ _ _
      | exact LeO.none _
      | refine LeO.ite ?_ ?_
      | refine LeO.bind ?_ (fun _ => ?_)
theorem hc34_ {w W : World} {a : Addr} {v : Value} (hb : Below w.heap.size w W) (h : w.cell? a = some v) : W.cell? a = some v := (hb.cell (World.block_lt_of_cell? w _ h)).trans h
theorem bz34_ {W W2 w : World} (_ : Below W.heap.size W W2) (h : Below w.heap.size w W) : Below w.heap.size w W := h
set_option maxHeartbeats 8000000 in
set_option maxRecDepth 100000 in
theorem semblanceref14_HasEvent.calls (k : Nat) (a0_0 : ByteArray) (A0_1 : Option Addr) (c0_1 : Nat) (l0_1 : List ByteArray) (A0_2 : Option Addr) (c0_2 : Nat) (l0_2 : List (S51)) (A0_3 : Option Addr) (c0_3 : Nat) (l0_3 : List (S55)) (a1 : ByteArray) (r : Bool) (w : World) (hr0_1 : Kd.C Kd.string w A0_1 l0_1.length l0_1) (hc0_1 : l0_1.length ≤ c0_1) (hr0_2 : Kd.C k51 w A0_2 l0_2.length l0_2) (hc0_2 : l0_2.length ≤ c0_2) (hr0_3 : Kd.C k55 w A0_3 l0_3.length l0_3) (hc0_3 : l0_3.length ≤ c0_3) (h : semblanceref14_HasEvent.f k a0_0 l0_1 l0_2 l0_3 a1 = some r) :
  Calls Try.prog 75 #[.agg #[.string a0_0, .slice A0_1 l0_1.length c0_1, .slice A0_2 l0_2.length c0_2, .slice A0_3 l0_3.length c0_3], .string a1] w fun e w' => e = .returned (.bool r) ∧ Below w.heap.size w w' := by
 have hu26 := Try.underlying26
 have HR0_1 := Aside0.mk hr0_1
 have HC0_1 := Aside0.mk hc0_1
 clear hr0_1 hc0_1
 have HR0_2 := Aside0.mk hr0_2
 have HC0_2 := Aside0.mk hc0_2
 clear hr0_2 hc0_2
 have HR0_3 := Aside0.mk hr0_3
 have HC0_3 := Aside0.mk hc0_3
 clear hr0_3 hc0_3
 have HB := Aside0.mk (Below.refl w.heap.size w)
 have H : (semblanceref14_HasEvent.l0 k a1 0 a0_0 l0_1 l0_2 l0_3) = some r := h
 clear h
 have H' := Aside0.mk H
 clear H
 go_enter Try.func75, Try.ntmps75
 go_wp2_with (first | ((with_reducible refine gate_dst (N := 2) rfl ?_); refine box_event ?hg (N := 2) ?hd (cs := #[.string a0_0, .slice A0_1 l0_1.length c0_1, .slice A0_2 l0_2.length c0_2, .slice A0_3 l0_3.length c0_3]) (t := 26) ?hr ?_; (case hd => rfl); (case hg => rfl); (case hr => first | (go_simp; done) | (go_simp; rfl)); intro gb251 hg w3 hbox hb; have hB_ := bz34_ hb (brw HB.out); have n0_ := Aside0.mk (below_step hB_ hb); have n1_ := Aside0.mk (hbox); have n2_ := Aside0.mk ((by rw [hg]; exact (below_size hB_) : w.heap.size ≤ gb251)); have n3_ := Aside0.mk ((by rw [hg]; exact (below_size hB_) : w.heap.size ≤ gb251)); clear HB; have HB := n0_; have BK251 := n1_; have GW251 := n2_; have GE251 := n3_; clear n0_ n1_ n2_ n3_; clear hb hbox hg))
 go_loopg [5] k (fun kq v5 w' => ∃ (x5_1 : Int), v5 = .int .i64 x5_1 ∧ Aside0 (semblanceref14_HasEvent.l0 kq a1 x5_1 a0_0 l0_1 l0_2 l0_3 = some r) ∧ Aside0 (kq ≤ k) ∧ Aside0 (w'.heap[gb251]? = some (.cells #[.string a0_0, (.slice A0_1 l0_1.length c0_1), (.slice A0_2 l0_2.length c0_2), (.slice A0_3 l0_3.length c0_3)] 26 (0, 0))) ∧ Aside0 (Below w.heap.size w w'))
 case atStart => exact ⟨(0), (by first | rfl | (simp; done) | (simp [*]; done)), H', ⟨Nat.le_refl _⟩, ⟨grw BK251.out⟩, ⟨by repeat (first | (with_reducible first | exact HB.out | apply below_alloc | apply pw_below_drewN | apply below_drew1 | refine below_set ?_ GE251.out) | exact HB.out)⟩⟩
 case round =>
  clear H'
  try clear p2
  obtain ⟨x5_1, rfl, HA, HK1, BK251, HB⟩ := hrel
  cases gk with
  | zero => exact absurd HA.out (by simp [semblanceref14_HasEvent.l0])
  | succ k1 =>
   have H := HA.out
   clear HA
   simp only [semblanceref14_HasEvent.l0] at H
   by_cases c4 : x5_1 < (l0_1.length : Int)
   rotate_left
   ·rw [if_neg c4] at H
    have c4b0 : decide (x5_1 < (l0_1.length : Int)) = false := decide_eq_false c4
    clear c4
    obtain rfl := Option.some.inj H
    obtain ⟨hcz9_0, hcz9_1, hcz9_2, hcz9_3⟩ := cz4_ BK251.out
    obtain ⟨hfz9_0, hfz9_1, hfz9_2, hfz9_3⟩ := cf4_ BK251.out
    go_wp2
    go_ret
    exact ⟨by first | rfl | (simp [errW_none, errW_some] <;> rfl) | (simp [*, errW_none, errW_some] <;> rfl), by repeat (first | (with_reducible first | exact HB.out | apply below_alloc | apply pw_below_drewN | apply below_drew1 | refine below_set ?_ GE251.out) | exact HB.out)⟩

   rw [if_pos c4] at H
   have c4b0 : decide (x5_1 < (l0_1.length : Int)) = true := decide_eq_true c4
   clear c4
   by_cases c5 : 0 ≤ x5_1
   rotate_left
   ·rw [if_neg c5] at H
    exact absurd H (by simp)
   rw [if_pos c5] at H
   have c5b0 : decide (0 ≤ x5_1) = true := decide_eq_true c5
   clear c5
   by_cases c6 : (rdOf ByteArray.empty l0_1 x5_1).toList = a1.toList
   ·rw [if_pos c6] at H
    have c6b0 : ((rdOf ByteArray.empty l0_1 x5_1).toList == a1.toList) = true := beq_iff_eq.mpr c6
    have c6b1 : ((rdOf ByteArray.empty l0_1 x5_1).toList != a1.toList) = false := bne_eq_false_iff_eq.mpr c6
    clear c6
    obtain rfl := Option.some.inj H
    obtain ⟨hcz7_0, hcz7_1, hcz7_2, hcz7_3⟩ := cz4_ BK251.out
    obtain ⟨hfz7_0, hfz7_1, hfz7_2, hfz7_3⟩ := cf4_ BK251.out
    have p252 : 0 ≤ (x5_1 : Int) := of_decide_eq_true (by first | (with_reducible assumption) | assumption)
    have q252 : x5_1 < (l0_1.length : Int) := of_decide_eq_true (by first | (with_reducible assumption) | assumption)
    obtain ⟨ad252, e252, hx252_0⟩ := Kd.at_string HR0_1.out x5_1 p252 q252
    cases e252
    replace hx252_0 := hc34_ HB.out hx252_0
    replace p252 := eq_true p252
    replace q252 := eq_true q252
    go_wp2
    go_ret
    exact ⟨by first | rfl | (simp [errW_none, errW_some] <;> rfl) | (simp [*, errW_none, errW_some] <;> rfl), by repeat (first | (with_reducible first | exact HB.out | apply below_alloc | apply pw_below_drewN | apply below_drew1 | refine below_set ?_ GE251.out) | exact HB.out)⟩
   rw [if_neg c6] at H
   have c6b0 : ((rdOf ByteArray.empty l0_1 x5_1).toList == a1.toList) = false := beq_eq_false_iff_ne.mpr c6
   have c6b1 : ((rdOf ByteArray.empty l0_1 x5_1).toList != a1.toList) = true := bne_iff_ne.mpr c6
   have H' := Aside0.mk H
   clear H
   obtain ⟨hcz8_0, hcz8_1, hcz8_2, hcz8_3⟩ := cz4_ BK251.out
   obtain ⟨hfz8_0, hfz8_1, hfz8_2, hfz8_3⟩ := cf4_ BK251.out
   have p252 : 0 ≤ (x5_1 : Int) := of_decide_eq_true (by first | (with_reducible assumption) | assumption)
   have q252 : x5_1 < (l0_1.length : Int) := of_decide_eq_true (by first | (with_reducible assumption) | assumption)
   obtain ⟨ad252, e252, hx252_0⟩ := Kd.at_string HR0_1.out x5_1 p252 q252
   cases e252
   replace hx252_0 := hc34_ HB.out hx252_0
   replace p252 := eq_true p252
   replace q252 := eq_true q252
   go_wp2
   go_roundg k1
   case measure => have := HK1.out; omega
   case rel => exact ⟨(wrap64 (x5_1 + 1)), (by first | rfl | (simp; done) | (simp [*]; done)), H', ⟨by have := HK1.out; omega⟩, ⟨grw BK251.out⟩, ⟨by repeat (first | (with_reducible first | exact HB.out | apply below_alloc | apply pw_below_drewN | apply below_drew1 | refine below_set ?_ GE251.out) | exact HB.out)⟩⟩
/-! ### semblanceref14_trans: function 41 -/
def semblanceref14_trans.f (k : Nat) (a0_0 : ByteArray) (l0_1 : List ByteArray) (l0_2 : List (S51)) (l0_3 : List (S55)) (a1 : Int) (a2_0 : ByteArray) (l2_1 : List (S47)) (l2_2 : List (S93)) (a2_3 : ByteArray) : Option (Bool) := if a1 = 6 then (if a2_0.toList = ([] : List UInt8) then (some true) else ((semblanceref14_HasEvent.f k a0_0 l0_1 l0_2 l0_3 a2_0).bind fun t255 => (some t255))) else (if a1 = 7 then (if a2_3.toList = ([] : List UInt8) then (some true) else ((semblanceref14_HasState.f k a0_0 l0_1 l0_2 l0_3 a2_3).bind fun t256 => (some t256))) else (if a1 = 8 then (if (l2_1.length : Int) = 0 then (some true) else ((semblanceref14_expr.f k a0_0 l0_1 l0_2 l0_3 l2_1 2).bind fun t257 => (some t257))) else ((semblanceref14_acts.f k a0_0 l0_1 l0_2 l0_3 l2_2 true).bind fun t258 => (some t258))))
theorem semblanceref14_trans.mono : ∀ a0 a1 a2 a3 a4 a5 a6 a7 a8 k, LeO (semblanceref14_trans.f k a0 a1 a2 a3 a4 a5 a6 a7 a8) (semblanceref14_trans.f (k + 1) a0 a1 a2 a3 a4 a5 a6 a7 a8) := by
  intro a0 a1 a2 a3 a4 a5 a6 a7 a8 k
  unfold semblanceref14_trans.f
  repeat' first
      | (with_reducible exact semblanceref14_HasEvent.mono _ _ _ _ _ _)
      | (with_reducible exact semblanceref14_HasState.mono _ _ _ _ _ _)
      | (with_reducible exact semblanceref14_acts.mono _ _ _ _ _ _ _)
      | (with_reducible exact semblanceref14_expr.mono _ _ _ _ _ _ _)
      | (with_reducible exact LeO.refl _)
      | (with_reducible exact LeO.none _)
      | (with_reducible refine LeO.ite ?_ ?_)
      | (with_reducible refine LeO.bind ?_ (fun _ => ?_))
      | exact semblanceref14_HasEvent.mono _ _ _ _ _ _
      | exact semblanceref14_HasState.mono _ _ _ _ _ _
      | exact semblanceref14_acts.mono _ _ _ _ _ _ _
      | exact semblanceref14_expr.mono _ _ _ _ _ _ _
      | exact LeO.none _
      | refine LeO.ite ?_ ?_
      | refine LeO.bind ?_ (fun _ => ?_)
theorem bz35_ {W W2 w : World} (_ : Below W.heap.size W W2) (h : Below w.heap.size w W) : Below w.heap.size w W := h
set_option maxHeartbeats 8000000 in
set_option maxRecDepth 100000 in
theorem semblanceref14_trans.calls (k : Nat) (a0_0 : ByteArray) (A0_1 : Option Addr) (c0_1 : Nat) (l0_1 : List ByteArray) (A0_2 : Option Addr) (c0_2 : Nat) (l0_2 : List (S51)) (A0_3 : Option Addr) (c0_3 : Nat) (l0_3 : List (S55)) (a1 : Int) (a2_0 : ByteArray) (A2_1 : Option Addr) (c2_1 : Nat) (l2_1 : List (S47)) (A2_2 : Option Addr) (c2_2 : Nat) (l2_2 : List (S93)) (a2_3 : ByteArray) (r : Bool) (w : World) (hr0_1 : Kd.C Kd.string w A0_1 l0_1.length l0_1) (hc0_1 : l0_1.length ≤ c0_1) (hr0_2 : Kd.C k51 w A0_2 l0_2.length l0_2) (hc0_2 : l0_2.length ≤ c0_2) (hr0_3 : Kd.C k55 w A0_3 l0_3.length l0_3) (hc0_3 : l0_3.length ≤ c0_3) (hr2_1 : Kd.C k47 w A2_1 l2_1.length l2_1) (hc2_1 : l2_1.length ≤ c2_1) (hr2_2 : Kd.C k93 w A2_2 l2_2.length l2_2) (hc2_2 : l2_2.length ≤ c2_2) (h : semblanceref14_trans.f k a0_0 l0_1 l0_2 l0_3 a1 a2_0 l2_1 l2_2 a2_3 = some r) :
  Calls Try.prog 41 #[.agg #[.string a0_0, .slice A0_1 l0_1.length c0_1, .slice A0_2 l0_2.length c0_2, .slice A0_3 l0_3.length c0_3], .int .i64 a1, .agg #[.string a2_0, .slice A2_1 l2_1.length c2_1, .slice A2_2 l2_2.length c2_2, .string a2_3]] w fun e w' => e = .returned (.bool r) ∧ Below w.heap.size w w' := by
 have hu26 := Try.underlying26
 have hu58 := Try.underlying58
 have HR0_1 := Aside0.mk hr0_1
 have HC0_1 := Aside0.mk hc0_1
 clear hr0_1 hc0_1
 have HR0_2 := Aside0.mk hr0_2
 have HC0_2 := Aside0.mk hc0_2
 clear hr0_2 hc0_2
 have HR0_3 := Aside0.mk hr0_3
 have HC0_3 := Aside0.mk hc0_3
 clear hr0_3 hc0_3
 have HR2_1 := Aside0.mk hr2_1
 have HC2_1 := Aside0.mk hc2_1
 clear hr2_1 hc2_1
 have HR2_2 := Aside0.mk hr2_2
 have HC2_2 := Aside0.mk hc2_2
 clear hr2_2 hc2_2
 have HB := Aside0.mk (Below.refl w.heap.size w)
 have H : (if a1 = 6 then (if a2_0.toList = ([] : List UInt8) then (some true) else ((semblanceref14_HasEvent.f k a0_0 l0_1 l0_2 l0_3 a2_0).bind fun t255 => (some t255))) else (if a1 = 7 then (if a2_3.toList = ([] : List UInt8) then (some true) else ((semblanceref14_HasState.f k a0_0 l0_1 l0_2 l0_3 a2_3).bind fun t256 => (some t256))) else (if a1 = 8 then (if (l2_1.length : Int) = 0 then (some true) else ((semblanceref14_expr.f k a0_0 l0_1 l0_2 l0_3 l2_1 2).bind fun t257 => (some t257))) else ((semblanceref14_acts.f k a0_0 l0_1 l0_2 l0_3 l2_2 true).bind fun t258 => (some t258))))) = some r := h
 clear h
 by_cases c4 : a1 = 6
 ·rw [if_pos c4] at H
  have c4b0 : (a1 == 6) = true := beq_iff_eq.mpr c4
  have c4b1 : (a1 != 6) = false := bne_eq_false_iff_eq.mpr c4
  clear c4
  by_cases c5 : a2_0.toList = ([] : List UInt8)
  ·rw [if_pos c5] at H
   have c5b0 : (a2_0.toList == ([] : List UInt8)) = true := beq_iff_eq.mpr c5
   have c5b1 : (a2_0.toList != ([] : List UInt8)) = false := bne_eq_false_iff_eq.mpr c5
   clear c5
   obtain rfl := Option.some.inj H
   go_enter Try.func41, Try.ntmps41
   go_wp2_with (first | ((with_reducible refine gate_dst (N := 3) rfl ?_); refine box_event ?hg (N := 3) ?hd (cs := #[.string a0_0, .slice A0_1 l0_1.length c0_1, .slice A0_2 l0_2.length c0_2, .slice A0_3 l0_3.length c0_3]) (t := 26) ?hr ?_; (case hd => rfl); (case hg => rfl); (case hr => first | (go_simp; done) | (go_simp; rfl)); intro gb253 hg w6 hbox hb; have hB_ := bz35_ hb (brw HB.out); have n0_ := Aside0.mk (below_step hB_ hb); have n1_ := Aside0.mk (hbox); have n2_ := Aside0.mk ((by rw [hg]; exact (below_size hB_) : w.heap.size ≤ gb253)); have n3_ := Aside0.mk ((by rw [hg]; exact (below_size hB_) : w.heap.size ≤ gb253)); clear HB; have HB := n0_; have BK253 := n1_; have GW253 := n2_; have GE253 := n3_; clear n0_ n1_ n2_ n3_; clear hb hbox hg) | ((with_reducible refine gate_dst (N := 5) rfl ?_); refine box_event ?hg (N := 5) ?hd (cs := #[.string a2_0, .slice A2_1 l2_1.length c2_1, .slice A2_2 l2_2.length c2_2, .string a2_3]) (t := 58) ?hr ?_; (case hd => rfl); (case hg => rfl); (case hr => first | (go_simp; done) | (go_simp; rfl)); intro gb254 hg w7 hbox hb; have hB_ := bz35_ hb (by repeat (first | (with_reducible first | exact HB.out | apply below_alloc | apply pw_below_drewN | apply below_drew1 | refine below_set ?_ GE253.out) | exact HB.out)); have n0_ := Aside0.mk (blk_below (grw BK253.out) hb); have n1_ := Aside0.mk (below_step hB_ hb); have n2_ := Aside0.mk (hbox); have n3_ := Aside0.mk ((by rw [hg]; exact (below_size hB_) : w.heap.size ≤ gb254)); have n4_ := Aside0.mk ((by rw [hg]; exact (below_size hB_) : w.heap.size ≤ gb254)); have n5_ := Aside0.mk ((by rw [hg]; exact Nat.ne_of_lt (blk_lt (grw BK253.out)) : gb253 ≠ gb254)); have n6_ := Aside0.mk ((by rw [hg]; exact Nat.ne_of_gt (blk_lt (grw BK253.out)) : gb254 ≠ gb253)); clear BK253; clear HB; have BK253 := n0_; have HB := n1_; have BK254 := n2_; have GW254 := n3_; have GE254 := n4_; have NB253_254 := n5_; have NB254_253 := n6_; clear n0_ n1_ n2_ n3_ n4_ n5_ n6_; clear hb hbox hg; have hnb8 := NB254_253.out; have hnc8 := NB253_254.out; obtain ⟨hcz9_0, hcz9_1, hcz9_2, hcz9_3⟩ := cz4_ BK254.out; obtain ⟨hfz9_0, hfz9_1, hfz9_2, hfz9_3⟩ := cf4_ BK254.out))
   go_ret
   exact ⟨by first | rfl | (simp [errW_none, errW_some] <;> rfl) | (simp [*, errW_none, errW_some] <;> rfl), by repeat (first | (with_reducible first | exact HB.out | apply below_alloc | apply pw_below_drewN | apply below_drew1 | refine below_set ?_ GE253.out | refine below_set ?_ GE254.out) | exact HB.out)⟩
  rw [if_neg c5] at H
  have c5b0 : (a2_0.toList == ([] : List UInt8)) = false := beq_eq_false_iff_ne.mpr c5
  have c5b1 : (a2_0.toList != ([] : List UInt8)) = true := bne_iff_ne.mpr c5
  replace H := Option.bind_eq_some_iff.mp H
  obtain ⟨t255, A100, H⟩ := H
  replace H : (some t255) = some r := H
  have A10 := Aside0.mk A100
  clear A100
  obtain rfl := Option.some.inj H
  go_enter Try.func41, Try.ntmps41
  go_wp2_with (first | ((with_reducible refine gate_dst (N := 3) rfl ?_); refine box_event ?hg (N := 3) ?hd (cs := #[.string a0_0, .slice A0_1 l0_1.length c0_1, .slice A0_2 l0_2.length c0_2, .slice A0_3 l0_3.length c0_3]) (t := 26) ?hr ?_; (case hd => rfl); (case hg => rfl); (case hr => first | (go_simp; done) | (go_simp; rfl)); intro gb253 hg w11 hbox hb; have hB_ := bz35_ hb (brw HB.out); have n0_ := Aside0.mk (below_step hB_ hb); have n1_ := Aside0.mk (hbox); have n2_ := Aside0.mk ((by rw [hg]; exact (below_size hB_) : w.heap.size ≤ gb253)); have n3_ := Aside0.mk ((by rw [hg]; exact (below_size hB_) : w.heap.size ≤ gb253)); clear HB; have HB := n0_; have BK253 := n1_; have GW253 := n2_; have GE253 := n3_; clear n0_ n1_ n2_ n3_; clear hb hbox hg) | ((with_reducible refine gate_dst (N := 5) rfl ?_); refine box_event ?hg (N := 5) ?hd (cs := #[.string a2_0, .slice A2_1 l2_1.length c2_1, .slice A2_2 l2_2.length c2_2, .string a2_3]) (t := 58) ?hr ?_; (case hd => rfl); (case hg => rfl); (case hr => first | (go_simp; done) | (go_simp; rfl)); intro gb254 hg w12 hbox hb; have hB_ := bz35_ hb (by repeat (first | (with_reducible first | exact HB.out | apply below_alloc | apply pw_below_drewN | apply below_drew1 | refine below_set ?_ GE253.out) | exact HB.out)); have n0_ := Aside0.mk (blk_below (grw BK253.out) hb); have n1_ := Aside0.mk (below_step hB_ hb); have n2_ := Aside0.mk (hbox); have n3_ := Aside0.mk ((by rw [hg]; exact (below_size hB_) : w.heap.size ≤ gb254)); have n4_ := Aside0.mk ((by rw [hg]; exact (below_size hB_) : w.heap.size ≤ gb254)); have n5_ := Aside0.mk ((by rw [hg]; exact Nat.ne_of_lt (blk_lt (grw BK253.out)) : gb253 ≠ gb254)); have n6_ := Aside0.mk ((by rw [hg]; exact Nat.ne_of_gt (blk_lt (grw BK253.out)) : gb254 ≠ gb253)); clear BK253; clear HB; have BK253 := n0_; have HB := n1_; have BK254 := n2_; have GW254 := n3_; have GE254 := n4_; have NB253_254 := n5_; have NB254_253 := n6_; clear n0_ n1_ n2_ n3_ n4_ n5_ n6_; clear hb hbox hg; have hnb13 := NB254_253.out; have hnc13 := NB253_254.out; obtain ⟨hcz14_0, hcz14_1, hcz14_2, hcz14_3⟩ := cz4_ BK254.out; obtain ⟨hfz14_0, hfz14_1, hfz14_2, hfz14_3⟩ := cf4_ BK254.out; obtain ⟨hcz15_0, hcz15_1, hcz15_2, hcz15_3⟩ := cz4_ BK253.out; obtain ⟨hfz15_0, hfz15_1, hfz15_2, hfz15_3⟩ := cf4_ BK253.out) | (go_at_call 75; (with_reducible refine (semblanceref14_HasEvent.calls k a0_0 _ _ l0_1 _ _ l0_2 _ _ l0_3 a2_0 t255 _ ?side1 ?side2 ?side3 ?side4 ?side5 ?side6 A10.out).mono ?_); (case side1 => repeat (first | exact (Kd.C_below HR0_1.out HB.out) | (with_reducible refine Kd.C_alloc ?_ _) | (with_reducible refine Kd.C_drewN ?_ _) | (with_reducible refine Kd.C_drew ?_))); (case side2 => exact HC0_1.out); (case side3 => repeat (first | exact (Kd.C_below HR0_2.out HB.out) | (with_reducible refine Kd.C_alloc ?_ _) | (with_reducible refine Kd.C_drewN ?_ _) | (with_reducible refine Kd.C_drew ?_))); (case side4 => exact HC0_2.out); (case side5 => repeat (first | exact (Kd.C_below HR0_3.out HB.out) | (with_reducible refine Kd.C_alloc ?_ _) | (with_reducible refine Kd.C_drewN ?_ _) | (with_reducible refine Kd.C_drew ?_))); (case side6 => exact HC0_3.out); rintro e w16 ⟨rfl, hb⟩; have n0_ := Aside0.mk (blk_below (grw BK253.out) hb); have n1_ := Aside0.mk (blk_below (grw BK254.out) hb); have n2_ := Aside0.mk (below_step (by repeat (first | (with_reducible first | exact HB.out | apply below_alloc | apply pw_below_drewN | apply below_drew1 | refine below_set ?_ GE253.out | refine below_set ?_ GE254.out) | exact HB.out)) hb); clear BK253; clear BK254; clear HB; have BK253 := n0_; have BK254 := n1_; have HB := n2_; clear n0_ n1_ n2_; (try clear hb); (try clear hb2); (try clear hk); (try clear hi)))
  go_ret
  exact ⟨by first | rfl | (simp [errW_none, errW_some] <;> rfl) | (simp [*, errW_none, errW_some] <;> rfl), by repeat (first | (with_reducible first | exact HB.out | apply below_alloc | apply pw_below_drewN | apply below_drew1 | refine below_set ?_ GE253.out | refine below_set ?_ GE254.out) | exact HB.out)⟩
 rw [if_neg c4] at H
 have c4b0 : (a1 == 6) = false := beq_eq_false_iff_ne.mpr c4
 have c4b1 : (a1 != 6) = true := bne_iff_ne.mpr c4
 by_cases c17 : a1 = 7
 ·rw [if_pos c17] at H
  have c17b0 : (a1 == 7) = true := beq_iff_eq.mpr c17
  have c17b1 : (a1 != 7) = false := bne_eq_false_iff_eq.mpr c17
  clear c17
  by_cases c18 : a2_3.toList = ([] : List UInt8)
  ·rw [if_pos c18] at H
   have c18b0 : (a2_3.toList == ([] : List UInt8)) = true := beq_iff_eq.mpr c18
   have c18b1 : (a2_3.toList != ([] : List UInt8)) = false := bne_eq_false_iff_eq.mpr c18
   clear c18
   obtain rfl := Option.some.inj H
   go_enter Try.func41, Try.ntmps41
   go_wp2_with (first | ((with_reducible refine gate_dst (N := 3) rfl ?_); refine box_event ?hg (N := 3) ?hd (cs := #[.string a0_0, .slice A0_1 l0_1.length c0_1, .slice A0_2 l0_2.length c0_2, .slice A0_3 l0_3.length c0_3]) (t := 26) ?hr ?_; (case hd => rfl); (case hg => rfl); (case hr => first | (go_simp; done) | (go_simp; rfl)); intro gb253 hg w19 hbox hb; have hB_ := bz35_ hb (brw HB.out); have n0_ := Aside0.mk (below_step hB_ hb); have n1_ := Aside0.mk (hbox); have n2_ := Aside0.mk ((by rw [hg]; exact (below_size hB_) : w.heap.size ≤ gb253)); have n3_ := Aside0.mk ((by rw [hg]; exact (below_size hB_) : w.heap.size ≤ gb253)); clear HB; have HB := n0_; have BK253 := n1_; have GW253 := n2_; have GE253 := n3_; clear n0_ n1_ n2_ n3_; clear hb hbox hg) | ((with_reducible refine gate_dst (N := 5) rfl ?_); refine box_event ?hg (N := 5) ?hd (cs := #[.string a2_0, .slice A2_1 l2_1.length c2_1, .slice A2_2 l2_2.length c2_2, .string a2_3]) (t := 58) ?hr ?_; (case hd => rfl); (case hg => rfl); (case hr => first | (go_simp; done) | (go_simp; rfl)); intro gb254 hg w20 hbox hb; have hB_ := bz35_ hb (by repeat (first | (with_reducible first | exact HB.out | apply below_alloc | apply pw_below_drewN | apply below_drew1 | refine below_set ?_ GE253.out) | exact HB.out)); have n0_ := Aside0.mk (blk_below (grw BK253.out) hb); have n1_ := Aside0.mk (below_step hB_ hb); have n2_ := Aside0.mk (hbox); have n3_ := Aside0.mk ((by rw [hg]; exact (below_size hB_) : w.heap.size ≤ gb254)); have n4_ := Aside0.mk ((by rw [hg]; exact (below_size hB_) : w.heap.size ≤ gb254)); have n5_ := Aside0.mk ((by rw [hg]; exact Nat.ne_of_lt (blk_lt (grw BK253.out)) : gb253 ≠ gb254)); have n6_ := Aside0.mk ((by rw [hg]; exact Nat.ne_of_gt (blk_lt (grw BK253.out)) : gb254 ≠ gb253)); clear BK253; clear HB; have BK253 := n0_; have HB := n1_; have BK254 := n2_; have GW254 := n3_; have GE254 := n4_; have NB253_254 := n5_; have NB254_253 := n6_; clear n0_ n1_ n2_ n3_ n4_ n5_ n6_; clear hb hbox hg; have hnb21 := NB254_253.out; have hnc21 := NB253_254.out; obtain ⟨hcz22_0, hcz22_1, hcz22_2, hcz22_3⟩ := cz4_ BK254.out; obtain ⟨hfz22_0, hfz22_1, hfz22_2, hfz22_3⟩ := cf4_ BK254.out))
   go_ret
   exact ⟨by first | rfl | (simp [errW_none, errW_some] <;> rfl) | (simp [*, errW_none, errW_some] <;> rfl), by repeat (first | (with_reducible first | exact HB.out | apply below_alloc | apply pw_below_drewN | apply below_drew1 | refine below_set ?_ GE253.out | refine below_set ?_ GE254.out) | exact HB.out)⟩
  rw [if_neg c18] at H
  have c18b0 : (a2_3.toList == ([] : List UInt8)) = false := beq_eq_false_iff_ne.mpr c18
  have c18b1 : (a2_3.toList != ([] : List UInt8)) = true := bne_iff_ne.mpr c18
  replace H := Option.bind_eq_some_iff.mp H
  obtain ⟨t256, A230, H⟩ := H
  replace H : (some t256) = some r := H
  have A23 := Aside0.mk A230
  clear A230
  obtain rfl := Option.some.inj H
  go_enter Try.func41, Try.ntmps41
  go_wp2_with (first | ((with_reducible refine gate_dst (N := 3) rfl ?_); refine box_event ?hg (N := 3) ?hd (cs := #[.string a0_0, .slice A0_1 l0_1.length c0_1, .slice A0_2 l0_2.length c0_2, .slice A0_3 l0_3.length c0_3]) (t := 26) ?hr ?_; (case hd => rfl); (case hg => rfl); (case hr => first | (go_simp; done) | (go_simp; rfl)); intro gb253 hg w24 hbox hb; have hB_ := bz35_ hb (brw HB.out); have n0_ := Aside0.mk (below_step hB_ hb); have n1_ := Aside0.mk (hbox); have n2_ := Aside0.mk ((by rw [hg]; exact (below_size hB_) : w.heap.size ≤ gb253)); have n3_ := Aside0.mk ((by rw [hg]; exact (below_size hB_) : w.heap.size ≤ gb253)); clear HB; have HB := n0_; have BK253 := n1_; have GW253 := n2_; have GE253 := n3_; clear n0_ n1_ n2_ n3_; clear hb hbox hg) | ((with_reducible refine gate_dst (N := 5) rfl ?_); refine box_event ?hg (N := 5) ?hd (cs := #[.string a2_0, .slice A2_1 l2_1.length c2_1, .slice A2_2 l2_2.length c2_2, .string a2_3]) (t := 58) ?hr ?_; (case hd => rfl); (case hg => rfl); (case hr => first | (go_simp; done) | (go_simp; rfl)); intro gb254 hg w25 hbox hb; have hB_ := bz35_ hb (by repeat (first | (with_reducible first | exact HB.out | apply below_alloc | apply pw_below_drewN | apply below_drew1 | refine below_set ?_ GE253.out) | exact HB.out)); have n0_ := Aside0.mk (blk_below (grw BK253.out) hb); have n1_ := Aside0.mk (below_step hB_ hb); have n2_ := Aside0.mk (hbox); have n3_ := Aside0.mk ((by rw [hg]; exact (below_size hB_) : w.heap.size ≤ gb254)); have n4_ := Aside0.mk ((by rw [hg]; exact (below_size hB_) : w.heap.size ≤ gb254)); have n5_ := Aside0.mk ((by rw [hg]; exact Nat.ne_of_lt (blk_lt (grw BK253.out)) : gb253 ≠ gb254)); have n6_ := Aside0.mk ((by rw [hg]; exact Nat.ne_of_gt (blk_lt (grw BK253.out)) : gb254 ≠ gb253)); clear BK253; clear HB; have BK253 := n0_; have HB := n1_; have BK254 := n2_; have GW254 := n3_; have GE254 := n4_; have NB253_254 := n5_; have NB254_253 := n6_; clear n0_ n1_ n2_ n3_ n4_ n5_ n6_; clear hb hbox hg; have hnb26 := NB254_253.out; have hnc26 := NB253_254.out; obtain ⟨hcz27_0, hcz27_1, hcz27_2, hcz27_3⟩ := cz4_ BK254.out; obtain ⟨hfz27_0, hfz27_1, hfz27_2, hfz27_3⟩ := cf4_ BK254.out; obtain ⟨hcz28_0, hcz28_1, hcz28_2, hcz28_3⟩ := cz4_ BK253.out; obtain ⟨hfz28_0, hfz28_1, hfz28_2, hfz28_3⟩ := cf4_ BK253.out) | (go_at_call 76; (with_reducible refine (semblanceref14_HasState.calls k a0_0 _ _ l0_1 _ _ l0_2 _ _ l0_3 a2_3 t256 _ ?side1 ?side2 ?side3 ?side4 ?side5 ?side6 A23.out).mono ?_); (case side1 => repeat (first | exact (Kd.C_below HR0_1.out HB.out) | (with_reducible refine Kd.C_alloc ?_ _) | (with_reducible refine Kd.C_drewN ?_ _) | (with_reducible refine Kd.C_drew ?_))); (case side2 => exact HC0_1.out); (case side3 => repeat (first | exact (Kd.C_below HR0_2.out HB.out) | (with_reducible refine Kd.C_alloc ?_ _) | (with_reducible refine Kd.C_drewN ?_ _) | (with_reducible refine Kd.C_drew ?_))); (case side4 => exact HC0_2.out); (case side5 => repeat (first | exact (Kd.C_below HR0_3.out HB.out) | (with_reducible refine Kd.C_alloc ?_ _) | (with_reducible refine Kd.C_drewN ?_ _) | (with_reducible refine Kd.C_drew ?_))); (case side6 => exact HC0_3.out); rintro e w29 ⟨rfl, hb⟩; have n0_ := Aside0.mk (blk_below (grw BK253.out) hb); have n1_ := Aside0.mk (blk_below (grw BK254.out) hb); have n2_ := Aside0.mk (below_step (by repeat (first | (with_reducible first | exact HB.out | apply below_alloc | apply pw_below_drewN | apply below_drew1 | refine below_set ?_ GE253.out | refine below_set ?_ GE254.out) | exact HB.out)) hb); clear BK253; clear BK254; clear HB; have BK253 := n0_; have BK254 := n1_; have HB := n2_; clear n0_ n1_ n2_; (try clear hb); (try clear hb2); (try clear hk); (try clear hi)))
  go_ret
  exact ⟨by first | rfl | (simp [errW_none, errW_some] <;> rfl) | (simp [*, errW_none, errW_some] <;> rfl), by repeat (first | (with_reducible first | exact HB.out | apply below_alloc | apply pw_below_drewN | apply below_drew1 | refine below_set ?_ GE253.out | refine below_set ?_ GE254.out) | exact HB.out)⟩
 rw [if_neg c17] at H
 have c17b0 : (a1 == 7) = false := beq_eq_false_iff_ne.mpr c17
 have c17b1 : (a1 != 7) = true := bne_iff_ne.mpr c17
 by_cases c30 : a1 = 8
 rotate_left
 ·rw [if_neg c30] at H
  have c30b0 : (a1 == 8) = false := beq_eq_false_iff_ne.mpr c30
  have c30b1 : (a1 != 8) = true := bne_iff_ne.mpr c30
  replace H := Option.bind_eq_some_iff.mp H
  obtain ⟨t258, A430, H⟩ := H
  replace H : (some t258) = some r := H
  have A43 := Aside0.mk A430
  clear A430
  obtain rfl := Option.some.inj H
  go_enter Try.func41, Try.ntmps41
  go_wp2_with (first | ((with_reducible refine gate_dst (N := 3) rfl ?_); refine box_event ?hg (N := 3) ?hd (cs := #[.string a0_0, .slice A0_1 l0_1.length c0_1, .slice A0_2 l0_2.length c0_2, .slice A0_3 l0_3.length c0_3]) (t := 26) ?hr ?_; (case hd => rfl); (case hg => rfl); (case hr => first | (go_simp; done) | (go_simp; rfl)); intro gb253 hg w44 hbox hb; have hB_ := bz35_ hb (brw HB.out); have n0_ := Aside0.mk (below_step hB_ hb); have n1_ := Aside0.mk (hbox); have n2_ := Aside0.mk ((by rw [hg]; exact (below_size hB_) : w.heap.size ≤ gb253)); have n3_ := Aside0.mk ((by rw [hg]; exact (below_size hB_) : w.heap.size ≤ gb253)); clear HB; have HB := n0_; have BK253 := n1_; have GW253 := n2_; have GE253 := n3_; clear n0_ n1_ n2_ n3_; clear hb hbox hg) | ((with_reducible refine gate_dst (N := 5) rfl ?_); refine box_event ?hg (N := 5) ?hd (cs := #[.string a2_0, .slice A2_1 l2_1.length c2_1, .slice A2_2 l2_2.length c2_2, .string a2_3]) (t := 58) ?hr ?_; (case hd => rfl); (case hg => rfl); (case hr => first | (go_simp; done) | (go_simp; rfl)); intro gb254 hg w45 hbox hb; have hB_ := bz35_ hb (by repeat (first | (with_reducible first | exact HB.out | apply below_alloc | apply pw_below_drewN | apply below_drew1 | refine below_set ?_ GE253.out) | exact HB.out)); have n0_ := Aside0.mk (blk_below (grw BK253.out) hb); have n1_ := Aside0.mk (below_step hB_ hb); have n2_ := Aside0.mk (hbox); have n3_ := Aside0.mk ((by rw [hg]; exact (below_size hB_) : w.heap.size ≤ gb254)); have n4_ := Aside0.mk ((by rw [hg]; exact (below_size hB_) : w.heap.size ≤ gb254)); have n5_ := Aside0.mk ((by rw [hg]; exact Nat.ne_of_lt (blk_lt (grw BK253.out)) : gb253 ≠ gb254)); have n6_ := Aside0.mk ((by rw [hg]; exact Nat.ne_of_gt (blk_lt (grw BK253.out)) : gb254 ≠ gb253)); clear BK253; clear HB; have BK253 := n0_; have HB := n1_; have BK254 := n2_; have GW254 := n3_; have GE254 := n4_; have NB253_254 := n5_; have NB254_253 := n6_; clear n0_ n1_ n2_ n3_ n4_ n5_ n6_; clear hb hbox hg; have hnb46 := NB253_254.out; have hnc46 := NB254_253.out; obtain ⟨hcz47_0, hcz47_1, hcz47_2, hcz47_3⟩ := cz4_ BK253.out; obtain ⟨hfz47_0, hfz47_1, hfz47_2, hfz47_3⟩ := cf4_ BK253.out; obtain ⟨hcz48_0, hcz48_1, hcz48_2, hcz48_3⟩ := cz4_ BK254.out; obtain ⟨hfz48_0, hfz48_1, hfz48_2, hfz48_3⟩ := cf4_ BK254.out) | ((with_reducible refine gate_callee (f := 40) rfl ?_); refine goesL_ (some 45) rfl rfl Try.func40 (by kernel_rfl) rfl #[.agg #[.string a0_0, .slice A0_1 l0_1.length c0_1, .slice A0_2 l0_2.length c0_2, .slice A0_3 l0_3.length c0_3], .slice A2_2 l2_2.length c2_2, .bool true] rfl (by (try simp only [List.map_toArray, List.map_cons, List.map_nil]); first | done | rfl | (simp only [List.length_drop, List.length_take]; rfl)) ?_; (with_reducible refine (semblanceref14_acts.calls k a0_0 _ _ l0_1 _ _ l0_2 _ _ l0_3 _ _ l2_2 true t258 _ ?side1 ?side2 ?side3 ?side4 ?side5 ?side6 ?side7 ?side8 A43.out).mono ?_); (case side1 => repeat (first | exact (Kd.C_below HR0_1.out HB.out) | (with_reducible refine Kd.C_alloc ?_ _) | (with_reducible refine Kd.C_drewN ?_ _) | (with_reducible refine Kd.C_drew ?_))); (case side2 => exact HC0_1.out); (case side3 => repeat (first | exact (Kd.C_below HR0_2.out HB.out) | (with_reducible refine Kd.C_alloc ?_ _) | (with_reducible refine Kd.C_drewN ?_ _) | (with_reducible refine Kd.C_drew ?_))); (case side4 => exact HC0_2.out); (case side5 => repeat (first | exact (Kd.C_below HR0_3.out HB.out) | (with_reducible refine Kd.C_alloc ?_ _) | (with_reducible refine Kd.C_drewN ?_ _) | (with_reducible refine Kd.C_drew ?_))); (case side6 => exact HC0_3.out); (case side7 => repeat (first | exact (Kd.C_below HR2_2.out HB.out) | (with_reducible refine Kd.C_alloc ?_ _) | (with_reducible refine Kd.C_drewN ?_ _) | (with_reducible refine Kd.C_drew ?_))); (case side8 => exact HC2_2.out); rintro e w49 ⟨rfl, hb⟩; refine ⟨_, rfl, ?_⟩; have n0_ := Aside0.mk (blk_below (grw BK253.out) hb); have n1_ := Aside0.mk (blk_below (grw BK254.out) hb); have n2_ := Aside0.mk (below_step (by repeat (first | (with_reducible first | exact HB.out | apply below_alloc | apply pw_below_drewN | apply below_drew1 | refine below_set ?_ GE253.out | refine below_set ?_ GE254.out) | exact HB.out)) hb); clear BK253; clear BK254; clear HB; have BK253 := n0_; have BK254 := n1_; have HB := n2_; clear n0_ n1_ n2_; (try clear hb); (try clear hb2); (try clear hk); (try clear hi)))
  go_ret
  exact ⟨by first | rfl | (simp [errW_none, errW_some] <;> rfl) | (simp [*, errW_none, errW_some] <;> rfl), by repeat (first | (with_reducible first | exact HB.out | apply below_alloc | apply pw_below_drewN | apply below_drew1 | refine below_set ?_ GE253.out | refine below_set ?_ GE254.out) | exact HB.out)⟩

 rw [if_pos c30] at H
 have c30b0 : (a1 == 8) = true := beq_iff_eq.mpr c30
 have c30b1 : (a1 != 8) = false := bne_eq_false_iff_eq.mpr c30
 clear c30
 by_cases c31 : (l2_1.length : Int) = 0
 ·rw [if_pos c31] at H
  have c31b0 : ((l2_1.length : Int) == 0) = true := beq_iff_eq.mpr c31
  have c31b1 : ((l2_1.length : Int) != 0) = false := bne_eq_false_iff_eq.mpr c31
  clear c31
  obtain rfl := Option.some.inj H
  go_enter Try.func41, Try.ntmps41
  go_wp2_with (first | ((with_reducible refine gate_dst (N := 3) rfl ?_); refine box_event ?hg (N := 3) ?hd (cs := #[.string a0_0, .slice A0_1 l0_1.length c0_1, .slice A0_2 l0_2.length c0_2, .slice A0_3 l0_3.length c0_3]) (t := 26) ?hr ?_; (case hd => rfl); (case hg => rfl); (case hr => first | (go_simp; done) | (go_simp; rfl)); intro gb253 hg w32 hbox hb; have hB_ := bz35_ hb (brw HB.out); have n0_ := Aside0.mk (below_step hB_ hb); have n1_ := Aside0.mk (hbox); have n2_ := Aside0.mk ((by rw [hg]; exact (below_size hB_) : w.heap.size ≤ gb253)); have n3_ := Aside0.mk ((by rw [hg]; exact (below_size hB_) : w.heap.size ≤ gb253)); clear HB; have HB := n0_; have BK253 := n1_; have GW253 := n2_; have GE253 := n3_; clear n0_ n1_ n2_ n3_; clear hb hbox hg) | ((with_reducible refine gate_dst (N := 5) rfl ?_); refine box_event ?hg (N := 5) ?hd (cs := #[.string a2_0, .slice A2_1 l2_1.length c2_1, .slice A2_2 l2_2.length c2_2, .string a2_3]) (t := 58) ?hr ?_; (case hd => rfl); (case hg => rfl); (case hr => first | (go_simp; done) | (go_simp; rfl)); intro gb254 hg w33 hbox hb; have hB_ := bz35_ hb (by repeat (first | (with_reducible first | exact HB.out | apply below_alloc | apply pw_below_drewN | apply below_drew1 | refine below_set ?_ GE253.out) | exact HB.out)); have n0_ := Aside0.mk (blk_below (grw BK253.out) hb); have n1_ := Aside0.mk (below_step hB_ hb); have n2_ := Aside0.mk (hbox); have n3_ := Aside0.mk ((by rw [hg]; exact (below_size hB_) : w.heap.size ≤ gb254)); have n4_ := Aside0.mk ((by rw [hg]; exact (below_size hB_) : w.heap.size ≤ gb254)); have n5_ := Aside0.mk ((by rw [hg]; exact Nat.ne_of_lt (blk_lt (grw BK253.out)) : gb253 ≠ gb254)); have n6_ := Aside0.mk ((by rw [hg]; exact Nat.ne_of_gt (blk_lt (grw BK253.out)) : gb254 ≠ gb253)); clear BK253; clear HB; have BK253 := n0_; have HB := n1_; have BK254 := n2_; have GW254 := n3_; have GE254 := n4_; have NB253_254 := n5_; have NB254_253 := n6_; clear n0_ n1_ n2_ n3_ n4_ n5_ n6_; clear hb hbox hg; have hnb34 := NB254_253.out; have hnc34 := NB253_254.out; obtain ⟨hcz35_0, hcz35_1, hcz35_2, hcz35_3⟩ := cz4_ BK254.out; obtain ⟨hfz35_0, hfz35_1, hfz35_2, hfz35_3⟩ := cf4_ BK254.out))
  go_ret
  exact ⟨by first | rfl | (simp [errW_none, errW_some] <;> rfl) | (simp [*, errW_none, errW_some] <;> rfl), by repeat (first | (with_reducible first | exact HB.out | apply below_alloc | apply pw_below_drewN | apply below_drew1 | refine below_set ?_ GE253.out | refine below_set ?_ GE254.out) | exact HB.out)⟩
 rw [if_neg c31] at H
 have c31b0 : ((l2_1.length : Int) == 0) = false := beq_eq_false_iff_ne.mpr c31
 have c31b1 : ((l2_1.length : Int) != 0) = true := bne_iff_ne.mpr c31
 have c31b2 : ¬ (l2_1 = []) := fun h_ => c31 (by rw [h_]; rfl)
 replace H := Option.bind_eq_some_iff.mp H
 obtain ⟨t257, A360, H⟩ := H
 replace H : (some t257) = some r := H
 have A36 := Aside0.mk A360
 clear A360
 obtain rfl := Option.some.inj H
 go_enter Try.func41, Try.ntmps41
 go_wp2_with (first | ((with_reducible refine gate_dst (N := 3) rfl ?_); refine box_event ?hg (N := 3) ?hd (cs := #[.string a0_0, .slice A0_1 l0_1.length c0_1, .slice A0_2 l0_2.length c0_2, .slice A0_3 l0_3.length c0_3]) (t := 26) ?hr ?_; (case hd => rfl); (case hg => rfl); (case hr => first | (go_simp; done) | (go_simp; rfl)); intro gb253 hg w37 hbox hb; have hB_ := bz35_ hb (brw HB.out); have n0_ := Aside0.mk (below_step hB_ hb); have n1_ := Aside0.mk (hbox); have n2_ := Aside0.mk ((by rw [hg]; exact (below_size hB_) : w.heap.size ≤ gb253)); have n3_ := Aside0.mk ((by rw [hg]; exact (below_size hB_) : w.heap.size ≤ gb253)); clear HB; have HB := n0_; have BK253 := n1_; have GW253 := n2_; have GE253 := n3_; clear n0_ n1_ n2_ n3_; clear hb hbox hg) | ((with_reducible refine gate_dst (N := 5) rfl ?_); refine box_event ?hg (N := 5) ?hd (cs := #[.string a2_0, .slice A2_1 l2_1.length c2_1, .slice A2_2 l2_2.length c2_2, .string a2_3]) (t := 58) ?hr ?_; (case hd => rfl); (case hg => rfl); (case hr => first | (go_simp; done) | (go_simp; rfl)); intro gb254 hg w38 hbox hb; have hB_ := bz35_ hb (by repeat (first | (with_reducible first | exact HB.out | apply below_alloc | apply pw_below_drewN | apply below_drew1 | refine below_set ?_ GE253.out) | exact HB.out)); have n0_ := Aside0.mk (blk_below (grw BK253.out) hb); have n1_ := Aside0.mk (below_step hB_ hb); have n2_ := Aside0.mk (hbox); have n3_ := Aside0.mk ((by rw [hg]; exact (below_size hB_) : w.heap.size ≤ gb254)); have n4_ := Aside0.mk ((by rw [hg]; exact (below_size hB_) : w.heap.size ≤ gb254)); have n5_ := Aside0.mk ((by rw [hg]; exact Nat.ne_of_lt (blk_lt (grw BK253.out)) : gb253 ≠ gb254)); have n6_ := Aside0.mk ((by rw [hg]; exact Nat.ne_of_gt (blk_lt (grw BK253.out)) : gb254 ≠ gb253)); clear BK253; clear HB; have BK253 := n0_; have HB := n1_; have BK254 := n2_; have GW254 := n3_; have GE254 := n4_; have NB253_254 := n5_; have NB254_253 := n6_; clear n0_ n1_ n2_ n3_ n4_ n5_ n6_; clear hb hbox hg; have hnb39 := NB254_253.out; have hnc39 := NB253_254.out; obtain ⟨hcz40_0, hcz40_1, hcz40_2, hcz40_3⟩ := cz4_ BK254.out; obtain ⟨hfz40_0, hfz40_1, hfz40_2, hfz40_3⟩ := cf4_ BK254.out; obtain ⟨hcz41_0, hcz41_1, hcz41_2, hcz41_3⟩ := cz4_ BK253.out; obtain ⟨hfz41_0, hfz41_1, hfz41_2, hfz41_3⟩ := cf4_ BK253.out) | (go_at_call 74; (with_reducible refine (semblanceref14_expr.calls k a0_0 _ _ l0_1 _ _ l0_2 _ _ l0_3 _ _ l2_1 2 t257 _ ?side1 ?side2 ?side3 ?side4 ?side5 ?side6 ?side7 ?side8 A36.out).mono ?_); (case side1 => repeat (first | exact (Kd.C_below HR0_1.out HB.out) | (with_reducible refine Kd.C_alloc ?_ _) | (with_reducible refine Kd.C_drewN ?_ _) | (with_reducible refine Kd.C_drew ?_))); (case side2 => exact HC0_1.out); (case side3 => repeat (first | exact (Kd.C_below HR0_2.out HB.out) | (with_reducible refine Kd.C_alloc ?_ _) | (with_reducible refine Kd.C_drewN ?_ _) | (with_reducible refine Kd.C_drew ?_))); (case side4 => exact HC0_2.out); (case side5 => repeat (first | exact (Kd.C_below HR0_3.out HB.out) | (with_reducible refine Kd.C_alloc ?_ _) | (with_reducible refine Kd.C_drewN ?_ _) | (with_reducible refine Kd.C_drew ?_))); (case side6 => exact HC0_3.out); (case side7 => repeat (first | exact (Kd.C_below HR2_1.out HB.out) | (with_reducible refine Kd.C_alloc ?_ _) | (with_reducible refine Kd.C_drewN ?_ _) | (with_reducible refine Kd.C_drew ?_))); (case side8 => exact HC2_1.out); rintro e w42 ⟨rfl, hb⟩; have n0_ := Aside0.mk (blk_below (grw BK253.out) hb); have n1_ := Aside0.mk (blk_below (grw BK254.out) hb); have n2_ := Aside0.mk (below_step (by repeat (first | (with_reducible first | exact HB.out | apply below_alloc | apply pw_below_drewN | apply below_drew1 | refine below_set ?_ GE253.out | refine below_set ?_ GE254.out) | exact HB.out)) hb); clear BK253; clear BK254; clear HB; have BK253 := n0_; have BK254 := n1_; have HB := n2_; clear n0_ n1_ n2_; (try clear hb); (try clear hb2); (try clear hk); (try clear hi)))
 go_ret
 exact ⟨by first | rfl | (simp [errW_none, errW_some] <;> rfl) | (simp [*, errW_none, errW_some] <;> rfl), by repeat (first | (with_reducible first | exact HB.out | apply below_alloc | apply pw_below_drewN | apply below_drew1 | refine below_set ?_ GE253.out | refine below_set ?_ GE254.out) | exact HB.out)⟩
/-! ### semblanceref14_Broken: function 11 -/
-- USES semblance/semblanceref12.May
-- USES semblance/semblanceref14.item
-- USES semblance/semblanceref14.acts
-- USES semblance/semblanceref14.trans
/-- all lists of n places, one behind the other; each of them must answer -/
def brk_all {α : Type} : Nat → (Nat → Option (List α)) → Option (List α)
  | 0, _ => some []
  | n + 1, g => (brk_all n g).bind fun l => (g n).bind fun x => some (l ++ x)
theorem brk_mono {α : Type} {g g' : Nat → Option (List α)} (h : ∀ i, LeO (g i) (g' i)) : ∀ n, LeO (brk_all n g) (brk_all n g')
  | 0 => LeO.refl _
  | n + 1 => LeO.bind (brk_mono h n) (fun _ => LeO.bind (h n) (fun _ => LeO.refl _))
theorem brk_below {α : Type} {g : Nat → Option (List α)} {r : List α} : ∀ {n : Nat}, brk_all n g = some r → ∀ m, m ≤ n → ∃ l, brk_all m g = some l ∧ l.length ≤ r.length := by
  intro n
  induction n generalizing r with
  | zero => intro h m hm; have e : m = 0 := Nat.le_zero.1 hm; subst e; exact ⟨r, h, Nat.le_refl _⟩
  | succ n ih =>
    intro h m hm
    by_cases e : m = n + 1
    · subst e; exact ⟨r, h, Nat.le_refl _⟩
    · obtain ⟨l, hl, h⟩ := Option.bind_eq_some_iff.mp h
      obtain ⟨x, hx, h⟩ := Option.bind_eq_some_iff.mp h
      obtain rfl := Option.some.inj h
      obtain ⟨l', h1, h2⟩ := ih hl m (by omega)
      exact ⟨l', h1, by rw [List.length_append]; omega⟩
theorem brk_at {α : Type} {g : Nat → Option (List α)} {r l : List α} {n i : Nat} (h : brk_all n g = some r) (hi : i < n) (hl : brk_all i g = some l) : ∃ x, g i = some x ∧ l.length ≤ r.length := by
  obtain ⟨l', h1, h2⟩ := brk_below h (i + 1) hi
  obtain ⟨l2, h3, h1⟩ := Option.bind_eq_some_iff.mp h1
  obtain ⟨x, hx, h1⟩ := Option.bind_eq_some_iff.mp h1
  rw [hl] at h3
  obtain rfl := Option.some.inj h3
  obtain rfl := Option.some.inj h1
  exact ⟨x, hx, by rw [List.length_append] at h2; omega⟩
theorem brk_next {α : Type} {g : Nat → Option (List α)} {l : List α} {i : Nat} (hl : brk_all i g = some l) : ∀ x, g i = some x → brk_all (i + 1) g = some (l ++ x) := fun x hx => by
  show (brk_all i g).bind _ = _
  rw [hl, Option.bind_some, hx, Option.bind_some]
def semblanceref14_Broken.one (k : Nat) (a0 : ByteArray) (l1 : List ByteArray) (l2 : List (S51)) (l3 : List (S55)) (rule : Int) (i : Nat) (l : List (S58)) (m : Nat) : Option (List (S66)) :=
  (semblanceref14_trans.f k a0 l1 l2 l3 rule (rd_T58 l (m : Int)).f0 (rd_T58 l (m : Int)).f1 (rd_T58 l (m : Int)).f2 (rd_T58 l (m : Int)).f3).bind fun t => some (if t = true then [] else [⟨rule, (i : Int), (m : Int)⟩])
def semblanceref14_Broken.at_ (k : Nat) (a0 : ByteArray) (l1 : List ByteArray) (l2 : List (S51)) (l3 : List (S55)) (rule : Int) (i : Nat) : Option (List (S66)) :=
  if rule ≤ 5 then (semblanceref14_item.f k a0 l1 l2 l3 rule (i : Int)).bind fun t => some (if t = true then [] else [⟨rule, (i : Int), 0⟩])
  else if rule = 10 then (semblanceref14_acts.f k a0 l1 l2 l3 (rd_T55 l3 (i : Int)).f3 false).bind fun a => (semblanceref14_acts.f k a0 l1 l2 l3 (rd_T55 l3 (i : Int)).f4 false).bind fun b => some ((if a = true then [] else [⟨rule, (i : Int), 0⟩]) ++ (if b = true then [] else [⟨rule, (i : Int), 1⟩]))
  else brk_all (rd_T55 l3 (i : Int)).f5.length (semblanceref14_Broken.one k a0 l1 l2 l3 rule i (rd_T55 l3 (i : Int)).f5)
def semblanceref14_Broken.n (l1 : List ByteArray) (l2 : List (S51)) (l3 : List (S55)) (rule : Int) : Nat := if rule = 1 then l1.length else if (rule == 2 || rule == 3) = true then l2.length else l3.length
def semblanceref14_Broken.f (k : Nat) (a0 : ByteArray) (l1 : List ByteArray) (l2 : List (S51)) (l3 : List (S55)) (rule : Int) : Option (List (S66)) := (brk_all (semblanceref14_Broken.n l1 l2 l3 rule) (semblanceref14_Broken.at_ k a0 l1 l2 l3 rule)).bind fun l => if l.length ≤ 1000000 then some l else none
theorem semblanceref14_Broken.mono : ∀ a0 l1 l2 l3 rule k, LeO (semblanceref14_Broken.f k a0 l1 l2 l3 rule) (semblanceref14_Broken.f (k + 1) a0 l1 l2 l3 rule) := by
  intro a0 l1 l2 l3 rule k
  unfold semblanceref14_Broken.f
  exact LeO.bind (brk_mono (fun i => LeO.ite (LeO.bind (semblanceref14_item.mono _ _ _ _ _ _ k) (fun _ => LeO.refl _)) (LeO.ite (LeO.bind (semblanceref14_acts.mono _ _ _ _ _ _ k) (fun _ => LeO.bind (semblanceref14_acts.mono _ _ _ _ _ _ k) (fun _ => LeO.refl _))) (brk_mono (fun m => LeO.bind (semblanceref14_trans.mono _ _ _ _ _ _ _ _ _ k) (fun _ => LeO.refl _)) _))) _) (fun _ => LeO.refl _)
theorem semblanceref14_Broken.info : (Try.prog.info? 66).map (fun i => (i.zero, i.size, i.bytes)) = some (some (.agg #[(.int .i64 0), (.int .i64 0), (.int .i64 0)]), 3, 24) := by kernel_rfl
set_option maxHeartbeats 16000000 in
set_option maxRecDepth 100000 in
open Go.Proofs.Ytoeioigpkfgppaa.XReg in
theorem semblanceref14_Broken.calls (k : Nat) (a0_0 : ByteArray) (A0_1 : Option Addr) (c0_1 : Nat) (l0_1 : List ByteArray) (A0_2 : Option Addr) (c0_2 : Nat) (l0_2 : List (S51)) (A0_3 : Option Addr) (c0_3 : Nat) (l0_3 : List (S55)) (a1 : Int) (r : List (S66)) (w : World) (hr0_1 : Kd.C Kd.string w A0_1 l0_1.length l0_1) (hc0_1 : l0_1.length ≤ c0_1) (hr0_2 : Kd.C k51 w A0_2 l0_2.length l0_2) (hc0_2 : l0_2.length ≤ c0_2) (hr0_3 : Kd.C k55 w A0_3 l0_3.length l0_3) (hc0_3 : l0_3.length ≤ c0_3) (h : semblanceref14_Broken.f k a0_0 l0_1 l0_2 l0_3 a1 = some r) :
    Calls Try.prog 11 #[.agg #[.string a0_0, .slice A0_1 l0_1.length c0_1, .slice A0_2 l0_2.length c0_2, .slice A0_3 l0_3.length c0_3], .int .i64 a1] w fun e w' => ∃ v0_ : Value, e = .returned v0_ ∧ Kd.R k66 66 w' w.heap.size (fun _ => True) v0_ r ∧ Below w.heap.size w w' := by
  unfold semblanceref14_Broken.f at h
  obtain ⟨fl, hfl, h⟩ := Option.bind_eq_some_iff.mp h
  split at h
  case isFalse => cases h
  case isTrue hlen =>
  obtain rfl := Option.some.inj h
  have hm1 := Kd.C_max hr0_1
  have hm2 := Kd.C_max hr0_2
  have hm3 := Kd.C_max hr0_3
  have HR1 := Aside0.mk hr0_1
  have HR2 := Aside0.mk hr0_2
  have HR3 := Aside0.mk hr0_3
  have HC := Aside0.mk (And.intro hc0_1 (And.intro hc0_2 hc0_3))
  have HFL := Aside0.mk hfl
  have HLEN := Aside0.mk hlen
  have hu2 := Try.underlying26
  have hu3 := Try.underlying66
  have hu4 := Try.underlying55
  have hu5 := Try.underlying58
  have HB := Aside0.mk (Below.refl w.heap.size w)
  obtain ⟨C, hC⟩ : ∃ C, C = w.heap.size := ⟨_, rfl⟩
  clear h hfl hlen hr0_1 hr0_2 hr0_3 hc0_1 hc0_2 hc0_3
  go_enter Try.func11, Try.ntmps11
  go_upto_if 15 with (first | ((with_reducible refine gate_dst (N := 2) rfl ?_); refine box_event ?hg (N := 2) ?hd (cs := #[.string a0_0, .slice A0_1 l0_1.length c0_1, .slice A0_2 l0_2.length c0_2, .slice A0_3 l0_3.length c0_3]) (t := 26) ?hr ?_; (case hd => rfl); (case hg => rfl); (case hr => first | (go_simp; done) | (go_simp; rfl)); intro g2 hg u1 hbox hb; have HK := Aside0.mk hbox; have HB0 := HB; clear HB; have HB := Aside0.mk (below_step HB0.out hb); clear HB0 hb hbox hg) | ((with_reducible refine gate_dst (N := 10) rfl ?_); refine Kd.R_lit k66 _ 66 ?hg (N := 10) ?hd (xs := ([] : List (S66))) (inner := []) (ok := fun _ => True) (okp := fun _ => True) ?hr ?hp (fun _ hk => hk) trivial (Below.refl _ _) (Nat.le_refl _) (by simp) ?_; (case hd => rfl); (case hg => rfl); (case hr => first | (go_simp; done) | (go_simp; rfl)); (case hp => exact (Reps.none _ _)); intro v0 w5 ho6 hb hg_ hnew_; clear hg_ hnew_; have HO := Aside0.mk (Kd.R_lower ho6 (below_size HB.out)); have HK0 := HK; clear HK; have HK := Aside0.mk (blk_below HK0.out hb); have HB0 := HB; clear HB; have HB := Aside0.mk (below_step HB0.out hb); clear HK0 HB0 hb ho6; obtain ⟨hd0, hd1, hd2, hd3⟩ := cz4_ HK.out))
  obtain ⟨n, hn⟩ : ∃ n, semblanceref14_Broken.n l0_1 l0_2 l0_3 a1 = n := ⟨_, rfl⟩
  have HN := Aside0.mk hn
  rw [hn] at HFL
  clear hn
  obtain ⟨n1, hn1⟩ : ∃ n1, (if a1 = 1 then l0_1.length else l0_3.length) = n1 := ⟨_, rfl⟩
  have HN1 := Aside0.mk hn1
  clear hn1
  go_cut [6] (fun v6 wc => v6 = .int .i64 (n1 : Int) ∧ Aside0 (Kd.R k66 66 wc w.heap.size (fun _ => True) v0 []) ∧ Aside0 (wc.heap[g2]? = some (.cells #[.string a0_0, .slice A0_1 l0_1.length c0_1, .slice A0_2 l0_2.length c0_2, .slice A0_3 l0_3.length c0_3] 26 (0, 0))) ∧ Aside0 (Below w.heap.size w wc))
  case first =>
    by_cases d1 : a1 = 1
    · have d1b : (a1 == 1) = true := beq_iff_eq.mpr d1
      have HD1 := Aside0.mk d1
      clear d1
      go_wp2
      go_meet
      case rel => exact ⟨by rw [← HN1.out, if_pos HD1.out], HO, HK, HB⟩
    · have d1b : (a1 == 1) = false := beq_eq_false_iff_ne.mpr d1
      have HD1 := Aside0.mk d1
      clear d1
      go_wp2
      go_meet
      case rel => exact ⟨by rw [← HN1.out, if_neg HD1.out], HO, HK, HB⟩
  case rest =>
    clear HO HK HB hd0 hd1 hd2 hd3
    obtain ⟨rfl, HO, HK, HB⟩ := hcut
    go_upto_region 5 with (fail)
    go_cut [24] (fun v24 wc => v24 = .bool (a1 == 2 || a1 == 3) ∧ Aside0 (Kd.R k66 66 wc w.heap.size (fun _ => True) v0 []) ∧ Aside0 (wc.heap[g2]? = some (.cells #[.string a0_0, .slice A0_1 l0_1.length c0_1, .slice A0_2 l0_2.length c0_2, .slice A0_3 l0_3.length c0_3] 26 (0, 0))) ∧ Aside0 (Below w.heap.size w wc))
    case first =>
      cases q2 : (a1 == 2) <;> cases q3 : (a1 == 3) <;>
        (go_wp2
         go_meet
         case rel => exact ⟨by rw [q2, q3]; rfl, HO, HK, HB⟩)
    case rest =>
      clear HO HK HB
      obtain ⟨rfl, HO, HK, HB⟩ := hcut
      obtain ⟨hd0, hd1, hd2, hd3⟩ := cz4_ HK.out
      go_upto_if 24 with (fail)
      go_cut [6] (fun v6 wc => v6 = .int .i64 (n : Int) ∧ Aside0 (Kd.R k66 66 wc w.heap.size (fun _ => True) v0 []) ∧ Aside0 (wc.heap[g2]? = some (.cells #[.string a0_0, .slice A0_1 l0_1.length c0_1, .slice A0_2 l0_2.length c0_2, .slice A0_3 l0_3.length c0_3] 26 (0, 0))) ∧ Aside0 (Below w.heap.size w wc))
      case first =>
        cases q : (a1 == 2 || a1 == 3) with
        | true =>
          have HQ := Aside0.mk q
          go_wp2
          go_meet
          case rel => exact ⟨by rw [← HN.out]; unfold semblanceref14_Broken.n; rw [if_neg (fun e => by have h1 := HQ.out; rw [e] at h1; exact absurd h1 (by decide)), if_pos HQ.out], HO, HK, HB⟩
        | false =>
          have HQ := Aside0.mk q
          go_wp2
          go_meet
          case rel => exact ⟨by rw [← HN.out]; unfold semblanceref14_Broken.n; rw [if_neg (show ¬ (a1 == 2 || a1 == 3) = true by rw [HQ.out]; decide), HN1.out], HO, HK, HB⟩
      case rest =>
        clear HO HK HB hd0 hd1 hd2 hd3
        obtain ⟨rfl, HO, HK, HB⟩ := hcut
        go_wp2_with fail
        go_loopg [5, 7] n (fun kq v5' v7 wr' => ∃ (v5 : Value) (wr : World) (i : Nat) (ol : List (S66)), v5 = v5' ∧ wr = wr' ∧ Aside0 (n - i = kq) ∧ Aside0 (i ≤ n) ∧ v7 = .int .i64 (i : Int) ∧ Aside0 (brk_all i (semblanceref14_Broken.at_ k a0_0 l0_1 l0_2 l0_3 a1) = some ol) ∧ Aside0 (Kd.R k66 66 wr w.heap.size (fun _ => True) v5 ol) ∧ Aside0 (wr.heap[g2]? = some (.cells #[.string a0_0, .slice A0_1 l0_1.length c0_1, .slice A0_2 l0_2.length c0_2, .slice A0_3 l0_3.length c0_3] 26 (0, 0))) ∧ Aside0 (Below w.heap.size w wr))
        case atStart => exact ⟨_, _, 0, [], rfl, rfl, ⟨rfl⟩, ⟨Nat.zero_le _⟩, rfl, ⟨rfl⟩, HO, HK, HB⟩
        case round =>
          obtain ⟨v5, wr, i, ol, rfl, rfl, HKQ, HI, rfl, HOL, HO, HK, HB⟩ := hrel
          obtain ⟨hd0, hd1, hd2, hd3⟩ := cz4_ HK.out
          have hnb : n ≤ 9223372036854775807 := by
            rw [← HN.out]; unfold semblanceref14_Broken.n; split
            · exact hm1
            · split
              · exact hm2
              · exact hm3
          by_cases hi : i < n
          · have hlt : decide ((i : Int) < (n : Int)) = true := decide_eq_true (by omega)
            obtain ⟨xx, hat, hlo⟩ := brk_at HFL.out hi HOL.out
            have HLO := Aside0.mk (Nat.le_trans hlo HLEN.out)
            have HNX := Aside0.mk (brk_next HOL.out)
            obtain ⟨A5, c5, rfl⟩ := Kd.R_slice HO.out
            clear hlo
            by_cases d5 : a1 ≤ 5
            · have d5b : decide (a1 ≤ 5) = true := decide_eq_true d5
              unfold semblanceref14_Broken.at_ at hat
              rw [if_pos d5] at hat
              obtain ⟨t, ht, hat⟩ := Option.bind_eq_some_iff.mp hat
              have HT := Aside0.mk ht
              have HAT : Aside0 (semblanceref14_Broken.at_ k a0_0 l0_1 l0_2 l0_3 a1 i = some (if t = true then [] else [⟨a1, (i : Int), 0⟩])) := ⟨by unfold semblanceref14_Broken.at_; rw [if_pos d5, HT.out]; rfl⟩
              clear d5 hat ht
              cases t with
              | true =>
                go_wp2_with (first | (go_at_call 39; (with_reducible refine (semblanceref14_item.calls k a0_0 A0_1 c0_1 l0_1 A0_2 c0_2 l0_2 A0_3 c0_3 l0_3 a1 (i : Int) true _ (Kd.C_below HR1.out HB.out) HC.out.1 (Kd.C_below HR2.out HB.out) HC.out.2.1 (Kd.C_below HR3.out HB.out) HC.out.2.2 HT.out).mono ?_); rintro e u3 ⟨rfl, hb2⟩; have HO3 := Aside0.mk (Kd.R_below HO.out hb2); have HB3 := Aside0.mk (below_step HB.out hb2); have HK3 := Aside0.mk (blk_below HK.out hb2); obtain ⟨hd0, hd1, hd2, hd3⟩ := cz4_ HK3.out; clear hb2))
                go_roundg (n - (i + 1))
                case measure => have := HKQ.out; omega
                case rel => exact ⟨_, _, i + 1, _, rfl, rfl, ⟨rfl⟩, ⟨hi⟩, by go_num, ⟨HNX.out _ (HAT.out)⟩, ⟨by simpa using HO3.out⟩, HK3, HB3⟩
              | false =>
                go_wp2_with (first | (go_at_call 39; (with_reducible refine (semblanceref14_item.calls k a0_0 A0_1 c0_1 l0_1 A0_2 c0_2 l0_2 A0_3 c0_3 l0_3 a1 (i : Int) false _ (Kd.C_below HR1.out HB.out) HC.out.1 (Kd.C_below HR2.out HB.out) HC.out.2.1 (Kd.C_below HR3.out HB.out) HC.out.2.2 HT.out).mono ?_); rintro e u3 ⟨rfl, hb2⟩; have HO3 := Aside0.mk (Kd.R_below HO.out hb2); have HB3 := Aside0.mk (below_step HB.out hb2); have HK3 := Aside0.mk (blk_below HK.out hb2); obtain ⟨hd0, hd1, hd2, hd3⟩ := cz4_ HK3.out; clear hb2) | ((with_reducible refine gate_builtin (b := .append) (xs := #[.tmp 40, .tmp 44]) rfl ?_); at_builtin; refine Kd.R_append k66 (w0 := w) w.heap.size rfl (.tmp 40) (.tmp 44) 29 66 (.agg #[.int .i64 0, .int .i64 0, .int .i64 0]) 24 rfl Try.underlying29 semblanceref14_Broken.info rfl (by decide) (by omega) _ (ol) (⟨a1, (i : Int), 0⟩ : S66) [.int .i64 a1, .int .i64 (i : Int), .int .i64 0] (fun _ => True) (fun _ => False) rfl rfl ?aP (fun _ hk => hk.elim) ?aF ?aO ?aB ?aS ?aL ?_; (case aP => exact k66_mkM _ _ _ (⟨a1, (i : Int), 0⟩ : S66)); (case aF => exact (fun _ _ => trivial)); (case aO => exact HO3.out); (case aB => exact HB3.out); (case aS => exact below_size HB3.out); (case aL => have := HLO.out; (try simp only [List.length_append, List.length_cons, List.length_nil]); omega); intro v1 w3 ho hb hg hat; obtain ⟨A6, c6, rfl⟩ := Kd.R_slice ho; (try simp only [List.length_append, List.length_cons, List.length_nil, Nat.zero_add] at ho); have HK4 := Aside0.mk (blk_grown HK3.out hg (Kd.R_ne HO3.out HK3.out (by decide))); have HO4 := Aside0.mk ho; have HB4 := Aside0.mk hb; obtain ⟨hd0, hd1, hd2, hd3⟩ := cz4_ HK4.out; clear ho hb hg hat))
                go_roundg (n - (i + 1))
                case measure => have := HKQ.out; omega
                case rel => exact ⟨_, _, i + 1, _, rfl, rfl, ⟨rfl⟩, ⟨hi⟩, by go_num, ⟨HNX.out _ (HAT.out)⟩, ⟨by simpa using HO4.out⟩, HK4, HB4⟩
            · have d5b : decide (a1 ≤ 5) = false := decide_eq_false d5
              have hnl : n = l0_3.length := by
                rw [← HN.out]; unfold semblanceref14_Broken.n
                rw [if_neg (by omega), if_neg]
                intro e
                rw [Bool.or_eq_true] at e
                rcases e with e | e
                · have := beq_iff_eq.1 e; omega
                · have := beq_iff_eq.1 e; omega
              obtain ⟨ad, A3, c3, A4, c4, A5x, c5x, e1, hx0, hx1, hx2, hx3, hx4, hx5, hl3, hi3, hl4, hi4, hl5, hi5⟩ := at_T55 HR3.out (i : Int) (by omega) (by omega)
              subst e1
              rw [Int.toNat_natCast] at hx0 hx1 hx2 hx3 hx4 hx5
              replace hx0 := pw_cell_below HB.out hx0
              replace hx1 := pw_cell_below HB.out hx1
              replace hx2 := pw_cell_below HB.out hx2
              replace hx3 := pw_cell_below HB.out hx3
              replace hx4 := pw_cell_below HB.out hx4
              replace hx5 := pw_cell_below HB.out hx5
              have HI3 := Aside0.mk hi3
              have HI4 := Aside0.mk hi4
              have HI5 := Aside0.mk hi5
              have hi9 : i < l0_3.length := by omega
              have hm5 := Kd.C_max hi5
              have hat0 := hat
              have HATO := Aside0.mk hat
              unfold semblanceref14_Broken.at_ at hat
              rw [if_neg d5] at hat
              clear hat0 hi3 hi4 hi5 hnl
              generalize hxx : rd_T55 l0_3 (i : Int) = x at *
              by_cases d10 : a1 = 10
              · have d10b : (a1 == 10) = true := beq_iff_eq.mpr d10
                rw [if_pos d10] at hat
                obtain ⟨ta, hta, hat⟩ := Option.bind_eq_some_iff.mp hat
                obtain ⟨tb, htb, hat⟩ := Option.bind_eq_some_iff.mp hat
                have HTA := Aside0.mk hta
                have HTB := Aside0.mk htb
                have hat := Option.some.inj hat
                have HAT : Aside0 (semblanceref14_Broken.at_ k a0_0 l0_1 l0_2 l0_3 a1 i = some ((if ta = true then [] else [⟨a1, (i : Int), 0⟩]) ++ (if tb = true then [] else [⟨a1, (i : Int), 1⟩]))) := ⟨by rw [HATO.out, ← hat]⟩
                clear d5 d10 hta htb hat HATO hxx
                cases ta with
                | true =>
                  cases tb with
                  | true =>
                    go_wp2_with (first | ((with_reducible refine gate_dst (N := 8) rfl ?_); refine box_event ?hg (N := 8) ?hd (cs := #[.string (⟨#[]⟩ : ByteArray), .int .i64 0, .int .i64 0, .slice none 0 0, .slice none 0 0, .slice none 0 0]) (t := 55) ?hr ?_; (case hd => rfl); (case hg => rfl); (case hr => first | (go_simp; done) | (go_simp; rfl)); intro g hg u1 hbox hb; have HGE := Aside0.mk (Nat.le_of_eq hg.symm); clear hg) | (refine box_put (vs := #[.string x.f0, .int .i64 x.f1, .int .i64 x.f2, .slice A3 x.f3.length c3, .slice A4 x.f4.length c4, .slice A5x x.f5.length c5x]) rfl rfl (.tmp 8) (.tmp 50) rfl rfl rfl hbox (by kernel_rfl) rfl (by simp [Value.oneCell']) hb HGE.out ?_; intro u2 hbox2 hb2; have HX2 := Aside0.mk hbox2; obtain ⟨hz0, hz1, hz2, hz3, hz4, hz5⟩ := cz6_ hbox2; have HO2 := Aside0.mk (Kd.R_below HO.out hb2); have HB2 := Aside0.mk (below_step HB.out hb2); have HK2 := Aside0.mk (blk_below HK.out hb2); obtain ⟨hd0, hd1, hd2, hd3⟩ := cz4_ HK2.out; clear hbox hb hbox2 hb2) | (go_at_call 40; (with_reducible refine (semblanceref14_acts.calls k a0_0 A0_1 c0_1 l0_1 A0_2 c0_2 l0_2 _ c0_3 l0_3 A3 c3 x.f3 false true _ (Kd.C_below HR1.out HB2.out) HC.out.1 (Kd.C_below HR2.out HB2.out) HC.out.2.1 (Kd.C_below HR3.out HB2.out) HC.out.2.2 (Kd.C_below HI3.out HB2.out) hl3 HTA.out).mono ?_); rintro e u3 ⟨rfl, hb2⟩; have HO3 := Aside0.mk (Kd.R_below HO2.out hb2); have HB3 := Aside0.mk (below_step HB2.out hb2); have HK3 := Aside0.mk (blk_below HK2.out hb2); obtain ⟨hd0, hd1, hd2, hd3⟩ := cz4_ HK3.out; have HX3 := Aside0.mk (blk_below HX2.out hb2); obtain ⟨hz0, hz1, hz2, hz3, hz4, hz5⟩ := cz6_ HX3.out; clear hb2) | (go_at_call 40; (with_reducible refine (semblanceref14_acts.calls k a0_0 A0_1 c0_1 l0_1 A0_2 c0_2 l0_2 _ c0_3 l0_3 A4 c4 x.f4 false true _ (Kd.C_below HR1.out HB3.out) HC.out.1 (Kd.C_below HR2.out HB3.out) HC.out.2.1 (Kd.C_below HR3.out HB3.out) HC.out.2.2 (Kd.C_below HI4.out HB3.out) hl4 HTB.out).mono ?_); rintro e u5 ⟨rfl, hb2⟩; have HO5 := Aside0.mk (Kd.R_below HO3.out hb2); have HB5 := Aside0.mk (below_step HB3.out hb2); have HK5 := Aside0.mk (blk_below HK3.out hb2); obtain ⟨hd0, hd1, hd2, hd3⟩ := cz4_ HK5.out; have HX5 := Aside0.mk (blk_below HX3.out hb2); obtain ⟨hz0, hz1, hz2, hz3, hz4, hz5⟩ := cz6_ HX5.out; clear hb2))
                    go_roundg (n - (i + 1))
                    case measure => have := HKQ.out; omega
                    case rel => exact ⟨_, _, i + 1, _, rfl, rfl, ⟨rfl⟩, ⟨hi⟩, by go_num, ⟨HNX.out _ (HAT.out)⟩, ⟨by simpa using HO5.out⟩, HK5, HB5⟩
                  | false =>
                    go_wp2_with (first | ((with_reducible refine gate_dst (N := 8) rfl ?_); refine box_event ?hg (N := 8) ?hd (cs := #[.string (⟨#[]⟩ : ByteArray), .int .i64 0, .int .i64 0, .slice none 0 0, .slice none 0 0, .slice none 0 0]) (t := 55) ?hr ?_; (case hd => rfl); (case hg => rfl); (case hr => first | (go_simp; done) | (go_simp; rfl)); intro g hg u1 hbox hb; have HGE := Aside0.mk (Nat.le_of_eq hg.symm); clear hg) | (refine box_put (vs := #[.string x.f0, .int .i64 x.f1, .int .i64 x.f2, .slice A3 x.f3.length c3, .slice A4 x.f4.length c4, .slice A5x x.f5.length c5x]) rfl rfl (.tmp 8) (.tmp 50) rfl rfl rfl hbox (by kernel_rfl) rfl (by simp [Value.oneCell']) hb HGE.out ?_; intro u2 hbox2 hb2; have HX2 := Aside0.mk hbox2; obtain ⟨hz0, hz1, hz2, hz3, hz4, hz5⟩ := cz6_ hbox2; have HO2 := Aside0.mk (Kd.R_below HO.out hb2); have HB2 := Aside0.mk (below_step HB.out hb2); have HK2 := Aside0.mk (blk_below HK.out hb2); obtain ⟨hd0, hd1, hd2, hd3⟩ := cz4_ HK2.out; clear hbox hb hbox2 hb2) | (go_at_call 40; (with_reducible refine (semblanceref14_acts.calls k a0_0 A0_1 c0_1 l0_1 A0_2 c0_2 l0_2 _ c0_3 l0_3 A3 c3 x.f3 false true _ (Kd.C_below HR1.out HB2.out) HC.out.1 (Kd.C_below HR2.out HB2.out) HC.out.2.1 (Kd.C_below HR3.out HB2.out) HC.out.2.2 (Kd.C_below HI3.out HB2.out) hl3 HTA.out).mono ?_); rintro e u3 ⟨rfl, hb2⟩; have HO3 := Aside0.mk (Kd.R_below HO2.out hb2); have HB3 := Aside0.mk (below_step HB2.out hb2); have HK3 := Aside0.mk (blk_below HK2.out hb2); obtain ⟨hd0, hd1, hd2, hd3⟩ := cz4_ HK3.out; have HX3 := Aside0.mk (blk_below HX2.out hb2); obtain ⟨hz0, hz1, hz2, hz3, hz4, hz5⟩ := cz6_ HX3.out; clear hb2) | (go_at_call 40; (with_reducible refine (semblanceref14_acts.calls k a0_0 A0_1 c0_1 l0_1 A0_2 c0_2 l0_2 _ c0_3 l0_3 A4 c4 x.f4 false false _ (Kd.C_below HR1.out HB3.out) HC.out.1 (Kd.C_below HR2.out HB3.out) HC.out.2.1 (Kd.C_below HR3.out HB3.out) HC.out.2.2 (Kd.C_below HI4.out HB3.out) hl4 HTB.out).mono ?_); rintro e u5 ⟨rfl, hb2⟩; have HO5 := Aside0.mk (Kd.R_below HO3.out hb2); have HB5 := Aside0.mk (below_step HB3.out hb2); have HK5 := Aside0.mk (blk_below HK3.out hb2); obtain ⟨hd0, hd1, hd2, hd3⟩ := cz4_ HK5.out; have HX5 := Aside0.mk (blk_below HX3.out hb2); obtain ⟨hz0, hz1, hz2, hz3, hz4, hz5⟩ := cz6_ HX5.out; clear hb2) | ((with_reducible refine gate_builtin (b := .append) (xs := #[.tmp 69, .tmp 73]) rfl ?_); at_builtin; refine Kd.R_append k66 (w0 := w) w.heap.size rfl (.tmp 69) (.tmp 73) 29 66 (.agg #[.int .i64 0, .int .i64 0, .int .i64 0]) 24 rfl Try.underlying29 semblanceref14_Broken.info rfl (by decide) (by omega) _ (ol) (⟨a1, (i : Int), 1⟩ : S66) [.int .i64 a1, .int .i64 (i : Int), .int .i64 1] (fun _ => True) (fun _ => False) rfl rfl ?aP (fun _ hk => hk.elim) ?aF ?aO ?aB ?aS ?aL ?_; (case aP => exact k66_mkM _ _ _ (⟨a1, (i : Int), 1⟩ : S66)); (case aF => exact (fun _ _ => trivial)); (case aO => exact HO5.out); (case aB => exact HB5.out); (case aS => exact below_size HB5.out); (case aL => have := HLO.out; (try simp only [List.length_append, List.length_cons, List.length_nil]); omega); intro v1 w3 ho hb hg hat; obtain ⟨A6, c6, rfl⟩ := Kd.R_slice ho; (try simp only [List.length_append, List.length_cons, List.length_nil, Nat.zero_add] at ho); have HK6 := Aside0.mk (blk_grown HK5.out hg (Kd.R_ne HO5.out HK5.out (by decide))); have HX6 := Aside0.mk (blk_grown HX5.out hg (Kd.R_ne HO5.out HX5.out (by decide))); obtain ⟨hz0, hz1, hz2, hz3, hz4, hz5⟩ := cz6_ HX6.out; have HO6 := Aside0.mk ho; have HB6 := Aside0.mk hb; obtain ⟨hd0, hd1, hd2, hd3⟩ := cz4_ HK6.out; clear ho hb hg hat))
                    go_roundg (n - (i + 1))
                    case measure => have := HKQ.out; omega
                    case rel => exact ⟨_, _, i + 1, _, rfl, rfl, ⟨rfl⟩, ⟨hi⟩, by go_num, ⟨HNX.out _ (HAT.out)⟩, ⟨by simpa using HO6.out⟩, HK6, HB6⟩
                | false =>
                  cases tb with
                  | true =>
                    go_wp2_with (first | ((with_reducible refine gate_dst (N := 8) rfl ?_); refine box_event ?hg (N := 8) ?hd (cs := #[.string (⟨#[]⟩ : ByteArray), .int .i64 0, .int .i64 0, .slice none 0 0, .slice none 0 0, .slice none 0 0]) (t := 55) ?hr ?_; (case hd => rfl); (case hg => rfl); (case hr => first | (go_simp; done) | (go_simp; rfl)); intro g hg u1 hbox hb; have HGE := Aside0.mk (Nat.le_of_eq hg.symm); clear hg) | (refine box_put (vs := #[.string x.f0, .int .i64 x.f1, .int .i64 x.f2, .slice A3 x.f3.length c3, .slice A4 x.f4.length c4, .slice A5x x.f5.length c5x]) rfl rfl (.tmp 8) (.tmp 50) rfl rfl rfl hbox (by kernel_rfl) rfl (by simp [Value.oneCell']) hb HGE.out ?_; intro u2 hbox2 hb2; have HX2 := Aside0.mk hbox2; obtain ⟨hz0, hz1, hz2, hz3, hz4, hz5⟩ := cz6_ hbox2; have HO2 := Aside0.mk (Kd.R_below HO.out hb2); have HB2 := Aside0.mk (below_step HB.out hb2); have HK2 := Aside0.mk (blk_below HK.out hb2); obtain ⟨hd0, hd1, hd2, hd3⟩ := cz4_ HK2.out; clear hbox hb hbox2 hb2) | (go_at_call 40; (with_reducible refine (semblanceref14_acts.calls k a0_0 A0_1 c0_1 l0_1 A0_2 c0_2 l0_2 _ c0_3 l0_3 A3 c3 x.f3 false false _ (Kd.C_below HR1.out HB2.out) HC.out.1 (Kd.C_below HR2.out HB2.out) HC.out.2.1 (Kd.C_below HR3.out HB2.out) HC.out.2.2 (Kd.C_below HI3.out HB2.out) hl3 HTA.out).mono ?_); rintro e u3 ⟨rfl, hb2⟩; have HO3 := Aside0.mk (Kd.R_below HO2.out hb2); have HB3 := Aside0.mk (below_step HB2.out hb2); have HK3 := Aside0.mk (blk_below HK2.out hb2); obtain ⟨hd0, hd1, hd2, hd3⟩ := cz4_ HK3.out; have HX3 := Aside0.mk (blk_below HX2.out hb2); obtain ⟨hz0, hz1, hz2, hz3, hz4, hz5⟩ := cz6_ HX3.out; clear hb2) | ((with_reducible refine gate_builtin (b := .append) (xs := #[.tmp 58, .tmp 62]) rfl ?_); at_builtin; refine Kd.R_append k66 (w0 := w) w.heap.size rfl (.tmp 58) (.tmp 62) 29 66 (.agg #[.int .i64 0, .int .i64 0, .int .i64 0]) 24 rfl Try.underlying29 semblanceref14_Broken.info rfl (by decide) (by omega) _ (ol) (⟨a1, (i : Int), 0⟩ : S66) [.int .i64 a1, .int .i64 (i : Int), .int .i64 0] (fun _ => True) (fun _ => False) rfl rfl ?aP (fun _ hk => hk.elim) ?aF ?aO ?aB ?aS ?aL ?_; (case aP => exact k66_mkM _ _ _ (⟨a1, (i : Int), 0⟩ : S66)); (case aF => exact (fun _ _ => trivial)); (case aO => exact HO3.out); (case aB => exact HB3.out); (case aS => exact below_size HB3.out); (case aL => have := HLO.out; (try simp only [List.length_append, List.length_cons, List.length_nil]); omega); intro v1 w3 ho hb hg hat; obtain ⟨A6, c6, rfl⟩ := Kd.R_slice ho; (try simp only [List.length_append, List.length_cons, List.length_nil, Nat.zero_add] at ho); have HK4 := Aside0.mk (blk_grown HK3.out hg (Kd.R_ne HO3.out HK3.out (by decide))); have HX4 := Aside0.mk (blk_grown HX3.out hg (Kd.R_ne HO3.out HX3.out (by decide))); obtain ⟨hz0, hz1, hz2, hz3, hz4, hz5⟩ := cz6_ HX4.out; have HO4 := Aside0.mk ho; have HB4 := Aside0.mk hb; obtain ⟨hd0, hd1, hd2, hd3⟩ := cz4_ HK4.out; clear ho hb hg hat) | (go_at_call 40; (with_reducible refine (semblanceref14_acts.calls k a0_0 A0_1 c0_1 l0_1 A0_2 c0_2 l0_2 _ c0_3 l0_3 A4 c4 x.f4 false true _ (Kd.C_below HR1.out HB4.out) HC.out.1 (Kd.C_below HR2.out HB4.out) HC.out.2.1 (Kd.C_below HR3.out HB4.out) HC.out.2.2 (Kd.C_below HI4.out HB4.out) hl4 HTB.out).mono ?_); rintro e u5 ⟨rfl, hb2⟩; have HO5 := Aside0.mk (Kd.R_below HO4.out hb2); have HB5 := Aside0.mk (below_step HB4.out hb2); have HK5 := Aside0.mk (blk_below HK4.out hb2); obtain ⟨hd0, hd1, hd2, hd3⟩ := cz4_ HK5.out; have HX5 := Aside0.mk (blk_below HX4.out hb2); obtain ⟨hz0, hz1, hz2, hz3, hz4, hz5⟩ := cz6_ HX5.out; clear hb2))
                    go_roundg (n - (i + 1))
                    case measure => have := HKQ.out; omega
                    case rel => exact ⟨_, _, i + 1, _, rfl, rfl, ⟨rfl⟩, ⟨hi⟩, by go_num, ⟨HNX.out _ (HAT.out)⟩, ⟨by simpa using HO5.out⟩, HK5, HB5⟩
                  | false =>
                    go_wp2_with (first | ((with_reducible refine gate_dst (N := 8) rfl ?_); refine box_event ?hg (N := 8) ?hd (cs := #[.string (⟨#[]⟩ : ByteArray), .int .i64 0, .int .i64 0, .slice none 0 0, .slice none 0 0, .slice none 0 0]) (t := 55) ?hr ?_; (case hd => rfl); (case hg => rfl); (case hr => first | (go_simp; done) | (go_simp; rfl)); intro g hg u1 hbox hb; have HGE := Aside0.mk (Nat.le_of_eq hg.symm); clear hg) | (refine box_put (vs := #[.string x.f0, .int .i64 x.f1, .int .i64 x.f2, .slice A3 x.f3.length c3, .slice A4 x.f4.length c4, .slice A5x x.f5.length c5x]) rfl rfl (.tmp 8) (.tmp 50) rfl rfl rfl hbox (by kernel_rfl) rfl (by simp [Value.oneCell']) hb HGE.out ?_; intro u2 hbox2 hb2; have HX2 := Aside0.mk hbox2; obtain ⟨hz0, hz1, hz2, hz3, hz4, hz5⟩ := cz6_ hbox2; have HO2 := Aside0.mk (Kd.R_below HO.out hb2); have HB2 := Aside0.mk (below_step HB.out hb2); have HK2 := Aside0.mk (blk_below HK.out hb2); obtain ⟨hd0, hd1, hd2, hd3⟩ := cz4_ HK2.out; clear hbox hb hbox2 hb2) | (go_at_call 40; (with_reducible refine (semblanceref14_acts.calls k a0_0 A0_1 c0_1 l0_1 A0_2 c0_2 l0_2 _ c0_3 l0_3 A3 c3 x.f3 false false _ (Kd.C_below HR1.out HB2.out) HC.out.1 (Kd.C_below HR2.out HB2.out) HC.out.2.1 (Kd.C_below HR3.out HB2.out) HC.out.2.2 (Kd.C_below HI3.out HB2.out) hl3 HTA.out).mono ?_); rintro e u3 ⟨rfl, hb2⟩; have HO3 := Aside0.mk (Kd.R_below HO2.out hb2); have HB3 := Aside0.mk (below_step HB2.out hb2); have HK3 := Aside0.mk (blk_below HK2.out hb2); obtain ⟨hd0, hd1, hd2, hd3⟩ := cz4_ HK3.out; have HX3 := Aside0.mk (blk_below HX2.out hb2); obtain ⟨hz0, hz1, hz2, hz3, hz4, hz5⟩ := cz6_ HX3.out; clear hb2) | ((with_reducible refine gate_builtin (b := .append) (xs := #[.tmp 58, .tmp 62]) rfl ?_); at_builtin; refine Kd.R_append k66 (w0 := w) w.heap.size rfl (.tmp 58) (.tmp 62) 29 66 (.agg #[.int .i64 0, .int .i64 0, .int .i64 0]) 24 rfl Try.underlying29 semblanceref14_Broken.info rfl (by decide) (by omega) _ (ol) (⟨a1, (i : Int), 0⟩ : S66) [.int .i64 a1, .int .i64 (i : Int), .int .i64 0] (fun _ => True) (fun _ => False) rfl rfl ?aP (fun _ hk => hk.elim) ?aF ?aO ?aB ?aS ?aL ?_; (case aP => exact k66_mkM _ _ _ (⟨a1, (i : Int), 0⟩ : S66)); (case aF => exact (fun _ _ => trivial)); (case aO => exact HO3.out); (case aB => exact HB3.out); (case aS => exact below_size HB3.out); (case aL => have := HLO.out; (try simp only [List.length_append, List.length_cons, List.length_nil]); omega); intro v1 w3 ho hb hg hat; obtain ⟨A6, c6, rfl⟩ := Kd.R_slice ho; (try simp only [List.length_append, List.length_cons, List.length_nil, Nat.zero_add] at ho); have HK4 := Aside0.mk (blk_grown HK3.out hg (Kd.R_ne HO3.out HK3.out (by decide))); have HX4 := Aside0.mk (blk_grown HX3.out hg (Kd.R_ne HO3.out HX3.out (by decide))); obtain ⟨hz0, hz1, hz2, hz3, hz4, hz5⟩ := cz6_ HX4.out; have HO4 := Aside0.mk ho; have HB4 := Aside0.mk hb; obtain ⟨hd0, hd1, hd2, hd3⟩ := cz4_ HK4.out; clear ho hb hg hat) | (go_at_call 40; (with_reducible refine (semblanceref14_acts.calls k a0_0 A0_1 c0_1 l0_1 A0_2 c0_2 l0_2 _ c0_3 l0_3 A4 c4 x.f4 false false _ (Kd.C_below HR1.out HB4.out) HC.out.1 (Kd.C_below HR2.out HB4.out) HC.out.2.1 (Kd.C_below HR3.out HB4.out) HC.out.2.2 (Kd.C_below HI4.out HB4.out) hl4 HTB.out).mono ?_); rintro e u5 ⟨rfl, hb2⟩; have HO5 := Aside0.mk (Kd.R_below HO4.out hb2); have HB5 := Aside0.mk (below_step HB4.out hb2); have HK5 := Aside0.mk (blk_below HK4.out hb2); obtain ⟨hd0, hd1, hd2, hd3⟩ := cz4_ HK5.out; have HX5 := Aside0.mk (blk_below HX4.out hb2); obtain ⟨hz0, hz1, hz2, hz3, hz4, hz5⟩ := cz6_ HX5.out; clear hb2) | ((with_reducible refine gate_builtin (b := .append) (xs := #[.tmp 69, .tmp 73]) rfl ?_); at_builtin; refine Kd.R_append k66 (w0 := w) w.heap.size rfl (.tmp 69) (.tmp 73) 29 66 (.agg #[.int .i64 0, .int .i64 0, .int .i64 0]) 24 rfl Try.underlying29 semblanceref14_Broken.info rfl (by decide) (by omega) _ (ol ++ [⟨a1, (i : Int), 0⟩]) (⟨a1, (i : Int), 1⟩ : S66) [.int .i64 a1, .int .i64 (i : Int), .int .i64 1] (fun _ => True) (fun _ => False) rfl rfl ?aP (fun _ hk => hk.elim) ?aF ?aO ?aB ?aS ?aL ?_; (case aP => exact k66_mkM _ _ _ (⟨a1, (i : Int), 1⟩ : S66)); (case aF => exact (fun _ _ => trivial)); (case aO => exact HO5.out); (case aB => exact HB5.out); (case aS => exact below_size HB5.out); (case aL => have := HLO.out; (try simp only [List.length_append, List.length_cons, List.length_nil]); omega); intro v1 w3 ho hb hg hat; obtain ⟨A6, c6, rfl⟩ := Kd.R_slice ho; (try simp only [List.length_append, List.length_cons, List.length_nil, Nat.zero_add] at ho); have HK6 := Aside0.mk (blk_grown HK5.out hg (Kd.R_ne HO5.out HK5.out (by decide))); have HX6 := Aside0.mk (blk_grown HX5.out hg (Kd.R_ne HO5.out HX5.out (by decide))); obtain ⟨hz0, hz1, hz2, hz3, hz4, hz5⟩ := cz6_ HX6.out; have HO6 := Aside0.mk ho; have HB6 := Aside0.mk hb; obtain ⟨hd0, hd1, hd2, hd3⟩ := cz4_ HK6.out; clear ho hb hg hat))
                    go_roundg (n - (i + 1))
                    case measure => have := HKQ.out; omega
                    case rel => exact ⟨_, _, i + 1, _, rfl, rfl, ⟨rfl⟩, ⟨hi⟩, by go_num, ⟨HNX.out _ (HAT.out)⟩, ⟨by simpa using HO6.out⟩, HK6, HB6⟩
              · have d10b : (a1 == 10) = false := beq_eq_false_iff_ne.mpr d10
                rw [if_neg d10] at hat
                have HAT : Aside0 (∀ il, brk_all x.f5.length (semblanceref14_Broken.one k a0_0 l0_1 l0_2 l0_3 a1 i x.f5) = some il → semblanceref14_Broken.at_ k a0_0 l0_1 l0_2 l0_3 a1 i = some il) := ⟨fun il hil => by rw [HATO.out, ← hat]; exact hil⟩
                have HXX := Aside0.mk hat
                have HXL : Aside0 ((ol ++ xx).length ≤ 1000000) := ⟨by
                  obtain ⟨l', h1, h2⟩ := brk_below HFL.out (i + 1) hi
                  rw [brk_next HOL.out xx HATO.out] at h1
                  obtain rfl := Option.some.inj h1
                  exact Nat.le_trans h2 HLEN.out⟩
                clear d5 d10 hat HATO hxx
                go_wp2_with (first | ((with_reducible refine gate_dst (N := 8) rfl ?_); refine box_event ?hg (N := 8) ?hd (cs := #[.string (⟨#[]⟩ : ByteArray), .int .i64 0, .int .i64 0, .slice none 0 0, .slice none 0 0, .slice none 0 0]) (t := 55) ?hr ?_; (case hd => rfl); (case hg => rfl); (case hr => first | (go_simp; done) | (go_simp; rfl)); intro g hg u1 hbox hb; have HGE := Aside0.mk (Nat.le_of_eq hg.symm); clear hg) | (refine box_put (vs := #[.string x.f0, .int .i64 x.f1, .int .i64 x.f2, .slice A3 x.f3.length c3, .slice A4 x.f4.length c4, .slice A5x x.f5.length c5x]) rfl rfl (.tmp 8) (.tmp 50) rfl rfl rfl hbox (by kernel_rfl) rfl (by simp [Value.oneCell']) hb HGE.out ?_; intro u2 hbox2 hb2; have HX2 := Aside0.mk hbox2; obtain ⟨hz0, hz1, hz2, hz3, hz4, hz5⟩ := cz6_ hbox2; have HO2 := Aside0.mk (Kd.R_below HO.out hb2); have HB2 := Aside0.mk (below_step HB.out hb2); have HK2 := Aside0.mk (blk_below HK.out hb2); obtain ⟨hd0, hd1, hd2, hd3⟩ := cz4_ HK2.out; clear hbox hb hbox2 hb2))
                go_loopg [5, 9] x.f5.length (fun kq v5' v9 wr' => ∃ (v5 : Value) (wr : World) (m : Nat) (il : List (S66)), v5 = v5' ∧ wr = wr' ∧ Aside0 (x.f5.length - m = kq) ∧ Aside0 (m ≤ x.f5.length) ∧ v9 = .int .i64 (m : Int) ∧ Aside0 (brk_all m (semblanceref14_Broken.one k a0_0 l0_1 l0_2 l0_3 a1 i x.f5) = some il) ∧ Aside0 (Kd.R k66 66 wr w.heap.size (fun _ => True) v5 (ol ++ il)) ∧ Aside0 (wr.heap[g2]? = some (.cells #[.string a0_0, .slice A0_1 l0_1.length c0_1, .slice A0_2 l0_2.length c0_2, .slice (some ad) l0_3.length c0_3] 26 (0, 0))) ∧ Aside0 (wr.heap[g]? = some (.cells #[.string x.f0, .int .i64 x.f1, .int .i64 x.f2, .slice A3 x.f3.length c3, .slice A4 x.f4.length c4, .slice A5x x.f5.length c5x] 55 (0, 0))) ∧ Aside0 (Below w.heap.size w wr))
                case atStart => exact ⟨_, _, 0, [], rfl, rfl, ⟨rfl⟩, ⟨Nat.zero_le _⟩, rfl, ⟨rfl⟩, ⟨by rw [List.append_nil]; exact HO2.out⟩, HK2, HX2, HB2⟩
                case round =>
                  obtain ⟨v5, wr, m, il, rfl, rfl, HKQ2, HM, rfl, HIL, HO, HK, HX, HB⟩ := hrel
                  obtain ⟨hd0, hd1, hd2, hd3⟩ := cz4_ HK.out
                  obtain ⟨hz0, hz1, hz2, hz3, hz4, hz5⟩ := cz6_ HX.out
                  by_cases hm : m < x.f5.length
                  · have hlt2 : decide ((m : Int) < (x.f5.length : Int)) = true := decide_eq_true (by omega)
                    obtain ⟨ad5, B1, d1, B2, d2, e5, hs0, hs1, hs2, hs3, hd1_, hi1, hd2_, hi2⟩ := at_T58 HI5.out (m : Int) (by omega) (by omega)
                    subst e5
                    rw [Int.toNat_natCast] at hs0 hs1 hs2 hs3
                    replace hs0 := pw_cell_below HB.out hs0
                    replace hs1 := pw_cell_below HB.out hs1
                    replace hs2 := pw_cell_below HB.out hs2
                    replace hs3 := pw_cell_below HB.out hs3
                    obtain ⟨z, hz_, hzl⟩ := brk_at HXX.out hm HIL.out
                    have hlx : (ol ++ il).length ≤ 1000000 := by have := HXL.out; rw [List.length_append] at this ⊢; omega
                    have HNI := Aside0.mk (brk_next HIL.out)
                    unfold semblanceref14_Broken.one at hz_
                    obtain ⟨t, ht, hz_⟩ := Option.bind_eq_some_iff.mp hz_
                    have HON : Aside0 (semblanceref14_Broken.one k a0_0 l0_1 l0_2 l0_3 a1 i x.f5 m = some (if t = true then [] else [⟨a1, (i : Int), (m : Int)⟩])) := ⟨by unfold semblanceref14_Broken.one; rw [ht]; rfl⟩
                    generalize rd_T58 x.f5 (m : Int) = y at *
                    have HT := Aside0.mk ht
                    have HI1 := Aside0.mk (Kd.C_below hi1 HB.out)
                    have HI2 := Aside0.mk (Kd.C_below hi2 HB.out)
                    have HLO := Aside0.mk hlx
                    have HASC := Aside0.mk (fun (q : List (S66)) => (List.append_assoc ol il q))
                    obtain ⟨A7, c7, rfl⟩ := Kd.R_slice HO.out
                    clear hz_ ht hi1 hi2 hlx hzl
                    generalize hxs : ol ++ il = xs at *
                    clear hxs
                    have HSE : Aside0 (∀ w', Below wr.heap.size wr w' → w'.cell? ⟨g2, 0, none⟩ = some (.string a0_0) ∧ w'.cell? ⟨g2, 1, none⟩ = some (.slice A0_1 l0_1.length c0_1) ∧ w'.cell? ⟨g2, 2, none⟩ = some (.slice A0_2 l0_2.length c0_2) ∧ w'.cell? ⟨g2, 3, none⟩ = some (.slice (some ad) l0_3.length c0_3) ∧ w'.cell? ⟨g, 5, none⟩ = some (.slice (some ad5) x.f5.length c5x) ∧ w'.cell? (ad5.add (m * 4)) = some (.string y.f0) ∧ w'.cell? ⟨(ad5.add (m * 4)).block, (ad5.add (m * 4)).off + 1, none⟩ = some (.slice B1 y.f1.length d1) ∧ w'.cell? ⟨(ad5.add (m * 4)).block, (ad5.add (m * 4)).off + 2, none⟩ = some (.slice B2 y.f2.length d2) ∧ w'.cell? ⟨(ad5.add (m * 4)).block, (ad5.add (m * 4)).off + 3, none⟩ = some (.string y.f3)) := ⟨fun w' hb => by
                      obtain ⟨h0, h1, h2, h3⟩ := cz4_ (blk_below HK.out hb)
                      obtain ⟨_, _, _, _, _, h5⟩ := cz6_ (blk_below HX.out hb)
                      exact ⟨h0, h1, h2, h3, h5, pw_cell_below hb hs0, pw_cell_below hb hs1, pw_cell_below hb hs2, pw_cell_below hb hs3⟩⟩
                    clear hs0 hs1 hs2 hs3
                    cases t with
                    | true =>
                      go_wp2_with fail
                      refine rs_ 9 [0, 1, 2, 3, 4, 5, 6, 7, 8] (fun w' => w'.cell? ⟨g2, 0, none⟩ = some (.string a0_0) ∧ w'.cell? ⟨g2, 1, none⟩ = some (.slice A0_1 l0_1.length c0_1) ∧ w'.cell? ⟨g2, 2, none⟩ = some (.slice A0_2 l0_2.length c0_2) ∧ w'.cell? ⟨g2, 3, none⟩ = some (.slice (some ad) l0_3.length c0_3) ∧ w'.cell? ⟨g, 5, none⟩ = some (.slice (some ad5) x.f5.length c5x) ∧ w'.cell? (ad5.add (m * 4)) = some (.string y.f0) ∧ w'.cell? ⟨(ad5.add (m * 4)).block, (ad5.add (m * 4)).off + 1, none⟩ = some (.slice B1 y.f1.length d1) ∧ w'.cell? ⟨(ad5.add (m * 4)).block, (ad5.add (m * 4)).off + 2, none⟩ = some (.slice B2 y.f2.length d2) ∧ w'.cell? ⟨(ad5.add (m * 4)).block, (ad5.add (m * 4)).off + 3, none⟩ = some (.string y.f3)) rfl (by kernel_rfl) (HSE.out _ (below_drew1 (Below.refl _ _))) (fun hHeld => ?_)
                      iterate 7 (first | (refine pu_ (a' := ?_) rfl rfl (by kernel_rfl) (fun _ _ _ h => h) (by rfl) ?_ ?_; rotate_left; (focus (simp only [Act.put, sb_, s0_, s1_, i64_w]; rfl))) | (refine tk_ (a' := ?_) (v := ?_) hHeld rfl rfl (by kernel_rfl) (fun _ _ _ h => h) (by rfl) ?_ ?_ ?_; rotate_left 2; (focus (intro W_ hS_; (repeat (obtain ⟨hs_, hS_⟩ := hS_)); go_simp; with_reducible rfl)); (focus (simp only [Act.put, sb_, s0_, s1_, i64_w]; rfl))))
                      refine cs_ (args := ?_) rfl rfl rfl (by kernel_rfl) Try.func41 (by kernel_rfl) rfl (by rfl) ?_ ?_
                      rotate_left; (focus (go_simp; with_reducible rfl))
                      refine (semblanceref14_trans.calls k a0_0 A0_1 c0_1 l0_1 A0_2 c0_2 l0_2 _ c0_3 l0_3 a1 y.f0 B1 d1 y.f1 B2 d2 y.f2 y.f3 _ _ (Kd.C_below HR1.out (below_drew1 HB.out)) HC.out.1 (Kd.C_below HR2.out (below_drew1 HB.out)) HC.out.2.1 (Kd.C_below HR3.out (below_drew1 HB.out)) HC.out.2.2 (Kd.C_drew HI1.out) hd1_ (Kd.C_drew HI2.out) hd2_ HT.out).mono ?_
                      rintro e w5 ⟨rfl, hb5⟩; have HBR := Aside0.mk (below_step (below_drew1 (Below.refl _ _)) hb5); have HO3 := Aside0.mk (Kd.R_below (Kd.R_drew HO.out) hb5); have HB3 := Aside0.mk (below_step (below_drew1 HB.out) hb5); have HK3 := Aside0.mk (blk_below (blk_drew HK.out) hb5); have HX3 := Aside0.mk (blk_below (blk_drew HX.out) hb5); clear hb5
                      refine ⟨_, rfl, HSE.out _ HBR.out, fun hHeld => ?_⟩
                      (try simp only [Act.put, sb_, s0_, s1_])
                      iterate 1 (first | (refine pu_ (a' := ?_) rfl rfl (by kernel_rfl) (fun _ _ _ h => h) (by rfl) ?_ ?_; rotate_left; (focus (simp only [Act.put, sb_, s0_, s1_, i64_w]; rfl))) | (refine tk_ (a' := ?_) (v := ?_) hHeld rfl rfl (by kernel_rfl) (fun _ _ _ h => h) (by rfl) ?_ ?_ ?_; rotate_left 2; (focus (intro W_ hS_; (repeat (obtain ⟨hs_, hS_⟩ := hS_)); go_simp; with_reducible rfl)); (focus (simp only [Act.put, sb_, s0_, s1_, i64_w]; rfl))))
                      refine dn_ (by kernel_rfl) ?_
                      clear hHeld
                      go_wp2
                      go_roundg (x.f5.length - (m + 1))
                      case measure => have := HKQ2.out; omega
                      case rel => exact ⟨_, _, m + 1, _, rfl, rfl, ⟨rfl⟩, ⟨hm⟩, by go_num, ⟨HNI.out _ HON.out⟩, ⟨by rw [← HASC.out]; simpa using HO3.out⟩, HK3, HX3, HB3⟩
                    | false =>
                      go_wp2_with fail
                      refine rs_ 9 [0, 1, 2, 3, 4, 5, 6, 7, 8] (fun w' => w'.cell? ⟨g2, 0, none⟩ = some (.string a0_0) ∧ w'.cell? ⟨g2, 1, none⟩ = some (.slice A0_1 l0_1.length c0_1) ∧ w'.cell? ⟨g2, 2, none⟩ = some (.slice A0_2 l0_2.length c0_2) ∧ w'.cell? ⟨g2, 3, none⟩ = some (.slice (some ad) l0_3.length c0_3) ∧ w'.cell? ⟨g, 5, none⟩ = some (.slice (some ad5) x.f5.length c5x) ∧ w'.cell? (ad5.add (m * 4)) = some (.string y.f0) ∧ w'.cell? ⟨(ad5.add (m * 4)).block, (ad5.add (m * 4)).off + 1, none⟩ = some (.slice B1 y.f1.length d1) ∧ w'.cell? ⟨(ad5.add (m * 4)).block, (ad5.add (m * 4)).off + 2, none⟩ = some (.slice B2 y.f2.length d2) ∧ w'.cell? ⟨(ad5.add (m * 4)).block, (ad5.add (m * 4)).off + 3, none⟩ = some (.string y.f3)) rfl (by kernel_rfl) (HSE.out _ (below_drew1 (Below.refl _ _))) (fun hHeld => ?_)
                      iterate 7 (first | (refine pu_ (a' := ?_) rfl rfl (by kernel_rfl) (fun _ _ _ h => h) (by rfl) ?_ ?_; rotate_left; (focus (simp only [Act.put, sb_, s0_, s1_, i64_w]; rfl))) | (refine tk_ (a' := ?_) (v := ?_) hHeld rfl rfl (by kernel_rfl) (fun _ _ _ h => h) (by rfl) ?_ ?_ ?_; rotate_left 2; (focus (intro W_ hS_; (repeat (obtain ⟨hs_, hS_⟩ := hS_)); go_simp; with_reducible rfl)); (focus (simp only [Act.put, sb_, s0_, s1_, i64_w]; rfl))))
                      refine cs_ (args := ?_) rfl rfl rfl (by kernel_rfl) Try.func41 (by kernel_rfl) rfl (by rfl) ?_ ?_
                      rotate_left; (focus (go_simp; with_reducible rfl))
                      refine (semblanceref14_trans.calls k a0_0 A0_1 c0_1 l0_1 A0_2 c0_2 l0_2 _ c0_3 l0_3 a1 y.f0 B1 d1 y.f1 B2 d2 y.f2 y.f3 _ _ (Kd.C_below HR1.out (below_drew1 HB.out)) HC.out.1 (Kd.C_below HR2.out (below_drew1 HB.out)) HC.out.2.1 (Kd.C_below HR3.out (below_drew1 HB.out)) HC.out.2.2 (Kd.C_drew HI1.out) hd1_ (Kd.C_drew HI2.out) hd2_ HT.out).mono ?_
                      rintro e w5 ⟨rfl, hb5⟩; have HBR := Aside0.mk (below_step (below_drew1 (Below.refl _ _)) hb5); have HO3 := Aside0.mk (Kd.R_below (Kd.R_drew HO.out) hb5); have HB3 := Aside0.mk (below_step (below_drew1 HB.out) hb5); have HK3 := Aside0.mk (blk_below (blk_drew HK.out) hb5); have HX3 := Aside0.mk (blk_below (blk_drew HX.out) hb5); clear hb5
                      refine ⟨_, rfl, HSE.out _ HBR.out, fun hHeld => ?_⟩
                      (try simp only [Act.put, sb_, s0_, s1_])
                      iterate 1 (first | (refine pu_ (a' := ?_) rfl rfl (by kernel_rfl) (fun _ _ _ h => h) (by rfl) ?_ ?_; rotate_left; (focus (simp only [Act.put, sb_, s0_, s1_, i64_w]; rfl))) | (refine tk_ (a' := ?_) (v := ?_) hHeld rfl rfl (by kernel_rfl) (fun _ _ _ h => h) (by rfl) ?_ ?_ ?_; rotate_left 2; (focus (intro W_ hS_; (repeat (obtain ⟨hs_, hS_⟩ := hS_)); go_simp; with_reducible rfl)); (focus (simp only [Act.put, sb_, s0_, s1_, i64_w]; rfl))))
                      refine dn_ (by kernel_rfl) ?_
                      clear hHeld
                      go_wp2_with ((with_reducible refine gate_builtin (b := .append) (xs := #[.tmp 91, .tmp 96]) rfl ?_); at_builtin; refine Kd.R_append k66 (w0 := w) w.heap.size rfl (.tmp 91) (.tmp 96) 29 66 (.agg #[.int .i64 0, .int .i64 0, .int .i64 0]) 24 rfl Try.underlying29 semblanceref14_Broken.info rfl (by decide) (by omega) _ (xs) (⟨a1, (i : Int), (m : Int)⟩ : S66) [.int .i64 a1, .int .i64 (i : Int), .int .i64 (m : Int)] (fun _ => True) (fun _ => False) rfl rfl ?aP (fun _ hk => hk.elim) ?aF ?aO ?aB ?aS ?aL ?_; (case aP => exact k66_mkM _ _ _ (⟨a1, (i : Int), (m : Int)⟩ : S66)); (case aF => exact (fun _ _ => trivial)); (case aO => exact HO3.out); (case aB => exact HB3.out); (case aS => exact below_size HB3.out); (case aL => have := HLO.out; (try simp only [List.length_append, List.length_cons, List.length_nil]); omega); intro v1 w3 ho hb hg hat; obtain ⟨A6, c6, rfl⟩ := Kd.R_slice ho; (try simp only [List.length_append, List.length_cons, List.length_nil, Nat.zero_add] at ho); have HK4 := Aside0.mk (blk_grown HK3.out hg (Kd.R_ne HO3.out HK3.out (by decide))); have HX4 := Aside0.mk (blk_grown HX3.out hg (Kd.R_ne HO3.out HX3.out (by decide))); obtain ⟨hz0, hz1, hz2, hz3, hz4, hz5⟩ := cz6_ HX4.out; have HO4 := Aside0.mk ho; have HB4 := Aside0.mk hb; obtain ⟨hd0, hd1, hd2, hd3⟩ := cz4_ HK4.out; clear ho hb hg hat)
                      go_roundg (x.f5.length - (m + 1))
                      case measure => have := HKQ2.out; omega
                      case rel => exact ⟨_, _, m + 1, _, rfl, rfl, ⟨rfl⟩, ⟨hm⟩, by go_num, ⟨HNI.out _ HON.out⟩, ⟨by rw [← HASC.out]; simpa using HO4.out⟩, HK4, HX4, HB4⟩
                  · have hlt2 : decide ((m : Int) < (x.f5.length : Int)) = false := decide_eq_false (by omega)
                    have hml : m = x.f5.length := by have := HM.out; omega
                    subst hml
                    have HIX := Aside0.mk (HAT.out il HIL.out)
                    go_wp2
                    go_roundg (n - (i + 1))
                    case measure => have := HKQ.out; omega
                    case rel => exact ⟨_, _, i + 1, _, rfl, rfl, ⟨rfl⟩, ⟨hi⟩, by go_num, ⟨HNX.out _ HIX.out⟩, HO, HK, HB⟩
          · have hlt : decide ((i : Int) < (n : Int)) = false := decide_eq_false (by omega)
            have hil : i = n := by have := HI.out; omega
            subst hil
            have hfl := HFL.out
            rw [HOL.out] at hfl
            obtain rfl := Option.some.inj hfl
            clear HOL hfl
            go_wp2
            go_ret
            exact ⟨_, rfl, HO.out, HB.out⟩


end Go.Proofs.Ytoeioigpkfgppaa.XR
