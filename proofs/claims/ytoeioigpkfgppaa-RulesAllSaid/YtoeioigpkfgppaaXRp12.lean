-- written by wip/xprint.py out of the translation
import Derived.Test.YtoeioigpkfgppaaXRp0
import Derived.Test.YtoeioigpkfgppaaXRp4
import Derived.Test.YtoeioigpkfgppaaXRp6
import Derived.Test.YtoeioigpkfgppaaXRp11
namespace Go.Proofs.Ytoeioigpkfgppaa.XR
open Go.Proofs.Ytoeioigpkfgppaa.XGrow Go.RowKit Go.Proofs.YtoeioigpkfgppaaW.PrintWords Go.Proofs.YtoeioigpkfgppaaW.PrintLast Go.Proofs.YtoeioigpkfgppaaW.PrintMore
attribute [local go_sem] max2_int min2_int max_two min_two max_three min_three max_four min_four   -- for this text's walks alone
set_option linter.unusedVariables false
set_option linter.unusedSimpArgs false

/-! ### semblanceref14_item: function 39 -/
-- USES semblance/semblanceref12.May
-- USES semblance/semblanceref10.Kids
/-- does a chart keep to a rule at an item? -/
def semblanceref14_item.f (k : Nat) (_a0 : ByteArray) (l0_1 : List ByteArray) (l0_2 : List (S51)) (l0_3 : List (S55)) (rule i0 : Int) : Option Bool :=
  if 0 ≤ i0 then (
    if rule = 1 then (if i0 < (l0_1.length : Int) then some (!((List.range i0.toNat).any fun m => ((rdOf ByteArray.empty l0_1 (m : Int)).toList == (rdOf ByteArray.empty l0_1 i0).toList))) else none)
    else if rule = 2 then (if i0 < (l0_2.length : Int) then some (!((List.range i0.toNat).any fun m => (((rd_T51 l0_2 (m : Int)).f0).toList == ((rd_T51 l0_2 i0).f0).toList))) else none)
    else if rule = 3 then (if i0 < (l0_2.length : Int) then some (decide ((rd_T51 l0_2 i0).f1 ≤ (rd_T51 l0_2 i0).f3) && (decide ((rd_T51 l0_2 i0).f3 ≤ (rd_T51 l0_2 i0).f2) && decide (wrap64 ((rd_T51 l0_2 i0).f2 - (rd_T51 l0_2 i0).f1) < 64))) else none)
    else if rule = 4 then (if i0 < (l0_3.length : Int) then some (!((List.range i0.toNat).any fun m => (((rd_T55 l0_3 (m : Int)).f0).toList == ((rd_T55 l0_3 i0).f0).toList))) else none)
    else if rule = 5 then (if i0 < (l0_3.length : Int) then (semblanceref10_Kids.f k l0_3 i0).bind fun ks => some ((rd_T55 l0_3 i0).f1 == 1 || decide ((ks.length : Int) ≥ wrap64 ((rd_T55 l0_3 i0).f1 - 1))) else none)
    else some true)
  else none
theorem semblanceref14_item.mono : ∀ a0 l1 l2 l3 rule i k, LeO (semblanceref14_item.f k a0 l1 l2 l3 rule i) (semblanceref14_item.f (k + 1) a0 l1 l2 l3 rule i) := by
  intro a0 l1 l2 l3 rule i k
  unfold semblanceref14_item.f
  exact LeO.ite (LeO.ite (LeO.refl _) (LeO.ite (LeO.refl _) (LeO.ite (LeO.refl _) (LeO.ite (LeO.refl _) (LeO.ite (LeO.ite (LeO.bind (semblanceref10_Kids.mono _ _ k) (fun _ => LeO.refl _)) (LeO.refl _)) (LeO.refl _)))))) (LeO.refl _)
set_option maxHeartbeats 16000000 in
set_option maxRecDepth 100000 in
open Go.Proofs.Ytoeioigpkfgppaa.XReg in
theorem semblanceref14_item.calls (k : Nat) (a0_0 : ByteArray) (A0_1 : Option Addr) (c0_1 : Nat) (l0_1 : List ByteArray) (A0_2 : Option Addr) (c0_2 : Nat) (l0_2 : List (S51)) (A0_3 : Option Addr) (c0_3 : Nat) (l0_3 : List (S55)) (a1 : Int) (a2 : Int) (r : Bool) (w : World) (hr0_1 : Kd.C Kd.string w A0_1 l0_1.length l0_1) (hc0_1 : l0_1.length ≤ c0_1) (hr0_2 : Kd.C k51 w A0_2 l0_2.length l0_2) (hc0_2 : l0_2.length ≤ c0_2) (hr0_3 : Kd.C k55 w A0_3 l0_3.length l0_3) (hc0_3 : l0_3.length ≤ c0_3) (h : semblanceref14_item.f k a0_0 l0_1 l0_2 l0_3 a1 a2 = some r) :
    Calls Try.prog 39 #[.agg #[.string a0_0, .slice A0_1 l0_1.length c0_1, .slice A0_2 l0_2.length c0_2, .slice A0_3 l0_3.length c0_3], .int .i64 a1, .int .i64 a2] w fun e w' => e = .returned (.bool r) ∧ Below w.heap.size w w' := by
  unfold semblanceref14_item.f at h
  split at h
  case isFalse => cases h
  case isTrue h0 =>
  obtain ⟨i, rfl⟩ : ∃ i : Nat, a2 = (i : Int) := ⟨a2.toNat, by omega⟩
  rw [Int.toNat_natCast] at h
  clear h0
  have hm1 := Kd.C_max hr0_1
  have hm2 := Kd.C_max hr0_2
  have hm3 := Kd.C_max hr0_3
  obtain ⟨w1, hw1⟩ : ∃ w1, w1 = w.alloc (.cells #[.string a0_0, .slice A0_1 l0_1.length c0_1, .slice A0_2 l0_2.length c0_2, .slice A0_3 l0_3.length c0_3] 26) := ⟨_, rfl⟩
  have hb1 : Below w.heap.size w w1 := by rw [hw1]; exact (Below.refl _ _).alloc (Nat.le_refl _) _
  have HK : Aside0 (w1.heap[w.heap.size]? = some (.cells #[.string a0_0, .slice A0_1 l0_1.length c0_1, .slice A0_2 l0_2.length c0_2, .slice A0_3 l0_3.length c0_3] 26 (0, 0))) := ⟨by rw [hw1]; exact heap_alloc_new w _⟩
  have HR1 := Aside0.mk (Kd.C_below hr0_1 hb1)
  have HR2 := Aside0.mk (Kd.C_below hr0_2 hb1)
  have HR3 := Aside0.mk (Kd.C_below hr0_3 hb1)
  have HCC := Aside0.mk (And.intro hc0_1 (And.intro hc0_2 hc0_3))
  have HB1 := Aside0.mk hb1
  have hu2 := Try.underlying26
  have hu3 := Try.underlying51
  have hu4 := Try.underlying55
  clear hr0_1 hr0_2 hr0_3 hb1 hc0_1 hc0_2 hc0_3
  by_cases d1 : a1 = 1
  · rw [if_pos d1] at h
    have d1b : (a1 == 1) = true := beq_iff_eq.mpr d1
    clear d1
    split at h
    case isFalse => cases h
    case isTrue hi =>
      have hi := Int.ofNat_lt.1 hi
      have HRR := Aside0.mk (Option.some.inj h)
      clear h
      subst hw1
      go_enter Try.func39, Try.ntmps39
      go_wp2_with fail
      generalize w.alloc (.cells #[.string a0_0, .slice A0_1 l0_1.length c0_1, .slice A0_2 l0_2.length c0_2, .slice A0_3 l0_3.length c0_3] 26) = w1 at *
      go_loopg [7] i (fun kq v9 wr => ∃ m : Nat, Aside0 (i - m = kq) ∧ Aside0 (m ≤ i) ∧ v9 = .int .i64 (m : Int) ∧ Aside0 (Below w1.heap.size w1 wr) ∧ Aside0 (∀ j : Nat, j < m → ((rdOf ByteArray.empty l0_1 (j : Int)).toList == (rdOf ByteArray.empty l0_1 (i : Int)).toList) = false))
      case atStart => exact ⟨0, ⟨rfl⟩, ⟨Nat.zero_le _⟩, rfl, ⟨Below.refl _ _⟩, ⟨fun j hj => absurd hj (Nat.not_lt_zero _)⟩⟩
      case round =>
        obtain ⟨m, HKQ, HM, rfl, HB, HP⟩ := hrel
        by_cases hm : m < i
        · have hlt : decide ((m : Int) < (i : Int)) = true := decide_eq_true (by omega)
          obtain ⟨ad, e_ad, hx⟩ := Kd.at_string HR1.out (m : Int) (by omega) (by omega)
          subst e_ad
          obtain ⟨ad2, e_ad2, hy⟩ := Kd.at_string HR1.out (i : Int) (by omega) (by omega)
          obtain rfl : ad = ad2 := Option.some.inj e_ad2
          rw [Int.toNat_natCast] at hx hy
          obtain ⟨x, hxx⟩ : ∃ x, rdOf ByteArray.empty l0_1 (m : Int) = x := ⟨_, rfl⟩
          obtain ⟨y, hyy⟩ : ∃ y, rdOf ByteArray.empty l0_1 (i : Int) = y := ⟨_, rfl⟩
          rw [hxx] at hx
          rw [hyy] at hy
          have HX := Aside0.mk (And.intro hxx hyy)
          have HSE : Aside0 (∀ w', Below w1.heap.size w1 w' → w'.cell? ⟨w.heap.size, 1, none⟩ = some (.slice (some ad) l0_1.length c0_1) ∧ w'.cell? (ad.add m) = some (.string x) ∧ w'.cell? (ad.add i) = some (.string y)) := ⟨fun w' hb => by
            obtain ⟨h0, h1, h2, h3⟩ := cz4_ (blk_below HK.out hb)
            exact ⟨h1, pw_cell_below hb hx, pw_cell_below hb hy⟩⟩
          clear hx hy hxx hyy
          have hmL : m < l0_1.length := by omega
          cases hq : (x.toList == y.toList) with
          | true =>
            have HRF := Aside0.mk (show false = r by rw [← HRR.out, List.any_eq_true.2 ⟨m, List.mem_range.2 hm, by rw [HX.out.1, HX.out.2]; exact hq⟩]; rfl)
            go_wp2_with fail
            refine rs_ 11 [0, 1, 2, 3, 4, 5, 6, 7, 8, 9, 10] (fun w' => w'.cell? ⟨w.heap.size, 1, none⟩ = some (.slice (some ad) l0_1.length c0_1) ∧ w'.cell? (ad.add m) = some (.string x) ∧ w'.cell? (ad.add i) = some (.string y)) rfl (by kernel_rfl) (HSE.out _ (below_drew1 HB.out)) (fun hHeld => ?_)
            iterate 11 (first | (refine pu_ (a' := ?_) rfl rfl (by kernel_rfl) (fun _ _ _ h => h) (by rfl) ?_ ?_; rotate_left; (focus (simp only [Act.put, sb_, s0_, s1_, i64_w]; rfl))) | (refine tk_ (a' := ?_) (v := ?_) hHeld rfl rfl (by kernel_rfl) (fun _ _ _ h => h) (by rfl) ?_ ?_ ?_; rotate_left 2; (focus (intro W_ hS_; (repeat (obtain ⟨hs_, hS_⟩ := hS_)); go_simp; with_reducible rfl)); (focus (simp only [Act.put, sb_, s0_, s1_, i64_w]; rfl))))
            have HBD := Aside0.mk (below_drew1 HB.out)
            refine dn_ (by kernel_rfl) ?_
            clear hHeld
            go_wp2
            go_ret
            exact ⟨by rw [← HRF.out]; try rfl, HB1.out.trans (HBD.out.mono HB1.out.size)⟩
          | false =>
            have HQ := Aside0.mk hq
            go_wp2_with fail
            refine rs_ 11 [0, 1, 2, 3, 4, 5, 6, 7, 8, 9, 10] (fun w' => w'.cell? ⟨w.heap.size, 1, none⟩ = some (.slice (some ad) l0_1.length c0_1) ∧ w'.cell? (ad.add m) = some (.string x) ∧ w'.cell? (ad.add i) = some (.string y)) rfl (by kernel_rfl) (HSE.out _ (below_drew1 HB.out)) (fun hHeld => ?_)
            iterate 11 (first | (refine pu_ (a' := ?_) rfl rfl (by kernel_rfl) (fun _ _ _ h => h) (by rfl) ?_ ?_; rotate_left; (focus (simp only [Act.put, sb_, s0_, s1_, i64_w]; rfl))) | (refine tk_ (a' := ?_) (v := ?_) hHeld rfl rfl (by kernel_rfl) (fun _ _ _ h => h) (by rfl) ?_ ?_ ?_; rotate_left 2; (focus (intro W_ hS_; (repeat (obtain ⟨hs_, hS_⟩ := hS_)); go_simp; with_reducible rfl)); (focus (simp only [Act.put, sb_, s0_, s1_, i64_w]; rfl))))
            have HBD := Aside0.mk (below_drew1 HB.out)
            refine dn_ (by kernel_rfl) ?_
            clear hHeld
            go_wp2
            go_roundg (i - (m + 1))
            case measure => have := HKQ.out; omega
            case rel =>
              refine ⟨m + 1, ⟨rfl⟩, ⟨hm⟩, by go_num, HBD, ⟨fun j hj => ?_⟩⟩
              by_cases e : j = m
              · subst e; rw [HX.out.1, HX.out.2]; exact HQ.out
              · exact HP.out j (by omega)
        · have hlt : decide ((m : Int) < (i : Int)) = false := decide_eq_false (by omega)
          have hml : m = i := by have := HM.out; omega
          have HRF := Aside0.mk (show true = r by
            rw [← HRR.out, show ((List.range i).any fun m => ((rdOf ByteArray.empty l0_1 (m : Int)).toList == (rdOf ByteArray.empty l0_1 (i : Int)).toList)) = false from ?_]
            · rfl
            · rw [List.any_eq_false]
              intro j hj
              rw [HP.out j (by have := List.mem_range.1 hj; omega)]
              decide)
          clear hml HP
          go_wp2
          go_ret
          exact ⟨by rw [← HRF.out]; try rfl, HB1.out.trans (HB.out.mono HB1.out.size)⟩
  rw [if_neg d1] at h
  have d1b : (a1 == 1) = false := beq_eq_false_iff_ne.mpr d1
  clear d1
  by_cases d2 : a1 = 2
  · rw [if_pos d2] at h
    have d2b : (a1 == 2) = true := beq_iff_eq.mpr d2
    clear d2
    split at h
    case isFalse => cases h
    case isTrue hi =>
      have hi := Int.ofNat_lt.1 hi
      have HRR := Aside0.mk (Option.some.inj h)
      clear h
      subst hw1
      go_enter Try.func39, Try.ntmps39
      go_wp2_with fail
      generalize w.alloc (.cells #[.string a0_0, .slice A0_1 l0_1.length c0_1, .slice A0_2 l0_2.length c0_2, .slice A0_3 l0_3.length c0_3] 26) = w1 at *
      go_loopg [8] i (fun kq v9 wr => ∃ m : Nat, Aside0 (i - m = kq) ∧ Aside0 (m ≤ i) ∧ v9 = .int .i64 (m : Int) ∧ Aside0 (Below w1.heap.size w1 wr) ∧ Aside0 (∀ j : Nat, j < m → (((rd_T51 l0_2 (j : Int)).f0).toList == ((rd_T51 l0_2 (i : Int)).f0).toList) = false))
      case atStart => exact ⟨0, ⟨rfl⟩, ⟨Nat.zero_le _⟩, rfl, ⟨Below.refl _ _⟩, ⟨fun j hj => absurd hj (Nat.not_lt_zero _)⟩⟩
      case round =>
        obtain ⟨m, HKQ, HM, rfl, HB, HP⟩ := hrel
        by_cases hm : m < i
        · have hlt : decide ((m : Int) < (i : Int)) = true := decide_eq_true (by omega)
          obtain ⟨ad, e_ad, hx,_⟩ := at_T51 HR2.out (m : Int) (by omega) (by omega)
          subst e_ad
          obtain ⟨ad2, e_ad2, hy,_⟩ := at_T51 HR2.out (i : Int) (by omega) (by omega)
          obtain rfl : ad = ad2 := Option.some.inj e_ad2
          rw [Int.toNat_natCast] at hx hy
          obtain ⟨x, hxx⟩ : ∃ x, (rd_T51 l0_2 (m : Int)).f0 = x := ⟨_, rfl⟩
          obtain ⟨y, hyy⟩ : ∃ y, (rd_T51 l0_2 (i : Int)).f0 = y := ⟨_, rfl⟩
          rw [hxx] at hx
          rw [hyy] at hy
          have HX := Aside0.mk (And.intro hxx hyy)
          have HSE : Aside0 (∀ w', Below w1.heap.size w1 w' → w'.cell? ⟨w.heap.size, 2, none⟩ = some (.slice (some ad) l0_2.length c0_2) ∧ w'.cell? (ad.add (m * 4)) = some (.string x) ∧ w'.cell? (ad.add (i * 4)) = some (.string y)) := ⟨fun w' hb => by
            obtain ⟨h0, h1, h2, h3⟩ := cz4_ (blk_below HK.out hb)
            exact ⟨h2, pw_cell_below hb hx, pw_cell_below hb hy⟩⟩
          clear hx hy hxx hyy
          have hmL : m < l0_2.length := by omega
          cases hq : (x.toList == y.toList) with
          | true =>
            have HRF := Aside0.mk (show false = r by rw [← HRR.out, List.any_eq_true.2 ⟨m, List.mem_range.2 hm, by rw [HX.out.1, HX.out.2]; exact hq⟩]; rfl)
            go_wp2_with fail
            refine rs_ 13 [0, 1, 2, 3, 4, 5, 6, 7, 8, 9, 10, 11, 12] (fun w' => w'.cell? ⟨w.heap.size, 2, none⟩ = some (.slice (some ad) l0_2.length c0_2) ∧ w'.cell? (ad.add (m * 4)) = some (.string x) ∧ w'.cell? (ad.add (i * 4)) = some (.string y)) rfl (by kernel_rfl) (HSE.out _ (below_drew1 HB.out)) (fun hHeld => ?_)
            iterate 13 (first | (refine pu_ (a' := ?_) rfl rfl (by kernel_rfl) (fun _ _ _ h => h) (by rfl) ?_ ?_; rotate_left; (focus (simp only [Act.put, sb_, s0_, s1_, i64_w]; rfl))) | (refine tk_ (a' := ?_) (v := ?_) hHeld rfl rfl (by kernel_rfl) (fun _ _ _ h => h) (by rfl) ?_ ?_ ?_; rotate_left 2; (focus (intro W_ hS_; (repeat (obtain ⟨hs_, hS_⟩ := hS_)); go_simp; with_reducible rfl)); (focus (simp only [Act.put, sb_, s0_, s1_, i64_w]; rfl))))
            have HBD := Aside0.mk (below_drew1 HB.out)
            refine dn_ (by kernel_rfl) ?_
            clear hHeld
            go_wp2
            go_ret
            exact ⟨by rw [← HRF.out]; try rfl, HB1.out.trans (HBD.out.mono HB1.out.size)⟩
          | false =>
            have HQ := Aside0.mk hq
            go_wp2_with fail
            refine rs_ 13 [0, 1, 2, 3, 4, 5, 6, 7, 8, 9, 10, 11, 12] (fun w' => w'.cell? ⟨w.heap.size, 2, none⟩ = some (.slice (some ad) l0_2.length c0_2) ∧ w'.cell? (ad.add (m * 4)) = some (.string x) ∧ w'.cell? (ad.add (i * 4)) = some (.string y)) rfl (by kernel_rfl) (HSE.out _ (below_drew1 HB.out)) (fun hHeld => ?_)
            iterate 13 (first | (refine pu_ (a' := ?_) rfl rfl (by kernel_rfl) (fun _ _ _ h => h) (by rfl) ?_ ?_; rotate_left; (focus (simp only [Act.put, sb_, s0_, s1_, i64_w]; rfl))) | (refine tk_ (a' := ?_) (v := ?_) hHeld rfl rfl (by kernel_rfl) (fun _ _ _ h => h) (by rfl) ?_ ?_ ?_; rotate_left 2; (focus (intro W_ hS_; (repeat (obtain ⟨hs_, hS_⟩ := hS_)); go_simp; with_reducible rfl)); (focus (simp only [Act.put, sb_, s0_, s1_, i64_w]; rfl))))
            have HBD := Aside0.mk (below_drew1 HB.out)
            refine dn_ (by kernel_rfl) ?_
            clear hHeld
            go_wp2
            go_roundg (i - (m + 1))
            case measure => have := HKQ.out; omega
            case rel =>
              refine ⟨m + 1, ⟨rfl⟩, ⟨hm⟩, by go_num, HBD, ⟨fun j hj => ?_⟩⟩
              by_cases e : j = m
              · subst e; rw [HX.out.1, HX.out.2]; exact HQ.out
              · exact HP.out j (by omega)
        · have hlt : decide ((m : Int) < (i : Int)) = false := decide_eq_false (by omega)
          have hml : m = i := by have := HM.out; omega
          have HRF := Aside0.mk (show true = r by
            rw [← HRR.out, show ((List.range i).any fun m => (((rd_T51 l0_2 (m : Int)).f0).toList == ((rd_T51 l0_2 (i : Int)).f0).toList)) = false from ?_]
            · rfl
            · rw [List.any_eq_false]
              intro j hj
              rw [HP.out j (by have := List.mem_range.1 hj; omega)]
              decide)
          clear hml HP
          go_wp2
          go_ret
          exact ⟨by rw [← HRF.out]; try rfl, HB1.out.trans (HB.out.mono HB1.out.size)⟩
  rw [if_neg d2] at h
  have d2b : (a1 == 2) = false := beq_eq_false_iff_ne.mpr d2
  clear d2
  by_cases d3 : a1 = 3
  · rw [if_pos d3] at h
    have d3b : (a1 == 3) = true := beq_iff_eq.mpr d3
    clear d3
    split at h
    case isFalse => cases h
    case isTrue hi =>
      have hi := Int.ofNat_lt.1 hi
      obtain ⟨ad, e1, hx0, hx1, hx2, hx3⟩ := at_T51 HR2.out (i : Int) (by omega) (by omega)
      subst e1
      rw [Int.toNat_natCast] at hx0 hx1 hx2 hx3
      generalize rd_T51 l0_2 (i : Int) = x at *
      have HRR := Aside0.mk (Option.some.inj h)
      clear h
      subst hw1
      cases h1 : decide (x.f1 ≤ x.f3) <;> cases h2 : decide (x.f3 ≤ x.f2) <;> cases h3 : decide (wrap64 (x.f2 - x.f1) < 64) <;>
        (rw [h1, h2, h3] at HRR
         go_enter Try.func39, Try.ntmps39
         go_wp2_with (first | ((with_reducible refine gate_dst (N := 9) rfl ?_); refine box_event ?hg (N := 9) ?hd (cs := #[.string (⟨#[]⟩ : ByteArray), .int .i64 0, .int .i64 0, .int .i64 0]) (t := 51) ?hr ?_; (case hd => rfl); (case hg => rfl); (case hr => first | (go_simp; done) | (go_simp; rfl)); intro g hg u1 hbox hb; have HGE := Aside0.mk (Nat.le_of_eq hg.symm); clear hg) | (refine box_put (vs := #[.string x.f0, .int .i64 x.f1, .int .i64 x.f2, .int .i64 x.f3]) rfl rfl (.tmp 9) (.tmp 57) rfl rfl rfl hbox (by kernel_rfl) rfl (by simp [Value.oneCell']) hb HGE.out ?_; intro u2 hbox2 hb2; have HB3 := Aside0.mk hb2; obtain ⟨hz0, hz1, hz2, hz3⟩ := cz4_ hbox2; clear hbox hb hbox2 hb2))
         go_ret
         exact ⟨by rw [← HRR.out]; try rfl, HB1.out.trans (HB3.out.mono HB1.out.size)⟩)
  rw [if_neg d3] at h
  have d3b : (a1 == 3) = false := beq_eq_false_iff_ne.mpr d3
  clear d3
  by_cases d4 : a1 = 4
  · rw [if_pos d4] at h
    have d4b : (a1 == 4) = true := beq_iff_eq.mpr d4
    clear d4
    split at h
    case isFalse => cases h
    case isTrue hi =>
      have hi := Int.ofNat_lt.1 hi
      have HRR := Aside0.mk (Option.some.inj h)
      clear h
      subst hw1
      go_enter Try.func39, Try.ntmps39
      go_wp2_with fail
      generalize w.alloc (.cells #[.string a0_0, .slice A0_1 l0_1.length c0_1, .slice A0_2 l0_2.length c0_2, .slice A0_3 l0_3.length c0_3] 26) = w1 at *
      go_loopg [10] i (fun kq v9 wr => ∃ m : Nat, Aside0 (i - m = kq) ∧ Aside0 (m ≤ i) ∧ v9 = .int .i64 (m : Int) ∧ Aside0 (Below w1.heap.size w1 wr) ∧ Aside0 (∀ j : Nat, j < m → (((rd_T55 l0_3 (j : Int)).f0).toList == ((rd_T55 l0_3 (i : Int)).f0).toList) = false))
      case atStart => exact ⟨0, ⟨rfl⟩, ⟨Nat.zero_le _⟩, rfl, ⟨Below.refl _ _⟩, ⟨fun j hj => absurd hj (Nat.not_lt_zero _)⟩⟩
      case round =>
        obtain ⟨m, HKQ, HM, rfl, HB, HP⟩ := hrel
        by_cases hm : m < i
        · have hlt : decide ((m : Int) < (i : Int)) = true := decide_eq_true (by omega)
          obtain ⟨ad, _, _, _, _, _, _, e_ad, hx,_⟩ := at_T55 HR3.out (m : Int) (by omega) (by omega)
          subst e_ad
          obtain ⟨ad2, _, _, _, _, _, _, e_ad2, hy,_⟩ := at_T55 HR3.out (i : Int) (by omega) (by omega)
          obtain rfl : ad = ad2 := Option.some.inj e_ad2
          rw [Int.toNat_natCast] at hx hy
          obtain ⟨x, hxx⟩ : ∃ x, (rd_T55 l0_3 (m : Int)).f0 = x := ⟨_, rfl⟩
          obtain ⟨y, hyy⟩ : ∃ y, (rd_T55 l0_3 (i : Int)).f0 = y := ⟨_, rfl⟩
          rw [hxx] at hx
          rw [hyy] at hy
          have HX := Aside0.mk (And.intro hxx hyy)
          have HSE : Aside0 (∀ w', Below w1.heap.size w1 w' → w'.cell? ⟨w.heap.size, 3, none⟩ = some (.slice (some ad) l0_3.length c0_3) ∧ w'.cell? (ad.add (m * 6)) = some (.string x) ∧ w'.cell? (ad.add (i * 6)) = some (.string y)) := ⟨fun w' hb => by
            obtain ⟨h0, h1, h2, h3⟩ := cz4_ (blk_below HK.out hb)
            exact ⟨h3, pw_cell_below hb hx, pw_cell_below hb hy⟩⟩
          clear hx hy hxx hyy
          have hmL : m < l0_3.length := by omega
          cases hq : (x.toList == y.toList) with
          | true =>
            have HRF := Aside0.mk (show false = r by rw [← HRR.out, List.any_eq_true.2 ⟨m, List.mem_range.2 hm, by rw [HX.out.1, HX.out.2]; exact hq⟩]; rfl)
            go_wp2_with fail
            refine rs_ 13 [0, 1, 2, 3, 4, 5, 6, 7, 8, 9, 10, 11, 12] (fun w' => w'.cell? ⟨w.heap.size, 3, none⟩ = some (.slice (some ad) l0_3.length c0_3) ∧ w'.cell? (ad.add (m * 6)) = some (.string x) ∧ w'.cell? (ad.add (i * 6)) = some (.string y)) rfl (by kernel_rfl) (HSE.out _ (below_drew1 HB.out)) (fun hHeld => ?_)
            iterate 13 (first | (refine pu_ (a' := ?_) rfl rfl (by kernel_rfl) (fun _ _ _ h => h) (by rfl) ?_ ?_; rotate_left; (focus (simp only [Act.put, sb_, s0_, s1_, i64_w]; rfl))) | (refine tk_ (a' := ?_) (v := ?_) hHeld rfl rfl (by kernel_rfl) (fun _ _ _ h => h) (by rfl) ?_ ?_ ?_; rotate_left 2; (focus (intro W_ hS_; (repeat (obtain ⟨hs_, hS_⟩ := hS_)); go_simp; with_reducible rfl)); (focus (simp only [Act.put, sb_, s0_, s1_, i64_w]; rfl))))
            have HBD := Aside0.mk (below_drew1 HB.out)
            refine dn_ (by kernel_rfl) ?_
            clear hHeld
            go_wp2
            go_ret
            exact ⟨by rw [← HRF.out]; try rfl, HB1.out.trans (HBD.out.mono HB1.out.size)⟩
          | false =>
            have HQ := Aside0.mk hq
            go_wp2_with fail
            refine rs_ 13 [0, 1, 2, 3, 4, 5, 6, 7, 8, 9, 10, 11, 12] (fun w' => w'.cell? ⟨w.heap.size, 3, none⟩ = some (.slice (some ad) l0_3.length c0_3) ∧ w'.cell? (ad.add (m * 6)) = some (.string x) ∧ w'.cell? (ad.add (i * 6)) = some (.string y)) rfl (by kernel_rfl) (HSE.out _ (below_drew1 HB.out)) (fun hHeld => ?_)
            iterate 13 (first | (refine pu_ (a' := ?_) rfl rfl (by kernel_rfl) (fun _ _ _ h => h) (by rfl) ?_ ?_; rotate_left; (focus (simp only [Act.put, sb_, s0_, s1_, i64_w]; rfl))) | (refine tk_ (a' := ?_) (v := ?_) hHeld rfl rfl (by kernel_rfl) (fun _ _ _ h => h) (by rfl) ?_ ?_ ?_; rotate_left 2; (focus (intro W_ hS_; (repeat (obtain ⟨hs_, hS_⟩ := hS_)); go_simp; with_reducible rfl)); (focus (simp only [Act.put, sb_, s0_, s1_, i64_w]; rfl))))
            have HBD := Aside0.mk (below_drew1 HB.out)
            refine dn_ (by kernel_rfl) ?_
            clear hHeld
            go_wp2
            go_roundg (i - (m + 1))
            case measure => have := HKQ.out; omega
            case rel =>
              refine ⟨m + 1, ⟨rfl⟩, ⟨hm⟩, by go_num, HBD, ⟨fun j hj => ?_⟩⟩
              by_cases e : j = m
              · subst e; rw [HX.out.1, HX.out.2]; exact HQ.out
              · exact HP.out j (by omega)
        · have hlt : decide ((m : Int) < (i : Int)) = false := decide_eq_false (by omega)
          have hml : m = i := by have := HM.out; omega
          have HRF := Aside0.mk (show true = r by
            rw [← HRR.out, show ((List.range i).any fun m => (((rd_T55 l0_3 (m : Int)).f0).toList == ((rd_T55 l0_3 (i : Int)).f0).toList)) = false from ?_]
            · rfl
            · rw [List.any_eq_false]
              intro j hj
              rw [HP.out j (by have := List.mem_range.1 hj; omega)]
              decide)
          clear hml HP
          go_wp2
          go_ret
          exact ⟨by rw [← HRF.out]; try rfl, HB1.out.trans (HB.out.mono HB1.out.size)⟩
  rw [if_neg d4] at h
  have d4b : (a1 == 4) = false := beq_eq_false_iff_ne.mpr d4
  clear d4
  by_cases d5 : a1 = 5
  · rw [if_pos d5] at h
    have d5b : (a1 == 5) = true := beq_iff_eq.mpr d5
    clear d5
    split at h
    case isFalse => cases h
    case isTrue hi =>
      have hi := Int.ofNat_lt.1 hi
      obtain ⟨ks, hks, h⟩ := Option.bind_eq_some_iff.mp h
      obtain ⟨ad, _, _, _, _, _, _, e1, hx0, hx1, _⟩ := at_T55 HR3.out (i : Int) (by omega) (by omega)
      subst e1
      rw [Int.toNat_natCast] at hx0 hx1
      generalize rd_T55 l0_3 (i : Int) = x at *
      have HRR := Aside0.mk (Option.some.inj h)
      have HKS := Aside0.mk hks
      clear h hks
      subst hw1
      cases h1 : (x.f1 == 1) <;> cases h2 : decide ((ks.length : Int) ≥ wrap64 (x.f1 - 1)) <;>
        (rw [h1, h2] at HRR
         go_enter Try.func39, Try.ntmps39
         go_wp2_with (go_at_call 72; (with_reducible refine (semblanceref10_Kids.calls k _ c0_3 l0_3 (i : Int) ks _ HR3.out HCC.out.2.2 HKS.out).mono ?_); rintro e w4 ⟨v4, rfl, hR4, hb4⟩; obtain ⟨A9, c9, rfl⟩ := Kd.R_slice hR4; have HB4 := Aside0.mk hb4; have hx1' := pw_cell_below hb4 hx1; obtain ⟨hd0, hd1, hd2, hd3⟩ := cz4_ (blk_below HK.out hb4); clear hR4 hb4)
         go_ret
         exact ⟨by rw [← HRR.out]; try rfl, HB1.out.trans (HB4.out.mono HB1.out.size)⟩)
  · rw [if_neg d5] at h
    obtain rfl := Option.some.inj h
    have d5b : (a1 == 5) = false := beq_eq_false_iff_ne.mpr d5
    clear d5 h
    subst hw1
    go_enter Try.func39, Try.ntmps39
    go_wp2
    go_ret
    exact ⟨by try rfl, HB1.out⟩


/-! ### semblanceref05_Type: function 22 -/
mutual
def semblanceref05_Type.j0 : Nat → List (S47) → Int → List Int → Int → Bool → Option (Int)
  | 0, _, _, _, _, _ => none
  | k + 1, x0, x5, x6, x7, x22 => if x22 = true then (semblanceref05_Type.j1 k x0 x5 x6 2) else (semblanceref05_Type.j1 k x0 x5 x6 x7)
def semblanceref05_Type.j1 : Nat → List (S47) → Int → List Int → Int → Option (Int)
  | 0, _, _, _, _ => none
  | k + 1, x0, x5, x6, x7 => semblanceref05_Type.l0 k x0 x5 x6 x7 0
def semblanceref05_Type.l0 : Nat → List (S47) → Int → List Int → Int → Int → Option (Int)
  | 0, _, _, _, _, _ => none
  | k + 1, x0, x5, x6, x7, x8 => if x8 < (x6.length : Int) then (if 0 ≤ x8 then ((semblanceref05_Type.f k x0 (rd x6 x8)).bind fun t246 => (if t246 = x7 then (semblanceref05_Type.l0 k x0 x5 x6 x7 (wrap64 (x8 + 1))) else (some 0))) else (none)) else (if x5 ≤ 8 then (some 1) else (some 2))
def semblanceref05_Type.f : Nat → List (S47) → Int → Option (Int)
  | 0, _, _ => none
  | k + 1, l0, a1 => if 0 ≤ a1 then (if a1 < (l0.length : Int) then ((semblanceref05_Below.f k l0 a1).bind fun t242 => (if ((rd_T47 l0 a1).f0) = 12 then (semblanceref05_Type.j0 k l0 ((rd_T47 l0 a1).f0) t242 1 true) else (semblanceref05_Type.j0 k l0 ((rd_T47 l0 a1).f0) t242 1 (decide (((rd_T47 l0 a1).f0) ≥ 19))))) else (none)) else (none)
end
theorem semblanceref05_Type.mono_l : ∀ k, (∀ y0 y1, LeO (semblanceref05_Type.f k y0 y1) (semblanceref05_Type.f (k + 1) y0 y1)) ∧ (∀ y0 y1 y2 y3 y4, LeO (semblanceref05_Type.j0 k y0 y1 y2 y3 y4) (semblanceref05_Type.j0 (k + 1) y0 y1 y2 y3 y4)) ∧ (∀ y0 y1 y2 y3, LeO (semblanceref05_Type.j1 k y0 y1 y2 y3) (semblanceref05_Type.j1 (k + 1) y0 y1 y2 y3)) ∧ (∀ y0 y1 y2 y3 y4, LeO (semblanceref05_Type.l0 k y0 y1 y2 y3 y4) (semblanceref05_Type.l0 (k + 1) y0 y1 y2 y3 y4))
  | 0 => ⟨fun _ _ r h => by simp [semblanceref05_Type.f] at h, fun _ _ _ _ _ r h => by simp [semblanceref05_Type.j0] at h, fun _ _ _ _ r h => by simp [semblanceref05_Type.j1] at h, fun _ _ _ _ _ r h => by simp [semblanceref05_Type.l0] at h⟩
  | k + 1 => by
    obtain ⟨ih0, ih1, ih2, ih3⟩ := semblanceref05_Type.mono_l k
    refine ⟨?_, ?_, ?_, ?_⟩
    · intro y0 y1
      unfold semblanceref05_Type.f
      repeat' first
      | (with_reducible exact ih0 _ _)
      | (with_reducible exact ih1 _ _ _ _ _)
      | (with_reducible exact ih2 _ _ _ _)
      | (with_reducible exact ih3 _ _ _ _ _)
      | (with_reducible exact semblanceref05_Below.mono _ _ _)
      | (with_reducible exact LeO.refl _)
      | (with_reducible exact LeO.none _)
      | (with_reducible refine LeO.ite ?_ ?_)
      | (with_reducible refine LeO.bind ?_ (fun _ => ?_))
      | exact ih0 _ _
      | exact ih1 _ _ _ _ _
      | exact ih2 _ _ _ _
      | exact ih3 _ _ _ _ _
      | exact semblanceref05_Below.mono _ _ _
      | exact LeO.none _
      | refine LeO.ite ?_ ?_
      | refine LeO.bind ?_ (fun _ => ?_)
    · intro y0 y1 y2 y3 y4
      unfold semblanceref05_Type.j0
      repeat' first
      | (with_reducible exact ih0 _ _)
      | (with_reducible exact ih1 _ _ _ _ _)
      | (with_reducible exact ih2 _ _ _ _)
      | (with_reducible exact ih3 _ _ _ _ _)
      | (with_reducible exact semblanceref05_Below.mono _ _ _)
      | (with_reducible exact LeO.refl _)
      | (with_reducible exact LeO.none _)
      | (with_reducible refine LeO.ite ?_ ?_)
      | (with_reducible refine LeO.bind ?_ (fun _ => ?_))
      | exact ih0 _ _
      | exact ih1 _ _ _ _ _
      | exact ih2 _ _ _ _
      | exact ih3 _ _ _ _ _
      | exact semblanceref05_Below.mono _ _ _
      | exact LeO.none _
      | refine LeO.ite ?_ ?_
      | refine LeO.bind ?_ (fun _ => ?_)
    · intro y0 y1 y2 y3
      unfold semblanceref05_Type.j1
      repeat' first
      | (with_reducible exact ih0 _ _)
      | (with_reducible exact ih1 _ _ _ _ _)
      | (with_reducible exact ih2 _ _ _ _)
      | (with_reducible exact ih3 _ _ _ _ _)
      | (with_reducible exact semblanceref05_Below.mono _ _ _)
      | (with_reducible exact LeO.refl _)
      | (with_reducible exact LeO.none _)
      | (with_reducible refine LeO.ite ?_ ?_)
      | (with_reducible refine LeO.bind ?_ (fun _ => ?_))
      | exact ih0 _ _
      | exact ih1 _ _ _ _ _
      | exact ih2 _ _ _ _
      | exact ih3 _ _ _ _ _
      | exact semblanceref05_Below.mono _ _ _
      | exact LeO.none _
      | refine LeO.ite ?_ ?_
      | refine LeO.bind ?_ (fun _ => ?_)
    · intro y0 y1 y2 y3 y4
      unfold semblanceref05_Type.l0
      repeat' first
      | (with_reducible exact ih0 _ _)
      | (with_reducible exact ih1 _ _ _ _ _)
      | (with_reducible exact ih2 _ _ _ _)
      | (with_reducible exact ih3 _ _ _ _ _)
      | (with_reducible exact semblanceref05_Below.mono _ _ _)
      | (with_reducible exact LeO.refl _)
      | (with_reducible exact LeO.none _)
      | (with_reducible refine LeO.ite ?_ ?_)
      | (with_reducible refine LeO.bind ?_ (fun _ => ?_))
      | exact ih0 _ _
      | exact ih1 _ _ _ _ _
      | exact ih2 _ _ _ _
      | exact ih3 _ _ _ _ _
      | exact semblanceref05_Below.mono _ _ _
      | exact LeO.none _
      | refine LeO.ite ?_ ?_
      | refine LeO.bind ?_ (fun _ => ?_)
theorem semblanceref05_Type.mono : ∀ a0 a1 k, LeO (semblanceref05_Type.f k a0 a1) (semblanceref05_Type.f (k + 1) a0 a1) := by
  intro a0 a1 k
  obtain ⟨ih0, ih1, ih2, ih3⟩ := semblanceref05_Type.mono_l k
  exact ih0 a0 a1
theorem bz31_ {W W2 w : World} (_ : Below W.heap.size W W2) (h : Below w.heap.size w W) : Below w.heap.size w W := h
set_option maxHeartbeats 8000000 in
set_option maxRecDepth 100000 in
theorem semblanceref05_Type.calls (k : Nat) : ∀ (A0 : Option Addr) (c0 : Nat) (l0 : List (S47)) (a1 : Int) (r : Int) (w : World) (hr0 : Kd.C k47 w A0 l0.length l0) (hc0 : l0.length ≤ c0) (h : semblanceref05_Type.f k l0 a1 = some r),
  Calls Try.prog 22 #[.slice A0 l0.length c0, .int .i64 a1] w fun e w' => e = .returned (.int .i64 r) ∧ Below w.heap.size w w' := by
 induction k using Nat.strongRecOn with
 | _ k ih =>
 intro A0 c0 l0 a1 r w hr0 hc0 h
 cases k with
 | zero => exact absurd h (by simp [semblanceref05_Type.f])
 | succ k =>
 simp only [semblanceref05_Type.f] at h
 have HR0 := Aside0.mk hr0
 have HC0 := Aside0.mk hc0
 clear hr0 hc0
 have HB := Aside0.mk (Below.refl w.heap.size w)
 have H : (if 0 ≤ a1 then (if a1 < (l0.length : Int) then ((semblanceref05_Below.f k l0 a1).bind fun t242 => (if ((rd_T47 l0 a1).f0) = 12 then (semblanceref05_Type.j0 k l0 ((rd_T47 l0 a1).f0) t242 1 true) else (semblanceref05_Type.j0 k l0 ((rd_T47 l0 a1).f0) t242 1 (decide (((rd_T47 l0 a1).f0) ≥ 19))))) else (none)) else (none)) = some r := h
 clear h
 by_cases c3 : 0 ≤ a1
 rotate_left
 ·rw [if_neg c3] at H
  exact absurd H (by simp)

 rw [if_pos c3] at H
 have c3b0 : decide (0 ≤ a1) = true := decide_eq_true c3
 clear c3
 by_cases c4 : a1 < (l0.length : Int)
 rotate_left
 ·rw [if_neg c4] at H
  exact absurd H (by simp)
 rw [if_pos c4] at H
 have c4b0 : decide (a1 < (l0.length : Int)) = true := decide_eq_true c4
 clear c4
 replace H := Option.bind_eq_some_iff.mp H
 obtain ⟨t242, A50, H⟩ := H
 replace H : (if ((rd_T47 l0 a1).f0) = 12 then (semblanceref05_Type.j0 k l0 ((rd_T47 l0 a1).f0) t242 1 true) else (semblanceref05_Type.j0 k l0 ((rd_T47 l0 a1).f0) t242 1 (decide (((rd_T47 l0 a1).f0) ≥ 19)))) = some r := H
 have A5 := Aside0.mk A50
 clear A50
 have HC6 := Aside0.mk H
 clear H
 have p241 : 0 ≤ (a1 : Int) := of_decide_eq_true (by first | (with_reducible assumption) | assumption)
 have q241 : a1 < (l0.length : Int) := of_decide_eq_true (by first | (with_reducible assumption) | assumption)
 obtain ⟨ad241, e241, hx241_0, hx241_1, hx241_2⟩ := at_T47 HR0.out a1 p241 q241
 cases e241
 replace p241 := eq_true p241
 replace q241 := eq_true q241
 go_enter Try.func22, Try.ntmps22
 go_upto_region 4 with (first | ((with_reducible refine gate_callee (f := 57) rfl ?_); refine goesL_ (some 16) rfl rfl Try.func57 (by kernel_rfl) rfl #[.slice (some ad241) l0.length c0, .int .i64 a1] rfl (by (try simp only [List.map_toArray, List.map_cons, List.map_nil]); first | done | rfl | (simp only [List.length_drop, List.length_take]; rfl)) ?_; (with_reducible refine (semblanceref05_Below.calls k _ _ l0 a1 t242 _ ?side1 ?side2 A5.out).mono ?_); (case side1 => repeat (first | exact HR0.out | (with_reducible refine Kd.C_alloc ?_ _) | (with_reducible refine Kd.C_drewN ?_ _) | (with_reducible refine Kd.C_drew ?_))); (case side2 => exact HC0.out); rintro e w7 ⟨v243, rfl, ho0, hb⟩; have hB_ := bz31_ hb (brw HB.out); refine ⟨_, rfl, ?_⟩; have n0_ := Aside0.mk (Kd.R_lower ho0 (below_size hB_)); have n1_ := Aside0.mk (below_step hB_ hb); clear HB; have HO244 := n0_; have HB := n1_; clear n0_ n1_; (try clear hb); (try clear hb2); (try clear hk); (try clear hi); (try clear ho0)))
 (try simp only [Act.put, sb_, s0_, s1_])
 go_cut [22] (fun v22 wc => ∃ (kq : Nat) (x22_5 : Bool), v22 = .bool x22_5 ∧ Aside0 (semblanceref05_Type.j0 kq l0 ((rd_T47 l0 a1).f0) t242 1 x22_5 = some r) ∧ Aside0 (kq ≤ k) ∧ Aside0 (Kd.R (Kd.int .i64) 3 wc w.heap.size (fun _ => True) v243 t242) ∧ Aside0 (Below w.heap.size w wc))
 case first =>
  have H := HC6.out
  clear HC6
  by_cases c8 : ((rd_T47 l0 a1).f0) = 12
  rotate_left
  ·rw [if_neg c8] at H
   have c8b0 : (((rd_T47 l0 a1).f0) == 12) = false := beq_eq_false_iff_ne.mpr c8
   have c8b1 : (((rd_T47 l0 a1).f0) != 12) = true := bne_iff_ne.mpr c8
   (first | rw [c8b0] | (simp only [i64_w, i32_w]; rw [c8b0]) | skip)
   have H' := Aside0.mk H
   clear H
   go_wp2
   go_meet
   case rel => exact ⟨_, (decide (((rd_T47 l0 a1).f0) ≥ 19)), (by first | rfl | (simp; done) | (simp [*]; done)), H', ⟨by first | omega | exact Nat.le_refl _⟩, ⟨by (with_reducible repeat (first | apply Kd.R_alloc | apply Kd.R_drewN | apply Kd.R_drew)); exact HO244.out⟩, ⟨by repeat (first | (with_reducible first | exact HB.out | apply below_alloc | apply pw_below_drewN | apply below_drew1) | exact HB.out)⟩⟩
  rw [if_pos c8] at H
  have c8b0 : (((rd_T47 l0 a1).f0) == 12) = true := beq_iff_eq.mpr c8
  have c8b1 : (((rd_T47 l0 a1).f0) != 12) = false := bne_eq_false_iff_eq.mpr c8
  clear c8
  (first | rw [c8b0] | (simp only [i64_w, i32_w]; rw [c8b0]) | skip)
  have H' := Aside0.mk H
  clear H
  go_wp2
  go_meet
  case rel => exact ⟨_, (true), (by first | rfl | (simp; done) | (simp [*]; done)), H', ⟨by first | omega | exact Nat.le_refl _⟩, ⟨by (with_reducible repeat (first | apply Kd.R_alloc | apply Kd.R_drewN | apply Kd.R_drew)); exact HO244.out⟩, ⟨by repeat (first | (with_reducible first | exact HB.out | apply below_alloc | apply pw_below_drewN | apply below_drew1) | exact HB.out)⟩⟩
 case rest =>
  clear HC6
  try clear c2
  try clear p2
  try clear q2
  try clear hx2
  try clear c3
  try clear c3b0
  try clear c4
  try clear c4b0
  try clear c5
  try clear c8
  try clear c8b0
  try clear c8b1
  try clear hx241_0
  try clear hx241_1
  try clear hx241_2
  try clear p241
  try clear q241
  obtain ⟨kq, x22_5, rfl, HA, HJ5, HO_6, HB⟩ := hcut
  cases kq with
  | zero => exact absurd HA.out (by simp [semblanceref05_Type.j0])
  | succ kj5 =>
   have H := HA.out
   clear HA
   simp only [semblanceref05_Type.j0] at H
   have HC9 := Aside0.mk H
   clear H
   go_upto_if 22 with (fail)
   go_cut [7] (fun v7 wc => ∃ (kq : Nat) (x7_8 : Int), v7 = .int .i64 x7_8 ∧ Aside0 (semblanceref05_Type.j1 kq l0 ((rd_T47 l0 a1).f0) t242 x7_8 = some r) ∧ Aside0 (kq ≤ kj5) ∧ Aside0 (Kd.R (Kd.int .i64) 3 wc w.heap.size (fun _ => True) v243 t242) ∧ Aside0 (Below w.heap.size w wc))
   case first =>
    have H := HC9.out
    clear HC9
    by_cases c10 : x22_5 = true
    ·subst c10
     have H1 : (semblanceref05_Type.j1 kj5 l0 ((rd_T47 l0 a1).f0) t242 2) = some r := by rw [if_pos rfl] at H; exact H
     clear H
     have H := H1
     clear H1
     have H' := Aside0.mk H
     clear H
     go_wp2
     go_meet
     case rel => exact ⟨_, (2), (by first | rfl | (simp; done) | (simp [*]; done)), H', ⟨by have := HJ5.out; first | omega | exact Nat.le_refl _⟩, ⟨by (with_reducible repeat (first | apply Kd.R_alloc | apply Kd.R_drewN | apply Kd.R_drew)); exact HO_6.out⟩, ⟨by repeat (first | (with_reducible first | exact HB.out | apply below_alloc | apply pw_below_drewN | apply below_drew1) | exact HB.out)⟩⟩
    replace c10 := Bool.eq_false_iff.mpr c10
    subst c10
    have H1 : (semblanceref05_Type.j1 kj5 l0 ((rd_T47 l0 a1).f0) t242 1) = some r := by rw [if_neg (show ¬ (false = true) by decide)] at H; exact H
    clear H
    have H := H1
    clear H1
    have H' := Aside0.mk H
    clear H
    go_wp2
    go_meet
    case rel => exact ⟨_, (1), (by first | rfl | (simp; done) | (simp [*]; done)), H', ⟨by have := HJ5.out; first | omega | exact Nat.le_refl _⟩, ⟨by (with_reducible repeat (first | apply Kd.R_alloc | apply Kd.R_drewN | apply Kd.R_drew)); exact HO_6.out⟩, ⟨by repeat (first | (with_reducible first | exact HB.out | apply below_alloc | apply pw_below_drewN | apply below_drew1) | exact HB.out)⟩⟩
   case rest =>
    clear HC9
    try clear c1
    try clear c2
    try clear p2
    try clear q2
    try clear hx2
    try clear c3
    try clear c3b0
    try clear c4
    try clear c4b0
    try clear c5
    try clear c8
    try clear c8b0
    try clear c8b1
    try clear c10
    try clear hx241_0
    try clear hx241_1
    try clear hx241_2
    try clear p2
    try clear p241
    try clear q2
    try clear q241
    obtain ⟨kq, x7_8, rfl, HA, HJ8, HO_6, HB⟩ := hcut
    cases kq with
    | zero => exact absurd HA.out (by simp [semblanceref05_Type.j1])
    | succ kj8 =>
     have H := HA.out
     clear HA
     simp only [semblanceref05_Type.j1] at H
     have H' := Aside0.mk H
     clear H
     go_wp2
     go_loopg [8] kj8 (fun kq v8 w' => ∃ (x8_3 : Int), v8 = .int .i64 x8_3 ∧ Aside0 (semblanceref05_Type.l0 kq l0 ((rd_T47 l0 a1).f0) t242 x7_8 x8_3 = some r) ∧ Aside0 (kq ≤ kj8) ∧ Aside0 (Kd.R (Kd.int .i64) 3 w' w.heap.size (fun _ => True) v243 t242) ∧ Aside0 (Below w.heap.size w w'))
     case atStart => exact ⟨(0), (by first | rfl | (simp; done) | (simp [*]; done)), H', ⟨Nat.le_refl _⟩, ⟨by (with_reducible repeat (first | apply Kd.R_alloc | apply Kd.R_drewN | apply Kd.R_drew)); exact HO_6.out⟩, ⟨by repeat (first | (with_reducible first | exact HB.out | apply below_alloc | apply pw_below_drewN | apply below_drew1) | exact HB.out)⟩⟩
     case round =>
      clear H'
      try clear c1
      try clear c2
      try clear p2
      try clear q2
      try clear hx2
      try clear c3
      try clear c3b0
      try clear c4
      try clear c4b0
      try clear c5
      try clear c8
      try clear c8b0
      try clear c8b1
      try clear c10
      try clear hx241_0
      try clear hx241_1
      try clear hx241_2
      try clear p2
      try clear p241
      try clear q2
      try clear q241
      obtain ⟨x8_3, rfl, HA, HK3, HO_6, HB⟩ := hrel
      cases gk with
      | zero => exact absurd HA.out (by simp [semblanceref05_Type.l0])
      | succ k3 =>
       have H := HA.out
       clear HA
       simp only [semblanceref05_Type.l0] at H
       by_cases c11 : x8_3 < (t242.length : Int)
       rotate_left
       ·rw [if_neg c11] at H
        have c11b0 : decide (x8_3 < (t242.length : Int)) = false := decide_eq_false c11
        clear c11
        by_cases c19 : ((rd_T47 l0 a1).f0) ≤ 8
        ·rw [if_pos c19] at H
         have c19b0 : decide (((rd_T47 l0 a1).f0) ≤ 8) = true := decide_eq_true c19
         clear c19
         obtain rfl := Option.some.inj H
         obtain ⟨Ao20, co20, eo20⟩ := Kd.R_slice HO_6.out
         subst eo20
         go_wp2
         go_ret
         exact ⟨by first | rfl | (simp [errW_none, errW_some] <;> rfl) | (simp [*, errW_none, errW_some] <;> rfl), by repeat (first | (with_reducible first | exact HB.out | apply below_alloc | apply pw_below_drewN | apply below_drew1) | exact HB.out)⟩
        rw [if_neg c19] at H
        have c19b0 : decide (((rd_T47 l0 a1).f0) ≤ 8) = false := decide_eq_false c19
        clear c19
        obtain rfl := Option.some.inj H
        obtain ⟨Ao21, co21, eo21⟩ := Kd.R_slice HO_6.out
        subst eo21
        go_wp2
        go_ret
        exact ⟨by first | rfl | (simp [errW_none, errW_some] <;> rfl) | (simp [*, errW_none, errW_some] <;> rfl), by repeat (first | (with_reducible first | exact HB.out | apply below_alloc | apply pw_below_drewN | apply below_drew1) | exact HB.out)⟩
       rw [if_pos c11] at H
       have c11b0 : decide (x8_3 < (t242.length : Int)) = true := decide_eq_true c11
       clear c11
       by_cases c12 : 0 ≤ x8_3
       rotate_left
       ·rw [if_neg c12] at H
        exact absurd H (by simp)
       rw [if_pos c12] at H
       have c12b0 : decide (0 ≤ x8_3) = true := decide_eq_true c12
       clear c12
       replace H := Option.bind_eq_some_iff.mp H
       obtain ⟨t246, A130, H⟩ := H
       replace H : (if t246 = x7_8 then (semblanceref05_Type.l0 k3 l0 ((rd_T47 l0 a1).f0) t242 x7_8 (wrap64 (x8_3 + 1))) else (some 0)) = some r := H
       have A13 := Aside0.mk A130
       clear A130
       by_cases c14 : t246 = x7_8
       rotate_left
       ·rw [if_neg c14] at H
        have c14b0 : (t246 == x7_8) = false := beq_eq_false_iff_ne.mpr c14
        have c14b1 : (t246 != x7_8) = true := bne_iff_ne.mpr c14
        obtain rfl := Option.some.inj H
        obtain ⟨Ao17, co17, eo17⟩ := Kd.R_slice HO_6.out
        subst eo17
        have p245 : 0 ≤ (x8_3 : Int) := of_decide_eq_true (by first | (with_reducible assumption) | assumption)
        have q245 : x8_3 < (t242.length : Int) := of_decide_eq_true (by first | (with_reducible assumption) | assumption)
        obtain ⟨ad245, e245, hx245_0⟩ := Kd.at_int (Kd.R_reads' HO_6.out).2.2 x8_3 p245 q245
        cases e245
        replace p245 := eq_true p245
        replace q245 := eq_true q245
        go_wp2_with (first | ((with_reducible refine gate_callee (f := 22) rfl ?_); refine goesL_ (some 34) rfl rfl Try.func22 (by kernel_rfl) rfl #[.slice (some ad241) l0.length c0, .int .i64 (rd t242 x8_3)] rfl (by (try simp only [List.map_toArray, List.map_cons, List.map_nil]); first | done | rfl | (simp only [List.length_drop, List.length_take]; rfl)) ?_; (with_reducible refine (ih k3 (by have := HJ5.out; have := HJ8.out; have := HK3.out; omega) _ _ l0 (rd t242 x8_3) t246 _ ?side1 ?side2 A13.out).mono ?_); (case side1 => repeat (first | exact (Kd.C_below HR0.out HB.out) | (with_reducible refine Kd.C_alloc ?_ _) | (with_reducible refine Kd.C_drewN ?_ _) | (with_reducible refine Kd.C_drew ?_))); (case side2 => exact HC0.out); rintro e w18 ⟨rfl, hb⟩; refine ⟨_, rfl, ?_⟩; have n0_ := Aside0.mk (Kd.R_below (by (with_reducible repeat (first | apply Kd.R_alloc | apply Kd.R_drewN | apply Kd.R_drew)); exact HO_6.out) hb); have n1_ := Aside0.mk (below_step (brw HB.out) hb); clear HO_6; clear HB; have HO_6 := n0_; have HB := n1_; clear n0_ n1_; (try clear hb); (try clear hb2); (try clear hk); (try clear hi)))
        go_ret
        exact ⟨by first | rfl | (simp [errW_none, errW_some] <;> rfl) | (simp [*, errW_none, errW_some] <;> rfl), by repeat (first | (with_reducible first | exact HB.out | apply below_alloc | apply pw_below_drewN | apply below_drew1) | exact HB.out)⟩
       rw [if_pos c14] at H
       have c14b0 : (t246 == x7_8) = true := beq_iff_eq.mpr c14
       have c14b1 : (t246 != x7_8) = false := bne_eq_false_iff_eq.mpr c14
       clear c14
       have H' := Aside0.mk H
       clear H
       obtain ⟨Ao15, co15, eo15⟩ := Kd.R_slice HO_6.out
       subst eo15
       have p245 : 0 ≤ (x8_3 : Int) := of_decide_eq_true (by first | (with_reducible assumption) | assumption)
       have q245 : x8_3 < (t242.length : Int) := of_decide_eq_true (by first | (with_reducible assumption) | assumption)
       obtain ⟨ad245, e245, hx245_0⟩ := Kd.at_int (Kd.R_reads' HO_6.out).2.2 x8_3 p245 q245
       cases e245
       replace p245 := eq_true p245
       replace q245 := eq_true q245
       go_wp2_with (first | ((with_reducible refine gate_callee (f := 22) rfl ?_); refine goesL_ (some 34) rfl rfl Try.func22 (by kernel_rfl) rfl #[.slice (some ad241) l0.length c0, .int .i64 (rd t242 x8_3)] rfl (by (try simp only [List.map_toArray, List.map_cons, List.map_nil]); first | done | rfl | (simp only [List.length_drop, List.length_take]; rfl)) ?_; (with_reducible refine (ih k3 (by have := HJ5.out; have := HJ8.out; have := HK3.out; omega) _ _ l0 (rd t242 x8_3) t246 _ ?side1 ?side2 A13.out).mono ?_); (case side1 => repeat (first | exact (Kd.C_below HR0.out HB.out) | (with_reducible refine Kd.C_alloc ?_ _) | (with_reducible refine Kd.C_drewN ?_ _) | (with_reducible refine Kd.C_drew ?_))); (case side2 => exact HC0.out); rintro e w16 ⟨rfl, hb⟩; refine ⟨_, rfl, ?_⟩; have n0_ := Aside0.mk (Kd.R_below (by (with_reducible repeat (first | apply Kd.R_alloc | apply Kd.R_drewN | apply Kd.R_drew)); exact HO_6.out) hb); have n1_ := Aside0.mk (below_step (brw HB.out) hb); clear HO_6; clear HB; have HO_6 := n0_; have HB := n1_; clear n0_ n1_; (try clear hb); (try clear hb2); (try clear hk); (try clear hi)))
       go_roundg k3
       case measure => have := HJ5.out; have := HJ8.out; have := HK3.out; omega
       case rel => exact ⟨(wrap64 (x8_3 + 1)), (by first | rfl | (simp; done) | (simp [*]; done)), H', ⟨by have := HJ5.out; have := HJ8.out; have := HK3.out; omega⟩, ⟨by (with_reducible repeat (first | apply Kd.R_alloc | apply Kd.R_drewN | apply Kd.R_drew)); exact HO_6.out⟩, ⟨by repeat (first | (with_reducible first | exact HB.out | apply below_alloc | apply pw_below_drewN | apply below_drew1) | exact HB.out)⟩⟩
/-! ### semblanceref14_HasVar: function 73 -/
def semblanceref14_HasVar.l0 : Nat → ByteArray → Int → ByteArray → List ByteArray → List (S51) → List (S55) → Option (Bool)
  | 0, _, _, _, _, _, _ => none
  | k + 1, x1, x5, x248000, x248001, x248002, x248003 => if x5 < (x248002.length : Int) then (if 0 ≤ x5 then (if ((rd_T51 x248002 x5).f0).toList = x1.toList then (some true) else (semblanceref14_HasVar.l0 k x1 (wrap64 (x5 + 1)) x248000 x248001 x248002 x248003)) else (none)) else (some false)
def semblanceref14_HasVar.f (k : Nat) (a0_0 : ByteArray) (l0_1 : List ByteArray) (l0_2 : List (S51)) (l0_3 : List (S55)) (a1 : ByteArray) : Option (Bool) := semblanceref14_HasVar.l0 k a1 0 a0_0 l0_1 l0_2 l0_3
theorem semblanceref14_HasVar.mono_l : ∀ k, (∀ y0 y1 y2 y3 y4 y5, LeO (semblanceref14_HasVar.l0 k y0 y1 y2 y3 y4 y5) (semblanceref14_HasVar.l0 (k + 1) y0 y1 y2 y3 y4 y5))
  | 0 => fun _ _ _ _ _ _ r h => by simp [semblanceref14_HasVar.l0] at h
  | k + 1 => by
    have ih0 := semblanceref14_HasVar.mono_l k
    · intro y0 y1 y2 y3 y4 y5
      unfold semblanceref14_HasVar.l0
      repeat' first
      | (with_reducible exact ih0 _ _ _ _ _ _)
      | (with_reducible exact LeO.refl _)
      | (with_reducible exact LeO.none _)
      | (with_reducible refine LeO.ite ?_ ?_)
      | (with_reducible refine LeO.bind ?_ (fun _ => ?_))
      | exact ih0 _ _ _ _ _ _
      | exact LeO.none _
      | refine LeO.ite ?_ ?_
      | refine LeO.bind ?_ (fun _ => ?_)
theorem semblanceref14_HasVar.mono : ∀ a0 a1 a2 a3 a4 k, LeO (semblanceref14_HasVar.f k a0 a1 a2 a3 a4) (semblanceref14_HasVar.f (k + 1) a0 a1 a2 a3 a4) := by
  intro a0 a1 a2 a3 a4 k
  have ih0 := semblanceref14_HasVar.mono_l k
  unfold semblanceref14_HasVar.f
  repeat' first
      | (with_reducible exact ih0 _ _ _ _ _ _)
      | (with_reducible exact LeO.refl _)
      | (with_reducible exact LeO.none _)
      | (with_reducible refine LeO.ite ?_ ?_)
      | (with_reducible refine LeO.bind ?_ (fun _ => ?_))
      | exact ih0 _ _ _ _ _ _
      | exact LeO.none _
      | refine LeO.ite ?_ ?_
      | refine LeO.bind ?_ (fun _ => ?_)
theorem hc32_ {w W : World} {a : Addr} {v : Value} (hb : Below w.heap.size w W) (h : w.cell? a = some v) : W.cell? a = some v := (hb.cell (World.block_lt_of_cell? w _ h)).trans h
theorem bz32_ {W W2 w : World} (_ : Below W.heap.size W W2) (h : Below w.heap.size w W) : Below w.heap.size w W := h
set_option maxHeartbeats 8000000 in
set_option maxRecDepth 100000 in
theorem semblanceref14_HasVar.calls (k : Nat) (a0_0 : ByteArray) (A0_1 : Option Addr) (c0_1 : Nat) (l0_1 : List ByteArray) (A0_2 : Option Addr) (c0_2 : Nat) (l0_2 : List (S51)) (A0_3 : Option Addr) (c0_3 : Nat) (l0_3 : List (S55)) (a1 : ByteArray) (r : Bool) (w : World) (hr0_1 : Kd.C Kd.string w A0_1 l0_1.length l0_1) (hc0_1 : l0_1.length ≤ c0_1) (hr0_2 : Kd.C k51 w A0_2 l0_2.length l0_2) (hc0_2 : l0_2.length ≤ c0_2) (hr0_3 : Kd.C k55 w A0_3 l0_3.length l0_3) (hc0_3 : l0_3.length ≤ c0_3) (h : semblanceref14_HasVar.f k a0_0 l0_1 l0_2 l0_3 a1 = some r) :
  Calls Try.prog 73 #[.agg #[.string a0_0, .slice A0_1 l0_1.length c0_1, .slice A0_2 l0_2.length c0_2, .slice A0_3 l0_3.length c0_3], .string a1] w fun e w' => e = .returned (.bool r) ∧ Below w.heap.size w w' := by
 have hu26 := Try.underlying26
 have HR0_1 := Aside0.mk hr0_1
 have HC0_1 := Aside0.mk hc0_1
 clear hr0_1 hc0_1
 have HR0_2 := Aside0.mk hr0_2
 have HC0_2 := Aside0.mk hc0_2
 clear hr0_2 hc0_2
 have HR0_3 := Aside0.mk hr0_3
 have HC0_3 := Aside0.mk hc0_3
 clear hr0_3 hc0_3
 have HB := Aside0.mk (Below.refl w.heap.size w)
 have H : (semblanceref14_HasVar.l0 k a1 0 a0_0 l0_1 l0_2 l0_3) = some r := h
 clear h
 have H' := Aside0.mk H
 clear H
 go_enter Try.func73, Try.ntmps73
 go_wp2_with (first | ((with_reducible refine gate_dst (N := 2) rfl ?_); refine box_event ?hg (N := 2) ?hd (cs := #[.string a0_0, .slice A0_1 l0_1.length c0_1, .slice A0_2 l0_2.length c0_2, .slice A0_3 l0_3.length c0_3]) (t := 26) ?hr ?_; (case hd => rfl); (case hg => rfl); (case hr => first | (go_simp; done) | (go_simp; rfl)); intro gb247 hg w3 hbox hb; have hB_ := bz32_ hb (brw HB.out); have n0_ := Aside0.mk (below_step hB_ hb); have n1_ := Aside0.mk (hbox); have n2_ := Aside0.mk ((by rw [hg]; exact (below_size hB_) : w.heap.size ≤ gb247)); have n3_ := Aside0.mk ((by rw [hg]; exact (below_size hB_) : w.heap.size ≤ gb247)); clear HB; have HB := n0_; have BK247 := n1_; have GW247 := n2_; have GE247 := n3_; clear n0_ n1_ n2_ n3_; clear hb hbox hg))
 go_loopg [5] k (fun kq v5 w' => ∃ (x5_1 : Int), v5 = .int .i64 x5_1 ∧ Aside0 (semblanceref14_HasVar.l0 kq a1 x5_1 a0_0 l0_1 l0_2 l0_3 = some r) ∧ Aside0 (kq ≤ k) ∧ Aside0 (w'.heap[gb247]? = some (.cells #[.string a0_0, (.slice A0_1 l0_1.length c0_1), (.slice A0_2 l0_2.length c0_2), (.slice A0_3 l0_3.length c0_3)] 26 (0, 0))) ∧ Aside0 (Below w.heap.size w w'))
 case atStart => exact ⟨(0), (by first | rfl | (simp; done) | (simp [*]; done)), H', ⟨Nat.le_refl _⟩, ⟨grw BK247.out⟩, ⟨by repeat (first | (with_reducible first | exact HB.out | apply below_alloc | apply pw_below_drewN | apply below_drew1 | refine below_set ?_ GE247.out) | exact HB.out)⟩⟩
 case round =>
  clear H'
  try clear p2
  obtain ⟨x5_1, rfl, HA, HK1, BK247, HB⟩ := hrel
  cases gk with
  | zero => exact absurd HA.out (by simp [semblanceref14_HasVar.l0])
  | succ k1 =>
   have H := HA.out
   clear HA
   simp only [semblanceref14_HasVar.l0] at H
   by_cases c4 : x5_1 < (l0_2.length : Int)
   rotate_left
   ·rw [if_neg c4] at H
    have c4b0 : decide (x5_1 < (l0_2.length : Int)) = false := decide_eq_false c4
    clear c4
    obtain rfl := Option.some.inj H
    obtain ⟨hcz9_0, hcz9_1, hcz9_2, hcz9_3⟩ := cz4_ BK247.out
    obtain ⟨hfz9_0, hfz9_1, hfz9_2, hfz9_3⟩ := cf4_ BK247.out
    go_wp2
    go_ret
    exact ⟨by first | rfl | (simp [errW_none, errW_some] <;> rfl) | (simp [*, errW_none, errW_some] <;> rfl), by repeat (first | (with_reducible first | exact HB.out | apply below_alloc | apply pw_below_drewN | apply below_drew1 | refine below_set ?_ GE247.out) | exact HB.out)⟩

   rw [if_pos c4] at H
   have c4b0 : decide (x5_1 < (l0_2.length : Int)) = true := decide_eq_true c4
   clear c4
   by_cases c5 : 0 ≤ x5_1
   rotate_left
   ·rw [if_neg c5] at H
    exact absurd H (by simp)
   rw [if_pos c5] at H
   have c5b0 : decide (0 ≤ x5_1) = true := decide_eq_true c5
   clear c5
   by_cases c6 : ((rd_T51 l0_2 x5_1).f0).toList = a1.toList
   ·rw [if_pos c6] at H
    have c6b0 : (((rd_T51 l0_2 x5_1).f0).toList == a1.toList) = true := beq_iff_eq.mpr c6
    have c6b1 : (((rd_T51 l0_2 x5_1).f0).toList != a1.toList) = false := bne_eq_false_iff_eq.mpr c6
    clear c6
    obtain rfl := Option.some.inj H
    obtain ⟨hcz7_0, hcz7_1, hcz7_2, hcz7_3⟩ := cz4_ BK247.out
    obtain ⟨hfz7_0, hfz7_1, hfz7_2, hfz7_3⟩ := cf4_ BK247.out
    have p248 : 0 ≤ (x5_1 : Int) := of_decide_eq_true (by first | (with_reducible assumption) | assumption)
    have q248 : x5_1 < (l0_2.length : Int) := of_decide_eq_true (by first | (with_reducible assumption) | assumption)
    obtain ⟨ad248, e248, hx248_0, hx248_1, hx248_2, hx248_3⟩ := at_T51 HR0_2.out x5_1 p248 q248
    cases e248
    replace hx248_0 := hc32_ HB.out hx248_0
    replace hx248_1 := hc32_ HB.out hx248_1
    replace hx248_2 := hc32_ HB.out hx248_2
    replace hx248_3 := hc32_ HB.out hx248_3
    replace p248 := eq_true p248
    replace q248 := eq_true q248
    go_wp2
    go_ret
    exact ⟨by first | rfl | (simp [errW_none, errW_some] <;> rfl) | (simp [*, errW_none, errW_some] <;> rfl), by repeat (first | (with_reducible first | exact HB.out | apply below_alloc | apply pw_below_drewN | apply below_drew1 | refine below_set ?_ GE247.out) | exact HB.out)⟩
   rw [if_neg c6] at H
   have c6b0 : (((rd_T51 l0_2 x5_1).f0).toList == a1.toList) = false := beq_eq_false_iff_ne.mpr c6
   have c6b1 : (((rd_T51 l0_2 x5_1).f0).toList != a1.toList) = true := bne_iff_ne.mpr c6
   have H' := Aside0.mk H
   clear H
   obtain ⟨hcz8_0, hcz8_1, hcz8_2, hcz8_3⟩ := cz4_ BK247.out
   obtain ⟨hfz8_0, hfz8_1, hfz8_2, hfz8_3⟩ := cf4_ BK247.out
   have p248 : 0 ≤ (x5_1 : Int) := of_decide_eq_true (by first | (with_reducible assumption) | assumption)
   have q248 : x5_1 < (l0_2.length : Int) := of_decide_eq_true (by first | (with_reducible assumption) | assumption)
   obtain ⟨ad248, e248, hx248_0, hx248_1, hx248_2, hx248_3⟩ := at_T51 HR0_2.out x5_1 p248 q248
   cases e248
   replace hx248_0 := hc32_ HB.out hx248_0
   replace hx248_1 := hc32_ HB.out hx248_1
   replace hx248_2 := hc32_ HB.out hx248_2
   replace hx248_3 := hc32_ HB.out hx248_3
   replace p248 := eq_true p248
   replace q248 := eq_true q248
   go_wp2
   go_roundg k1
   case measure => have := HK1.out; omega
   case rel => exact ⟨(wrap64 (x5_1 + 1)), (by first | rfl | (simp; done) | (simp [*]; done)), H', ⟨by have := HK1.out; omega⟩, ⟨grw BK247.out⟩, ⟨by repeat (first | (with_reducible first | exact HB.out | apply below_alloc | apply pw_below_drewN | apply below_drew1 | refine below_set ?_ GE247.out) | exact HB.out)⟩⟩
/-! ### semblanceref14_HasState: function 76 -/
def semblanceref14_HasState.l0 : Nat → ByteArray → Int → ByteArray → List ByteArray → List (S51) → List (S55) → Option (Bool)
  | 0, _, _, _, _, _, _ => none
  | k + 1, x1, x5, x250000, x250001, x250002, x250003 => if x5 < (x250003.length : Int) then (if 0 ≤ x5 then (if ((rd_T55 x250003 x5).f0).toList = x1.toList then (some true) else (semblanceref14_HasState.l0 k x1 (wrap64 (x5 + 1)) x250000 x250001 x250002 x250003)) else (none)) else (some false)
def semblanceref14_HasState.f (k : Nat) (a0_0 : ByteArray) (l0_1 : List ByteArray) (l0_2 : List (S51)) (l0_3 : List (S55)) (a1 : ByteArray) : Option (Bool) := semblanceref14_HasState.l0 k a1 0 a0_0 l0_1 l0_2 l0_3
theorem semblanceref14_HasState.mono_l : ∀ k, (∀ y0 y1 y2 y3 y4 y5, LeO (semblanceref14_HasState.l0 k y0 y1 y2 y3 y4 y5) (semblanceref14_HasState.l0 (k + 1) y0 y1 y2 y3 y4 y5))
  | 0 => fun _ _ _ _ _ _ r h => by simp [semblanceref14_HasState.l0] at h
  | k + 1 => by
    have ih0 := semblanceref14_HasState.mono_l k
    · intro y0 y1 y2 y3 y4 y5
      unfold semblanceref14_HasState.l0
      repeat' first
      | (with_reducible exact ih0 _ _ _ _ _ _)
      | (with_reducible exact LeO.refl _)
      | (with_reducible exact LeO.none _)
      | (with_reducible refine LeO.ite ?_ ?_)
      | (with_reducible refine LeO.bind ?_ (fun _ => ?_))
      | exact ih0 _ _ _ _ _ _
      | exact LeO.none _
      | refine LeO.ite ?_ ?_
      | refine LeO.bind ?_ (fun _ => ?_)
theorem semblanceref14_HasState.mono : ∀ a0 a1 a2 a3 a4 k, LeO (semblanceref14_HasState.f k a0 a1 a2 a3 a4) (semblanceref14_HasState.f (k + 1) a0 a1 a2 a3 a4) := by
  intro a0 a1 a2 a3 a4 k
  have ih0 := semblanceref14_HasState.mono_l k
  unfold semblanceref14_HasState.f
  repeat' first
      | (with_reducible exact ih0 _ _ _ _ _ _)
      | (with_reducible exact LeO.refl _)
      | (with_reducible exact LeO.none _)
      | (with_reducible refine LeO.ite ?_ ?_)
      | (with_reducible refine LeO.bind ?_ (fun _ => ?_))
      | exact ih0 _ _ _ _ _ _
      | exact LeO.none _
      | refine LeO.ite ?_ ?_
      | refine LeO.bind ?_ (fun _ => ?_)
theorem hc33_ {w W : World} {a : Addr} {v : Value} (hb : Below w.heap.size w W) (h : w.cell? a = some v) : W.cell? a = some v := (hb.cell (World.block_lt_of_cell? w _ h)).trans h
theorem bz33_ {W W2 w : World} (_ : Below W.heap.size W W2) (h : Below w.heap.size w W) : Below w.heap.size w W := h
set_option maxHeartbeats 8000000 in
set_option maxRecDepth 100000 in
theorem semblanceref14_HasState.calls (k : Nat) (a0_0 : ByteArray) (A0_1 : Option Addr) (c0_1 : Nat) (l0_1 : List ByteArray) (A0_2 : Option Addr) (c0_2 : Nat) (l0_2 : List (S51)) (A0_3 : Option Addr) (c0_3 : Nat) (l0_3 : List (S55)) (a1 : ByteArray) (r : Bool) (w : World) (hr0_1 : Kd.C Kd.string w A0_1 l0_1.length l0_1) (hc0_1 : l0_1.length ≤ c0_1) (hr0_2 : Kd.C k51 w A0_2 l0_2.length l0_2) (hc0_2 : l0_2.length ≤ c0_2) (hr0_3 : Kd.C k55 w A0_3 l0_3.length l0_3) (hc0_3 : l0_3.length ≤ c0_3) (h : semblanceref14_HasState.f k a0_0 l0_1 l0_2 l0_3 a1 = some r) :
  Calls Try.prog 76 #[.agg #[.string a0_0, .slice A0_1 l0_1.length c0_1, .slice A0_2 l0_2.length c0_2, .slice A0_3 l0_3.length c0_3], .string a1] w fun e w' => e = .returned (.bool r) ∧ Below w.heap.size w w' := by
 have hu26 := Try.underlying26
 have HR0_1 := Aside0.mk hr0_1
 have HC0_1 := Aside0.mk hc0_1
 clear hr0_1 hc0_1
 have HR0_2 := Aside0.mk hr0_2
 have HC0_2 := Aside0.mk hc0_2
 clear hr0_2 hc0_2
 have HR0_3 := Aside0.mk hr0_3
 have HC0_3 := Aside0.mk hc0_3
 clear hr0_3 hc0_3
 have HB := Aside0.mk (Below.refl w.heap.size w)
 have H : (semblanceref14_HasState.l0 k a1 0 a0_0 l0_1 l0_2 l0_3) = some r := h
 clear h
 have H' := Aside0.mk H
 clear H
 go_enter Try.func76, Try.ntmps76
 go_wp2_with (first | ((with_reducible refine gate_dst (N := 2) rfl ?_); refine box_event ?hg (N := 2) ?hd (cs := #[.string a0_0, .slice A0_1 l0_1.length c0_1, .slice A0_2 l0_2.length c0_2, .slice A0_3 l0_3.length c0_3]) (t := 26) ?hr ?_; (case hd => rfl); (case hg => rfl); (case hr => first | (go_simp; done) | (go_simp; rfl)); intro gb249 hg w3 hbox hb; have hB_ := bz33_ hb (brw HB.out); have n0_ := Aside0.mk (below_step hB_ hb); have n1_ := Aside0.mk (hbox); have n2_ := Aside0.mk ((by rw [hg]; exact (below_size hB_) : w.heap.size ≤ gb249)); have n3_ := Aside0.mk ((by rw [hg]; exact (below_size hB_) : w.heap.size ≤ gb249)); clear HB; have HB := n0_; have BK249 := n1_; have GW249 := n2_; have GE249 := n3_; clear n0_ n1_ n2_ n3_; clear hb hbox hg))
 go_loopg [5] k (fun kq v5 w' => ∃ (x5_1 : Int), v5 = .int .i64 x5_1 ∧ Aside0 (semblanceref14_HasState.l0 kq a1 x5_1 a0_0 l0_1 l0_2 l0_3 = some r) ∧ Aside0 (kq ≤ k) ∧ Aside0 (w'.heap[gb249]? = some (.cells #[.string a0_0, (.slice A0_1 l0_1.length c0_1), (.slice A0_2 l0_2.length c0_2), (.slice A0_3 l0_3.length c0_3)] 26 (0, 0))) ∧ Aside0 (Below w.heap.size w w'))
 case atStart => exact ⟨(0), (by first | rfl | (simp; done) | (simp [*]; done)), H', ⟨Nat.le_refl _⟩, ⟨grw BK249.out⟩, ⟨by repeat (first | (with_reducible first | exact HB.out | apply below_alloc | apply pw_below_drewN | apply below_drew1 | refine below_set ?_ GE249.out) | exact HB.out)⟩⟩
 case round =>
  clear H'
  try clear p2
  obtain ⟨x5_1, rfl, HA, HK1, BK249, HB⟩ := hrel
  cases gk with
  | zero => exact absurd HA.out (by simp [semblanceref14_HasState.l0])
  | succ k1 =>
   have H := HA.out
   clear HA
   simp only [semblanceref14_HasState.l0] at H
   by_cases c4 : x5_1 < (l0_3.length : Int)
   rotate_left
   ·rw [if_neg c4] at H
    have c4b0 : decide (x5_1 < (l0_3.length : Int)) = false := decide_eq_false c4
    clear c4
    obtain rfl := Option.some.inj H
    obtain ⟨hcz9_0, hcz9_1, hcz9_2, hcz9_3⟩ := cz4_ BK249.out
    obtain ⟨hfz9_0, hfz9_1, hfz9_2, hfz9_3⟩ := cf4_ BK249.out
    go_wp2
    go_ret
    exact ⟨by first | rfl | (simp [errW_none, errW_some] <;> rfl) | (simp [*, errW_none, errW_some] <;> rfl), by repeat (first | (with_reducible first | exact HB.out | apply below_alloc | apply pw_below_drewN | apply below_drew1 | refine below_set ?_ GE249.out) | exact HB.out)⟩

   rw [if_pos c4] at H
   have c4b0 : decide (x5_1 < (l0_3.length : Int)) = true := decide_eq_true c4
   clear c4
   by_cases c5 : 0 ≤ x5_1
   rotate_left
   ·rw [if_neg c5] at H
    exact absurd H (by simp)
   rw [if_pos c5] at H
   have c5b0 : decide (0 ≤ x5_1) = true := decide_eq_true c5
   clear c5
   by_cases c6 : ((rd_T55 l0_3 x5_1).f0).toList = a1.toList
   ·rw [if_pos c6] at H
    have c6b0 : (((rd_T55 l0_3 x5_1).f0).toList == a1.toList) = true := beq_iff_eq.mpr c6
    have c6b1 : (((rd_T55 l0_3 x5_1).f0).toList != a1.toList) = false := bne_eq_false_iff_eq.mpr c6
    clear c6
    obtain rfl := Option.some.inj H
    obtain ⟨hcz7_0, hcz7_1, hcz7_2, hcz7_3⟩ := cz4_ BK249.out
    obtain ⟨hfz7_0, hfz7_1, hfz7_2, hfz7_3⟩ := cf4_ BK249.out
    have p250 : 0 ≤ (x5_1 : Int) := of_decide_eq_true (by first | (with_reducible assumption) | assumption)
    have q250 : x5_1 < (l0_3.length : Int) := of_decide_eq_true (by first | (with_reducible assumption) | assumption)
    obtain ⟨ad250, A250_3, c250_3, A250_4, c250_4, A250_5, c250_5, e250, hx250_0, hx250_1, hx250_2, hx250_3, hx250_4, hx250_5, hl250_3, hi250_3, hl250_4, hi250_4, hl250_5, hi250_5⟩ := at_T55 HR0_3.out x5_1 p250 q250
    cases e250
    replace hx250_0 := hc33_ HB.out hx250_0
    replace hx250_1 := hc33_ HB.out hx250_1
    replace hx250_2 := hc33_ HB.out hx250_2
    replace hx250_3 := hc33_ HB.out hx250_3
    replace hx250_4 := hc33_ HB.out hx250_4
    replace hx250_5 := hc33_ HB.out hx250_5
    have HR250_3 := Aside0.mk hi250_3
    have HC250_3 := Aside0.mk hl250_3
    clear hi250_3 hl250_3
    have HR250_4 := Aside0.mk hi250_4
    have HC250_4 := Aside0.mk hl250_4
    clear hi250_4 hl250_4
    have HR250_5 := Aside0.mk hi250_5
    have HC250_5 := Aside0.mk hl250_5
    clear hi250_5 hl250_5
    replace p250 := eq_true p250
    replace q250 := eq_true q250
    go_wp2
    go_ret
    exact ⟨by first | rfl | (simp [errW_none, errW_some] <;> rfl) | (simp [*, errW_none, errW_some] <;> rfl), by repeat (first | (with_reducible first | exact HB.out | apply below_alloc | apply pw_below_drewN | apply below_drew1 | refine below_set ?_ GE249.out) | exact HB.out)⟩
   rw [if_neg c6] at H
   have c6b0 : (((rd_T55 l0_3 x5_1).f0).toList == a1.toList) = false := beq_eq_false_iff_ne.mpr c6
   have c6b1 : (((rd_T55 l0_3 x5_1).f0).toList != a1.toList) = true := bne_iff_ne.mpr c6
   have H' := Aside0.mk H
   clear H
   obtain ⟨hcz8_0, hcz8_1, hcz8_2, hcz8_3⟩ := cz4_ BK249.out
   obtain ⟨hfz8_0, hfz8_1, hfz8_2, hfz8_3⟩ := cf4_ BK249.out
   have p250 : 0 ≤ (x5_1 : Int) := of_decide_eq_true (by first | (with_reducible assumption) | assumption)
   have q250 : x5_1 < (l0_3.length : Int) := of_decide_eq_true (by first | (with_reducible assumption) | assumption)
   obtain ⟨ad250, A250_3, c250_3, A250_4, c250_4, A250_5, c250_5, e250, hx250_0, hx250_1, hx250_2, hx250_3, hx250_4, hx250_5, hl250_3, hi250_3, hl250_4, hi250_4, hl250_5, hi250_5⟩ := at_T55 HR0_3.out x5_1 p250 q250
   cases e250
   replace hx250_0 := hc33_ HB.out hx250_0
   replace hx250_1 := hc33_ HB.out hx250_1
   replace hx250_2 := hc33_ HB.out hx250_2
   replace hx250_3 := hc33_ HB.out hx250_3
   replace hx250_4 := hc33_ HB.out hx250_4
   replace hx250_5 := hc33_ HB.out hx250_5
   have HR250_3 := Aside0.mk hi250_3
   have HC250_3 := Aside0.mk hl250_3
   clear hi250_3 hl250_3
   have HR250_4 := Aside0.mk hi250_4
   have HC250_4 := Aside0.mk hl250_4
   clear hi250_4 hl250_4
   have HR250_5 := Aside0.mk hi250_5
   have HC250_5 := Aside0.mk hl250_5
   clear hi250_5 hl250_5
   replace p250 := eq_true p250
   replace q250 := eq_true q250
   go_wp2
   go_roundg k1
   case measure => have := HK1.out; omega
   case rel => exact ⟨(wrap64 (x5_1 + 1)), (by first | rfl | (simp; done) | (simp [*]; done)), H', ⟨by have := HK1.out; omega⟩, ⟨grw BK249.out⟩, ⟨by repeat (first | (with_reducible first | exact HB.out | apply below_alloc | apply pw_below_drewN | apply below_drew1 | refine below_set ?_ GE249.out) | exact HB.out)⟩⟩
end Go.Proofs.Ytoeioigpkfgppaa.XR
