-- written by wip/xprint.py out of the translation
import Derived.Test.YtbkaiojofgmbnaaGreatXShort
import Derived.Test.YtbkaiojofgmbnaaGreatXSp0
import Derived.Test.YtbkaiojofgmbnaaGreatXSp5
namespace Go.Proofs.YtbkaiojofgmbnaaGreat.XS
open Go.Proofs.YtbkaiojofgmbnaaGreat.XShort Go.Proofs.YtbkaiojofgmbnaaGreat.XReg Go.Proofs.YtbkaiojofgmbnaaGreat.XGrow Go.RowKit Go.Proofs.YtbkaiojofgmbnaaGreatW.PrintWords Go.Proofs.YtbkaiojofgmbnaaGreatW.PrintLast Go.Proofs.YtbkaiojofgmbnaaGreatW.PrintMore
attribute [local go_sem] max2_int min2_int max_two min_two max_three min_three max_four min_four   -- for this text's walks alone
set_option linter.unusedVariables false
set_option linter.unusedSimpArgs false

/-! ### semblanceref12_Light: function 6 -/
-- USES semblance/semblanceref12.May
-- USES semblance/semblanceref11.Long
-- USES semblance/semblanceref12.weigh
-- USES semblance/semblanceref12.terms
theorem or4_cases (a b c d : Bool) : ((a = true ∨ (a = false ∧ b = true) ∨ (a = false ∧ b = false ∧ c = true) ∨ (a = false ∧ b = false ∧ c = false ∧ d = true)) ∧ (a || (b || (c || d))) = true) ∨ ((a = false ∧ b = false ∧ c = false ∧ d = false) ∧ (a || (b || (c || d))) = false) := by
  cases a <;> cases b <;> cases c <;> cases d <;> decide
theorem or3_cases (a b c : Bool) : ((a = true ∨ (a = false ∧ b = true) ∨ (a = false ∧ b = false ∧ c = true)) ∧ (a || (b || c)) = true) ∨ ((a = false ∧ b = false ∧ c = false) ∧ (a || (b || c)) = false) := by
  cases a <;> cases b <;> cases c <;> decide
theorem drop_at {α : Type} (l : List α) (z : α) (i : Nat) (h : i < l.length) : l.drop i = l.getD i z :: l.drop (i + 1) := by
  rw [List.drop_eq_getElem_cons h]; simp [List.getD, List.getElem?_eq_getElem h]
/-- is a state heavy by itself, a transition? -/
def semblanceref12_Light.s (x : S46) : Bool := decide ((x.f0.size : Int) > 100) || (decide ((x.f5.length : Int) > 20) || (decide ((x.f3.length : Int) > 10) || decide ((x.f4.length : Int) > 10)))
def semblanceref12_Light.t (y : S54) : Bool := decide ((y.f0.size : Int) > 100) || (decide ((y.f3.size : Int) > 100) || decide ((y.f2.length : Int) > 10))
def semblanceref12_Light.ts (k : Nat) : List (S54) → Int → Option (Option Int)
  | [], all => some (some all)
  | y :: l, all => if semblanceref12_Light.t y = true then some none else (semblanceref12_weigh.f k y.f2).bind fun a => (semblanceref12_terms.f k y.f1).bind fun b => semblanceref12_Light.ts k l (wrap64 (wrap64 (wrap64 (all + 1) + a) + b))
def semblanceref12_Light.ss (k : Nat) : List (S46) → Int → Option Bool
  | [], all => some (decide (all ≤ 160))
  | x :: l, all => if all ≤ 160 then (if semblanceref12_Light.s x = true then some false else (semblanceref12_weigh.f k x.f3).bind fun a => (semblanceref12_weigh.f k x.f4).bind fun b => (semblanceref12_Light.ts k x.f5 (wrap64 (wrap64 (all + a) + b))).bind fun p => p.elim (some false) (fun all' => semblanceref12_Light.ss k l all')) else some false
def semblanceref12_Light.f (k : Nat) (a0 : ByteArray) (l1 : List ByteArray) (l2 : List (S50)) (l3 : List (S46)) : Option Bool :=
  (semblanceref11_Long.f k l1).bind fun t => if (decide ((a0.size : Int) > 100) || (t || (decide ((l2.length : Int) > 10) || decide ((l3.length : Int) > 65)))) = true then some false else if (l2.any fun x => decide ((x.f0.size : Int) > 100)) = true then some false else semblanceref12_Light.ss k l3 0
theorem semblanceref12_Light.ts_mono : ∀ k l all, LeO (semblanceref12_Light.ts k l all) (semblanceref12_Light.ts (k + 1) l all) := by
  intro k l
  induction l with
  | nil => intro all; exact LeO.refl _
  | cons y l ih => intro all; unfold semblanceref12_Light.ts; exact LeO.ite (LeO.refl _) (LeO.bind (semblanceref12_weigh.mono _ k) (fun _ => LeO.bind (semblanceref12_terms.mono _ k) (fun _ => ih _)))
theorem semblanceref12_Light.ss_mono : ∀ k l all, LeO (semblanceref12_Light.ss k l all) (semblanceref12_Light.ss (k + 1) l all) := by
  intro k l
  induction l with
  | nil => intro all; exact LeO.refl _
  | cons x l ih =>
    intro all
    unfold semblanceref12_Light.ss
    exact LeO.ite (LeO.ite (LeO.refl _) (LeO.bind (semblanceref12_weigh.mono _ k) (fun _ => LeO.bind (semblanceref12_weigh.mono _ k) (fun _ => LeO.bind (semblanceref12_Light.ts_mono k _ _) (fun p => by cases p with | none => exact LeO.refl _ | some a => exact ih a))))) (LeO.refl _)
theorem semblanceref12_Light.mono : ∀ a0 l1 l2 l3 k, LeO (semblanceref12_Light.f k a0 l1 l2 l3) (semblanceref12_Light.f (k + 1) a0 l1 l2 l3) := by
  intro a0 l1 l2 l3 k
  unfold semblanceref12_Light.f
  exact LeO.bind (semblanceref11_Long.mono _ k) (fun _ => LeO.ite (LeO.refl _) (LeO.ite (LeO.refl _) (semblanceref12_Light.ss_mono k _ _)))
instance semblanceref12_Light.lc : ∀ a0 l1 l2 l3 k, LeC (semblanceref12_Light.f k a0 l1 l2 l3) (semblanceref12_Light.f (k + 1) a0 l1 l2 l3) := fun a0 l1 l2 l3 k => ⟨semblanceref12_Light.mono a0 l1 l2 l3 k⟩
set_option maxHeartbeats 16000000 in
set_option maxRecDepth 100000 in
open Go.Proofs.YtbkaiojofgmbnaaGreat.XReg in
theorem semblanceref12_Light.calls (k : Nat) (a0_0 : ByteArray) (A0_1 : Option Addr) (c0_1 : Nat) (l0_1 : List ByteArray) (A0_2 : Option Addr) (c0_2 : Nat) (l0_2 : List (S50)) (A0_3 : Option Addr) (c0_3 : Nat) (l0_3 : List (S46)) (r : Bool) (w : World) (hr0_1 : Kd.C Kd.string w A0_1 l0_1.length l0_1) (hc0_1 : l0_1.length ≤ c0_1) (hr0_2 : Kd.C k50 w A0_2 l0_2.length l0_2) (hc0_2 : l0_2.length ≤ c0_2) (hr0_3 : Kd.C k46 w A0_3 l0_3.length l0_3) (hc0_3 : l0_3.length ≤ c0_3) (h : semblanceref12_Light.f k a0_0 l0_1 l0_2 l0_3 = some r) :
    Calls Tryz.prog 6 #[.agg #[.string a0_0, .slice A0_1 l0_1.length c0_1, .slice A0_2 l0_2.length c0_2, .slice A0_3 l0_3.length c0_3]] w fun e w' => e = .returned (.bool r) ∧ Below w.heap.size w w' := by
  unfold semblanceref12_Light.f at h
  obtain ⟨t, ht, h⟩ := Option.bind_eq_some_iff.mp h
  have HT := Aside0.mk ht
  have HC1 := Aside0.mk hc0_1
  clear ht
  obtain ⟨w1, hw1⟩ : ∃ w1, w1 = w.alloc (.cells #[.string a0_0, .slice A0_1 l0_1.length c0_1, .slice A0_2 l0_2.length c0_2, .slice A0_3 l0_3.length c0_3] 26) := ⟨_, rfl⟩
  have hb1 : Below w.heap.size w w1 := by rw [hw1]; exact (Below.refl _ _).alloc (Nat.le_refl _) _
  have HK : Aside0 (w1.heap[w.heap.size]? = some (.cells #[.string a0_0, .slice A0_1 l0_1.length c0_1, .slice A0_2 l0_2.length c0_2, .slice A0_3 l0_3.length c0_3] 26 (0, 0))) := ⟨by rw [hw1]; exact heap_alloc_new w _⟩
  have HR1 := Aside0.mk (Kd.C_below hr0_1 hb1)
  have HR2 := Aside0.mk (Kd.C_below hr0_2 hb1)
  have HR3 := Aside0.mk (Kd.C_below hr0_3 hb1)
  have HC3 := Aside0.mk hc0_3
  have HB1 := Aside0.mk hb1
  have hm1 := Kd.C_max hr0_1
  have hm2 := Kd.C_max hr0_2
  have hm3 := Kd.C_max hr0_3
  have hu2 := Tryz.underlying26
  have hu3 := Tryz.underlying50
  have hu4 := Tryz.underlying46
  clear hr0_1 hr0_2 hr0_3 hb1 hc0_1 hc0_2 hc0_3
  have hu5 := Tryz.underlying54
  rcases or4_cases (decide ((a0_0.size : Int) > 100)) t (decide ((l0_2.length : Int) > 10)) (decide ((l0_3.length : Int) > 65)) with ⟨h4, hz⟩ | ⟨⟨q1, q2, q3, q4⟩, hz⟩
  · rw [if_pos hz] at h
    obtain rfl := Option.some.inj h
    clear hz h
    rcases h4 with q1 | ⟨q1, q2⟩ | ⟨q1, q2, q3⟩ | ⟨q1, q2, q3, q4⟩ <;>
      ((try subst q2)
       subst hw1
       go_enter Tryz.func6, Tryz.ntmps6
       go_wp2_with (go_at_call 21; refine (semblanceref11_Long.calls k A0_1 c0_1 l0_1 _ _ HR1.out HC1.out HT.out).mono ?_; rintro e w2 ⟨rfl, hd2⟩; have HB2 := Aside0.mk hd2.below; obtain ⟨hd0, hd1, hd2_, hd3⟩ := cz4_ (blk_below HK.out hd2.below); clear hd2; have hd2 := hd2_; clear hd2_)
       go_ret
       exact ⟨rfl, (by first | exact HB1.out.trans (HB2.out.mono HB1.out.size) | exact HB1.out)⟩)
  rw [if_neg (by rw [hz]; decide)] at h
  subst q2
  have HH := Aside0.mk h
  clear h hz
  subst hw1
  go_enter Tryz.func6, Tryz.ntmps6
  go_wp2_with (go_at_call 21; refine (semblanceref11_Long.calls k A0_1 c0_1 l0_1 _ _ HR1.out HC1.out HT.out).mono ?_; rintro e w2 ⟨rfl, hd2⟩; have HB2 := Aside0.mk hd2.below; obtain ⟨hd0, hd1, hd2_, hd3⟩ := cz4_ (blk_below HK.out hd2.below); clear hd2; have hd2 := hd2_; clear hd2_)
  clear hd0 hd1 hd2 hd3 q1 q3 q4
  generalize w.alloc (.cells #[.string a0_0, .slice A0_1 l0_1.length c0_1, .slice A0_2 l0_2.length c0_2, .slice A0_3 l0_3.length c0_3] 26) = w1 at *
  go_loopg [3] l0_2.length (fun kq v9 wr => ∃ i : Nat, Aside0 (l0_2.length - i = kq) ∧ Aside0 (i ≤ l0_2.length) ∧ v9 = .int .i64 (i : Int) ∧ Aside0 (Below w1.heap.size w1 wr) ∧ Aside0 (∀ j : Nat, j < i → decide (((l0_2.getD j z50).f0.size : Int) > 100) = false))
  case atStart => exact ⟨0, ⟨rfl⟩, ⟨Nat.zero_le _⟩, rfl, HB2, ⟨fun j hj => absurd hj (Nat.not_lt_zero _)⟩⟩
  case round =>
    obtain ⟨i, HKQ, HI, rfl, HB, HP⟩ := hrel
    obtain ⟨hd0, hd1, hd2, hd3⟩ := cz4_ (blk_below HK.out HB.out)
    by_cases hi : i < l0_2.length
    · have hlt : decide ((i : Int) < (l0_2.length : Int)) = true := decide_eq_true (by omega)
      obtain ⟨ad, e1, hx0, _⟩ := at_T50 (Kd.C_below HR2.out HB.out) (i : Int) (by omega) (by omega)
      subst e1
      rw [Int.toNat_natCast] at hx0
      have hrd : rd_T50 l0_2 (i : Int) = l0_2.getD i z50 := by unfold rd_T50; rw [Int.toNat_natCast]
      rw [hrd] at hx0
      have hmem : l0_2.getD i z50 ∈ l0_2 := by simp only [List.getD, List.getElem?_eq_getElem hi, Option.getD_some]; exact List.getElem_mem hi
      generalize hxx : l0_2.getD i z50 = x at *
      have HX := Aside0.mk hxx
      have HMEM := Aside0.mk hmem
      clear hxx hrd hmem
      cases hc : decide ((x.f0.size : Int) > 100) with
      | true =>
        have HRF := Aside0.mk (show false = r by have h1 := HH.out; rw [if_pos (List.any_eq_true.2 ⟨x, HMEM.out, hc⟩)] at h1; exact Option.some.inj h1)
        go_wp2
        go_ret
        exact ⟨by rw [← HRF.out]; try rfl, HB1.out.trans (HB.out.mono HB1.out.size)⟩
      | false =>
        have HCF := Aside0.mk hc
        go_wp2
        go_roundg (l0_2.length - (i + 1))
        case measure => have := HKQ.out; omega
        case rel =>
          refine ⟨i + 1, ⟨rfl⟩, ⟨hi⟩, by go_num, HB, ⟨fun j hj => ?_⟩⟩
          by_cases e : j = i
          · subst e; rw [HX.out]; exact HCF.out
          · exact HP.out j (by omega)
    · have hlt : decide ((i : Int) < (l0_2.length : Int)) = false := decide_eq_false (by omega)
      have hil : i = l0_2.length := by have := HI.out; omega
      subst hil
      have HG : Aside0 (semblanceref12_Light.ss k l0_3 0 = some r) := ⟨by
        have h1 := HH.out
        rw [if_neg] at h1
        · exact h1
        · rw [List.any_eq_true]
          rintro ⟨x, hx, hc⟩
          obtain ⟨j, hj, rfl⟩ := List.getElem_of_mem hx
          have := HP.out j hj
          simp only [List.getD, List.getElem?_eq_getElem hj, Option.getD_some] at this
          rw [this] at hc
          cases hc⟩
      clear HP HH
      go_wp2_with fail
      clear hd0 hd1 hd2 hd3
      go_loopg [4, 5] l0_3.length (fun kq v4 v5 wr => ∃ (i : Nat) (all : Int), Aside0 (l0_3.length - i = kq) ∧ Aside0 (i ≤ l0_3.length) ∧ v4 = .int .i64 all ∧ v5 = .int .i64 (i : Int) ∧ Aside0 (Below w1.heap.size w1 wr) ∧ Aside0 (semblanceref12_Light.ss k (l0_3.drop i) all = some r))
      case atStart => exact ⟨0, 0, ⟨rfl⟩, ⟨Nat.zero_le _⟩, rfl, rfl, HB, ⟨by rw [List.drop_zero]; exact HG.out⟩⟩
      case round =>
        obtain ⟨i, all, HKQ, HI, rfl, rfl, HB, HSS⟩ := hrel
        obtain ⟨hd0, hd1, hd2, hd3⟩ := cz4_ (blk_below HK.out HB.out)
        by_cases hi : i < l0_3.length
        · have hlt : decide ((i : Int) < (l0_3.length : Int)) = true := decide_eq_true (by omega)
          have hss := HSS.out
          rw [drop_at l0_3 z46 i hi] at hss
          unfold semblanceref12_Light.ss at hss
          by_cases ha : all ≤ 160
          · have hab : decide (all ≤ 160) = true := decide_eq_true ha
            rw [if_pos ha] at hss
            obtain ⟨ad, A3, c3, A4, c4, A5, c5, e1, hx0, hx1, hx2, hx3, hx4, hx5, hl3, hi3, hl4, hi4, hl5, hi5⟩ := at_T46 HR3.out (i : Int) (by omega) (by omega)
            subst e1
            rw [Int.toNat_natCast] at hx0 hx1 hx2 hx3 hx4 hx5
            replace hx0 := pw_cell_below HB.out hx0
            replace hx1 := pw_cell_below HB.out hx1
            replace hx2 := pw_cell_below HB.out hx2
            replace hx3 := pw_cell_below HB.out hx3
            replace hx4 := pw_cell_below HB.out hx4
            replace hx5 := pw_cell_below HB.out hx5
            have hrd : rd_T46 l0_3 (i : Int) = l0_3.getD i z46 := by unfold rd_T46; rw [Int.toNat_natCast]
            rw [hrd] at hx0 hx1 hx2 hx3 hx4 hx5 hl3 hi3 hl4 hi4 hl5 hi5
            generalize l0_3.getD i z46 = x at *
            have HI3 := Aside0.mk hi3
            have HI4 := Aside0.mk hi4
            have HI5 := Aside0.mk hi5
            have hm5 := Kd.C_max hi5
            clear hrd hi3 hi4 hi5 ha HSS
            rcases or4_cases (decide ((x.f0.size : Int) > 100)) (decide ((x.f5.length : Int) > 20)) (decide ((x.f3.length : Int) > 10)) (decide ((x.f4.length : Int) > 10)) with ⟨h4, hz⟩ | ⟨⟨q1, q2, q3, q4⟩, hz⟩
            · rw [if_pos (show semblanceref12_Light.s x = true from hz)] at hss
              have HRF := Aside0.mk (Option.some.inj hss)
              clear hz hss
              rcases h4 with q1 | ⟨q1, q2⟩ | ⟨q1, q2, q3⟩ | ⟨q1, q2, q3, q4⟩ <;>
                (go_wp2_with (first | ((with_reducible refine gate_dst (N := 6) rfl ?_); refine box_event ?hg (N := 6) ?hd (cs := #[.string (⟨#[]⟩ : ByteArray), .int .i64 0, .int .i64 0, .slice none 0 0, .slice none 0 0, .slice none 0 0]) (t := 46) ?hr ?_; (case hd => rfl); (case hg => rfl); (case hr => first | (go_simp; done) | (go_simp; rfl)); intro g hg u1 hbox hb; have HGE := Aside0.mk (Nat.le_of_eq hg.symm); clear hg) | (refine box_put (n := wr.heap.size) (W0 := wr) (vs := #[.string x.f0, .int .i64 x.f1, .int .i64 x.f2, .slice A3 x.f3.length c3, .slice A4 x.f4.length c4, .slice A5 x.f5.length c5]) rfl rfl (.tmp 6) (.tmp 60) rfl rfl rfl hbox (by kernel_rfl) rfl (by simp [Value.oneCell']) hb HGE.out ?_; intro u2 hbox2 hb2; have HB3 := Aside0.mk (below_step HB.out hb2); have HBX := Aside0.mk hbox2; obtain ⟨hz0, hz1, hz2, hz3, hz4, hz5⟩ := cz6_ hbox2; clear hbox hb hbox2 hb2))
                 go_ret
                 exact ⟨by rw [← HRF.out]; try rfl, HB1.out.trans (HB3.out.mono HB1.out.size)⟩)
            · rw [if_neg (show ¬ semblanceref12_Light.s x = true by unfold semblanceref12_Light.s; rw [hz]; decide)] at hss
              obtain ⟨wa, hwa, hss⟩ := Option.bind_eq_some_iff.mp hss
              obtain ⟨wb, hwb, hss⟩ := Option.bind_eq_some_iff.mp hss
              have HWA := Aside0.mk hwa
              have HWB := Aside0.mk hwb
              have HSS := Aside0.mk hss
              clear hz hss hwa hwb
              go_wp2_with (first | ((with_reducible refine gate_dst (N := 6) rfl ?_); refine box_event ?hg (N := 6) ?hd (cs := #[.string (⟨#[]⟩ : ByteArray), .int .i64 0, .int .i64 0, .slice none 0 0, .slice none 0 0, .slice none 0 0]) (t := 46) ?hr ?_; (case hd => rfl); (case hg => rfl); (case hr => first | (go_simp; done) | (go_simp; rfl)); intro g hg u1 hbox hb; have HGE := Aside0.mk (Nat.le_of_eq hg.symm); clear hg) | (refine box_put (n := wr.heap.size) (W0 := wr) (vs := #[.string x.f0, .int .i64 x.f1, .int .i64 x.f2, .slice A3 x.f3.length c3, .slice A4 x.f4.length c4, .slice A5 x.f5.length c5]) rfl rfl (.tmp 6) (.tmp 60) rfl rfl rfl hbox (by kernel_rfl) rfl (by simp [Value.oneCell']) hb HGE.out ?_; intro u2 hbox2 hb2; have HB3 := Aside0.mk (below_step HB.out hb2); have HBX := Aside0.mk hbox2; obtain ⟨hz0, hz1, hz2, hz3, hz4, hz5⟩ := cz6_ hbox2; clear hbox hb hbox2 hb2))
              clear q1 q2 q3 q4 hd0 hd1 hd2 hd3
              refine rs_ 10 [0, 1, 2, 5, 6, 3, 4, 7, 8, 9] (fun w' => w'.cell? ⟨g, 3, none⟩ = some (.slice A3 x.f3.length c3) ∧ w'.cell? ⟨g, 4, none⟩ = some (.slice A4 x.f4.length c4)) rfl (by kernel_rfl) ⟨hz3, hz4⟩ (fun hHeld => ?_)
              iterate 5 (first | refine pq_ ?_ | refine tq_ hHeld ?_)
              refine cq_ Tryz.func22 ?_
              refine (semblanceref12_weigh.calls k A3 c3 x.f3 wa _ (Kd.C_below HI3.out (below_drew1 HB3.out)) hl3 HWA.out).mono ?_
              rintro e w5 ⟨rfl, hd5⟩; have HB5 := Aside0.mk (below_step (below_drew1 HB3.out) hd5.below); have HBY := Aside0.mk (blk_below (blk_drew HBX.out) hd5.below); clear hd5
              refine ⟨_, rfl, ⟨(cz6_ HBY.out).2.2.2.1, (cz6_ HBY.out).2.2.2.2.1⟩, fun hHeld => ?_⟩
              (try simp only [Act.put, sb_, s0_, s1_])
              iterate 1 (first | refine pq_ ?_ | refine tq_ hHeld ?_)
              refine cq_ Tryz.func22 ?_
              refine (semblanceref12_weigh.calls k A4 c4 x.f4 wb _ (Kd.C_below HI4.out HB5.out) hl4 HWB.out).mono ?_
              rintro e w6 ⟨rfl, hd6⟩; have HB6 := Aside0.mk (below_step HB5.out hd6.below); have HBZ := Aside0.mk (blk_below HBY.out hd6.below); clear hd6
              refine ⟨_, rfl, ⟨(cz6_ HBZ.out).2.2.2.1, (cz6_ HBZ.out).2.2.2.2.1⟩, fun hHeld => ?_⟩
              (try simp only [Act.put, sb_, s0_, s1_])
              iterate 2 (first | refine pq_ ?_ | refine tq_ hHeld ?_)
              refine dn_ (by kernel_rfl) ?_
              clear hHeld hz0 hz1 hz2 hz3 hz4 hz5
              go_wp2_with fail
              generalize wrap64 (wrap64 (all + wa) + wb) = all2 at *
              go_loopg [4, 7] x.f5.length (fun kq v4 v7 wr => ∃ (m : Nat) (al : Int), Aside0 (x.f5.length - m = kq) ∧ Aside0 (m ≤ x.f5.length) ∧ v4 = .int .i64 al ∧ v7 = .int .i64 (m : Int) ∧ Aside0 (Below w1.heap.size w1 wr) ∧ Aside0 (wr.heap[g]? = some (.cells #[.string x.f0, .int .i64 x.f1, .int .i64 x.f2, .slice A3 x.f3.length c3, .slice A4 x.f4.length c4, .slice A5 x.f5.length c5] 46 (0, 0))) ∧ Aside0 (((semblanceref12_Light.ts k (x.f5.drop m) al).bind fun p => p.elim (some false) (fun all' => semblanceref12_Light.ss k (l0_3.drop (i + 1)) all')) = some r))
              case atStart => exact ⟨0, all2, ⟨rfl⟩, ⟨Nat.zero_le _⟩, rfl, rfl, HB6, HBZ, ⟨by rw [List.drop_zero]; exact HSS.out⟩⟩
              case round =>
                obtain ⟨m, al, HKQ2, HM, rfl, rfl, HB, HBW, HTS⟩ := hrel
                obtain ⟨hz0, hz1, hz2, hz3, hz4, hz5⟩ := cz6_ HBW.out
                by_cases hm : m < x.f5.length
                · have hlt2 : decide ((m : Int) < (x.f5.length : Int)) = true := decide_eq_true (by omega)
                  obtain ⟨ad5, B1, d1, B2, d2, e5, hs0, hs1, hs2, hs3, hd1, hi1, hd2, hi2⟩ := at_T54 HI5.out (m : Int) (by omega) (by omega)
                  subst e5
                  rw [Int.toNat_natCast] at hs0 hs1 hs2 hs3
                  replace hs0 := pw_cell_below HB.out hs0
                  replace hs1 := pw_cell_below HB.out hs1
                  replace hs2 := pw_cell_below HB.out hs2
                  replace hs3 := pw_cell_below HB.out hs3
                  have hts := HTS.out
                  rw [drop_at x.f5 z54 m hm] at hts
                  unfold semblanceref12_Light.ts at hts
                  have hrd : rd_T54 x.f5 (m : Int) = x.f5.getD m z54 := by unfold rd_T54; rw [Int.toNat_natCast]
                  rw [hrd] at hs0 hs1 hs2 hs3 hd1 hi1 hd2 hi2
                  generalize x.f5.getD m z54 = y at *
                  have HI1 := Aside0.mk hi1
                  have HI2 := Aside0.mk hi2
                  clear hrd hi1 hi2 HTS
                  rcases or3_cases (decide ((y.f0.size : Int) > 100)) (decide ((y.f3.size : Int) > 100)) (decide ((y.f2.length : Int) > 10)) with ⟨h4, hz⟩ | ⟨⟨q1, q2, q3⟩, hz⟩
                  · rw [if_pos (show semblanceref12_Light.t y = true from hz)] at hts
                    have HRF := Aside0.mk (show false = r from Option.some.inj hts)
                    clear hz hts
                    rcases h4 with q1 | ⟨q1, q2⟩ | ⟨q1, q2, q3⟩ <;>
                      (go_wp2_with (first | ((with_reducible refine gate_dst (N := 8) rfl ?_); refine box_event ?hg (N := 8) ?hd (cs := #[.string (⟨#[]⟩ : ByteArray), .slice none 0 0, .slice none 0 0, .string (⟨#[]⟩ : ByteArray)]) (t := 54) ?hr ?_; (case hd => rfl); (case hg => rfl); (case hr => first | (go_simp; done) | (go_simp; rfl)); intro g8 hg u1 hbox hb; have HGE := Aside0.mk (Nat.le_of_eq hg.symm); clear hg) | (refine box_put (n := wr.heap.size) (W0 := wr) (vs := #[.string y.f0, .slice B1 y.f1.length d1, .slice B2 y.f2.length d2, .string y.f3]) rfl rfl (.tmp 8) (.tmp 103) rfl rfl rfl hbox (by kernel_rfl) rfl (by simp [Value.oneCell']) hb HGE.out ?_; intro u2 hbox2 hb2; have HB7 := Aside0.mk (below_step HB.out hb2); have HBX7 := Aside0.mk (blk_below HBW.out hb2); have HBY7 := Aside0.mk hbox2; obtain ⟨hv0, hv1, hv2, hv3⟩ := cz4_ hbox2; obtain ⟨hz0, hz1, hz2, hz3, hz4, hz5⟩ := cz6_ HBX7.out; clear hbox hb hbox2 hb2))
                       go_ret
                       exact ⟨by rw [← HRF.out]; try rfl, HB1.out.trans (HB7.out.mono HB1.out.size)⟩)
                  · rw [if_neg (show ¬ semblanceref12_Light.t y = true by unfold semblanceref12_Light.t; rw [hz]; decide), Option.bind_assoc] at hts
                    obtain ⟨wc, hwc, hts⟩ := Option.bind_eq_some_iff.mp hts
                    rw [Option.bind_assoc] at hts
                    obtain ⟨wd, hwd, hts⟩ := Option.bind_eq_some_iff.mp hts
                    have HWC := Aside0.mk hwc
                    have HWD := Aside0.mk hwd
                    have HTS := Aside0.mk hts
                    clear hz hts hwc hwd
                    go_wp2_with (first | ((with_reducible refine gate_dst (N := 8) rfl ?_); refine box_event ?hg (N := 8) ?hd (cs := #[.string (⟨#[]⟩ : ByteArray), .slice none 0 0, .slice none 0 0, .string (⟨#[]⟩ : ByteArray)]) (t := 54) ?hr ?_; (case hd => rfl); (case hg => rfl); (case hr => first | (go_simp; done) | (go_simp; rfl)); intro g8 hg u1 hbox hb; have HGE := Aside0.mk (Nat.le_of_eq hg.symm); clear hg) | (refine box_put (n := wr.heap.size) (W0 := wr) (vs := #[.string y.f0, .slice B1 y.f1.length d1, .slice B2 y.f2.length d2, .string y.f3]) rfl rfl (.tmp 8) (.tmp 103) rfl rfl rfl hbox (by kernel_rfl) rfl (by simp [Value.oneCell']) hb HGE.out ?_; intro u2 hbox2 hb2; have HB7 := Aside0.mk (below_step HB.out hb2); have HBX7 := Aside0.mk (blk_below HBW.out hb2); have HBY7 := Aside0.mk hbox2; obtain ⟨hv0, hv1, hv2, hv3⟩ := cz4_ hbox2; obtain ⟨hz0, hz1, hz2, hz3, hz4, hz5⟩ := cz6_ HBX7.out; clear hbox hb hbox2 hb2))
                    clear q1 q2 q3
                    refine rs_ 11 [0, 1, 2, 3, 6, 7, 4, 5, 8, 9, 10] (fun w' => w'.cell? ⟨g8, 2, none⟩ = some (.slice B2 y.f2.length d2) ∧ w'.cell? ⟨g8, 1, none⟩ = some (.slice B1 y.f1.length d1)) rfl (by kernel_rfl) ⟨hv2, hv1⟩ (fun hHeld => ?_)
                    iterate 6 (first | refine pq_ ?_ | refine tq_ hHeld ?_)
                    refine cq_ Tryz.func22 ?_
                    refine (semblanceref12_weigh.calls k B2 d2 y.f2 wc _ (Kd.C_below HI2.out (below_drew1 HB7.out)) hd2 HWC.out).mono ?_
                    rintro e w5 ⟨rfl, hd5⟩; have HB8 := Aside0.mk (below_step (below_drew1 HB7.out) hd5.below); have HBX8 := Aside0.mk (blk_below (blk_drew HBX7.out) hd5.below); have HBY8 := Aside0.mk (blk_below (blk_drew HBY7.out) hd5.below); clear hd5
                    refine ⟨_, rfl, ⟨(cz4_ HBY8.out).2.2.1, (cz4_ HBY8.out).2.1⟩, fun hHeld => ?_⟩
                    (try simp only [Act.put, sb_, s0_, s1_])
                    iterate 1 (first | refine pq_ ?_ | refine tq_ hHeld ?_)
                    refine cq_ Tryz.func23 ?_
                    refine (semblanceref12_terms.calls k B1 d1 y.f1 wd _ (Kd.C_below HI1.out HB8.out) hd1 HWD.out).mono ?_
                    rintro e w6 ⟨rfl, hd6⟩; have HB9 := Aside0.mk (below_step HB8.out hd6.below); have HBX9 := Aside0.mk (blk_below HBX8.out hd6.below); have HBY9 := Aside0.mk (blk_below HBY8.out hd6.below); clear hd6
                    refine ⟨_, rfl, ⟨(cz4_ HBY9.out).2.2.1, (cz4_ HBY9.out).2.1⟩, fun hHeld => ?_⟩
                    (try simp only [Act.put, sb_, s0_, s1_])
                    iterate 2 (first | refine pq_ ?_ | refine tq_ hHeld ?_)
                    refine dn_ (by kernel_rfl) ?_
                    clear hHeld hv0 hv1 hv2 hv3 hz0 hz1 hz2 hz3 hz4 hz5
                    go_wp2_with fail
                    go_roundg (x.f5.length - (m + 1))
                    case measure => have := HKQ2.out; omega
                    case rel => exact ⟨m + 1, _, ⟨rfl⟩, ⟨hm⟩, rfl, by go_num, HB9, HBX9, HTS⟩
                · have hlt2 : decide ((m : Int) < (x.f5.length : Int)) = false := decide_eq_false (by omega)
                  have hml : m = x.f5.length := by have := HM.out; omega
                  subst hml
                  have hts := HTS.out
                  rw [List.drop_length] at hts
                  have HSN : Aside0 (semblanceref12_Light.ss k (l0_3.drop (i + 1)) al = some r) := ⟨hts⟩
                  clear hts HTS
                  go_wp2
                  go_roundg (l0_3.length - (i + 1))
                  case measure => have := HKQ.out; omega
                  case rel => exact ⟨i + 1, al, ⟨rfl⟩, ⟨hi⟩, rfl, by go_num, HB, HSN⟩
          · have hab : decide (all ≤ 160) = false := decide_eq_false ha
            rw [if_neg ha] at hss
            have HRF := Aside0.mk (Option.some.inj hss)
            clear hss
            go_wp2
            go_ret
            exact ⟨by rw [← HRF.out]; try rfl, HB1.out.trans (HB.out.mono HB1.out.size)⟩
        · have hlt : decide ((i : Int) < (l0_3.length : Int)) = false := decide_eq_false (by omega)
          have hil : i = l0_3.length := by have := HI.out; omega
          subst hil
          have hss := HSS.out
          rw [List.drop_length] at hss
          have HRF := Aside0.mk (Option.some.inj hss)
          clear hss HSS
          go_wp2
          go_ret
          exact ⟨by rw [← HRF.out]; try rfl, HB1.out.trans (HB.out.mono HB1.out.size)⟩


/-! ### names_Keyword: function 72 -/
def names_Keyword.j0 : Nat → ByteArray → Bool → Option (Bool)
  | 0, _, _ => none
  | k + 1, x3, x4 => if x4 = true then (some true) else (if x3.toList = ([97, 110, 121] : List UInt8) then (some true) else (if x3.toList = ([105, 110] : List UInt8) then (some true) else (if x3.toList = ([109, 105, 110] : List UInt8) then (some true) else (if x3.toList = ([109, 97, 120] : List UInt8) then (some true) else (if x3.toList = ([110, 111, 116] : List UInt8) then (some true) else (if x3.toList = ([116, 114, 117, 101] : List UInt8) then (some true) else (if x3.toList = ([102, 97, 108, 115, 101] : List UInt8) then (some true) else (some false))))))))
def names_Keyword.f (k : Nat) (a0 : ByteArray) : Option (Bool) := if a0.toList = ([99, 104, 97, 114, 116] : List UInt8) then (names_Keyword.j0 k a0 (a0.toList == ([99, 104, 97, 114, 116] : List UInt8))) else (if a0.toList = ([101, 118, 101, 110, 116] : List UInt8) then (names_Keyword.j0 k a0 (a0.toList == ([101, 118, 101, 110, 116] : List UInt8))) else (if a0.toList = ([118, 97, 114] : List UInt8) then (names_Keyword.j0 k a0 (a0.toList == ([118, 97, 114] : List UInt8))) else (if a0.toList = ([108, 101, 97, 102] : List UInt8) then (names_Keyword.j0 k a0 (a0.toList == ([108, 101, 97, 102] : List UInt8))) else (if a0.toList = ([111, 114] : List UInt8) then (names_Keyword.j0 k a0 (a0.toList == ([111, 114] : List UInt8))) else (if a0.toList = ([97, 110, 100] : List UInt8) then (names_Keyword.j0 k a0 (a0.toList == ([97, 110, 100] : List UInt8))) else (if a0.toList = ([101, 110, 116, 101, 114] : List UInt8) then (names_Keyword.j0 k a0 (a0.toList == ([101, 110, 116, 101, 114] : List UInt8))) else (if a0.toList = ([101, 120, 105, 116] : List UInt8) then (names_Keyword.j0 k a0 (a0.toList == ([101, 120, 105, 116] : List UInt8))) else (if a0.toList = ([111, 110] : List UInt8) then (names_Keyword.j0 k a0 (a0.toList == ([111, 110] : List UInt8))) else (names_Keyword.j0 k a0 (a0.toList == ([97, 117, 116, 111] : List UInt8)))))))))))
theorem names_Keyword.mono_l : ∀ k, (∀ y0 y1, LeO (names_Keyword.j0 k y0 y1) (names_Keyword.j0 (k + 1) y0 y1))
  | 0 => fun _ _ r h => by simp [names_Keyword.j0] at h
  | k + 1 => by
    have ih0 := names_Keyword.mono_l k
    · intro y0 y1
      unfold names_Keyword.j0
      exact mo_
theorem names_Keyword.mono : ∀ a0 k, LeO (names_Keyword.f k a0) (names_Keyword.f (k + 1) a0) := by
  intro a0 k
  have ih0 := names_Keyword.mono_l k
  unfold names_Keyword.f
  exact mo_
instance names_Keyword.lc : ∀ a0 k, LeC (names_Keyword.f k a0) (names_Keyword.f (k + 1) a0) := fun a0 k => ⟨names_Keyword.mono a0 k⟩
set_option maxHeartbeats 8000000 in
set_option maxRecDepth 100000 in
theorem names_Keyword.calls (k : Nat) (a0 : ByteArray) (r : Bool) (w : World) (h : names_Keyword.f k a0 = some r) :
  Calls Tryz.prog 72 #[.string a0] w fun e w' => e = .returned (.bool r) ∧ Drawn0 w w' := by
 unfold names_Keyword.f at h
 have HC2 := Aside0.mk h
 clear h
 go_enter Tryz.func72, Tryz.ntmps72
 go_upto_if 4 with (fail)
 go_cut [4] (fun v4 wc => ∃ (kq : Nat) (x4_1 : Bool), v4 = .bool x4_1 ∧ Aside0 (names_Keyword.j0 kq a0 x4_1 = some r) ∧ Aside0 (kq ≤ k) ∧ Drawn0 w wc)
 case first =>
  have H := HC2.out
  clear HC2
  replace H := id_ H; obtain ⟨c3, H⟩ | ⟨c3, H⟩ := H
  ·have c3b0 : (a0.toList == ([99, 104, 97, 114, 116] : List UInt8)) = true := beq_iff_eq.mpr c3
   have c3b1 : (a0.toList != ([99, 104, 97, 114, 116] : List UInt8)) = false := bne_eq_false_iff_eq.mpr c3
   clear c3
   (first | rw [c3b0] | (simp only [i64_w, i32_w]; rw [c3b0]) | skip)
   have H' := Aside0.mk H
   clear H
   go_wp2
   go_meet
   case rel => exact ⟨_, ((a0.toList == ([99, 104, 97, 114, 116] : List UInt8))), rl_, H', ⟨km_⟩, dw_⟩
  have c3b0 : (a0.toList == ([99, 104, 97, 114, 116] : List UInt8)) = false := beq_eq_false_iff_ne.mpr c3
  have c3b1 : (a0.toList != ([99, 104, 97, 114, 116] : List UInt8)) = true := bne_iff_ne.mpr c3
  (first | rw [c3b0] | (simp only [i64_w, i32_w]; rw [c3b0]) | skip)
  replace H := id_ H; obtain ⟨c4, H⟩ | ⟨c4, H⟩ := H
  ·have c4b0 : (a0.toList == ([101, 118, 101, 110, 116] : List UInt8)) = true := beq_iff_eq.mpr c4
   have c4b1 : (a0.toList != ([101, 118, 101, 110, 116] : List UInt8)) = false := bne_eq_false_iff_eq.mpr c4
   clear c4
   have H' := Aside0.mk H
   clear H
   go_wp2
   go_meet
   case rel => exact ⟨_, ((a0.toList == ([101, 118, 101, 110, 116] : List UInt8))), rl_, H', ⟨km_⟩, dw_⟩
  have c4b0 : (a0.toList == ([101, 118, 101, 110, 116] : List UInt8)) = false := beq_eq_false_iff_ne.mpr c4
  have c4b1 : (a0.toList != ([101, 118, 101, 110, 116] : List UInt8)) = true := bne_iff_ne.mpr c4
  replace H := id_ H; obtain ⟨c5, H⟩ | ⟨c5, H⟩ := H
  ·have c5b0 : (a0.toList == ([118, 97, 114] : List UInt8)) = true := beq_iff_eq.mpr c5
   have c5b1 : (a0.toList != ([118, 97, 114] : List UInt8)) = false := bne_eq_false_iff_eq.mpr c5
   clear c5
   have H' := Aside0.mk H
   clear H
   go_wp2
   go_meet
   case rel => exact ⟨_, ((a0.toList == ([118, 97, 114] : List UInt8))), rl_, H', ⟨km_⟩, dw_⟩
  have c5b0 : (a0.toList == ([118, 97, 114] : List UInt8)) = false := beq_eq_false_iff_ne.mpr c5
  have c5b1 : (a0.toList != ([118, 97, 114] : List UInt8)) = true := bne_iff_ne.mpr c5
  replace H := id_ H; obtain ⟨c6, H⟩ | ⟨c6, H⟩ := H
  ·have c6b0 : (a0.toList == ([108, 101, 97, 102] : List UInt8)) = true := beq_iff_eq.mpr c6
   have c6b1 : (a0.toList != ([108, 101, 97, 102] : List UInt8)) = false := bne_eq_false_iff_eq.mpr c6
   clear c6
   have H' := Aside0.mk H
   clear H
   go_wp2
   go_meet
   case rel => exact ⟨_, ((a0.toList == ([108, 101, 97, 102] : List UInt8))), rl_, H', ⟨km_⟩, dw_⟩
  have c6b0 : (a0.toList == ([108, 101, 97, 102] : List UInt8)) = false := beq_eq_false_iff_ne.mpr c6
  have c6b1 : (a0.toList != ([108, 101, 97, 102] : List UInt8)) = true := bne_iff_ne.mpr c6
  replace H := id_ H; obtain ⟨c7, H⟩ | ⟨c7, H⟩ := H
  ·have c7b0 : (a0.toList == ([111, 114] : List UInt8)) = true := beq_iff_eq.mpr c7
   have c7b1 : (a0.toList != ([111, 114] : List UInt8)) = false := bne_eq_false_iff_eq.mpr c7
   clear c7
   have H' := Aside0.mk H
   clear H
   go_wp2
   go_meet
   case rel => exact ⟨_, ((a0.toList == ([111, 114] : List UInt8))), rl_, H', ⟨km_⟩, dw_⟩
  have c7b0 : (a0.toList == ([111, 114] : List UInt8)) = false := beq_eq_false_iff_ne.mpr c7
  have c7b1 : (a0.toList != ([111, 114] : List UInt8)) = true := bne_iff_ne.mpr c7
  replace H := id_ H; obtain ⟨c8, H⟩ | ⟨c8, H⟩ := H
  ·have c8b0 : (a0.toList == ([97, 110, 100] : List UInt8)) = true := beq_iff_eq.mpr c8
   have c8b1 : (a0.toList != ([97, 110, 100] : List UInt8)) = false := bne_eq_false_iff_eq.mpr c8
   clear c8
   have H' := Aside0.mk H
   clear H
   go_wp2
   go_meet
   case rel => exact ⟨_, ((a0.toList == ([97, 110, 100] : List UInt8))), rl_, H', ⟨km_⟩, dw_⟩
  have c8b0 : (a0.toList == ([97, 110, 100] : List UInt8)) = false := beq_eq_false_iff_ne.mpr c8
  have c8b1 : (a0.toList != ([97, 110, 100] : List UInt8)) = true := bne_iff_ne.mpr c8
  replace H := id_ H; obtain ⟨c9, H⟩ | ⟨c9, H⟩ := H
  ·have c9b0 : (a0.toList == ([101, 110, 116, 101, 114] : List UInt8)) = true := beq_iff_eq.mpr c9
   have c9b1 : (a0.toList != ([101, 110, 116, 101, 114] : List UInt8)) = false := bne_eq_false_iff_eq.mpr c9
   clear c9
   have H' := Aside0.mk H
   clear H
   go_wp2
   go_meet
   case rel => exact ⟨_, ((a0.toList == ([101, 110, 116, 101, 114] : List UInt8))), rl_, H', ⟨km_⟩, dw_⟩
  have c9b0 : (a0.toList == ([101, 110, 116, 101, 114] : List UInt8)) = false := beq_eq_false_iff_ne.mpr c9
  have c9b1 : (a0.toList != ([101, 110, 116, 101, 114] : List UInt8)) = true := bne_iff_ne.mpr c9
  replace H := id_ H; obtain ⟨c10, H⟩ | ⟨c10, H⟩ := H
  ·have c10b0 : (a0.toList == ([101, 120, 105, 116] : List UInt8)) = true := beq_iff_eq.mpr c10
   have c10b1 : (a0.toList != ([101, 120, 105, 116] : List UInt8)) = false := bne_eq_false_iff_eq.mpr c10
   clear c10
   have H' := Aside0.mk H
   clear H
   go_wp2
   go_meet
   case rel => exact ⟨_, ((a0.toList == ([101, 120, 105, 116] : List UInt8))), rl_, H', ⟨km_⟩, dw_⟩
  have c10b0 : (a0.toList == ([101, 120, 105, 116] : List UInt8)) = false := beq_eq_false_iff_ne.mpr c10
  have c10b1 : (a0.toList != ([101, 120, 105, 116] : List UInt8)) = true := bne_iff_ne.mpr c10
  replace H := ic_ H; obtain ⟨c11, H⟩ | ⟨c11, H⟩ := H
  ·have c11b0 : (a0.toList == ([111, 110] : List UInt8)) = false := beq_eq_false_iff_ne.mpr c11
   have c11b1 : (a0.toList != ([111, 110] : List UInt8)) = true := bne_iff_ne.mpr c11
   have H' := Aside0.mk H
   clear H
   go_wp2
   go_meet
   case rel => exact ⟨_, ((a0.toList == ([97, 117, 116, 111] : List UInt8))), rl_, H', ⟨km_⟩, dw_⟩
  have c11b0 : (a0.toList == ([111, 110] : List UInt8)) = true := beq_iff_eq.mpr c11
  have c11b1 : (a0.toList != ([111, 110] : List UInt8)) = false := bne_eq_false_iff_eq.mpr c11
  clear c11
  have H' := Aside0.mk H
  clear H
  go_wp2
  go_meet
  case rel => exact ⟨_, ((a0.toList == ([111, 110] : List UInt8))), rl_, H', ⟨km_⟩, dw_⟩
 case rest =>
  clear HC2
  obtain ⟨kq, x4_1, rfl, HA, HJ1, ⟨mc1, rfl⟩⟩ := hcut
  cases kq with
  | zero => exact absurd HA.out (by simp [names_Keyword.j0])
  | succ kj1 =>
   have H := HA.out
   clear HA
   simp only [names_Keyword.j0] at H
   replace H := ie_ H; obtain ⟨rfl, H⟩ | ⟨rfl, H⟩ := H
   ·obtain rfl := Option.some.inj H
    go_wp2
    go_ret
    exact ⟨rl_, dw_⟩
   replace H := id_ H; obtain ⟨c13, H⟩ | ⟨c13, H⟩ := H
   ·have c13b0 : (a0.toList == ([97, 110, 121] : List UInt8)) = true := beq_iff_eq.mpr c13
    have c13b1 : (a0.toList != ([97, 110, 121] : List UInt8)) = false := bne_eq_false_iff_eq.mpr c13
    clear c13
    obtain rfl := Option.some.inj H
    go_wp2
    go_ret
    exact ⟨rl_, dw_⟩
   have c13b0 : (a0.toList == ([97, 110, 121] : List UInt8)) = false := beq_eq_false_iff_ne.mpr c13
   have c13b1 : (a0.toList != ([97, 110, 121] : List UInt8)) = true := bne_iff_ne.mpr c13
   replace H := id_ H; obtain ⟨c14, H⟩ | ⟨c14, H⟩ := H
   ·have c14b0 : (a0.toList == ([105, 110] : List UInt8)) = true := beq_iff_eq.mpr c14
    have c14b1 : (a0.toList != ([105, 110] : List UInt8)) = false := bne_eq_false_iff_eq.mpr c14
    clear c14
    obtain rfl := Option.some.inj H
    go_wp2
    go_ret
    exact ⟨rl_, dw_⟩
   have c14b0 : (a0.toList == ([105, 110] : List UInt8)) = false := beq_eq_false_iff_ne.mpr c14
   have c14b1 : (a0.toList != ([105, 110] : List UInt8)) = true := bne_iff_ne.mpr c14
   replace H := id_ H; obtain ⟨c15, H⟩ | ⟨c15, H⟩ := H
   ·have c15b0 : (a0.toList == ([109, 105, 110] : List UInt8)) = true := beq_iff_eq.mpr c15
    have c15b1 : (a0.toList != ([109, 105, 110] : List UInt8)) = false := bne_eq_false_iff_eq.mpr c15
    clear c15
    obtain rfl := Option.some.inj H
    go_wp2
    go_ret
    exact ⟨rl_, dw_⟩
   have c15b0 : (a0.toList == ([109, 105, 110] : List UInt8)) = false := beq_eq_false_iff_ne.mpr c15
   have c15b1 : (a0.toList != ([109, 105, 110] : List UInt8)) = true := bne_iff_ne.mpr c15
   replace H := id_ H; obtain ⟨c16, H⟩ | ⟨c16, H⟩ := H
   ·have c16b0 : (a0.toList == ([109, 97, 120] : List UInt8)) = true := beq_iff_eq.mpr c16
    have c16b1 : (a0.toList != ([109, 97, 120] : List UInt8)) = false := bne_eq_false_iff_eq.mpr c16
    clear c16
    obtain rfl := Option.some.inj H
    go_wp2
    go_ret
    exact ⟨rl_, dw_⟩
   have c16b0 : (a0.toList == ([109, 97, 120] : List UInt8)) = false := beq_eq_false_iff_ne.mpr c16
   have c16b1 : (a0.toList != ([109, 97, 120] : List UInt8)) = true := bne_iff_ne.mpr c16
   replace H := id_ H; obtain ⟨c17, H⟩ | ⟨c17, H⟩ := H
   ·have c17b0 : (a0.toList == ([110, 111, 116] : List UInt8)) = true := beq_iff_eq.mpr c17
    have c17b1 : (a0.toList != ([110, 111, 116] : List UInt8)) = false := bne_eq_false_iff_eq.mpr c17
    clear c17
    obtain rfl := Option.some.inj H
    go_wp2
    go_ret
    exact ⟨rl_, dw_⟩
   have c17b0 : (a0.toList == ([110, 111, 116] : List UInt8)) = false := beq_eq_false_iff_ne.mpr c17
   have c17b1 : (a0.toList != ([110, 111, 116] : List UInt8)) = true := bne_iff_ne.mpr c17
   replace H := id_ H; obtain ⟨c18, H⟩ | ⟨c18, H⟩ := H
   ·have c18b0 : (a0.toList == ([116, 114, 117, 101] : List UInt8)) = true := beq_iff_eq.mpr c18
    have c18b1 : (a0.toList != ([116, 114, 117, 101] : List UInt8)) = false := bne_eq_false_iff_eq.mpr c18
    clear c18
    obtain rfl := Option.some.inj H
    go_wp2
    go_ret
    exact ⟨rl_, dw_⟩
   have c18b0 : (a0.toList == ([116, 114, 117, 101] : List UInt8)) = false := beq_eq_false_iff_ne.mpr c18
   have c18b1 : (a0.toList != ([116, 114, 117, 101] : List UInt8)) = true := bne_iff_ne.mpr c18
   replace H := ic_ H; obtain ⟨c19, H⟩ | ⟨c19, H⟩ := H
   ·have c19b0 : (a0.toList == ([102, 97, 108, 115, 101] : List UInt8)) = false := beq_eq_false_iff_ne.mpr c19
    have c19b1 : (a0.toList != ([102, 97, 108, 115, 101] : List UInt8)) = true := bne_iff_ne.mpr c19
    obtain rfl := Option.some.inj H
    go_wp2
    go_ret
    exact ⟨rl_, dw_⟩

   have c19b0 : (a0.toList == ([102, 97, 108, 115, 101] : List UInt8)) = true := beq_iff_eq.mpr c19
   have c19b1 : (a0.toList != ([102, 97, 108, 115, 101] : List UInt8)) = false := bne_eq_false_iff_eq.mpr c19
   clear c19
   obtain rfl := Option.some.inj H
   go_wp2
   go_ret
   exact ⟨rl_, dw_⟩
/-! ### names_Is: function 43 -/
/-- may a byte stand at a place of a name? -/
def names_Is.ok (i c : Nat) : Bool := (decide (97 ≤ c) && decide (c ≤ 122)) || (i != 0 && ((decide (48 ≤ c) && decide (c ≤ 57)) || c == 95))
def names_Is.body (s : ByteArray) : Bool := (List.range s.size).all fun i => names_Is.ok i (bt s i).toNat
def names_Is.f (k : Nat) (a0 : ByteArray) : Option (Bool) :=
  if a0.size = 0 then some false else if 12 < a0.size then some false else (names_Keyword.f k a0).bind fun b => if b = true then some false else some (names_Is.body a0)
theorem names_Is.mono : ∀ a0 k, LeO (names_Is.f k a0) (names_Is.f (k + 1) a0) := by
  intro a0 k
  unfold names_Is.f
  exact mo_
instance names_Is.lc : ∀ a0 k, LeC (names_Is.f k a0) (names_Is.f (k + 1) a0) := fun a0 k => ⟨names_Is.mono a0 k⟩
theorem names_Is.bad {s : ByteArray} {i : Nat} (hi : i < s.size) (h : names_Is.ok i (bt s i).toNat = false) : names_Is.body s = false := by
  rw [Bool.eq_false_iff]
  intro hb
  have := List.all_eq_true.1 hb i (List.mem_range.2 hi)
  rw [h] at this
  cases this
theorem names_Is.good {s : ByteArray} (h : ∀ j, j < s.size → names_Is.ok j (bt s j).toNat = true) : names_Is.body s = true :=
  List.all_eq_true.2 fun j hj => h j (List.mem_range.1 hj)
theorem names_Is.below_iter {w : World} (m : Nat) (s : ByteArray) (p : Nat) : Below w.heap.size w ((w.drewN m).iter s p) := (pw_below_drewN (Below.refl _ w) m).alloc (Nat.le_refl _) _
set_option maxHeartbeats 2000000 in
set_option maxRecDepth 100000 in
theorem names_Is.calls (k : Nat) (a0 : ByteArray) (r : Bool) (w : World) (h : names_Is.f k a0 = some r) :
    Calls Tryz.prog 43 #[.string a0] w fun e w' => e = .returned (.bool r) ∧ Below w.heap.size w w' := by
  unfold names_Is.f at h
  have hlen := Go.Proofs.YtbkaiojofgmbnaaGreat.XBytes.tl_length a0
  by_cases h0 : a0.size = 0
  · rw [if_pos h0] at h
    have H := Option.some.inj h
    subst H
    have e0 : a0.toList = [] := List.length_eq_zero_iff.1 (hlen.trans h0)
    clear h hlen
    go_enter Tryz.func43, Tryz.ntmps43
    go_wp2
    go_ret
    exact ⟨rfl, Below.refl _ _⟩
  · rw [if_neg h0] at h
    have e0 : a0.toList.isEmpty = false := by
      cases hl : a0.toList with
      | nil => rw [hl] at hlen; exact absurd hlen.symm h0
      | cons => rfl
    have e1 : ¬ (a0.toList = []) := fun e => by rw [e] at e0; cases e0
    clear hlen
    by_cases h12 : 12 < a0.size
    · rw [if_pos h12] at h
      have H := Option.some.inj h
      subst H
      have h12' : decide ((12 : Int) < (a0.size : Int)) = true := decide_eq_true (by omega)
      clear h
      go_enter Tryz.func43, Tryz.ntmps43
      go_wp2
      go_ret
      exact ⟨rfl, Below.refl _ _⟩
    · rw [if_neg h12] at h
      have h12' : decide ((12 : Int) < (a0.size : Int)) = false := decide_eq_false (by omega)
      cases hk : names_Keyword.f k a0 with
      | none => rw [hk] at h; cases h
      | some b =>
        rw [hk, Option.bind_some] at h
        have HK := Aside0.mk hk
        clear hk
        cases b with
        | true =>
          have H := Option.some.inj h
          subst H
          clear h
          go_enter Tryz.func43, Tryz.ntmps43
          go_wp2_with (go_at_call 72; refine (names_Keyword.calls k a0 true _ HK.out).mono ?_; rintro e w' ⟨rfl, hd⟩)
          go_ret
          exact ⟨rfl, hd.below⟩
        | false =>
          have H := Option.some.inj h
          have HH := Aside0.mk H
          clear h H
          go_enter Tryz.func43, Tryz.ntmps43
          go_wp2_with (go_at_call 72; refine (names_Keyword.calls k a0 false _ HK.out).mono ?_; rintro e w' ⟨rfl, ⟨m, rfl⟩⟩)
          go_loopg [] a0.size (fun kq wr => ∃ pos : Nat, Aside0 (pos ≤ a0.size) ∧ Aside0 (a0.size - pos = kq) ∧ wr = (w.drewN m).iter a0 pos ∧ Aside0 (∀ j : Nat, j < pos → names_Is.ok j (bt a0 j).toNat = true))
          case atStart => exact ⟨0, ⟨Nat.zero_le _⟩, ⟨rfl⟩, rfl, ⟨fun j hj => absurd hj (Nat.not_lt_zero _)⟩⟩
          case round =>
            obtain ⟨pos, HP, HK, rfl, HG⟩ := hrel
            by_cases hp : pos < a0.size
            · have hbt : (bt a0 (pos : Int)).toNat = (a0[pos]'hp).toNat := by simp [bt, hp]
              have HBT := Aside0.mk hbt
              clear hbt
              by_cases hasc : (a0[pos]'hp).toNat < 128
              · have hnx : ∀ ty, (Instr.next (.pointer (some ⟨w.heap.size, 0, none⟩)) true ty).run Tryz.prog ((w.drewN m).iter a0 pos) = _ := fun ty => run_next_ascii (w.drewN m) a0 pos ty hp hasc
                generalize (a0[pos]'hp).toNat = c at hnx HBT hasc
                by_cases hL : 97 ≤ c ∧ c ≤ 122
                · obtain ⟨l1, l2⟩ := hL
                  have g1 : decide ((97 : Int) ≤ (c : Int)) = true := decide_eq_true (by omega)
                  have g2 : decide ((c : Int) ≤ 122) = true := decide_eq_true (by omega)
                  go_wp2
                  go_roundg (a0.size - (pos + 1))
                  case measure => have := HK.out; omega
                  case rel =>
                    refine ⟨pos + 1, ⟨by omega⟩, ⟨rfl⟩, rfl, ⟨fun j hj => ?_⟩⟩
                    by_cases e : j = pos
                    · rw [e, HBT.out]; unfold names_Is.ok; first | (simp; done) | (simp; omega)
                    · exact HG.out j (by omega)
                · skip
                  by_cases r0 : c ≤ 47
                  · by_cases hz : pos = 0
                    · have g1 : decide ((97 : Int) ≤ (c : Int)) = false := decide_eq_false (by omega)
                      have g2 : decide ((c : Int) ≤ 122) = true := decide_eq_true (by omega)
                      have g3 : decide ((48 : Int) ≤ (c : Int)) = false := decide_eq_false (by omega)
                      have g4 : decide ((c : Int) ≤ 57) = true := decide_eq_true (by omega)
                      have g5 : ((c : Int) == 95) = false := beq_eq_false_iff_ne.mpr (by omega)
                      have g6 : ((pos : Int) == 0) = true := beq_iff_eq.mpr (by omega)
                      have HZ := Aside0.mk hz
                      clear hz
                      go_wp2
                      go_ret
                      refine ⟨?_, names_Is.below_iter m a0 _⟩
                      rw [← HH.out, names_Is.bad hp (by have hz := HZ.out; rw [HBT.out]; unfold names_Is.ok; first | (simp; done) | (simp; omega))]
                      rfl
                    · have g1 : decide ((97 : Int) ≤ (c : Int)) = false := decide_eq_false (by omega)
                      have g2 : decide ((c : Int) ≤ 122) = true := decide_eq_true (by omega)
                      have g3 : decide ((48 : Int) ≤ (c : Int)) = false := decide_eq_false (by omega)
                      have g4 : decide ((c : Int) ≤ 57) = true := decide_eq_true (by omega)
                      have g5 : ((c : Int) == 95) = false := beq_eq_false_iff_ne.mpr (by omega)
                      have g6 : ((pos : Int) == 0) = false := beq_eq_false_iff_ne.mpr (by omega)
                      go_wp2
                      go_ret
                      refine ⟨?_, names_Is.below_iter m a0 _⟩
                      rw [← HH.out, names_Is.bad hp (by rw [HBT.out]; unfold names_Is.ok; first | (simp; done) | (simp; omega))]
                      rfl
                  · skip
                    by_cases r1 : c ≤ 57
                    · by_cases hz : pos = 0
                      · have g1 : decide ((97 : Int) ≤ (c : Int)) = false := decide_eq_false (by omega)
                        have g2 : decide ((c : Int) ≤ 122) = true := decide_eq_true (by omega)
                        have g3 : decide ((48 : Int) ≤ (c : Int)) = true := decide_eq_true (by omega)
                        have g4 : decide ((c : Int) ≤ 57) = true := decide_eq_true (by omega)
                        have g5 : ((c : Int) == 95) = false := beq_eq_false_iff_ne.mpr (by omega)
                        have g6 : ((pos : Int) == 0) = true := beq_iff_eq.mpr (by omega)
                        have HZ := Aside0.mk hz
                        clear hz
                        go_wp2
                        go_ret
                        refine ⟨?_, names_Is.below_iter m a0 _⟩
                        rw [← HH.out, names_Is.bad hp (by have hz := HZ.out; rw [HBT.out]; unfold names_Is.ok; first | (simp; done) | (simp; omega))]
                        rfl
                      · have g1 : decide ((97 : Int) ≤ (c : Int)) = false := decide_eq_false (by omega)
                        have g2 : decide ((c : Int) ≤ 122) = true := decide_eq_true (by omega)
                        have g3 : decide ((48 : Int) ≤ (c : Int)) = true := decide_eq_true (by omega)
                        have g4 : decide ((c : Int) ≤ 57) = true := decide_eq_true (by omega)
                        have g5 : ((c : Int) == 95) = false := beq_eq_false_iff_ne.mpr (by omega)
                        have g6 : ((pos : Int) == 0) = false := beq_eq_false_iff_ne.mpr (by omega)
                        go_wp2
                        go_roundg (a0.size - (pos + 1))
                        case measure => have := HK.out; omega
                        case rel =>
                          refine ⟨pos + 1, ⟨by omega⟩, ⟨rfl⟩, rfl, ⟨fun j hj => ?_⟩⟩
                          by_cases e : j = pos
                          · rw [e, HBT.out]; unfold names_Is.ok; first | (simp; done) | (simp; omega)
                          · exact HG.out j (by omega)
                    · skip
                      by_cases r2 : c ≤ 94
                      · by_cases hz : pos = 0
                        · have g1 : decide ((97 : Int) ≤ (c : Int)) = false := decide_eq_false (by omega)
                          have g2 : decide ((c : Int) ≤ 122) = true := decide_eq_true (by omega)
                          have g3 : decide ((48 : Int) ≤ (c : Int)) = true := decide_eq_true (by omega)
                          have g4 : decide ((c : Int) ≤ 57) = false := decide_eq_false (by omega)
                          have g5 : ((c : Int) == 95) = false := beq_eq_false_iff_ne.mpr (by omega)
                          have g6 : ((pos : Int) == 0) = true := beq_iff_eq.mpr (by omega)
                          have HZ := Aside0.mk hz
                          clear hz
                          go_wp2
                          go_ret
                          refine ⟨?_, names_Is.below_iter m a0 _⟩
                          rw [← HH.out, names_Is.bad hp (by have hz := HZ.out; rw [HBT.out]; unfold names_Is.ok; first | (simp; done) | (simp; omega))]
                          rfl
                        · have g1 : decide ((97 : Int) ≤ (c : Int)) = false := decide_eq_false (by omega)
                          have g2 : decide ((c : Int) ≤ 122) = true := decide_eq_true (by omega)
                          have g3 : decide ((48 : Int) ≤ (c : Int)) = true := decide_eq_true (by omega)
                          have g4 : decide ((c : Int) ≤ 57) = false := decide_eq_false (by omega)
                          have g5 : ((c : Int) == 95) = false := beq_eq_false_iff_ne.mpr (by omega)
                          have g6 : ((pos : Int) == 0) = false := beq_eq_false_iff_ne.mpr (by omega)
                          go_wp2
                          go_ret
                          refine ⟨?_, names_Is.below_iter m a0 _⟩
                          rw [← HH.out, names_Is.bad hp (by rw [HBT.out]; unfold names_Is.ok; first | (simp; done) | (simp; omega))]
                          rfl
                      · skip
                        by_cases r3 : c ≤ 95
                        · obtain rfl : c = 95 := by omega
                          by_cases hz : pos = 0
                          · have g1 : decide ((97 : Int) ≤ (95 : Int)) = false := decide_eq_false (by omega)
                            have g2 : decide ((95 : Int) ≤ 122) = true := decide_eq_true (by omega)
                            have g3 : decide ((48 : Int) ≤ (95 : Int)) = true := decide_eq_true (by omega)
                            have g4 : decide ((95 : Int) ≤ 57) = false := decide_eq_false (by omega)
                            have g5 : ((95 : Int) == 95) = true := beq_iff_eq.mpr (by omega)
                            have g6 : ((pos : Int) == 0) = true := beq_iff_eq.mpr (by omega)
                            have HZ := Aside0.mk hz
                            clear hz
                            go_wp2
                            go_ret
                            refine ⟨?_, names_Is.below_iter m a0 _⟩
                            rw [← HH.out, names_Is.bad hp (by have hz := HZ.out; rw [HBT.out]; unfold names_Is.ok; first | (simp; done) | (simp; omega))]
                            rfl
                          · have g1 : decide ((97 : Int) ≤ (95 : Int)) = false := decide_eq_false (by omega)
                            have g2 : decide ((95 : Int) ≤ 122) = true := decide_eq_true (by omega)
                            have g3 : decide ((48 : Int) ≤ (95 : Int)) = true := decide_eq_true (by omega)
                            have g4 : decide ((95 : Int) ≤ 57) = false := decide_eq_false (by omega)
                            have g5 : ((95 : Int) == 95) = true := beq_iff_eq.mpr (by omega)
                            have g6 : ((pos : Int) == 0) = false := beq_eq_false_iff_ne.mpr (by omega)
                            go_wp2
                            go_roundg (a0.size - (pos + 1))
                            case measure => have := HK.out; omega
                            case rel =>
                              refine ⟨pos + 1, ⟨by omega⟩, ⟨rfl⟩, rfl, ⟨fun j hj => ?_⟩⟩
                              by_cases e : j = pos
                              · rw [e, HBT.out]; unfold names_Is.ok; first | (simp; done) | (simp; omega)
                              · exact HG.out j (by omega)
                        · skip
                          by_cases r4 : c ≤ 96
                          · obtain rfl : c = 96 := by omega
                            by_cases hz : pos = 0
                            · have g1 : decide ((97 : Int) ≤ (96 : Int)) = false := decide_eq_false (by omega)
                              have g2 : decide ((96 : Int) ≤ 122) = true := decide_eq_true (by omega)
                              have g3 : decide ((48 : Int) ≤ (96 : Int)) = true := decide_eq_true (by omega)
                              have g4 : decide ((96 : Int) ≤ 57) = false := decide_eq_false (by omega)
                              have g5 : ((96 : Int) == 95) = false := beq_eq_false_iff_ne.mpr (by omega)
                              have g6 : ((pos : Int) == 0) = true := beq_iff_eq.mpr (by omega)
                              have HZ := Aside0.mk hz
                              clear hz
                              go_wp2
                              go_ret
                              refine ⟨?_, names_Is.below_iter m a0 _⟩
                              rw [← HH.out, names_Is.bad hp (by have hz := HZ.out; rw [HBT.out]; unfold names_Is.ok; first | (simp; done) | (simp; omega))]
                              rfl
                            · have g1 : decide ((97 : Int) ≤ (96 : Int)) = false := decide_eq_false (by omega)
                              have g2 : decide ((96 : Int) ≤ 122) = true := decide_eq_true (by omega)
                              have g3 : decide ((48 : Int) ≤ (96 : Int)) = true := decide_eq_true (by omega)
                              have g4 : decide ((96 : Int) ≤ 57) = false := decide_eq_false (by omega)
                              have g5 : ((96 : Int) == 95) = false := beq_eq_false_iff_ne.mpr (by omega)
                              have g6 : ((pos : Int) == 0) = false := beq_eq_false_iff_ne.mpr (by omega)
                              go_wp2
                              go_ret
                              refine ⟨?_, names_Is.below_iter m a0 _⟩
                              rw [← HH.out, names_Is.bad hp (by rw [HBT.out]; unfold names_Is.ok; first | (simp; done) | (simp; omega))]
                              rfl
                          · skip
                            by_cases hz : pos = 0
                            · have g1 : decide ((97 : Int) ≤ (c : Int)) = true := decide_eq_true (by omega)
                              have g2 : decide ((c : Int) ≤ 122) = false := decide_eq_false (by omega)
                              have g3 : decide ((48 : Int) ≤ (c : Int)) = true := decide_eq_true (by omega)
                              have g4 : decide ((c : Int) ≤ 57) = false := decide_eq_false (by omega)
                              have g5 : ((c : Int) == 95) = false := beq_eq_false_iff_ne.mpr (by omega)
                              have g6 : ((pos : Int) == 0) = true := beq_iff_eq.mpr (by omega)
                              have HZ := Aside0.mk hz
                              clear hz
                              go_wp2
                              go_ret
                              refine ⟨?_, names_Is.below_iter m a0 _⟩
                              rw [← HH.out, names_Is.bad hp (by have hz := HZ.out; rw [HBT.out]; unfold names_Is.ok; first | (simp; done) | (simp; omega))]
                              rfl
                            · have g1 : decide ((97 : Int) ≤ (c : Int)) = true := decide_eq_true (by omega)
                              have g2 : decide ((c : Int) ≤ 122) = false := decide_eq_false (by omega)
                              have g3 : decide ((48 : Int) ≤ (c : Int)) = true := decide_eq_true (by omega)
                              have g4 : decide ((c : Int) ≤ 57) = false := decide_eq_false (by omega)
                              have g5 : ((c : Int) == 95) = false := beq_eq_false_iff_ne.mpr (by omega)
                              have g6 : ((pos : Int) == 0) = false := beq_eq_false_iff_ne.mpr (by omega)
                              go_wp2
                              go_ret
                              refine ⟨?_, names_Is.below_iter m a0 _⟩
                              rw [← HH.out, names_Is.bad hp (by rw [HBT.out]; unfold names_Is.ok; first | (simp; done) | (simp; omega))]
                              rfl
              · have hnx : ∀ ty, (Instr.next (.pointer (some ⟨w.heap.size, 0, none⟩)) true ty).run Tryz.prog ((w.drewN m).iter a0 pos) = _ := fun ty => run_next_any (w.drewN m) a0 pos ty hp
                obtain ⟨hd1, -⟩ := decode_high a0 pos hp (by omega)
                generalize (Utf8.decode a0 pos).1 = c at hnx hd1
                generalize (Utf8.decode a0 pos).2 = c2 at hnx
                generalize (a0[pos]'hp).toNat = cb at HBT hasc
                by_cases hz : pos = 0
                · have g1 : decide ((97 : Int) ≤ (c : Int)) = true := decide_eq_true (by omega)
                  have g2 : decide ((c : Int) ≤ 122) = false := decide_eq_false (by omega)
                  have g3 : decide ((48 : Int) ≤ (c : Int)) = true := decide_eq_true (by omega)
                  have g4 : decide ((c : Int) ≤ 57) = false := decide_eq_false (by omega)
                  have g5 : ((c : Int) == 95) = false := beq_eq_false_iff_ne.mpr (by omega)
                  have g6 : ((pos : Int) == 0) = true := beq_iff_eq.mpr (by omega)
                  have HZ := Aside0.mk hz
                  clear hz
                  go_wp2
                  go_ret
                  refine ⟨?_, names_Is.below_iter m a0 _⟩
                  rw [← HH.out, names_Is.bad hp (by have hz := HZ.out; rw [HBT.out]; unfold names_Is.ok; first | (simp; done) | (simp; omega))]
                  rfl
                · have g1 : decide ((97 : Int) ≤ (c : Int)) = true := decide_eq_true (by omega)
                  have g2 : decide ((c : Int) ≤ 122) = false := decide_eq_false (by omega)
                  have g3 : decide ((48 : Int) ≤ (c : Int)) = true := decide_eq_true (by omega)
                  have g4 : decide ((c : Int) ≤ 57) = false := decide_eq_false (by omega)
                  have g5 : ((c : Int) == 95) = false := beq_eq_false_iff_ne.mpr (by omega)
                  have g6 : ((pos : Int) == 0) = false := beq_eq_false_iff_ne.mpr (by omega)
                  go_wp2
                  go_ret
                  refine ⟨?_, names_Is.below_iter m a0 _⟩
                  rw [← HH.out, names_Is.bad hp (by rw [HBT.out]; unfold names_Is.ok; first | (simp; done) | (simp; omega))]
                  rfl
            · have hnx : ∀ ty, (Instr.next (.pointer (some ⟨w.heap.size, 0, none⟩)) true ty).run Tryz.prog ((w.drewN m).iter a0 pos) = _ := fun ty => run_next_end (w.drewN m) a0 pos ty hp
              go_wp2
              go_ret
              refine ⟨?_, names_Is.below_iter m a0 _⟩
              rw [← HH.out, names_Is.good (fun j hj => HG.out j (by omega))]
              rfl


/-! ### shape_Check: function 44 -/
/-- the path, cut back to where it ends in a place -/
def shape_Check.pop (p : List Int) (a : Int) : List Int := (p.reverse.dropWhile (fun x => x != a)).reverse
/-- the path behind one more state; none: it may not stand there -/
def shape_Check.step (l0 : List (S46)) (p : List Int) (i : Int) : Option (List Int) :=
  if shape_Check.pop p (rd_T46 l0 i).f2 = [] then
    (if 0 < i ∨ (rd_T46 l0 i).f2 ≠ -1 then none else if 1 ≤ (rd_T46 l0 i).f1 ∧ (rd_T46 l0 i).f1 ≤ 3 then some [i] else none)
  else if (rd_T46 l0 (rd_T46 l0 i).f2).f1 = 1 then none
  else if 1 ≤ (rd_T46 l0 i).f1 ∧ (rd_T46 l0 i).f1 ≤ 3 then some (shape_Check.pop p (rd_T46 l0 i).f2 ++ [i]) else none
/-- the depth behind the states from one on (so many are left) -/
def shape_Check.run (l0 : List (S46)) : Nat → List Int → Int → Option Int
  | 0, _, deep => some deep
  | n + 1, p, deep => match shape_Check.step l0 p ((l0.length : Int) - ((n : Int) + 1)) with
    | none => none
    | some q => shape_Check.run l0 n q (max deep q.length)
def shape_Check.f (l0 : List (S46)) : Option Int :=
  some (if 60 < l0.length then 8 else if l0.length = 0 then 1 else match shape_Check.run l0 l0.length [] 0 with
    | none => 1
    | some d => if 12 < d then 6 else 0)

/-- a path in memory: a block of one cell that holds a row of the call's own -/
def shape_Check.At (w0 w : World) (g : Nat) (p : List Int) : Prop :=
  ∃ v, w.heap[g]? = some (.cells #[v] 108 (0, 0)) ∧ w.ownsRow w0.heap.size 3 1 v p.length (p.map (Value.int .i64)) ∧ v.ownBlock ≠ some g ∧ w0.heap.size ≤ g
theorem shape_Check.pop_nil (a : Int) : shape_Check.pop [] a = [] := rfl
theorem shape_Check.pop_hit (p : List Int) (a : Int) : shape_Check.pop (p ++ [a]) a = p ++ [a] := by simp [shape_Check.pop]
theorem shape_Check.pop_miss (p : List Int) (x a : Int) (h : x ≠ a) : shape_Check.pop (p ++ [x]) a = shape_Check.pop p a := by simp [shape_Check.pop, h]
theorem shape_Check.succ {W : World} {base : Nat} {e : TypeId} {size : Nat} {v : Value} {k : Nat} {xs : List Value} (h : W.ownsRow base e size v (k + 1) xs) : ∃ g cap, v = .slice (some ⟨g, 0, none⟩) (k + 1) cap := by
  rcases h.2 with ⟨_, h⟩ | ⟨g, cap, _, h, _⟩
  · omega
  · exact ⟨g, cap, h⟩
/-- behind the append: where the path lies, and what else -/
theorem shape_Check.pushed {w0 W w2 : World} {g : Nat} {v v' : Value} {p1 : List Int} {i : Int} {o : Obj} (e1 : W.heap[g]? = some (.cells #[v] 108 (0, 0))) (e2 : W.ownsRow w0.heap.size 3 1 v p1.length (p1.map (Value.int .i64))) (e3 : v.ownBlock ≠ some g) (e4 : w0.heap.size ≤ g)
    (hB : Below w0.heap.size w0 W) (hg : (W.alloc o).grownBy w2 v.ownBlock) (hown : w2.ownsRow w0.heap.size 3 1 v' (p1.length + 1) (p1.map (Value.int .i64) ++ [.int .i64 i])) :
    w2.heap[g]? = some (.cells #[v] 108 (0, 0)) ∧ Below w0.heap.size w0 w2 ∧ shape_Check.At w0 (w2.setCell ⟨g, 0, none⟩ v') g (p1 ++ [i]) ∧
      ∀ (b : Nat) (cs : Array Value) (t : TypeId), W.heap[b]? = some (Obj.cells cs t (0, 0)) → t ≠ 3 → w2.heap[b]? = some (Obj.cells cs t (0, 0)) := by
  have hk : ∀ (b : Nat) (cs : Array Value) (t : TypeId), W.heap[b]? = some (Obj.cells cs t (0, 0)) → t ≠ 3 → w2.heap[b]? = some (Obj.cells cs t (0, 0)) := by
    intro b cs t hb ht
    have h1 := blk_alloc hb o
    refine (hg.block b (lt_of_block h1) (fun e => ?_)).trans h1
    obtain ⟨c', hc'⟩ := own_typed e2 b e.symm
    rw [hb] at hc'
    injection hc' with hc'
    injection hc' with _ hc'
    exact ht hc'
  have h1 := hk g _ _ e1 (by decide)
  refine ⟨h1, (hB.alloc hB.size o).grown hg (Nat.le_trans hB.size (by simp)) (fun k hk => (e2.lt k hk).1), ⟨v', one_setCell h1, ?_, ?_, e4⟩, hk⟩
  · refine ownsRow_setCell_other (by simpa using hown) ?_ _
    intro e
    obtain ⟨c', hc'⟩ := own_typed hown g e
    rw [h1] at hc'
    injection hc' with hc'
    injection hc' with _ hc'
    exact absurd hc' (by decide)
  · intro e
    obtain ⟨c', hc'⟩ := own_typed hown g e
    rw [h1] at hc'
    injection hc' with hc'
    injection hc' with _ hc'
    exact absurd hc' (by decide)
set_option maxHeartbeats 2000000 in
set_option maxRecDepth 100000 in
theorem shape_Check.meet (g : Nat) (A0 : Option Addr) (c0 : Nat) (l0 : List (S46)) (i : Int) (p : List Int) (w0 w : World) (hr0 : Kd.C k46 w0 A0 l0.length l0) (h0 : 0 ≤ i) (hi : i < l0.length) (hl : l0.length ≤ 60)
    (hp : ∀ x ∈ p, 0 ≤ x ∧ x < l0.length) (hn : p.length ≤ 60) (hB : Below w0.heap.size w0 w) (hP : shape_Check.At w0 w g p) :
    Calls Tryz.prog 73 #[.pointer (some ⟨g, 0, none⟩), .slice A0 l0.length c0, .int .i64 i] w fun e w' => e = .returned (.bool (shape_Check.step l0 p i).isSome) ∧ Below w0.heap.size w0 w' ∧
      ∀ q, shape_Check.step l0 p i = some q → shape_Check.At w0 w' g q := by
  have hC := Kd.C_below hr0 hB
  obtain ⟨ad, A3, cc3, A4, cc4, A5, cc5, hA, hx0, hx1, hx2, hx3, hx4, hx5, -⟩ := at_T46 hC i h0 hi
  subst hA
  obtain ⟨i0, hi0, hz0, hz1, hz2⟩ := info_parts info3
  go_enter Tryz.func73, Tryz.ntmps73
  go_wp2
  have HR := Aside0.mk hr0
  have hsz := World.size_alloc
  obtain ⟨w1, hw1⟩ : ∃ w1 : World, w1 = w.alloc (.cells #[.string (rd_T46 l0 i).f0, .int .i64 (rd_T46 l0 i).f1, .int .i64 (rd_T46 l0 i).f2, .slice A3 (rd_T46 l0 i).f3.length cc3, .slice A4 (rd_T46 l0 i).f4.length cc4, .slice A5 (rd_T46 l0 i).f5.length cc5] 46) := ⟨_, rfl⟩
  have s0 : w0.heap.size ≤ w.heap.size := hB.size
  have b7 : w1.heap[w.heap.size]? = some (.cells #[.string (rd_T46 l0 i).f0, .int .i64 (rd_T46 l0 i).f1, .int .i64 (rd_T46 l0 i).f2, .slice A3 (rd_T46 l0 i).f3.length cc3, .slice A4 (rd_T46 l0 i).f4.length cc4, .slice A5 (rd_T46 l0 i).f5.length cc5] 46 (0, 0)) := by rw [hw1]; exact heap_alloc_new w _
  have B1 : Below w0.heap.size w0 w1 := by rw [hw1]; exact hB.alloc s0 _
  have hP1 : shape_Check.At w0 w1 g p := by
    obtain ⟨v, e1, e2, e3, e4⟩ := hP
    refine ⟨v, ?_, ?_, e3, e4⟩
    · rw [hw1]; exact blk_alloc e1 _
    · rw [hw1]; exact e2.alloc _
  rw [← hw1]
  clear hw1 hP hx0 hx1 hx2 hx3 hx4 hx5 hC hr0 hsz
  generalize w.heap.size = b7n at *
  generalize hS : rd_T46 l0 i = s at *
  have HS := Aside0.mk hS
  clear hS
  have HP := Aside0.mk hP1
  have HB := Aside0.mk B1
  have HB7 := Aside0.mk b7
  have HPP := Aside0.mk hp
  clear hP1 B1 b7 hp hB
  go_loopg [] p.length (fun kq wr => ∃ p1 : List Int, Aside0 (kq = p1.length) ∧ Aside0 (shape_Check.pop p s.f2 = shape_Check.pop p1 s.f2) ∧ Aside0 (∀ x ∈ p1, 0 ≤ x ∧ x < (l0.length : Int)) ∧ Aside0 (p1.length ≤ 60) ∧ Aside0 (shape_Check.At w0 wr g p1) ∧ Aside0 (Below w0.heap.size w0 wr) ∧ Aside0 (wr.heap[b7n]? = some (.cells #[.string s.f0, .int .i64 s.f1, .int .i64 s.f2, .slice A3 s.f3.length cc3, .slice A4 s.f4.length cc4, .slice A5 s.f5.length cc5] 46 (0, 0))))
  case atStart => exact ⟨p, ⟨rfl⟩, ⟨rfl⟩, HPP, ⟨hn⟩, HP, HB, HB7⟩
  case round =>
    clear HP HB HB7 HPP
    obtain ⟨p1, HK, HQ, HPP, HN, HP, HB, HB7⟩ := hrel
    obtain ⟨v, e1, e2, e3, e4⟩ := HP.out
    have c7 : ∀ j u, (#[.string s.f0, .int .i64 s.f1, .int .i64 s.f2, .slice A3 s.f3.length cc3, .slice A4 s.f4.length cc4, .slice A5 s.f5.length cc5] : Array Value)[j]? = some u → wr.cell? ⟨b7n, j, none⟩ = some u := fun j u h => by simpa [World.cell?, HB7.out] using h
    have d1 := c7 1 _ rfl
    have d2 := c7 2 _ rfl
    clear c7
    have cg := cell_of_one e1
    rcases List.eq_nil_or_concat p1 with rfl | ⟨q, x, rfl⟩
    · have hv : ∃ a c, v = .slice a 0 c := by
        rcases e2.2 with ⟨rfl, -⟩ | ⟨gb, cap, cur, rfl, -⟩
        · exact ⟨_, _, rfl⟩
        · exact ⟨_, _, rfl⟩
      obtain ⟨va, vc, rfl⟩ := hv
      have hq0 : shape_Check.pop p s.f2 = [] := HQ.out
      have hstep : shape_Check.step l0 p i = (if 0 < i ∨ s.f2 ≠ -1 then none else if 1 ≤ s.f1 ∧ s.f1 ≤ 3 then some [i] else none) := by
        unfold shape_Check.step; rw [HS.out, if_pos hq0]
      have HST := Aside0.mk hstep
      have HE2 := Aside0.mk e2
      have HE1 := Aside0.mk e1
      have HE3 := Aside0.mk e3
      clear hq0 hstep e2 e1 e3
      by_cases hA : 0 < i
      · have hA1 : decide (0 < i) = true := decide_eq_true hA
        go_wp2
        repeat (go_quiet (fail); try go_wp2)
        go_ret
        rw [HST.out, if_pos (.inl hA)]
        exact ⟨rfl, (pw_below_drewN HB.out _), fun q h => by cases h⟩
      · have hA1 : decide (0 < i) = false := decide_eq_false hA
        by_cases hpar : s.f2 = -1
        · have hp1 : (s.f2 == -1) = true := beq_iff_eq.mpr hpar
          have hp2 : (s.f2 != -1) = false := bne_eq_false_iff_eq.mpr hpar
          have HPAR := Aside0.mk hpar
          clear hpar
          go_wp2
          repeat (go_quiet (fail); try go_wp2_with (at_builtin; refine wpList_append_own _ rfl _ _ 108 rfl w0.heap.size 3 i0 (.int .i64 0) 1 8 Tryz.underlying108 hi0 hz0 hz1 hz2 rfl (by decide) _ _ _ rfl (World.ownsRow.alloc (pw_own_drewN HE2.out _) _) ⟨wr.heap.size, 0, none⟩ 1 1 [.int .i64 i] rfl rfl ?c1 ?c2 ?c3 ?c4 ?c5 ?c6))
          case c1 => exact cell_one_new _ _ _
          case c2 => intro u hu; simp at hu; subst hu; rfl
          case c3 => simp [maxLen]
          case c4 => simp
          case c5 => exact Nat.le_trans HB.out.size (by simp)
          case c6 =>
            intro v2 w2 hown hgrow _
            obtain ⟨hg2, hB2, hP2, hk2⟩ := shape_Check.pushed (i := i) (p1 := []) (blk_drewN HE1.out _) (pw_own_drewN HE2.out _) HE3.out e4 (pw_below_drewN HB.out _) hgrow hown
            have hb2 := hk2 _ _ _ (blk_drewN HB7.out _) (by decide)
            obtain ⟨g3, c3, rfl⟩ := shape_Check.succ hown
            have HP2 := Aside0.mk hP2
            have HB2 := Aside0.mk hB2
            clear hP2 hB2 hown hgrow hk2
            have cg2 := cell_of_one hg2
            have fg2 := free_of_one hg2
            have d1' : w2.cell? ⟨b7n, 1, none⟩ = some (.int .i64 s.f1) := by simp [World.cell?, hb2]
            have hne : ¬ (g = b7n) := by
              rintro rfl
              rw [hg2] at hb2
              injection hb2 with hb2
              injection hb2 with _ hb2
              exact absurd hb2 (by decide)
            have hne' : ¬ (b7n = g) := fun e => hne e.symm
            clear hg2 hb2 cg d1 d2
            have hno : ¬ (0 < i ∨ s.f2 ≠ -1) := by rw [HPAR.out]; simp; omega
            by_cases hk1 : 1 ≤ s.f1
            · have hk1' : decide (1 ≤ s.f1) = true := decide_eq_true hk1
              by_cases hk3 : s.f1 ≤ 3
              · have hk3' : decide (s.f1 ≤ 3) = true := decide_eq_true hk3
                go_wp2
                repeat (go_quiet (fail); try go_wp2)
                go_ret
                rw [HST.out, if_neg hno, if_pos ⟨hk1, hk3⟩]
                exact ⟨rfl, HB2.out.setCell (p := ⟨g, 0, none⟩) e4 _, fun q h => by cases h; exact HP2.out⟩
              · have hk3' : decide (s.f1 ≤ 3) = false := decide_eq_false hk3
                go_wp2
                repeat (go_quiet (fail); try go_wp2)
                go_ret
                rw [HST.out, if_neg hno, if_neg (by omega)]
                exact ⟨rfl, HB2.out.setCell (p := ⟨g, 0, none⟩) e4 _, fun q h => by cases h⟩
            · have hk1' : decide (1 ≤ s.f1) = false := decide_eq_false hk1
              go_wp2
              repeat (go_quiet (fail); try go_wp2)
              go_ret
              rw [HST.out, if_neg hno, if_neg (by omega)]
              exact ⟨rfl, HB2.out.setCell (p := ⟨g, 0, none⟩) e4 _, fun q h => by cases h⟩
        · have hp1 : (s.f2 == -1) = false := beq_eq_false_iff_ne.mpr hpar
          have hp2 : (s.f2 != -1) = true := bne_iff_ne.mpr hpar
          go_wp2
          repeat (go_quiet (fail); try go_wp2)
          go_ret
          rw [HST.out, if_pos (.inr hpar)]
          exact ⟨rfl, (pw_below_drewN HB.out _), fun q h => by cases h⟩
    · obtain ⟨gb, cap, cur, rfl, -, hcur, hcl, hcm, hcs, htk⟩ : ∃ gb cap cur, v = .slice (some ⟨gb, 0, none⟩) (q.length + 1) cap ∧ w0.heap.size ≤ gb ∧ wr.heap[gb]? = some (.cells cur 3 (0, 0)) ∧ q.length + 1 ≤ cap ∧ cap ≤ maxLen ∧ cur.size = cap * 1 ∧ cur.toList.take ((q.length + 1) * 1) = (q.concat x).map (Value.int .i64) := by
        have h2 := e2.2
        simp only [List.length_concat] at h2
        rcases h2 with ⟨-, h⟩ | h
        · omega
        · exact h
      have hlast : wr.cell? ⟨gb, q.length, none⟩ = some (.int .i64 x) := by
        have := e2.cells (g := gb) (by simp [Value.ownBlock]) q.length (.int .i64 x) (by simp)
        have hz : (⟨gb, 0, none⟩ : Addr).add q.length = ⟨gb, q.length, none⟩ := by rw [Addr.add_lit]; simp
        rwa [hz] at this
      have HE2 := Aside0.mk e2
      have HE1 := Aside0.mk e1
      have HE3 := Aside0.mk e3
      have HCUR := Aside0.mk hcur
      have HTK := Aside0.mk htk
      have HCS := Aside0.mk hcs
      have hql : q.length + 1 ≤ 60 := by have := HN.out; simpa using this
      clear e2 e1 e3 hcur htk hcs
      have hlen0 : decide ((0 : Int) < (q.length : Int) + 1) = true := decide_eq_true (by omega)
      by_cases hx : x = s.f2
      · subst hx
        have hpp : shape_Check.pop p s.f2 = q ++ [s.f2] := by rw [HQ.out, List.concat_eq_append, shape_Check.pop_hit]
        have hb := HPP.out s.f2 (by simp)
        obtain ⟨hb0, hb1⟩ := hb
        have hC := Kd.C_below HR.out HB.out
        obtain ⟨ad2, A3', cc3', A4', cc4', A5', cc5', hA, hx0, hx1, hx2, hx3, hx4, hx5, -⟩ := at_T46 hC s.f2 hb0 hb1
        cases hA
        have hstep : shape_Check.step l0 p i = (if (rd_T46 l0 s.f2).f1 = 1 then none else if 1 ≤ s.f1 ∧ s.f1 ≤ 3 then some (q ++ [s.f2] ++ [i]) else none) := by
          unfold shape_Check.step; rw [HS.out, if_neg (by rw [hpp]; simp), hpp]
        have HST := Aside0.mk hstep
        generalize hD : rd_T46 l0 s.f2 = s2 at *
        have HD := Aside0.mk hD
        clear hD hpp hstep hx0 hx2 hx3 hx4 hx5 hC
        by_cases hkk : s2.f1 = 1
        · have hkk1 : (s2.f1 == 1) = true := beq_iff_eq.mpr hkk
          have HKK := Aside0.mk hkk
          clear hkk
          go_wp2
          repeat (go_quiet (fail); try go_wp2)
          go_ret
          rw [HST.out, if_pos HKK.out]
          exact ⟨rfl, pw_below_drewN HB.out _, fun q h => by cases h⟩
        · have hkk1 : (s2.f1 == 1) = false := beq_eq_false_iff_ne.mpr hkk
          have HKK := Aside0.mk hkk
          clear hkk
          go_wp2
          repeat (go_quiet (fail); try go_wp2_with (at_builtin; refine wpList_append_own _ rfl _ _ 108 rfl w0.heap.size 3 i0 (.int .i64 0) 1 8 Tryz.underlying108 hi0 hz0 hz1 hz2 rfl (by decide) _ _ _ rfl (World.ownsRow.alloc (pw_own_drewN HE2.out _) _) ⟨wr.heap.size, 0, none⟩ 1 1 [.int .i64 i] rfl rfl ?c1 ?c2 ?c3 ?c4 ?c5 ?c6))
          case c1 => exact cell_one_new _ _ _
          case c2 => intro u hu; simp at hu; subst hu; rfl
          case c3 => simp [maxLen]; omega
          case c4 => simp; omega
          case c5 => exact Nat.le_trans HB.out.size (by simp)
          case c6 =>
            intro v2 w2 hown hgrow _
            have hown : w2.ownsRow w0.heap.size 3 1 v2 ((q ++ [s.f2]).length + 1) ((q ++ [s.f2]).map (Value.int .i64) ++ [.int .i64 i]) := by simpa [List.concat_eq_append] using hown
            obtain ⟨hg2, hB2, hP2, hk2⟩ := shape_Check.pushed (i := i) (p1 := q ++ [s.f2]) (blk_drewN HE1.out _) (by have := HE2.out; rw [List.concat_eq_append] at this; exact pw_own_drewN this _) HE3.out e4 (pw_below_drewN HB.out _) hgrow hown
            have hb2 := hk2 _ _ _ (blk_drewN HB7.out _) (by decide)
            simp only [List.length_append, List.length_singleton] at hown
            obtain ⟨g3, c3, rfl⟩ := shape_Check.succ hown
            have HP2 := Aside0.mk hP2
            have HB2 := Aside0.mk hB2
            clear hP2 hB2 hown hgrow hk2
            have cg2 := cell_of_one hg2
            have fg2 := free_of_one hg2
            have d1' : w2.cell? ⟨b7n, 1, none⟩ = some (.int .i64 s.f1) := by simp [World.cell?, hb2]
            have hne : ¬ (g = b7n) := by
              rintro rfl
              rw [hg2] at hb2
              injection hb2 with hb2
              injection hb2 with _ hb2
              exact absurd hb2 (by decide)
            have hne' : ¬ (b7n = g) := fun e => hne e.symm
            clear hg2 hb2 cg d1 d2 hx1 hlast
            by_cases hk1 : 1 ≤ s.f1
            · have hk1' : decide (1 ≤ s.f1) = true := decide_eq_true hk1
              by_cases hk3 : s.f1 ≤ 3
              · have hk3' : decide (s.f1 ≤ 3) = true := decide_eq_true hk3
                go_wp2
                repeat (go_quiet (fail); try go_wp2)
                go_ret
                rw [HST.out, if_neg HKK.out, if_pos ⟨hk1, hk3⟩]
                exact ⟨rfl, HB2.out.setCell (p := ⟨g, 0, none⟩) e4 _, fun q h => by cases h; exact HP2.out⟩
              · have hk3' : decide (s.f1 ≤ 3) = false := decide_eq_false hk3
                go_wp2
                repeat (go_quiet (fail); try go_wp2)
                go_ret
                rw [HST.out, if_neg HKK.out, if_neg (by omega)]
                exact ⟨rfl, HB2.out.setCell (p := ⟨g, 0, none⟩) e4 _, fun q h => by cases h⟩
            · have hk1' : decide (1 ≤ s.f1) = false := decide_eq_false hk1
              go_wp2
              repeat (go_quiet (fail); try go_wp2)
              go_ret
              rw [HST.out, if_neg HKK.out, if_neg (by omega)]
              exact ⟨rfl, HB2.out.setCell (p := ⟨g, 0, none⟩) e4 _, fun q h => by cases h⟩
      · have hx1 : (x == s.f2) = false := beq_eq_false_iff_ne.mpr hx
        have hx2 : (x != s.f2) = true := bne_iff_ne.mpr hx
        have HX := Aside0.mk hx
        clear hx
        have fg := free_of_one HE1.out
        go_wp2
        repeat (go_quiet (fail); try go_wp2)
        go_region
        all_goals
          go_wp2
          go_roundg q.length
          case measure => have := HK.out; simp at this; omega
          case rel =>
            refine ⟨q, ⟨rfl⟩, ⟨?_⟩, ⟨fun y hy => HPP.out y (by simp [hy])⟩, ⟨by omega⟩, ⟨?_⟩, ⟨(pw_below_drewN HB.out _).setCell (p := ⟨g, 0, none⟩) e4 _⟩, ⟨?_⟩⟩
            · rw [HQ.out, List.concat_eq_append, shape_Check.pop_miss _ _ _ HX.out]
            · have hgb : w0.heap.size ≤ gb := (HE2.out.lt gb rfl).1
              refine ⟨_, one_setCell (blk_drewN HE1.out _), ownsRow_setCell_other (pw_own_drewN ⟨by simp, .inr ⟨gb, cap, cur, rfl, hgb, HCUR.out, by omega, hcm, HCS.out, ?_⟩⟩ _) HE3.out _, HE3.out, e4⟩
              have h := HTK.out
              rw [List.concat_eq_append, List.map_append] at h
              have h2 := congrArg (List.take q.length) h
              rw [List.take_take, Nat.min_eq_left (by omega)] at h2
              rw [Nat.mul_one, h2]
              simp
            · refine blk_far (blk_drewN HB7.out _) (fun e => ?_) _
              have e' : b7n = g := e
              have h1 := HB7.out
              rw [e', HE1.out] at h1
              injection h1 with h1
              injection h1 with _ h1
              exact absurd h1 (by decide)

theorem shape_Check.pop_sub (p : List Int) (a : Int) : ∀ x ∈ shape_Check.pop p a, x ∈ p := by
  intro x hx
  unfold shape_Check.pop at hx
  rw [List.mem_reverse] at hx
  exact List.mem_reverse.1 ((List.dropWhile_sublist _).subset hx)
theorem shape_Check.pop_len (p : List Int) (a : Int) : (shape_Check.pop p a).length ≤ p.length := by
  unfold shape_Check.pop
  have := (List.dropWhile_sublist (fun x => x != a) (l := p.reverse)).length_le
  simpa using this
theorem shape_Check.step_in (l0 : List (S46)) (p q : List Int) (i : Int) (h0 : 0 ≤ i) (hi : i < l0.length) (hp : ∀ x ∈ p, 0 ≤ x ∧ x < (l0.length : Int)) (h : shape_Check.step l0 p i = some q) :
    q.length ≤ p.length + 1 ∧ ∀ x ∈ q, 0 ≤ x ∧ x < (l0.length : Int) := by
  have hl := shape_Check.pop_len p (rd_T46 l0 i).f2
  unfold shape_Check.step at h
  split at h
  · split at h
    · cases h
    · split at h
      · cases h
        exact ⟨by simp, fun x hx => by simp at hx; subst hx; exact ⟨h0, hi⟩⟩
      · cases h
  · split at h
    · cases h
    · split at h
      · cases h
        refine ⟨by simp; omega, fun x hx => ?_⟩
        rcases List.mem_append.1 hx with hx | hx
        · exact hp x (shape_Check.pop_sub _ _ _ hx)
        · simp at hx; subst hx; exact ⟨h0, hi⟩
      · cases h
theorem shape_Check.max_as (a b : Int) : max a b = if a < b then b else a := by omega
theorem shape_Check.At_cell {w0 w : World} {g : Nat} {p : List Int} (h : shape_Check.At w0 w g p) : ∃ a c, w.cell? ⟨g, 0, none⟩ = some (.slice a p.length c) := by
  obtain ⟨v, e1, e2, -, -⟩ := h
  rcases e2.2 with ⟨rfl, h⟩ | ⟨gb, cap, cur, rfl, -⟩
  · exact ⟨none, 0, by rw [h]; exact cell_of_one e1⟩
  · exact ⟨_, _, cell_of_one e1⟩
set_option maxHeartbeats 2000000 in
set_option maxRecDepth 100000 in
theorem shape_Check.calls (A0 : Option Addr) (c0 : Nat) (l0 : List (S46)) (r : Int) (w : World) (hr0 : Kd.C k46 w A0 l0.length l0) (hc0 : l0.length ≤ c0) (h : shape_Check.f l0 = some r) :
    Calls Tryz.prog 44 #[.slice A0 l0.length c0] w fun e w' => e = .returned (.int .i64 r) ∧ Below w.heap.size w w' := by
  unfold shape_Check.f at h
  have H := Option.some.inj h
  clear h
  by_cases h60 : 60 < l0.length
  · rw [if_pos h60] at H
    subst H
    have c1 : decide (60 < l0.length) = true := decide_eq_true h60
    have c2 : decide ((60 : Int) < (l0.length : Int)) = true := decide_eq_true (by omega)
    go_enter Tryz.func44, Tryz.ntmps44
    go_wp2
    go_ret
    exact ⟨rfl, Below.refl _ _⟩
  · rw [if_neg h60] at H
    have c1 : decide (60 < l0.length) = false := decide_eq_false h60
    have c2 : decide ((60 : Int) < (l0.length : Int)) = false := decide_eq_false (by omega)
    by_cases hz : l0.length = 0
    · rw [if_pos hz] at H
      subst H
      have c3 : ((l0.length : Int) == 0) = true := beq_iff_eq.mpr (by omega)
      have c4 : l0 = [] := List.length_eq_zero_iff.1 hz
      subst c4
      go_enter Tryz.func44, Tryz.ntmps44
      go_wp2
      go_ret
      exact ⟨rfl, Below.refl _ _⟩
    · rw [if_neg hz] at H
      have c3 : ((l0.length : Int) == 0) = false := beq_eq_false_iff_ne.mpr (by omega)
      have c4 : ¬ (l0 = []) := fun e => hz (by rw [e]; rfl)
      have HH := Aside0.mk H
      have HR := Aside0.mk hr0
      clear H hr0
      go_enter Tryz.func44, Tryz.ntmps44
      go_wp2_with fail
      have s0 : w.heap.size ≤ (w.alloc (.cells #[.slice none 0 0] 108)).heap.size := by simp
      have b3 : (w.alloc (.cells #[.slice none 0 0] 108)).heap[w.heap.size]? = some (.cells #[.slice none 0 0] 108 (0, 0)) := heap_alloc_new w _
      have B1 : Below w.heap.size w (w.alloc (.cells #[.slice none 0 0] 108)) := (Below.refl _ _).alloc (Nat.le_refl _) _
      have P1 : shape_Check.At w (w.alloc (.cells #[.slice none 0 0] 108)) w.heap.size [] := ⟨_, b3, World.ownsRow_nil _ _ _ _, by simp [Value.ownBlock], Nat.le_refl _⟩
      have HP := Aside0.mk P1
      have HB := Aside0.mk B1
      clear P1 B1 b3 s0
      go_loopg [4, 16] l0.length (fun kq v4 v16 wr => ∃ (n : Nat) (p : List Int) (deep : Int), Aside0 (kq = n) ∧ Aside0 (n ≤ l0.length) ∧ v16 = .int .i64 ((l0.length : Int) - (n : Int)) ∧ v4 = .int .i64 deep ∧ Aside0 (shape_Check.run l0 l0.length [] 0 = shape_Check.run l0 n p deep) ∧ Aside0 (p.length + n ≤ l0.length) ∧ Aside0 (∀ x ∈ p, 0 ≤ x ∧ x < (l0.length : Int)) ∧ Aside0 (shape_Check.At w wr w.heap.size p) ∧ Aside0 (Below w.heap.size w wr))
      case atStart => exact ⟨l0.length, [], 0, ⟨rfl⟩, ⟨Nat.le_refl _⟩, by simp, rfl, ⟨rfl⟩, ⟨by simp⟩, ⟨fun x hx => by cases hx⟩, HP, HB⟩
      case round =>
        clear HP HB
        obtain ⟨n, p, deep, HK, HN, rfl, rfl, HRUN, HPL, HPP, HP, HB⟩ := hrel
        cases n with
        | zero =>
          have hlt : decide ((l0.length : Int) - ((0 : Nat) : Int) < (l0.length : Int)) = false := decide_eq_false (by omega)
          have hr : (match some deep with | none => 1 | some d => if 12 < d then (6 : Int) else 0) = r := by have := HH.out; rw [HRUN.out] at this; exact this
          have hr' : (if 12 < deep then (6 : Int) else 0) = r := hr
          clear hr
          by_cases h12 : 12 < deep
          · rw [if_pos h12] at hr'
            subst hr'
            go_wp2
            go_ret
            exact ⟨rfl, HB.out⟩
          · rw [if_neg h12] at hr'
            subst hr'
            go_wp2
            go_ret
            exact ⟨rfl, HB.out⟩
        | succ n =>
          have hn1 := HN.out
          have hlt : decide ((l0.length : Int) - ((n + 1 : Nat) : Int) < (l0.length : Int)) = true := decide_eq_true (by omega)
          generalize hi : (l0.length : Int) - ((n + 1 : Nat) : Int) = i at *
          have hi0 : 0 ≤ i := by omega
          have hi1 : i < (l0.length : Int) := by omega
          have HI := Aside0.mk hi
          clear hi hn1
          have hcall := shape_Check.meet w.heap.size A0 c0 l0 i p w wr HR.out hi0 hi1 (by omega) HPP.out (by have := HPL.out; omega) HB.out HP.out
          have HC := Aside0.mk hcall
          clear hcall
          have hrun : shape_Check.run l0 (n + 1) p deep = match shape_Check.step l0 p i with | none => none | some q => shape_Check.run l0 n q (max deep q.length) := by
            rw [← HI.out]; simp only [shape_Check.run]; rfl
          have HRN := Aside0.mk hrun
          clear hrun
          cases hs : shape_Check.step l0 p i with
          | none =>
            rw [hs] at HC HRN
            have hr : r = 1 := by have := HH.out; rw [HRUN.out, HRN.out] at this; exact this.symm
            subst hr
            clear hs
            go_wp2_with (go_at_call 73; refine HC.out.mono ?_; rintro e w' ⟨rfl, hb, -⟩)
            go_ret
            exact ⟨rfl, hb⟩
          | some q =>
            obtain ⟨hq1, hq2⟩ := shape_Check.step_in l0 p q i hi0 hi1 HPP.out hs
            rw [hs] at HC HRN
            clear hs
            have hqn : q.length ≤ 60 := by have := HPL.out; omega
            by_cases hd : deep < (q.length : Int)
            all_goals
              go_wp2_with (go_at_call 73; refine HC.out.mono ?_; rintro e w' ⟨rfl, hb, hat⟩; have HAT := Aside0.mk (hat q rfl); clear hat; obtain ⟨a3, c3', hcell⟩ := shape_Check.At_cell HAT.out)
              go_roundg n
              case measure => have := HK.out; omega
              case rel =>
                refine ⟨n, q, max deep q.length, ⟨rfl⟩, ⟨kn_ HN⟩, ?_, ?_, ⟨?_⟩, ⟨kn_ HPL⟩, ⟨hq2⟩, HAT, ⟨hb⟩⟩
                · have := HI.out
                  rw [show i + 1 = (l0.length : Int) - (n : Int) by omega]
                · congr 1; omega
                · rw [HRUN.out, HRN.out]


/-! ### slices_IndexFunc_string_string: function 74 -/
/-- the first place of which p holds; -1: none -/
def IndexFunc_str.f (p : ByteArray → Bool) (l : List ByteArray) : Int := match l.findIdx? p with | none => -1 | some i => i
theorem IndexFunc_str.hit (p : ByteArray → Bool) (l : List ByteArray) (n : Nat) (hn : n < l.length) (hx : p (rdOf ByteArray.empty l n) = true) (h : ∀ j : Nat, j < n → p (rdOf ByteArray.empty l j) = false) : IndexFunc_str.f p l = n := by
  have : l.findIdx? p = some n := by
    rw [List.findIdx?_eq_some_iff_getElem]
    refine ⟨hn, by simpa [rdOf, hn] using hx, fun j hj => ?_⟩
    have := h j hj
    simpa [rdOf, show j < l.length by omega] using this
  simp [IndexFunc_str.f, this]
theorem IndexFunc_str.miss (p : ByteArray → Bool) (l : List ByteArray) (h : ∀ j : Nat, j < l.length → p (rdOf ByteArray.empty l j) = false) : IndexFunc_str.f p l = -1 := by
  have : l.findIdx? p = none := by
    rw [List.findIdx?_eq_none_iff]
    intro x hx
    obtain ⟨j, hj, rfl⟩ := List.getElem_of_mem hx
    have := h j hj
    simpa [rdOf, hj] using this
  simp [IndexFunc_str.f, this]
set_option maxHeartbeats 2000000 in
theorem IndexFunc_str.calls (p : ByteArray → Bool) (g : Nat) (lb : Array Value) (eg : ∀ args w, (callFunc g args).run Tryz.prog w = .ok (.enter g args) w) (A0 : Option Addr) (c0 : Nat) (l0 : List ByteArray) (w : World) (hr0 : Kd.C Kd.string w A0 l0.length l0) (hbig : l0.length ≤ 9223372036854775807)
    (hp : ∀ W, Below w.heap.size w W → ∀ x : ByteArray, x ∈ l0 → Calls Tryz.prog g (#[.string x] ++ lb) W fun e w' => e = .returned (.bool (p x)) ∧ Below w.heap.size w w') :
    Calls Tryz.prog 74 #[.slice A0 l0.length c0, .func (.func g) #[] lb] w fun e w' => e = .returned (.int .i64 (IndexFunc_str.f p l0)) ∧ Below w.heap.size w w' := by
  have HR := Aside0.mk hr0
  have HPF := Aside0.mk hp
  clear hr0 hp
  go_enter Tryz.func74, Tryz.ntmps74
  go_wp2
  go_loopg [8] l0.length (fun kq v8 wr => ∃ n : Nat, Aside0 (n ≤ l0.length) ∧ Aside0 (l0.length - n = kq) ∧ v8 = .int .i64 (n : Int) ∧ Aside0 (Below w.heap.size w wr) ∧ Aside0 (∀ j : Nat, j < n → p (rdOf ByteArray.empty l0 j) = false))
  case atStart => exact ⟨0, ⟨Nat.zero_le _⟩, ⟨by omega⟩, rfl, ⟨Below.refl _ _⟩, ⟨fun j hj => absurd hj (Nat.not_lt_zero _)⟩⟩
  case round =>
    obtain ⟨n, HN, HK, rfl, HB, HP⟩ := hrel
    by_cases hlt : n < l0.length
    · have hlt' : decide ((n : Int) < (l0.length : Int)) = true := decide_eq_true (by omega)
      have hC := Kd.C_below HR.out HB.out
      obtain ⟨ad, e1, hx0⟩ := Kd.at_string hC (n : Int) (by omega) (by omega)
      subst e1
      rw [Int.toNat_natCast] at hx0
      have hcall := HPF.out wr HB.out (rdOf ByteArray.empty l0 (n : Int)) (by rw [show rdOf ByteArray.empty l0 (n : Int) = l0[n]'(by omega) by simp [rdOf, show n < l0.length by omega]]; exact List.getElem_mem _)
      generalize hy : rdOf ByteArray.empty l0 (n : Int) = y at hx0 hcall
      have HY := Aside0.mk hy
      clear hy hC
      cases hq : p y with
      | true =>
        rw [hq] at hcall
        have HC := Aside0.mk hcall
        have HQ := Aside0.mk hq
        clear hcall hq
        go_wp2_with fail
        refine HC.out.mono ?_
        rintro e w' ⟨rfl, hb'⟩
        go_wp2
        go_ret
        refine ⟨?_, hb'⟩
        rw [IndexFunc_str.hit p l0 n hlt (by rw [HY.out]; exact HQ.out) HP.out]
        rfl
      | false =>
        rw [hq] at hcall
        have HC := Aside0.mk hcall
        have HQ := Aside0.mk hq
        clear hcall hq
        go_wp2_with fail
        refine HC.out.mono ?_
        rintro e w' ⟨rfl, hb'⟩
        go_wp2
        go_roundg (l0.length - (n + 1))
        case measure => have := HK.out; omega
        case rel =>
          refine ⟨n + 1, ⟨hlt⟩, ⟨rfl⟩, by go_num, ⟨hb'⟩, ⟨fun j hj => ?_⟩⟩
          by_cases e : j = n
          · subst e; rw [HY.out]; exact HQ.out
          · exact HP.out j (by omega)
    · have hlt' : decide ((n : Int) < (l0.length : Int)) = false := decide_eq_false (by omega)
      have hn : n = l0.length := by have := HN.out; omega
      have HNN := Aside0.mk hn
      clear hn
      go_wp2
      go_ret
      exact ⟨by rw [IndexFunc_str.miss p l0 (fun j hj => HP.out j (by have := HNN.out; omega))]; rfl, HB.out⟩


end Go.Proofs.YtbkaiojofgmbnaaGreat.XS
