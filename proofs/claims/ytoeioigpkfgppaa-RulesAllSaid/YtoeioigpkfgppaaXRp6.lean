-- written by wip/xprint.py out of the translation
import Derived.Test.YtoeioigpkfgppaaXRp0
import Derived.Test.YtoeioigpkfgppaaXRp2
import Derived.Test.YtoeioigpkfgppaaXRp3
import Derived.Test.YtoeioigpkfgppaaXRp5
namespace Go.Proofs.Ytoeioigpkfgppaa.XR
open Go.Proofs.Ytoeioigpkfgppaa.XGrow Go.RowKit Go.Proofs.YtoeioigpkfgppaaW.PrintWords Go.Proofs.YtoeioigpkfgppaaW.PrintLast Go.Proofs.YtoeioigpkfgppaaW.PrintMore
attribute [local go_sem] max2_int min2_int max_two min_two max_three min_three max_four min_four   -- for this text's walks alone
set_option linter.unusedVariables false
set_option linter.unusedSimpArgs false

/-! ### semblanceref12_May: function 8 -/
-- USES semblance/semblanceref12.small
-- USES semblance/semblanceref02.Is
-- USES semblance/semblanceref10.Check
-- USES semblance/semblanceref08.Check
-- USES semblance/semblanceref09.Check
/-- a struct's copy into a box that lies there -/
theorem box_put {P : Program} {ops : Array Oper} {rest : List Oper} {o : Oper} {a : Act} {Q : Exit → Act → World → Prop} {W W0 : World} {n : Nat} (hgd : o.guard = none) (hd : o.dst = none) {cs vs : Array Value} {t : TypeId} {g : Nat} (x y : Operand) (ho : o.op = .store t x y)
    (hx : a.eval x = .pointer (some ⟨g, 0, none⟩)) (hy : a.eval y = .agg vs) (hk : W.heap[g]? = some (.cells cs t (0, 0))) (hi : (P.info? t).map (·.size) = some vs.size) (hs : cs.size = vs.size) (h1 : vs.all (·.oneCell') = true) (hB : Below n W0 W) (hn : n ≤ g)
    (h : ∀ w1, w1.heap[g]? = some (.cells vs t (0, 0)) → Below n W0 w1 → wpList P ops Q rest a w1) : wpList P ops Q (o :: rest) a W := by
  refine wpList_store_row hgd t x y ho g vs hx hy t cs hk hi hs h1 ?_
  rw [hd]
  exact h _ (setRow_heap _ _ cs vs t _ hk) (below_setRow hB hn _)
theorem and4_cases (a b c d : Bool) : ((a = false ∨ (a = true ∧ b = false) ∨ (a = true ∧ b = true ∧ c = false) ∨ (a = true ∧ b = true ∧ c = true ∧ d = false)) ∧ (a && (b && (c && d))) = false) ∨ (a = true ∧ b = true ∧ c = true ∧ d = true) := by
  cases a <;> cases b <;> cases c <;> cases d <;> decide
def sml (n : Int) : Bool := decide (n ≥ (-1000)) && decide (n ≤ 1000)
/-- may a variable be told, a state? -/
def semblanceref12_May.v (k : Nat) (x : S51) : Option Bool := (semblanceref02_Is.f k x.f0).bind fun t => some (t && (sml x.f1 && (sml x.f2 && sml x.f3)))
def semblanceref12_May.y (k : Nat) (y : S58) : Option Bool := (semblanceref09_Check.f k y.f0 y.f1 y.f2 y.f3).bind fun q => some (q == 0)
def semblanceref12_May.s (k : Nat) (x : S55) : Option Bool := (semblanceref02_Is.f k x.f0).bind fun t => (semblanceref08_Check.f k x.f3).bind fun a => (semblanceref08_Check.f k x.f4).bind fun b => (allO x.f5 (semblanceref12_May.y k)).bind fun q => some ((t && ((a == 0) && ((b == 0) && decide ((x.f5.length : Int) ≤ 16)))) && q)
def semblanceref12_May.f (k : Nat) (a0 : ByteArray) (l1 : List ByteArray) (l2 : List (S51)) (l3 : List (S55)) : Option Bool :=
  (semblanceref02_Is.f k a0).bind fun t => (semblanceref10_Check.f k l3).bind fun c => (allO l1 (semblanceref02_Is.f k)).bind fun e => (allO l2 (semblanceref12_May.v k)).bind fun v => (allO l3 (semblanceref12_May.s k)).bind fun s => some ((t && (decide ((l1.length : Int) ≤ 8) && (decide ((l2.length : Int) ≤ 4) && (c == 0)))) && (e && (v && s)))
theorem semblanceref12_May.mono : ∀ a0 l1 l2 l3 k, LeO (semblanceref12_May.f k a0 l1 l2 l3) (semblanceref12_May.f (k + 1) a0 l1 l2 l3) := by
  intro a0 l1 l2 l3 k
  unfold semblanceref12_May.f
  exact LeO.bind (semblanceref02_Is.mono _ k) (fun _ => LeO.bind (semblanceref10_Check.mono _ k) (fun _ => LeO.bind (allO_mono (fun x => semblanceref02_Is.mono x k)) (fun _ => LeO.bind (allO_mono (fun x => LeO.bind (semblanceref02_Is.mono _ k) (fun _ => LeO.refl _))) (fun _ => LeO.bind (allO_mono (fun x => LeO.bind (semblanceref02_Is.mono _ k) (fun _ => LeO.bind (semblanceref08_Check.mono _ k) (fun _ => LeO.bind (semblanceref08_Check.mono _ k) (fun _ => LeO.bind (allO_mono (fun y => LeO.bind (semblanceref09_Check.mono _ _ _ _ k) (fun _ => LeO.refl _))) (fun _ => LeO.refl _)))))) (fun _ => LeO.refl _)))))
set_option maxHeartbeats 16000000 in
set_option maxRecDepth 100000 in
theorem semblanceref12_May.calls (k : Nat) (a0_0 : ByteArray) (A0_1 : Option Addr) (c0_1 : Nat) (l0_1 : List ByteArray) (A0_2 : Option Addr) (c0_2 : Nat) (l0_2 : List (S51)) (A0_3 : Option Addr) (c0_3 : Nat) (l0_3 : List (S55)) (r : Bool) (w : World) (hr0_1 : Kd.C Kd.string w A0_1 l0_1.length l0_1) (hc0_1 : l0_1.length ≤ c0_1) (hr0_2 : Kd.C k51 w A0_2 l0_2.length l0_2) (hc0_2 : l0_2.length ≤ c0_2) (hr0_3 : Kd.C k55 w A0_3 l0_3.length l0_3) (hc0_3 : l0_3.length ≤ c0_3) (h : semblanceref12_May.f k a0_0 l0_1 l0_2 l0_3 = some r) :
    Calls Try.prog 8 #[.agg #[.string a0_0, .slice A0_1 l0_1.length c0_1, .slice A0_2 l0_2.length c0_2, .slice A0_3 l0_3.length c0_3]] w fun e w' => e = .returned (.bool r) ∧ Below w.heap.size w w' := by
  unfold semblanceref12_May.f at h
  obtain ⟨t, ht, h⟩ := Option.bind_eq_some_iff.mp h
  obtain ⟨c, hc, h⟩ := Option.bind_eq_some_iff.mp h
  obtain ⟨e0, he, h⟩ := Option.bind_eq_some_iff.mp h
  obtain ⟨v0, hv, h⟩ := Option.bind_eq_some_iff.mp h
  obtain ⟨s0, hs, h⟩ := Option.bind_eq_some_iff.mp h
  have HRR := Aside0.mk (Option.some.inj h).symm
  have HT := Aside0.mk ht
  have HC := Aside0.mk hc
  have HE := Aside0.mk he
  have HV := Aside0.mk hv
  have HS := Aside0.mk hs
  clear ht hc he hv hs h
  obtain ⟨w1, hw1⟩ : ∃ w1, w1 = w.alloc (.cells #[.string a0_0, .slice A0_1 l0_1.length c0_1, .slice A0_2 l0_2.length c0_2, .slice A0_3 l0_3.length c0_3] 26) := ⟨_, rfl⟩
  have hb1 : Below w.heap.size w w1 := by rw [hw1]; exact (Below.refl _ _).alloc (Nat.le_refl _) _
  have HK : Aside0 (w1.heap[w.heap.size]? = some (.cells #[.string a0_0, .slice A0_1 l0_1.length c0_1, .slice A0_2 l0_2.length c0_2, .slice A0_3 l0_3.length c0_3] 26 (0, 0))) := ⟨by rw [hw1]; exact heap_alloc_new w _⟩
  have HR1 := Aside0.mk (Kd.C_below hr0_1 hb1)
  have HR2 := Aside0.mk (Kd.C_below hr0_2 hb1)
  have HR3 := Aside0.mk (Kd.C_below hr0_3 hb1)
  have HC3 := Aside0.mk hc0_3
  have HB1 := Aside0.mk hb1
  have hm1 := Kd.C_max hr0_1
  have hm2 := Kd.C_max hr0_2
  have hm3 := Kd.C_max hr0_3
  have hu2 := Try.underlying26
  have hu3 := Try.underlying51
  have hu4 := Try.underlying55
  clear hr0_1 hr0_2 hr0_3 hb1 hc0_1 hc0_2 hc0_3
  rcases and4_cases t (decide ((l0_1.length : Int) ≤ 8)) (decide ((l0_2.length : Int) ≤ 4)) (c == 0) with ⟨h4, hz⟩ | h4
  · have HZ := Aside0.mk (show r = false by rw [HRR.out, hz, Bool.false_and])
    clear hz
    rcases h4 with q1 | ⟨q1, q2⟩ | ⟨q1, q2, q3⟩ | ⟨q1, q2, q3, q4⟩ <;>
      (try subst q1
       (try have q2b : decide ((l0_1.length : Int) > 8) = false := decide_eq_false (by have := of_decide_eq_true q2; omega)); (try have q2b : decide ((l0_1.length : Int) > 8) = true := decide_eq_true (by have := of_decide_eq_false q2; omega)); (try have q3b : decide ((l0_2.length : Int) > 4) = false := decide_eq_false (by have := of_decide_eq_true q3; omega)); (try have q3b : decide ((l0_2.length : Int) > 4) = true := decide_eq_true (by have := of_decide_eq_false q3; omega)); (try have q4b : (c != 0) = false := by simpa using q4); (try have q4b : (c != 0) = true := by simpa using q4); (try clear q2); (try clear q3); (try clear q4)
       subst hw1
       go_enter Try.func8, Try.ntmps8
       go_wp2_with (first | (go_at_call 28; (with_reducible refine (semblanceref02_Is.calls k a0_0 _ _ HT.out).mono ?_); rintro e w2 ⟨rfl, hb2⟩; have HB2 := Aside0.mk (below_step (Below.refl _ _) hb2); obtain ⟨hd0, hd1, hd2, hd3⟩ := cz4_ (blk_below HK.out hb2); clear hb2) | (go_at_call 29; (with_reducible refine (semblanceref10_Check.calls k A0_3 c0_3 l0_3 c _ (Kd.C_below HR3.out HB2.out) HC3.out HC.out).mono ?_); rintro e w3 ⟨rfl, hb2⟩; have HB3 := Aside0.mk (below_step HB2.out hb2); clear hb2))
       (go_ret; exact ⟨by rw [HZ.out]; try rfl, (by first | exact HB1.out.trans (HB3.out.mono HB1.out.size) | exact HB1.out.trans (HB2.out.mono HB1.out.size))⟩))
  obtain ⟨q1, q2, q3, q4⟩ := h4
  have HRR2 := Aside0.mk (show r = (e0 && (v0 && s0)) by rw [HRR.out, q1, q2, q3, q4]; simp)
  subst q1
  (try have q2b : decide ((l0_1.length : Int) > 8) = false := decide_eq_false (by have := of_decide_eq_true q2; omega)); (try have q2b : decide ((l0_1.length : Int) > 8) = true := decide_eq_true (by have := of_decide_eq_false q2; omega)); (try have q3b : decide ((l0_2.length : Int) > 4) = false := decide_eq_false (by have := of_decide_eq_true q3; omega)); (try have q3b : decide ((l0_2.length : Int) > 4) = true := decide_eq_true (by have := of_decide_eq_false q3; omega)); (try have q4b : (c != 0) = false := by simpa using q4); (try have q4b : (c != 0) = true := by simpa using q4); (try clear q2); (try clear q3); (try clear q4)
  clear HRR
  subst hw1
  go_enter Try.func8, Try.ntmps8
  go_wp2_with (first | (go_at_call 28; (with_reducible refine (semblanceref02_Is.calls k a0_0 _ _ HT.out).mono ?_); rintro e w2 ⟨rfl, hb2⟩; have HB2 := Aside0.mk (below_step (Below.refl _ _) hb2); obtain ⟨hd0, hd1, hd2, hd3⟩ := cz4_ (blk_below HK.out hb2); clear hb2) | (go_at_call 29; (with_reducible refine (semblanceref10_Check.calls k A0_3 c0_3 l0_3 c _ (Kd.C_below HR3.out HB2.out) HC3.out HC.out).mono ?_); rintro e w3 ⟨rfl, hb2⟩; have HB3 := Aside0.mk (below_step HB2.out hb2); clear hb2))
  clear hd0 hd1 hd2 hd3
  generalize w.alloc (.cells #[.string a0_0, .slice A0_1 l0_1.length c0_1, .slice A0_2 l0_2.length c0_2, .slice A0_3 l0_3.length c0_3] 26) = w1 at *
  go_loopg [3] l0_1.length (fun kq v9 wr => ∃ i : Nat, Aside0 (l0_1.length - i = kq) ∧ Aside0 (i ≤ l0_1.length) ∧ v9 = .int .i64 (i : Int) ∧ Aside0 (Below w1.heap.size w1 wr) ∧ Aside0 (∀ j : Nat, j < i → semblanceref02_Is.f k (l0_1.getD j ByteArray.empty) = some true))
  case atStart => exact ⟨0, ⟨rfl⟩, ⟨Nat.zero_le _⟩, rfl, HB3, ⟨fun j hj => absurd hj (Nat.not_lt_zero _)⟩⟩
  case round =>
    obtain ⟨i, HKQ, HI, rfl, HB, HP⟩ := hrel
    obtain ⟨hd0, hd1, hd2, hd3⟩ := cz4_ (blk_below HK.out HB.out)
    by_cases hi : i < l0_1.length
    · have hlt : decide ((i : Int) < (l0_1.length : Int)) = true := decide_eq_true (by omega)
      obtain ⟨ad, e1, hx0⟩ := Kd.at_string (Kd.C_below HR1.out HB.out) (i : Int) (by omega) (by omega)
      subst e1
      rw [Int.toNat_natCast] at hx0
      obtain ⟨q, hq, hqf⟩ := allO_get HE.out ByteArray.empty i hi
      have hrd : rdOf ByteArray.empty l0_1 (i : Int) = l0_1.getD i ByteArray.empty := by simp [rdOf]
      rw [hrd] at hx0
      generalize hxx : l0_1.getD i ByteArray.empty = x at *
      have HX := Aside0.mk hxx
      have HQ := Aside0.mk hq
      have HQF := Aside0.mk hqf
      clear hxx hq hqf hrd
      cases q with
      | false =>
        go_wp2_with (go_at_call 28; (with_reducible refine (semblanceref02_Is.calls k x _ _ HQ.out).mono ?_); rintro e w4 ⟨rfl, hb2⟩; have HB4 := Aside0.mk (below_step HB.out hb2); clear hb2)
        go_ret
        exact ⟨by rw [HRR2.out, HQF.out (by first | rfl | trivial)]; try rfl, HB1.out.trans (HB4.out.mono HB1.out.size)⟩
      | true =>
        go_wp2_with (go_at_call 28; (with_reducible refine (semblanceref02_Is.calls k x _ _ HQ.out).mono ?_); rintro e w4 ⟨rfl, hb2⟩; have HB4 := Aside0.mk (below_step HB.out hb2); clear hb2)
        go_roundg (l0_1.length - (i + 1))
        case measure => have := HKQ.out; omega
        case rel =>
          refine ⟨i + 1, ⟨rfl⟩, ⟨hi⟩, by go_num, HB4, ⟨fun j hj => ?_⟩⟩
          by_cases e : j = i
          · subst e; rw [HX.out]; exact HQ.out
          · exact HP.out j (by omega)
    · have hlt : decide ((i : Int) < (l0_1.length : Int)) = false := decide_eq_false (by omega)
      have hil : i = l0_1.length := by have := HI.out; omega
      subst hil
      have het := allO_true HE.out ByteArray.empty HP.out
      subst het
      clear HP HE
      have hlt2 : (0 : Int) ≤ 0 := Int.le_refl _
      go_wp2_with fail
      clear hd0 hd1 hd2 hd3 hlt2
      go_loopg [4] l0_2.length (fun kq v9 wr => ∃ i : Nat, Aside0 (l0_2.length - i = kq) ∧ Aside0 (i ≤ l0_2.length) ∧ v9 = .int .i64 (i : Int) ∧ Aside0 (Below w1.heap.size w1 wr) ∧ Aside0 (∀ j : Nat, j < i → semblanceref12_May.v k (l0_2.getD j z51) = some true))
      case atStart => exact ⟨0, ⟨rfl⟩, ⟨Nat.zero_le _⟩, rfl, HB, ⟨fun j hj => absurd hj (Nat.not_lt_zero _)⟩⟩
      case round =>
        obtain ⟨i, HKQ, HI, rfl, HB, HP⟩ := hrel
        obtain ⟨hd0, hd1, hd2, hd3⟩ := cz4_ (blk_below HK.out HB.out)
        by_cases hi : i < l0_2.length
        · have hlt : decide ((i : Int) < (l0_2.length : Int)) = true := decide_eq_true (by omega)
          obtain ⟨ad, e1, hx0, hx1, hx2, hx3⟩ := at_T51 (Kd.C_below HR2.out HB.out) (i : Int) (by omega) (by omega)
          subst e1
          rw [Int.toNat_natCast] at hx0 hx1 hx2 hx3
          obtain ⟨q, hq, hqf⟩ := allO_get HV.out z51 i hi
          have hrd : rd_T51 l0_2 (i : Int) = l0_2.getD i z51 := by unfold rd_T51; rw [Int.toNat_natCast]
          rw [hrd] at hx0 hx1 hx2 hx3
          generalize hxx : l0_2.getD i z51 = x at *
          have HX := Aside0.mk hxx
          have HQ := Aside0.mk hq
          have HQF := Aside0.mk hqf
          clear hxx hqf hrd
          unfold semblanceref12_May.v at hq
          obtain ⟨t2, ht2, hq⟩ := Option.bind_eq_some_iff.mp hq
          have HT2 := Aside0.mk ht2
          have hq := Option.some.inj hq
          have HS1 : Aside0 (semblanceref12_small.f x.f1 = some (sml x.f1)) := ⟨rfl⟩
          have HS2 : Aside0 (semblanceref12_small.f x.f2 = some (sml x.f2)) := ⟨rfl⟩
          have HS3 : Aside0 (semblanceref12_small.f x.f3 = some (sml x.f3)) := ⟨rfl⟩
          clear ht2
          generalize sml x.f1 = s1 at *
          generalize sml x.f2 = s2 at *
          generalize sml x.f3 = s3 at *
          rcases and4_cases t2 s1 s2 s3 with ⟨h4, hz⟩ | ⟨rfl, rfl, rfl, rfl⟩
          · have HZ := Aside0.mk (show r = false by rw [HRR2.out, HQF.out (hq.symm.trans hz)]; rfl)
            clear hz hq
            rcases h4 with rfl | ⟨rfl, rfl⟩ | ⟨rfl, rfl, rfl⟩ | ⟨rfl, rfl, rfl, rfl⟩ <;>
              (go_wp2_with (first | ((with_reducible refine gate_dst (N := 5) rfl ?_); refine box_event ?hg (N := 5) ?hd (cs := #[.string (⟨#[]⟩ : ByteArray), .int .i64 0, .int .i64 0, .int .i64 0]) (t := 51) ?hr ?_; (case hd => rfl); (case hg => rfl); (case hr => first | (go_simp; done) | (go_simp; rfl)); intro g hg u1 hbox hb; have HGE := Aside0.mk (Nat.le_of_eq hg.symm); clear hg) | (refine box_put (n := wr.heap.size) (W0 := wr) (vs := #[.string x.f0, .int .i64 x.f1, .int .i64 x.f2, .int .i64 x.f3]) rfl rfl (.tmp 5) (.tmp 56) rfl rfl rfl hbox (by kernel_rfl) rfl (by simp [Value.oneCell']) hb HGE.out ?_; intro u2 hbox2 hb2; have HB3 := Aside0.mk (below_step HB.out hb2); have HBX := Aside0.mk hbox2; obtain ⟨hz0, hz1, hz2, hz3⟩ := cz4_ hbox2; clear hbox hb hbox2 hb2) | (go_at_call 28; (with_reducible refine (semblanceref02_Is.calls k x.f0 _ _ HT2.out).mono ?_); rintro e w4 ⟨rfl, hb2⟩; have HB4 := Aside0.mk (below_step HB3.out hb2); obtain ⟨hz0, hz1, hz2, hz3⟩ := cz4_ (blk_below HBX.out hb2); have HBY := Aside0.mk (blk_below HBX.out hb2); clear hb2) | (go_at_call 30; (with_reducible refine (semblanceref12_small.calls x.f1 _ _ HS1.out).mono ?_); rintro e w5 ⟨rfl, hb2⟩; have HB5 := Aside0.mk (below_step HB4.out hb2.below); have HBZ := Aside0.mk (blk_below HBY.out hb2.below); obtain ⟨hz0, hz1, hz2, hz3⟩ := cz4_ HBZ.out; clear hb2) | (go_at_call 30; (with_reducible refine (semblanceref12_small.calls x.f2 _ _ HS2.out).mono ?_); rintro e w6 ⟨rfl, hb2⟩; have HB6 := Aside0.mk (below_step HB5.out hb2.below); have HBU := Aside0.mk (blk_below HBZ.out hb2.below); obtain ⟨hz0, hz1, hz2, hz3⟩ := cz4_ HBU.out; clear hb2) | (go_at_call 30; (with_reducible refine (semblanceref12_small.calls x.f3 _ _ HS3.out).mono ?_); rintro e w7 ⟨rfl, hb2⟩; have HB7 := Aside0.mk (below_step HB6.out hb2.below); have HBV := Aside0.mk (blk_below HBU.out hb2.below); obtain ⟨hz0, hz1, hz2, hz3⟩ := cz4_ HBV.out; clear hb2))
               (go_ret; exact ⟨by rw [HZ.out]; try rfl, (by first | exact HB1.out.trans (HB7.out.mono HB1.out.size) | exact HB1.out.trans (HB6.out.mono HB1.out.size) | exact HB1.out.trans (HB5.out.mono HB1.out.size) | exact HB1.out.trans (HB4.out.mono HB1.out.size))⟩))
          · obtain rfl : true = q := hq
            clear hq
            go_wp2_with (first | ((with_reducible refine gate_dst (N := 5) rfl ?_); refine box_event ?hg (N := 5) ?hd (cs := #[.string (⟨#[]⟩ : ByteArray), .int .i64 0, .int .i64 0, .int .i64 0]) (t := 51) ?hr ?_; (case hd => rfl); (case hg => rfl); (case hr => first | (go_simp; done) | (go_simp; rfl)); intro g hg u1 hbox hb; have HGE := Aside0.mk (Nat.le_of_eq hg.symm); clear hg) | (refine box_put (n := wr.heap.size) (W0 := wr) (vs := #[.string x.f0, .int .i64 x.f1, .int .i64 x.f2, .int .i64 x.f3]) rfl rfl (.tmp 5) (.tmp 56) rfl rfl rfl hbox (by kernel_rfl) rfl (by simp [Value.oneCell']) hb HGE.out ?_; intro u2 hbox2 hb2; have HB3 := Aside0.mk (below_step HB.out hb2); have HBX := Aside0.mk hbox2; obtain ⟨hz0, hz1, hz2, hz3⟩ := cz4_ hbox2; clear hbox hb hbox2 hb2) | (go_at_call 28; (with_reducible refine (semblanceref02_Is.calls k x.f0 _ _ HT2.out).mono ?_); rintro e w4 ⟨rfl, hb2⟩; have HB4 := Aside0.mk (below_step HB3.out hb2); obtain ⟨hz0, hz1, hz2, hz3⟩ := cz4_ (blk_below HBX.out hb2); have HBY := Aside0.mk (blk_below HBX.out hb2); clear hb2) | (go_at_call 30; (with_reducible refine (semblanceref12_small.calls x.f1 _ _ HS1.out).mono ?_); rintro e w5 ⟨rfl, hb2⟩; have HB5 := Aside0.mk (below_step HB4.out hb2.below); have HBZ := Aside0.mk (blk_below HBY.out hb2.below); obtain ⟨hz0, hz1, hz2, hz3⟩ := cz4_ HBZ.out; clear hb2) | (go_at_call 30; (with_reducible refine (semblanceref12_small.calls x.f2 _ _ HS2.out).mono ?_); rintro e w6 ⟨rfl, hb2⟩; have HB6 := Aside0.mk (below_step HB5.out hb2.below); have HBU := Aside0.mk (blk_below HBZ.out hb2.below); obtain ⟨hz0, hz1, hz2, hz3⟩ := cz4_ HBU.out; clear hb2) | (go_at_call 30; (with_reducible refine (semblanceref12_small.calls x.f3 _ _ HS3.out).mono ?_); rintro e w7 ⟨rfl, hb2⟩; have HB7 := Aside0.mk (below_step HB6.out hb2.below); have HBV := Aside0.mk (blk_below HBU.out hb2.below); obtain ⟨hz0, hz1, hz2, hz3⟩ := cz4_ HBV.out; clear hb2))
            go_roundg (l0_2.length - (i + 1))
            case measure => have := HKQ.out; omega
            case rel =>
              refine ⟨i + 1, ⟨rfl⟩, ⟨hi⟩, by go_num, HB7, ⟨fun j hj => ?_⟩⟩
              by_cases e : j = i
              · subst e; rw [HX.out]; exact HQ.out
              · exact HP.out j (by omega)
        · have hlt : decide ((i : Int) < (l0_2.length : Int)) = false := decide_eq_false (by omega)
          have hil : i = l0_2.length := by have := HI.out; omega
          subst hil
          have hvt := allO_true HV.out z51 HP.out
          subst hvt
          clear HP HV
          go_wp2_with fail
          clear hd0 hd1 hd2 hd3
          go_loopg [6] l0_3.length (fun kq v9 wr => ∃ i : Nat, Aside0 (l0_3.length - i = kq) ∧ Aside0 (i ≤ l0_3.length) ∧ v9 = .int .i64 (i : Int) ∧ Aside0 (Below w1.heap.size w1 wr) ∧ Aside0 (∀ j : Nat, j < i → semblanceref12_May.s k (l0_3.getD j z55) = some true))
          case atStart => exact ⟨0, ⟨rfl⟩, ⟨Nat.zero_le _⟩, rfl, HB, ⟨fun j hj => absurd hj (Nat.not_lt_zero _)⟩⟩
          case round =>
            obtain ⟨i, HKQ, HI, rfl, HB, HP⟩ := hrel
            obtain ⟨hd0, hd1, hd2, hd3⟩ := cz4_ (blk_below HK.out HB.out)
            by_cases hi : i < l0_3.length
            · have hlt : decide ((i : Int) < (l0_3.length : Int)) = true := decide_eq_true (by omega)
              obtain ⟨ad, A3, c3, A4, c4, A5, c5, e1, hx0, hx1, hx2, hx3, hx4, hx5, hl3, hi3, hl4, hi4, hl5, hi5⟩ := at_T55 HR3.out (i : Int) (by omega) (by omega)
              subst e1
              rw [Int.toNat_natCast] at hx0 hx1 hx2 hx3 hx4 hx5
              replace hx0 := pw_cell_below HB.out hx0
              replace hx1 := pw_cell_below HB.out hx1
              replace hx2 := pw_cell_below HB.out hx2
              replace hx3 := pw_cell_below HB.out hx3
              replace hx4 := pw_cell_below HB.out hx4
              replace hx5 := pw_cell_below HB.out hx5
              obtain ⟨q, hq, hqf⟩ := allO_get HS.out z55 i hi
              have hrd : rd_T55 l0_3 (i : Int) = l0_3.getD i z55 := by unfold rd_T55; rw [Int.toNat_natCast]
              rw [hrd] at hx0 hx1 hx2 hx3 hx4 hx5 hl3 hi3 hl4 hi4 hl5 hi5
              generalize hxx : l0_3.getD i z55 = x at *
              have HX := Aside0.mk hxx
              have HQ := Aside0.mk hq
              have HQF := Aside0.mk hqf
              have HI3 := Aside0.mk hi3
              have HI4 := Aside0.mk hi4
              have HI5 := Aside0.mk hi5
              have hm5 := Kd.C_max hi5
              clear hxx hqf hrd hi3 hi4 hi5
              unfold semblanceref12_May.s at hq
              obtain ⟨t2, ht2, hq⟩ := Option.bind_eq_some_iff.mp hq
              obtain ⟨qa, hqa, hq⟩ := Option.bind_eq_some_iff.mp hq
              obtain ⟨qb, hqb, hq⟩ := Option.bind_eq_some_iff.mp hq
              obtain ⟨qy, hqy, hq⟩ := Option.bind_eq_some_iff.mp hq
              have hq := Option.some.inj hq
              have HT2 := Aside0.mk ht2
              have HQA := Aside0.mk hqa
              have HQB := Aside0.mk hqb
              have HQY := Aside0.mk hqy
              clear ht2 hqa hqb hqy
              rcases and4_cases t2 (qa == 0) (qb == 0) (decide ((x.f5.length : Int) ≤ 16)) with ⟨h4, hz⟩ | ⟨q1, q2, q3, q4⟩
              · have HZ := Aside0.mk (show r = false by rw [HRR2.out, HQF.out (by rw [← hq, hz]; rfl)]; rfl)
                clear hz hq
                rcases h4 with q1 | ⟨q1, q2⟩ | ⟨q1, q2, q3⟩ | ⟨q1, q2, q3, q4⟩ <;>
                  (subst q1
                   (try have q2b : (qa != 0) = false := by simpa using q2); (try have q2b : (qa != 0) = true := by simpa using q2); (try have q3b : (qb != 0) = false := by simpa using q3); (try have q3b : (qb != 0) = true := by simpa using q3); (try have q4b : decide ((x.f5.length : Int) > 16) = false := decide_eq_false (by have := of_decide_eq_true q4; omega)); (try have q4b : decide ((x.f5.length : Int) > 16) = true := decide_eq_true (by have := of_decide_eq_false q4; omega)); (try clear q2); (try clear q3); (try clear q4)
                   go_wp2_with (first | ((with_reducible refine gate_dst (N := 7) rfl ?_); refine box_event ?hg (N := 7) ?hd (cs := #[.string (⟨#[]⟩ : ByteArray), .int .i64 0, .int .i64 0, .slice none 0 0, .slice none 0 0, .slice none 0 0]) (t := 55) ?hr ?_; (case hd => rfl); (case hg => rfl); (case hr => first | (go_simp; done) | (go_simp; rfl)); intro g hg u1 hbox hb; have HGE := Aside0.mk (Nat.le_of_eq hg.symm); clear hg) | (refine box_put (n := wr.heap.size) (W0 := wr) (vs := #[.string x.f0, .int .i64 x.f1, .int .i64 x.f2, .slice A3 x.f3.length c3, .slice A4 x.f4.length c4, .slice A5 x.f5.length c5]) rfl rfl (.tmp 7) (.tmp 90) rfl rfl rfl hbox (by kernel_rfl) rfl (by simp [Value.oneCell']) hb HGE.out ?_; intro u2 hbox2 hb2; have HB3 := Aside0.mk (below_step HB.out hb2); have HBX := Aside0.mk hbox2; obtain ⟨hz0, hz1, hz2, hz3, hz4, hz5⟩ := cz6_ hbox2; clear hbox hb hbox2 hb2) | (go_at_call 28; (with_reducible refine (semblanceref02_Is.calls k x.f0 _ _ HT2.out).mono ?_); rintro e w4 ⟨rfl, hb2⟩; have HB4 := Aside0.mk (below_step HB3.out hb2); obtain ⟨hz0, hz1, hz2, hz3, hz4, hz5⟩ := cz6_ (blk_below HBX.out hb2); have HBY := Aside0.mk (blk_below HBX.out hb2); clear hb2) | (go_at_call 31; (with_reducible refine (semblanceref08_Check.calls k A3 c3 x.f3 qa _ (Kd.C_below HI3.out HB4.out) hl3 HQA.out).mono ?_); rintro e w5 ⟨rfl, hb2⟩; have HB5 := Aside0.mk (below_step HB4.out hb2); have HBV := Aside0.mk (blk_below HBY.out hb2); obtain ⟨hz0, hz1, hz2, hz3, hz4, hz5⟩ := cz6_ HBV.out; clear hb2) | (go_at_call 31; (with_reducible refine (semblanceref08_Check.calls k A4 c4 x.f4 qb _ (Kd.C_below HI4.out HB5.out) hl4 HQB.out).mono ?_); rintro e w6 ⟨rfl, hb2⟩; have HB6 := Aside0.mk (below_step HB5.out hb2); have HBZ := Aside0.mk (blk_below HBV.out hb2); obtain ⟨hz0, hz1, hz2, hz3, hz4, hz5⟩ := cz6_ HBZ.out; clear hb2))
                   (go_ret; exact ⟨by rw [HZ.out]; try rfl, (by first | exact HB1.out.trans (HB6.out.mono HB1.out.size) | exact HB1.out.trans (HB5.out.mono HB1.out.size) | exact HB1.out.trans (HB4.out.mono HB1.out.size))⟩))
              · have hqq : qy = q := by rw [← hq, q1, q2, q3, q4]; rfl
                subst q1
                have q2b : (qa != 0) = false := by simpa using q2
                have q3b : (qb != 0) = false := by simpa using q3
                have q4b : decide ((x.f5.length : Int) > 16) = false := decide_eq_false (by have := of_decide_eq_true q4; omega)
                clear q2 q3 q4
                clear hq
                subst hqq
                go_wp2_with (first | ((with_reducible refine gate_dst (N := 7) rfl ?_); refine box_event ?hg (N := 7) ?hd (cs := #[.string (⟨#[]⟩ : ByteArray), .int .i64 0, .int .i64 0, .slice none 0 0, .slice none 0 0, .slice none 0 0]) (t := 55) ?hr ?_; (case hd => rfl); (case hg => rfl); (case hr => first | (go_simp; done) | (go_simp; rfl)); intro g hg u1 hbox hb; have HGE := Aside0.mk (Nat.le_of_eq hg.symm); clear hg) | (refine box_put (n := wr.heap.size) (W0 := wr) (vs := #[.string x.f0, .int .i64 x.f1, .int .i64 x.f2, .slice A3 x.f3.length c3, .slice A4 x.f4.length c4, .slice A5 x.f5.length c5]) rfl rfl (.tmp 7) (.tmp 90) rfl rfl rfl hbox (by kernel_rfl) rfl (by simp [Value.oneCell']) hb HGE.out ?_; intro u2 hbox2 hb2; have HB3 := Aside0.mk (below_step HB.out hb2); have HBX := Aside0.mk hbox2; obtain ⟨hz0, hz1, hz2, hz3, hz4, hz5⟩ := cz6_ hbox2; clear hbox hb hbox2 hb2) | (go_at_call 28; (with_reducible refine (semblanceref02_Is.calls k x.f0 _ _ HT2.out).mono ?_); rintro e w4 ⟨rfl, hb2⟩; have HB4 := Aside0.mk (below_step HB3.out hb2); obtain ⟨hz0, hz1, hz2, hz3, hz4, hz5⟩ := cz6_ (blk_below HBX.out hb2); have HBY := Aside0.mk (blk_below HBX.out hb2); clear hb2) | (go_at_call 31; (with_reducible refine (semblanceref08_Check.calls k A3 c3 x.f3 qa _ (Kd.C_below HI3.out HB4.out) hl3 HQA.out).mono ?_); rintro e w5 ⟨rfl, hb2⟩; have HB5 := Aside0.mk (below_step HB4.out hb2); have HBV := Aside0.mk (blk_below HBY.out hb2); obtain ⟨hz0, hz1, hz2, hz3, hz4, hz5⟩ := cz6_ HBV.out; clear hb2) | (go_at_call 31; (with_reducible refine (semblanceref08_Check.calls k A4 c4 x.f4 qb _ (Kd.C_below HI4.out HB5.out) hl4 HQB.out).mono ?_); rintro e w6 ⟨rfl, hb2⟩; have HB6 := Aside0.mk (below_step HB5.out hb2); have HBZ := Aside0.mk (blk_below HBV.out hb2); obtain ⟨hz0, hz1, hz2, hz3, hz4, hz5⟩ := cz6_ HBZ.out; clear hb2))
                clear hd0 hd1 hd2 hd3
                try clear hz0 hz1 hz2 hz3 hz4 hz5
                go_loopg [8] x.f5.length (fun kq v9 wr => ∃ m : Nat, Aside0 (x.f5.length - m = kq) ∧ Aside0 (m ≤ x.f5.length) ∧ v9 = .int .i64 (m : Int) ∧ Aside0 (Below w1.heap.size w1 wr) ∧ Aside0 (wr.heap[g]? = some (.cells #[.string x.f0, .int .i64 x.f1, .int .i64 x.f2, .slice A3 x.f3.length c3, .slice A4 x.f4.length c4, .slice A5 x.f5.length c5] 55 (0, 0))) ∧ Aside0 (∀ j : Nat, j < m → semblanceref12_May.y k (x.f5.getD j z58) = some true))
                case atStart => exact ⟨0, ⟨rfl⟩, ⟨Nat.zero_le _⟩, rfl, HB6, ⟨blk_below HBZ.out (Below.refl _ _)⟩, ⟨fun j hj => absurd hj (Nat.not_lt_zero _)⟩⟩
                case round =>
                  obtain ⟨m, HKQ2, HM, rfl, HB, HBW, HPM⟩ := hrel
                  obtain ⟨hz0, hz1, hz2, hz3, hz4, hz5⟩ := cz6_ HBW.out
                  by_cases hm : m < x.f5.length
                  · have hlt2 : decide ((m : Int) < (x.f5.length : Int)) = true := decide_eq_true (by omega)
                    obtain ⟨ad5, B1, d1, B2, d2, e5, hs0, hs1, hs2, hs3, hd1, hi1, hd2, hi2⟩ := at_T58 HI5.out (m : Int) (by omega) (by omega)
                    subst e5
                    rw [Int.toNat_natCast] at hs0 hs1 hs2 hs3
                    replace hs0 := pw_cell_below HB.out hs0
                    replace hs1 := pw_cell_below HB.out hs1
                    replace hs2 := pw_cell_below HB.out hs2
                    replace hs3 := pw_cell_below HB.out hs3
                    obtain ⟨qm, hqm, hqmf⟩ := allO_get HQY.out z58 m hm
                    have hrd : rd_T58 x.f5 (m : Int) = x.f5.getD m z58 := by unfold rd_T58; rw [Int.toNat_natCast]
                    rw [hrd] at hs0 hs1 hs2 hs3 hd1 hi1 hd2 hi2
                    generalize hyy : x.f5.getD m z58 = y at *
                    have HY := Aside0.mk hyy
                    have HQM := Aside0.mk hqm
                    have HQMF := Aside0.mk hqmf
                    have HI1 := Aside0.mk (Kd.C_below hi1 HB.out)
                    have HI2 := Aside0.mk (Kd.C_below hi2 HB.out)
                    clear hyy hqmf hrd hi1 hi2
                    unfold semblanceref12_May.y at hqm
                    obtain ⟨qc, hqc, hqm⟩ := Option.bind_eq_some_iff.mp hqm
                    have HQC := Aside0.mk hqc
                    have hqm := Option.some.inj hqm
                    clear hqc
                    cases qm with
                    | false =>
                      have hcb : (qc != 0) = true := by simpa using hqm
                      have HZ := Aside0.mk (show r = false by rw [HRR2.out, HQF.out (HQMF.out (by first | rfl | trivial))]; rfl)
                      clear hqm
                      go_wp2_with (go_at_call 32; refine (semblanceref09_Check.calls k y.f0 B1 d1 y.f1 B2 d2 y.f2 y.f3 qc _ HI1.out hd1 HI2.out hd2 HQC.out).mono ?_; rintro e w8 ⟨rfl, hb2⟩; have HB8 := Aside0.mk (below_step HB.out hb2); have HBX8 := Aside0.mk (blk_below HBW.out hb2); clear hb2)
                      go_ret
                      exact ⟨by rw [HZ.out]; try rfl, HB1.out.trans (HB8.out.mono HB1.out.size)⟩
                    | true =>
                      have hcb : (qc != 0) = false := by simpa using hqm
                      clear hqm
                      go_wp2_with (go_at_call 32; refine (semblanceref09_Check.calls k y.f0 B1 d1 y.f1 B2 d2 y.f2 y.f3 qc _ HI1.out hd1 HI2.out hd2 HQC.out).mono ?_; rintro e w8 ⟨rfl, hb2⟩; have HB8 := Aside0.mk (below_step HB.out hb2); have HBX8 := Aside0.mk (blk_below HBW.out hb2); clear hb2)
                      go_roundg (x.f5.length - (m + 1))
                      case measure => have := HKQ2.out; omega
                      case rel =>
                        refine ⟨m + 1, ⟨rfl⟩, ⟨hm⟩, by go_num, HB8, HBX8, ⟨fun j hj => ?_⟩⟩
                        by_cases e : j = m
                        · subst e; rw [HY.out]; exact HQM.out
                        · exact HPM.out j (by omega)
                  · have hlt2 : decide ((m : Int) < (x.f5.length : Int)) = false := decide_eq_false (by omega)
                    have hml : m = x.f5.length := by have := HM.out; omega
                    subst hml
                    have hqt := allO_true HQY.out z58 HPM.out
                    subst hqt
                    go_wp2
                    go_roundg (l0_3.length - (i + 1))
                    case measure => have := HKQ.out; omega
                    case rel =>
                      refine ⟨i + 1, ⟨rfl⟩, ⟨hi⟩, by go_num, HB, ⟨fun j hj => ?_⟩⟩
                      by_cases e : j = i
                      · subst e; rw [HX.out]; exact HQ.out
                      · exact HP.out j (by omega)
            · have hlt : decide ((i : Int) < (l0_3.length : Int)) = false := decide_eq_false (by omega)
              have hil : i = l0_3.length := by have := HI.out; omega
              subst hil
              have hst := allO_true HS.out z55 HP.out
              subst hst
              clear HP HS
              go_wp2
              go_ret
              exact ⟨by rw [HRR2.out]; try rfl, HB1.out.trans (HB.out.mono HB1.out.size)⟩


/-! ### semblanceref11_Long: function 25 -/
mutual
def semblanceref11_Long.l0 : Nat → List ByteArray → Int → Option (Bool)
  | 0, _, _ => none
  | k + 1, x0, x3 => if x3 < (x0.length : Int) then (semblanceref11_Long.j1 k x0 x3 (decide (x3 < 100))) else (semblanceref11_Long.j1 k x0 x3 false)
def semblanceref11_Long.j1 : Nat → List ByteArray → Int → Bool → Option (Bool)
  | 0, _, _, _ => none
  | k + 1, x0, x3, x11 => if x11 = true then (if 0 ≤ x3 then (if x3 < (x0.length : Int) then (if ((rdOf ByteArray.empty x0 x3).size : Int) > 100 then (some true) else (semblanceref11_Long.l0 k x0 (wrap64 (x3 + 1)))) else (none)) else (none)) else (if (x0.length : Int) > 30 then (some true) else ((semblanceref02_Place.f k x0 (⟨#[]⟩ : ByteArray)).bind fun t175 => (some (decide (t175 > 1000)))))
end
def semblanceref11_Long.f (k : Nat) (l0 : List ByteArray) : Option (Bool) := semblanceref11_Long.l0 k l0 0
theorem semblanceref11_Long.mono_l : ∀ k, (∀ y0 y1, LeO (semblanceref11_Long.l0 k y0 y1) (semblanceref11_Long.l0 (k + 1) y0 y1)) ∧ (∀ y0 y1 y2, LeO (semblanceref11_Long.j1 k y0 y1 y2) (semblanceref11_Long.j1 (k + 1) y0 y1 y2))
  | 0 => ⟨fun _ _ r h => by simp [semblanceref11_Long.l0] at h, fun _ _ _ r h => by simp [semblanceref11_Long.j1] at h⟩
  | k + 1 => by
    obtain ⟨ih0, ih1⟩ := semblanceref11_Long.mono_l k
    refine ⟨?_, ?_⟩
    · intro y0 y1
      unfold semblanceref11_Long.l0
      repeat' first
      | (with_reducible exact ih0 _ _)
      | (with_reducible exact ih1 _ _ _)
      | (with_reducible exact semblanceref02_Place.mono _ _ _)
      | (with_reducible exact LeO.refl _)
      | (with_reducible exact LeO.none _)
      | (with_reducible refine LeO.ite ?_ ?_)
      | (with_reducible refine LeO.bind ?_ (fun _ => ?_))
      | exact ih0 _ _
      | exact ih1 _ _ _
      | exact semblanceref02_Place.mono _ _ _
      | exact LeO.none _
      | refine LeO.ite ?_ ?_
      | refine LeO.bind ?_ (fun _ => ?_)
    · intro y0 y1 y2
      unfold semblanceref11_Long.j1
      repeat' first
      | (with_reducible exact ih0 _ _)
      | (with_reducible exact ih1 _ _ _)
      | (with_reducible exact semblanceref02_Place.mono _ _ _)
      | (with_reducible exact LeO.refl _)
      | (with_reducible exact LeO.none _)
      | (with_reducible refine LeO.ite ?_ ?_)
      | (with_reducible refine LeO.bind ?_ (fun _ => ?_))
      | exact ih0 _ _
      | exact ih1 _ _ _
      | exact semblanceref02_Place.mono _ _ _
      | exact LeO.none _
      | refine LeO.ite ?_ ?_
      | refine LeO.bind ?_ (fun _ => ?_)
theorem semblanceref11_Long.mono : ∀ a0 k, LeO (semblanceref11_Long.f k a0) (semblanceref11_Long.f (k + 1) a0) := by
  intro a0 k
  obtain ⟨ih0, ih1⟩ := semblanceref11_Long.mono_l k
  unfold semblanceref11_Long.f
  repeat' first
      | (with_reducible exact ih0 _ _)
      | (with_reducible exact ih1 _ _ _)
      | (with_reducible exact semblanceref02_Place.mono _ _ _)
      | (with_reducible exact LeO.refl _)
      | (with_reducible exact LeO.none _)
      | (with_reducible refine LeO.ite ?_ ?_)
      | (with_reducible refine LeO.bind ?_ (fun _ => ?_))
      | exact ih0 _ _
      | exact ih1 _ _ _
      | exact semblanceref02_Place.mono _ _ _
      | exact LeO.none _
      | refine LeO.ite ?_ ?_
      | refine LeO.bind ?_ (fun _ => ?_)
set_option maxHeartbeats 8000000 in
set_option maxRecDepth 100000 in
theorem semblanceref11_Long.calls (k : Nat) (A0 : Option Addr) (c0 : Nat) (l0 : List ByteArray) (r : Bool) (w : World) (hr0 : Kd.C Kd.string w A0 l0.length l0) (hc0 : l0.length ≤ c0) (h : semblanceref11_Long.f k l0 = some r) :
  Calls Try.prog 25 #[.slice A0 l0.length c0] w fun e w' => e = .returned (.bool r) ∧ Drawn0 w w' := by
 have HR0 := Aside0.mk hr0
 have HC0 := Aside0.mk hc0
 clear hr0 hc0
 have H : (semblanceref11_Long.l0 k l0 0) = some r := h
 clear h
 have H' := Aside0.mk H
 clear H
 go_enter Try.func25, Try.ntmps25
 go_wp2
 go_loopg [3] k (fun kq v3 w' => ∃ (x3_1 : Int), v3 = .int .i64 x3_1 ∧ Aside0 (semblanceref11_Long.l0 kq l0 x3_1 = some r) ∧ Aside0 (kq ≤ k) ∧ Drawn0 w w')
 case atStart => exact ⟨(0), (by first | rfl | (simp; done) | (simp [*]; done)), H', ⟨Nat.le_refl _⟩, by repeat (first | exact Drawn0.refl _ | apply Drawn0.step)⟩
 case round =>
  clear H'
  obtain ⟨x3_1, rfl, HA, HK1, ⟨m1, rfl⟩⟩ := hrel
  cases gk with
  | zero => exact absurd HA.out (by simp [semblanceref11_Long.l0])
  | succ k1 =>
   have H := HA.out
   clear HA
   simp only [semblanceref11_Long.l0] at H
   have HC2 := Aside0.mk H
   clear H
   go_upto_region 2 with (fail)
   go_cut [11] (fun v11 wc => ∃ (kq : Nat) (x11_1 : Bool), v11 = .bool x11_1 ∧ Aside0 (semblanceref11_Long.j1 kq l0 x3_1 x11_1 = some r) ∧ Aside0 (kq ≤ k1) ∧ Drawn0 w wc)
   case first =>
    have H := HC2.out
    clear HC2
    by_cases c3 : x3_1 < (l0.length : Int)
    ·rw [if_pos c3] at H
     have c3b0 : decide (x3_1 < (l0.length : Int)) = true := decide_eq_true c3
     clear c3
     (first | rw [c3b0] | (simp only [i64_w, i32_w]; rw [c3b0]) | skip)
     have H' := Aside0.mk H
     clear H
     go_wp2
     go_meet
     case rel => exact ⟨_, (decide (x3_1 < 100)), (by first | rfl | (simp; done) | (simp [*]; done)), H', ⟨by have := HK1.out; first | omega | exact Nat.le_refl _⟩, by repeat (first | exact Drawn0.refl _ | apply Drawn0.step)⟩
    rw [if_neg c3] at H
    have c3b0 : decide (x3_1 < (l0.length : Int)) = false := decide_eq_false c3
    clear c3
    (first | rw [c3b0] | (simp only [i64_w, i32_w]; rw [c3b0]) | skip)
    have H' := Aside0.mk H
    clear H
    go_wp2
    go_meet
    case rel => exact ⟨_, (false), (by first | rfl | (simp; done) | (simp [*]; done)), H', ⟨by have := HK1.out; first | omega | exact Nat.le_refl _⟩, by repeat (first | exact Drawn0.refl _ | apply Drawn0.step)⟩
   case rest =>
    clear HC2
    try clear c2
    try clear p2
    try clear c3
    try clear c3b0
    obtain ⟨kq, x11_1, rfl, HA, HJ1, ⟨mc1, rfl⟩⟩ := hcut
    cases kq with
    | zero => exact absurd HA.out (by simp [semblanceref11_Long.j1])
    | succ kj1 =>
     have H := HA.out
     clear HA
     simp only [semblanceref11_Long.j1] at H
     by_cases c4 : x11_1 = true
     rotate_left
     ·replace c4 := Bool.eq_false_iff.mpr c4
      subst c4
      have H1 : (if (l0.length : Int) > 30 then (some true) else ((semblanceref02_Place.f kj1 l0 (⟨#[]⟩ : ByteArray)).bind fun t175 => (some (decide (t175 > 1000))))) = some r := by rw [if_neg (show ¬ (false = true) by decide)] at H; exact H
      clear H
      have H := H1
      clear H1
      by_cases c8 : (l0.length : Int) > 30
      ·rw [if_pos c8] at H
       have c8b0 : decide (30 < (l0.length : Int)) = true := decide_eq_true c8
       have c8b1 : decide (30 < l0.length) = true := decide_eq_true (by omega)
       clear c8
       obtain rfl := Option.some.inj H
       go_wp2
       go_ret
       exact ⟨by first | rfl | (simp; done) | (simp [*]; done), by repeat (first | exact Drawn0.refl _ | apply Drawn0.step)⟩
      rw [if_neg c8] at H
      have c8b0 : decide (30 < (l0.length : Int)) = false := decide_eq_false c8
      have c8b1 : decide (30 < l0.length) = false := decide_eq_false (by omega)
      clear c8
      replace H := Option.bind_eq_some_iff.mp H
      obtain ⟨t175, A90, H⟩ := H
      replace H : (some (decide (t175 > 1000))) = some r := H
      have A9 := Aside0.mk A90
      clear A90
      obtain rfl := Option.some.inj H
      go_wp2_with (first | (go_at_call 60; (with_reducible refine (semblanceref02_Place.calls kj1 _ _ l0 (⟨#[]⟩ : ByteArray) t175 _ ?side1 ?side2 A9.out).mono ?_); (case side1 => repeat (first | exact HR0.out | (with_reducible refine Kd.C_alloc ?_ _) | (with_reducible refine Kd.C_drewN ?_ _) | (with_reducible refine Kd.C_drew ?_))); (case side2 => exact HC0.out); rintro e w' ⟨rfl, ⟨nd, rfl⟩⟩))
      go_ret
      exact ⟨by first | rfl | (simp; done) | (simp [*]; done), by repeat (first | exact Drawn0.refl _ | apply Drawn0.step)⟩

     subst c4
     have H1 : (if 0 ≤ x3_1 then (if x3_1 < (l0.length : Int) then (if ((rdOf ByteArray.empty l0 x3_1).size : Int) > 100 then (some true) else (semblanceref11_Long.l0 kj1 l0 (wrap64 (x3_1 + 1)))) else (none)) else (none)) = some r := by rw [if_pos rfl] at H; exact H
     clear H
     have H := H1
     clear H1
     by_cases c5 : 0 ≤ x3_1
     rotate_left
     ·rw [if_neg c5] at H
      exact absurd H (by simp)
     rw [if_pos c5] at H
     have c5b0 : decide (0 ≤ x3_1) = true := decide_eq_true c5
     clear c5
     by_cases c6 : x3_1 < (l0.length : Int)
     rotate_left
     ·rw [if_neg c6] at H
      exact absurd H (by simp)
     rw [if_pos c6] at H
     have c6b0 : decide (x3_1 < (l0.length : Int)) = true := decide_eq_true c6
     clear c6
     by_cases c7 : ((rdOf ByteArray.empty l0 x3_1).size : Int) > 100
     ·rw [if_pos c7] at H
      have c7b0 : decide (100 < ((rdOf ByteArray.empty l0 x3_1).size : Int)) = true := decide_eq_true c7
      have c7b1 : decide (100 < (rdOf ByteArray.empty l0 x3_1).size) = true := decide_eq_true (by omega)
      clear c7
      obtain rfl := Option.some.inj H
      have p174 : 0 ≤ (x3_1 : Int) := of_decide_eq_true (by first | (with_reducible assumption) | assumption)
      have q174 : x3_1 < (l0.length : Int) := of_decide_eq_true (by first | (with_reducible assumption) | assumption)
      obtain ⟨ad174, e174, hx174_0⟩ := Kd.at_string HR0.out x3_1 p174 q174
      cases e174
      replace p174 := eq_true p174
      replace q174 := eq_true q174
      go_wp2
      go_ret
      exact ⟨by first | rfl | (simp; done) | (simp [*]; done), by repeat (first | exact Drawn0.refl _ | apply Drawn0.step)⟩
     rw [if_neg c7] at H
     have c7b0 : decide (100 < ((rdOf ByteArray.empty l0 x3_1).size : Int)) = false := decide_eq_false c7
     have c7b1 : decide (100 < (rdOf ByteArray.empty l0 x3_1).size) = false := decide_eq_false (by omega)
     clear c7
     have H' := Aside0.mk H
     clear H
     have p174 : 0 ≤ (x3_1 : Int) := of_decide_eq_true (by first | (with_reducible assumption) | assumption)
     have q174 : x3_1 < (l0.length : Int) := of_decide_eq_true (by first | (with_reducible assumption) | assumption)
     obtain ⟨ad174, e174, hx174_0⟩ := Kd.at_string HR0.out x3_1 p174 q174
     cases e174
     replace p174 := eq_true p174
     replace q174 := eq_true q174
     go_wp2
     go_roundg kj1
     case measure => have := HK1.out; have := HJ1.out; omega
     case rel => exact ⟨(wrap64 (x3_1 + 1)), (by first | rfl | (simp; done) | (simp [*]; done)), H', ⟨by have := HK1.out; have := HJ1.out; omega⟩, by repeat (first | exact Drawn0.refl _ | apply Drawn0.step)⟩
/-! ### semblanceref12_terms: function 27 -/
def semblanceref12_terms.l0 : Nat → List (S47) → Int → Option (Int)
  | 0, _, _ => none
  | k + 1, x0, x3 => if x3 < (x0.length : Int) then (if 0 ≤ x3 then (if (((rd_T47 x0 x3).f2).size : Int) > 100 then (some 1000) else (semblanceref12_terms.l0 k x0 (wrap64 (x3 + 1)))) else (none)) else (some (x0.length : Int))
def semblanceref12_terms.f (k : Nat) (l0 : List (S47)) : Option (Int) := if (l0.length : Int) > 45 then (some 1000) else (semblanceref12_terms.l0 k l0 0)
theorem semblanceref12_terms.mono_l : ∀ k, (∀ y0 y1, LeO (semblanceref12_terms.l0 k y0 y1) (semblanceref12_terms.l0 (k + 1) y0 y1))
  | 0 => fun _ _ r h => by simp [semblanceref12_terms.l0] at h
  | k + 1 => by
    have ih0 := semblanceref12_terms.mono_l k
    · intro y0 y1
      unfold semblanceref12_terms.l0
      repeat' first
      | (with_reducible exact ih0 _ _)
      | (with_reducible exact LeO.refl _)
      | (with_reducible exact LeO.none _)
      | (with_reducible refine LeO.ite ?_ ?_)
      | (with_reducible refine LeO.bind ?_ (fun _ => ?_))
      | exact ih0 _ _
      | exact LeO.none _
      | refine LeO.ite ?_ ?_
      | refine LeO.bind ?_ (fun _ => ?_)
theorem semblanceref12_terms.mono : ∀ a0 k, LeO (semblanceref12_terms.f k a0) (semblanceref12_terms.f (k + 1) a0) := by
  intro a0 k
  have ih0 := semblanceref12_terms.mono_l k
  unfold semblanceref12_terms.f
  repeat' first
      | (with_reducible exact ih0 _ _)
      | (with_reducible exact LeO.refl _)
      | (with_reducible exact LeO.none _)
      | (with_reducible refine LeO.ite ?_ ?_)
      | (with_reducible refine LeO.bind ?_ (fun _ => ?_))
      | exact ih0 _ _
      | exact LeO.none _
      | refine LeO.ite ?_ ?_
      | refine LeO.bind ?_ (fun _ => ?_)
set_option maxHeartbeats 8000000 in
set_option maxRecDepth 100000 in
theorem semblanceref12_terms.calls (k : Nat) (A0 : Option Addr) (c0 : Nat) (l0 : List (S47)) (r : Int) (w : World) (hr0 : Kd.C k47 w A0 l0.length l0) (hc0 : l0.length ≤ c0) (h : semblanceref12_terms.f k l0 = some r) :
  Calls Try.prog 27 #[.slice A0 l0.length c0] w fun e w' => e = .returned (.int .i64 r) ∧ Drawn0 w w' := by
 have HR0 := Aside0.mk hr0
 have HC0 := Aside0.mk hc0
 clear hr0 hc0
 have H : (if (l0.length : Int) > 45 then (some 1000) else (semblanceref12_terms.l0 k l0 0)) = some r := h
 clear h
 by_cases c2 : (l0.length : Int) > 45
 ·rw [if_pos c2] at H
  have c2b0 : decide (45 < (l0.length : Int)) = true := decide_eq_true c2
  have c2b1 : decide (45 < l0.length) = true := decide_eq_true (by omega)
  clear c2
  obtain rfl := Option.some.inj H
  go_enter Try.func27, Try.ntmps27
  go_wp2
  go_ret
  exact ⟨by first | rfl | (simp; done) | (simp [*]; done), by repeat (first | exact Drawn0.refl _ | apply Drawn0.step)⟩
 rw [if_neg c2] at H
 have c2b0 : decide (45 < (l0.length : Int)) = false := decide_eq_false c2
 have c2b1 : decide (45 < l0.length) = false := decide_eq_false (by omega)
 clear c2
 have H' := Aside0.mk H
 clear H
 go_enter Try.func27, Try.ntmps27
 go_wp2
 go_loopg [3] k (fun kq v3 w' => ∃ (x3_1 : Int), v3 = .int .i64 x3_1 ∧ Aside0 (semblanceref12_terms.l0 kq l0 x3_1 = some r) ∧ Aside0 (kq ≤ k) ∧ Drawn0 w w')
 case atStart => exact ⟨(0), (by first | rfl | (simp; done) | (simp [*]; done)), H', ⟨Nat.le_refl _⟩, by repeat (first | exact Drawn0.refl _ | apply Drawn0.step)⟩
 case round =>
  clear H'
  try clear c2
  try clear c2b0
  try clear c2b1
  try clear p2
  obtain ⟨x3_1, rfl, HA, HK1, ⟨m1, rfl⟩⟩ := hrel
  cases gk with
  | zero => exact absurd HA.out (by simp [semblanceref12_terms.l0])
  | succ k1 =>
   have H := HA.out
   clear HA
   simp only [semblanceref12_terms.l0] at H
   by_cases c3 : x3_1 < (l0.length : Int)
   rotate_left
   ·rw [if_neg c3] at H
    have c3b0 : decide (x3_1 < (l0.length : Int)) = false := decide_eq_false c3
    clear c3
    obtain rfl := Option.some.inj H
    go_wp2
    go_ret
    exact ⟨by first | rfl | (simp; done) | (simp [*]; done), by repeat (first | exact Drawn0.refl _ | apply Drawn0.step)⟩

   rw [if_pos c3] at H
   have c3b0 : decide (x3_1 < (l0.length : Int)) = true := decide_eq_true c3
   clear c3
   by_cases c4 : 0 ≤ x3_1
   rotate_left
   ·rw [if_neg c4] at H
    exact absurd H (by simp)
   rw [if_pos c4] at H
   have c4b0 : decide (0 ≤ x3_1) = true := decide_eq_true c4
   clear c4
   by_cases c5 : (((rd_T47 l0 x3_1).f2).size : Int) > 100
   ·rw [if_pos c5] at H
    have c5b0 : decide (100 < (((rd_T47 l0 x3_1).f2).size : Int)) = true := decide_eq_true c5
    have c5b1 : decide (100 < ((rd_T47 l0 x3_1).f2).size) = true := decide_eq_true (by omega)
    clear c5
    obtain rfl := Option.some.inj H
    have p176 : 0 ≤ (x3_1 : Int) := of_decide_eq_true (by first | (with_reducible assumption) | assumption)
    have q176 : x3_1 < (l0.length : Int) := of_decide_eq_true (by first | (with_reducible assumption) | assumption)
    obtain ⟨ad176, e176, hx176_0, hx176_1, hx176_2⟩ := at_T47 HR0.out x3_1 p176 q176
    cases e176
    replace p176 := eq_true p176
    replace q176 := eq_true q176
    go_wp2
    go_ret
    exact ⟨by first | rfl | (simp; done) | (simp [*]; done), by repeat (first | exact Drawn0.refl _ | apply Drawn0.step)⟩
   rw [if_neg c5] at H
   have c5b0 : decide (100 < (((rd_T47 l0 x3_1).f2).size : Int)) = false := decide_eq_false c5
   have c5b1 : decide (100 < ((rd_T47 l0 x3_1).f2).size) = false := decide_eq_false (by omega)
   clear c5
   have H' := Aside0.mk H
   clear H
   have p176 : 0 ≤ (x3_1 : Int) := of_decide_eq_true (by first | (with_reducible assumption) | assumption)
   have q176 : x3_1 < (l0.length : Int) := of_decide_eq_true (by first | (with_reducible assumption) | assumption)
   obtain ⟨ad176, e176, hx176_0, hx176_1, hx176_2⟩ := at_T47 HR0.out x3_1 p176 q176
   cases e176
   replace p176 := eq_true p176
   replace q176 := eq_true q176
   go_wp2
   go_roundg k1
   case measure => have := HK1.out; omega
   case rel => exact ⟨(wrap64 (x3_1 + 1)), (by first | rfl | (simp; done) | (simp [*]; done)), H', ⟨by have := HK1.out; omega⟩, by repeat (first | exact Drawn0.refl _ | apply Drawn0.step)⟩
/-! ### semblanceref12_weigh: function 26 -/
def semblanceref12_weigh.l0 : Nat → List (S93) → Int → Int → Option (Int)
  | 0, _, _, _ => none
  | k + 1, x0, x3, x4 => if x4 < (x0.length : Int) then (if 0 ≤ x4 then ((semblanceref12_terms.f k ((rd_T93 x0 x4).f2)).bind fun t178 => (if (((rd_T93 x0 x4).f0).size : Int) > 100 then (semblanceref12_weigh.l0 k x0 (wrap64 ((wrap64 ((wrap64 (x3 + 1)) + t178)) + 1000)) (wrap64 (x4 + 1))) else (semblanceref12_weigh.l0 k x0 (wrap64 ((wrap64 (x3 + 1)) + t178)) (wrap64 (x4 + 1))))) else (none)) else (some x3)
def semblanceref12_weigh.f (k : Nat) (l0 : List (S93)) : Option (Int) := semblanceref12_weigh.l0 k l0 0 0
theorem semblanceref12_weigh.mono_l : ∀ k, (∀ y0 y1 y2, LeO (semblanceref12_weigh.l0 k y0 y1 y2) (semblanceref12_weigh.l0 (k + 1) y0 y1 y2))
  | 0 => fun _ _ _ r h => by simp [semblanceref12_weigh.l0] at h
  | k + 1 => by
    have ih0 := semblanceref12_weigh.mono_l k
    · intro y0 y1 y2
      unfold semblanceref12_weigh.l0
      repeat' first
      | (with_reducible exact ih0 _ _ _)
      | (with_reducible exact semblanceref12_terms.mono _ _)
      | (with_reducible exact LeO.refl _)
      | (with_reducible exact LeO.none _)
      | (with_reducible refine LeO.ite ?_ ?_)
      | (with_reducible refine LeO.bind ?_ (fun _ => ?_))
      | exact ih0 _ _ _
      | exact semblanceref12_terms.mono _ _
      | exact LeO.none _
      | refine LeO.ite ?_ ?_
      | refine LeO.bind ?_ (fun _ => ?_)
theorem semblanceref12_weigh.mono : ∀ a0 k, LeO (semblanceref12_weigh.f k a0) (semblanceref12_weigh.f (k + 1) a0) := by
  intro a0 k
  have ih0 := semblanceref12_weigh.mono_l k
  unfold semblanceref12_weigh.f
  repeat' first
      | (with_reducible exact ih0 _ _ _)
      | (with_reducible exact semblanceref12_terms.mono _ _)
      | (with_reducible exact LeO.refl _)
      | (with_reducible exact LeO.none _)
      | (with_reducible refine LeO.ite ?_ ?_)
      | (with_reducible refine LeO.bind ?_ (fun _ => ?_))
      | exact ih0 _ _ _
      | exact semblanceref12_terms.mono _ _
      | exact LeO.none _
      | refine LeO.ite ?_ ?_
      | refine LeO.bind ?_ (fun _ => ?_)
set_option maxHeartbeats 8000000 in
set_option maxRecDepth 100000 in
theorem semblanceref12_weigh.calls (k : Nat) (A0 : Option Addr) (c0 : Nat) (l0 : List (S93)) (r : Int) (w : World) (hr0 : Kd.C k93 w A0 l0.length l0) (hc0 : l0.length ≤ c0) (h : semblanceref12_weigh.f k l0 = some r) :
  Calls Try.prog 26 #[.slice A0 l0.length c0] w fun e w' => e = .returned (.int .i64 r) ∧ Drawn0 w w' := by
 have HR0 := Aside0.mk hr0
 have HC0 := Aside0.mk hc0
 clear hr0 hc0
 have H : (semblanceref12_weigh.l0 k l0 0 0) = some r := h
 clear h
 have H' := Aside0.mk H
 clear H
 go_enter Try.func26, Try.ntmps26
 go_wp2
 go_loopg [3, 4] k (fun kq v3 v4 w' => ∃ (x3_1 : Int) (x4_1 : Int), v3 = .int .i64 x3_1 ∧ v4 = .int .i64 x4_1 ∧ Aside0 (semblanceref12_weigh.l0 kq l0 x3_1 x4_1 = some r) ∧ Aside0 (kq ≤ k) ∧ Drawn0 w w')
 case atStart => exact ⟨(0), (0), (by first | rfl | (simp; done) | (simp [*]; done)), (by first | rfl | (simp; done) | (simp [*]; done)), H', ⟨Nat.le_refl _⟩, by repeat (first | exact Drawn0.refl _ | apply Drawn0.step)⟩
 case round =>
  clear H'
  obtain ⟨x3_1, x4_1, rfl, rfl, HA, HK1, ⟨m1, rfl⟩⟩ := hrel
  cases gk with
  | zero => exact absurd HA.out (by simp [semblanceref12_weigh.l0])
  | succ k1 =>
   have H := HA.out
   clear HA
   simp only [semblanceref12_weigh.l0] at H
   by_cases c2 : x4_1 < (l0.length : Int)
   rotate_left
   ·rw [if_neg c2] at H
    have c2b0 : decide (x4_1 < (l0.length : Int)) = false := decide_eq_false c2
    clear c2
    obtain rfl := Option.some.inj H
    go_wp2
    go_ret
    exact ⟨by first | rfl | (simp; done) | (simp [*]; done), by repeat (first | exact Drawn0.refl _ | apply Drawn0.step)⟩

   rw [if_pos c2] at H
   have c2b0 : decide (x4_1 < (l0.length : Int)) = true := decide_eq_true c2
   clear c2
   by_cases c3 : 0 ≤ x4_1
   rotate_left
   ·rw [if_neg c3] at H
    exact absurd H (by simp)
   rw [if_pos c3] at H
   have c3b0 : decide (0 ≤ x4_1) = true := decide_eq_true c3
   clear c3
   replace H := Option.bind_eq_some_iff.mp H
   obtain ⟨t178, A40, H⟩ := H
   replace H : (if (((rd_T93 l0 x4_1).f0).size : Int) > 100 then (semblanceref12_weigh.l0 k1 l0 (wrap64 ((wrap64 ((wrap64 (x3_1 + 1)) + t178)) + 1000)) (wrap64 (x4_1 + 1))) else (semblanceref12_weigh.l0 k1 l0 (wrap64 ((wrap64 (x3_1 + 1)) + t178)) (wrap64 (x4_1 + 1)))) = some r := H
   have A4 := Aside0.mk A40
   clear A40
   by_cases c5 : (((rd_T93 l0 x4_1).f0).size : Int) > 100
   ·rw [if_pos c5] at H
    have c5b0 : decide (100 < (((rd_T93 l0 x4_1).f0).size : Int)) = true := decide_eq_true c5
    have c5b1 : decide (100 < ((rd_T93 l0 x4_1).f0).size) = true := decide_eq_true (by omega)
    clear c5
    have H' := Aside0.mk H
    clear H
    have p177 : 0 ≤ (x4_1 : Int) := of_decide_eq_true (by first | (with_reducible assumption) | assumption)
    have q177 : x4_1 < (l0.length : Int) := of_decide_eq_true (by first | (with_reducible assumption) | assumption)
    obtain ⟨ad177, A177_2, c177_2, e177, hx177_0, hx177_1, hx177_2, hl177_2, hi177_2⟩ := at_T93 HR0.out x4_1 p177 q177
    cases e177
    have HR177_2 := Aside0.mk hi177_2
    have HC177_2 := Aside0.mk hl177_2
    clear hi177_2 hl177_2
    replace p177 := eq_true p177
    replace q177 := eq_true q177
    go_wp2_with (first | ((with_reducible refine gate_callee (f := 27) rfl ?_); refine goesL_ (some 18) rfl rfl Try.func27 (by kernel_rfl) rfl #[.slice A177_2 ((rd_T93 l0 x4_1).f2).length c177_2] rfl (by (try simp only [List.map_toArray, List.map_cons, List.map_nil]); first | done | rfl | (simp only [List.length_drop, List.length_take]; rfl)) ?_; (with_reducible refine (semblanceref12_terms.calls k1 _ _ ((rd_T93 l0 x4_1).f2) t178 _ ?side1 ?side2 A4.out).mono ?_); (case side1 => repeat (first | exact HR177_2.out | (with_reducible refine Kd.C_alloc ?_ _) | (with_reducible refine Kd.C_drewN ?_ _) | (with_reducible refine Kd.C_drew ?_))); (case side2 => exact HC177_2.out); rintro e w' ⟨rfl, ⟨nd, rfl⟩⟩; refine ⟨_, rfl, ?_⟩; have p179 : 0 ≤ (x4_1 : Int) := of_decide_eq_true (by first | (with_reducible assumption) | assumption); have q179 : x4_1 < (l0.length : Int) := of_decide_eq_true (by first | (with_reducible assumption) | assumption); obtain ⟨ad179, A179_2, c179_2, e179, hx179_0, hx179_1, hx179_2, hl179_2, hi179_2⟩ := at_T93 HR0.out x4_1 p179 q179; obtain rfl : ad177 = ad179 := (by injection e179); have HR179_2 := Aside0.mk hi179_2; have HC179_2 := Aside0.mk hl179_2; clear hi179_2 hl179_2; replace p179 := eq_true p179; replace q179 := eq_true q179; have ea_ := Option.some.inj (hx177_2.symm.trans hx179_2); injection ea_ with ea_ en_ ec_; subst ea_; subst ec_; clear en_))
    go_roundg k1
    case measure => have := HK1.out; omega
    case rel => exact ⟨(wrap64 ((wrap64 ((wrap64 (x3_1 + 1)) + t178)) + 1000)), (wrap64 (x4_1 + 1)), (by first | rfl | (simp; done) | (simp [*]; done)), (by first | rfl | (simp; done) | (simp [*]; done)), H', ⟨by have := HK1.out; omega⟩, by repeat (first | exact Drawn0.refl _ | apply Drawn0.step)⟩
   rw [if_neg c5] at H
   have c5b0 : decide (100 < (((rd_T93 l0 x4_1).f0).size : Int)) = false := decide_eq_false c5
   have c5b1 : decide (100 < ((rd_T93 l0 x4_1).f0).size) = false := decide_eq_false (by omega)
   clear c5
   have H' := Aside0.mk H
   clear H
   have p177 : 0 ≤ (x4_1 : Int) := of_decide_eq_true (by first | (with_reducible assumption) | assumption)
   have q177 : x4_1 < (l0.length : Int) := of_decide_eq_true (by first | (with_reducible assumption) | assumption)
   obtain ⟨ad177, A177_2, c177_2, e177, hx177_0, hx177_1, hx177_2, hl177_2, hi177_2⟩ := at_T93 HR0.out x4_1 p177 q177
   cases e177
   have HR177_2 := Aside0.mk hi177_2
   have HC177_2 := Aside0.mk hl177_2
   clear hi177_2 hl177_2
   replace p177 := eq_true p177
   replace q177 := eq_true q177
   go_wp2_with (first | ((with_reducible refine gate_callee (f := 27) rfl ?_); refine goesL_ (some 18) rfl rfl Try.func27 (by kernel_rfl) rfl #[.slice A177_2 ((rd_T93 l0 x4_1).f2).length c177_2] rfl (by (try simp only [List.map_toArray, List.map_cons, List.map_nil]); first | done | rfl | (simp only [List.length_drop, List.length_take]; rfl)) ?_; (with_reducible refine (semblanceref12_terms.calls k1 _ _ ((rd_T93 l0 x4_1).f2) t178 _ ?side1 ?side2 A4.out).mono ?_); (case side1 => repeat (first | exact HR177_2.out | (with_reducible refine Kd.C_alloc ?_ _) | (with_reducible refine Kd.C_drewN ?_ _) | (with_reducible refine Kd.C_drew ?_))); (case side2 => exact HC177_2.out); rintro e w' ⟨rfl, ⟨nd, rfl⟩⟩; refine ⟨_, rfl, ?_⟩; have p179 : 0 ≤ (x4_1 : Int) := of_decide_eq_true (by first | (with_reducible assumption) | assumption); have q179 : x4_1 < (l0.length : Int) := of_decide_eq_true (by first | (with_reducible assumption) | assumption); obtain ⟨ad179, A179_2, c179_2, e179, hx179_0, hx179_1, hx179_2, hl179_2, hi179_2⟩ := at_T93 HR0.out x4_1 p179 q179; obtain rfl : ad177 = ad179 := (by injection e179); have HR179_2 := Aside0.mk hi179_2; have HC179_2 := Aside0.mk hl179_2; clear hi179_2 hl179_2; replace p179 := eq_true p179; replace q179 := eq_true q179; have ea_ := Option.some.inj (hx177_2.symm.trans hx179_2); injection ea_ with ea_ en_ ec_; subst ea_; subst ec_; clear en_))
   go_roundg k1
   case measure => have := HK1.out; omega
   case rel => exact ⟨(wrap64 ((wrap64 (x3_1 + 1)) + t178)), (wrap64 (x4_1 + 1)), (by first | rfl | (simp; done) | (simp [*]; done)), (by first | rfl | (simp; done) | (simp [*]; done)), H', ⟨by have := HK1.out; omega⟩, by repeat (first | exact Drawn0.refl _ | apply Drawn0.step)⟩
/-! ### semblanceref12_Light: function 7 -/
-- USES semblance/semblanceref12.May
-- USES semblance/semblanceref11.Long
-- USES semblance/semblanceref12.weigh
-- USES semblance/semblanceref12.terms
theorem or4_cases (a b c d : Bool) : ((a = true ∨ (a = false ∧ b = true) ∨ (a = false ∧ b = false ∧ c = true) ∨ (a = false ∧ b = false ∧ c = false ∧ d = true)) ∧ (a || (b || (c || d))) = true) ∨ ((a = false ∧ b = false ∧ c = false ∧ d = false) ∧ (a || (b || (c || d))) = false) := by
  cases a <;> cases b <;> cases c <;> cases d <;> decide
theorem or3_cases (a b c : Bool) : ((a = true ∨ (a = false ∧ b = true) ∨ (a = false ∧ b = false ∧ c = true)) ∧ (a || (b || c)) = true) ∨ ((a = false ∧ b = false ∧ c = false) ∧ (a || (b || c)) = false) := by
  cases a <;> cases b <;> cases c <;> decide
theorem drop_at {α : Type} (l : List α) (z : α) (i : Nat) (h : i < l.length) : l.drop i = l.getD i z :: l.drop (i + 1) := by
  rw [List.drop_eq_getElem_cons h]; simp [List.getD, List.getElem?_eq_getElem h]
/-- is a state heavy by itself, a transition? -/
def semblanceref12_Light.s (x : S55) : Bool := decide ((x.f0.size : Int) > 100) || (decide ((x.f5.length : Int) > 20) || (decide ((x.f3.length : Int) > 10) || decide ((x.f4.length : Int) > 10)))
def semblanceref12_Light.t (y : S58) : Bool := decide ((y.f0.size : Int) > 100) || (decide ((y.f3.size : Int) > 100) || decide ((y.f2.length : Int) > 10))
def semblanceref12_Light.ts (k : Nat) : List (S58) → Int → Option (Option Int)
  | [], all => some (some all)
  | y :: l, all => if semblanceref12_Light.t y = true then some none else (semblanceref12_weigh.f k y.f2).bind fun a => (semblanceref12_terms.f k y.f1).bind fun b => semblanceref12_Light.ts k l (wrap64 (wrap64 (wrap64 (all + 1) + a) + b))
def semblanceref12_Light.ss (k : Nat) : List (S55) → Int → Option Bool
  | [], all => some (decide (all ≤ 160))
  | x :: l, all => if all ≤ 160 then (if semblanceref12_Light.s x = true then some false else (semblanceref12_weigh.f k x.f3).bind fun a => (semblanceref12_weigh.f k x.f4).bind fun b => (semblanceref12_Light.ts k x.f5 (wrap64 (wrap64 (all + a) + b))).bind fun p => p.elim (some false) (fun all' => semblanceref12_Light.ss k l all')) else some false
def semblanceref12_Light.f (k : Nat) (a0 : ByteArray) (l1 : List ByteArray) (l2 : List (S51)) (l3 : List (S55)) : Option Bool :=
  (semblanceref11_Long.f k l1).bind fun t => if (decide ((a0.size : Int) > 100) || (t || (decide ((l2.length : Int) > 10) || decide ((l3.length : Int) > 65)))) = true then some false else if (l2.any fun x => decide ((x.f0.size : Int) > 100)) = true then some false else semblanceref12_Light.ss k l3 0
theorem semblanceref12_Light.ts_mono : ∀ k l all, LeO (semblanceref12_Light.ts k l all) (semblanceref12_Light.ts (k + 1) l all) := by
  intro k l
  induction l with
  | nil => intro all; exact LeO.refl _
  | cons y l ih => intro all; unfold semblanceref12_Light.ts; exact LeO.ite (LeO.refl _) (LeO.bind (semblanceref12_weigh.mono _ k) (fun _ => LeO.bind (semblanceref12_terms.mono _ k) (fun _ => ih _)))
theorem semblanceref12_Light.ss_mono : ∀ k l all, LeO (semblanceref12_Light.ss k l all) (semblanceref12_Light.ss (k + 1) l all) := by
  intro k l
  induction l with
  | nil => intro all; exact LeO.refl _
  | cons x l ih =>
    intro all
    unfold semblanceref12_Light.ss
    exact LeO.ite (LeO.ite (LeO.refl _) (LeO.bind (semblanceref12_weigh.mono _ k) (fun _ => LeO.bind (semblanceref12_weigh.mono _ k) (fun _ => LeO.bind (semblanceref12_Light.ts_mono k _ _) (fun p => by cases p with | none => exact LeO.refl _ | some a => exact ih a))))) (LeO.refl _)
theorem semblanceref12_Light.mono : ∀ a0 l1 l2 l3 k, LeO (semblanceref12_Light.f k a0 l1 l2 l3) (semblanceref12_Light.f (k + 1) a0 l1 l2 l3) := by
  intro a0 l1 l2 l3 k
  unfold semblanceref12_Light.f
  exact LeO.bind (semblanceref11_Long.mono _ k) (fun _ => LeO.ite (LeO.refl _) (LeO.ite (LeO.refl _) (semblanceref12_Light.ss_mono k _ _)))
set_option maxHeartbeats 16000000 in
set_option maxRecDepth 100000 in
open Go.Proofs.Ytoeioigpkfgppaa.XReg in
theorem semblanceref12_Light.calls (k : Nat) (a0_0 : ByteArray) (A0_1 : Option Addr) (c0_1 : Nat) (l0_1 : List ByteArray) (A0_2 : Option Addr) (c0_2 : Nat) (l0_2 : List (S51)) (A0_3 : Option Addr) (c0_3 : Nat) (l0_3 : List (S55)) (r : Bool) (w : World) (hr0_1 : Kd.C Kd.string w A0_1 l0_1.length l0_1) (hc0_1 : l0_1.length ≤ c0_1) (hr0_2 : Kd.C k51 w A0_2 l0_2.length l0_2) (hc0_2 : l0_2.length ≤ c0_2) (hr0_3 : Kd.C k55 w A0_3 l0_3.length l0_3) (hc0_3 : l0_3.length ≤ c0_3) (h : semblanceref12_Light.f k a0_0 l0_1 l0_2 l0_3 = some r) :
    Calls Try.prog 7 #[.agg #[.string a0_0, .slice A0_1 l0_1.length c0_1, .slice A0_2 l0_2.length c0_2, .slice A0_3 l0_3.length c0_3]] w fun e w' => e = .returned (.bool r) ∧ Below w.heap.size w w' := by
  unfold semblanceref12_Light.f at h
  obtain ⟨t, ht, h⟩ := Option.bind_eq_some_iff.mp h
  have HT := Aside0.mk ht
  have HC1 := Aside0.mk hc0_1
  clear ht
  obtain ⟨w1, hw1⟩ : ∃ w1, w1 = w.alloc (.cells #[.string a0_0, .slice A0_1 l0_1.length c0_1, .slice A0_2 l0_2.length c0_2, .slice A0_3 l0_3.length c0_3] 26) := ⟨_, rfl⟩
  have hb1 : Below w.heap.size w w1 := by rw [hw1]; exact (Below.refl _ _).alloc (Nat.le_refl _) _
  have HK : Aside0 (w1.heap[w.heap.size]? = some (.cells #[.string a0_0, .slice A0_1 l0_1.length c0_1, .slice A0_2 l0_2.length c0_2, .slice A0_3 l0_3.length c0_3] 26 (0, 0))) := ⟨by rw [hw1]; exact heap_alloc_new w _⟩
  have HR1 := Aside0.mk (Kd.C_below hr0_1 hb1)
  have HR2 := Aside0.mk (Kd.C_below hr0_2 hb1)
  have HR3 := Aside0.mk (Kd.C_below hr0_3 hb1)
  have HC3 := Aside0.mk hc0_3
  have HB1 := Aside0.mk hb1
  have hm1 := Kd.C_max hr0_1
  have hm2 := Kd.C_max hr0_2
  have hm3 := Kd.C_max hr0_3
  have hu2 := Try.underlying26
  have hu3 := Try.underlying51
  have hu4 := Try.underlying55
  clear hr0_1 hr0_2 hr0_3 hb1 hc0_1 hc0_2 hc0_3
  have hu5 := Try.underlying58
  rcases or4_cases (decide ((a0_0.size : Int) > 100)) t (decide ((l0_2.length : Int) > 10)) (decide ((l0_3.length : Int) > 65)) with ⟨h4, hz⟩ | ⟨⟨q1, q2, q3, q4⟩, hz⟩
  · rw [if_pos hz] at h
    obtain rfl := Option.some.inj h
    clear hz h
    rcases h4 with q1 | ⟨q1, q2⟩ | ⟨q1, q2, q3⟩ | ⟨q1, q2, q3, q4⟩ <;>
      ((try subst q2)
       subst hw1
       go_enter Try.func7, Try.ntmps7
       go_wp2_with (go_at_call 25; refine (semblanceref11_Long.calls k A0_1 c0_1 l0_1 _ _ HR1.out HC1.out HT.out).mono ?_; rintro e w2 ⟨rfl, hd2⟩; have HB2 := Aside0.mk hd2.below; obtain ⟨hd0, hd1, hd2_, hd3⟩ := cz4_ (blk_below HK.out hd2.below); clear hd2; have hd2 := hd2_; clear hd2_)
       go_ret
       exact ⟨rfl, (by first | exact HB1.out.trans (HB2.out.mono HB1.out.size) | exact HB1.out)⟩)
  rw [if_neg (by rw [hz]; decide)] at h
  subst q2
  have HH := Aside0.mk h
  clear h hz
  subst hw1
  go_enter Try.func7, Try.ntmps7
  go_wp2_with (go_at_call 25; refine (semblanceref11_Long.calls k A0_1 c0_1 l0_1 _ _ HR1.out HC1.out HT.out).mono ?_; rintro e w2 ⟨rfl, hd2⟩; have HB2 := Aside0.mk hd2.below; obtain ⟨hd0, hd1, hd2_, hd3⟩ := cz4_ (blk_below HK.out hd2.below); clear hd2; have hd2 := hd2_; clear hd2_)
  clear hd0 hd1 hd2 hd3 q1 q3 q4
  generalize w.alloc (.cells #[.string a0_0, .slice A0_1 l0_1.length c0_1, .slice A0_2 l0_2.length c0_2, .slice A0_3 l0_3.length c0_3] 26) = w1 at *
  go_loopg [3] l0_2.length (fun kq v9 wr => ∃ i : Nat, Aside0 (l0_2.length - i = kq) ∧ Aside0 (i ≤ l0_2.length) ∧ v9 = .int .i64 (i : Int) ∧ Aside0 (Below w1.heap.size w1 wr) ∧ Aside0 (∀ j : Nat, j < i → decide (((l0_2.getD j z51).f0.size : Int) > 100) = false))
  case atStart => exact ⟨0, ⟨rfl⟩, ⟨Nat.zero_le _⟩, rfl, HB2, ⟨fun j hj => absurd hj (Nat.not_lt_zero _)⟩⟩
  case round =>
    obtain ⟨i, HKQ, HI, rfl, HB, HP⟩ := hrel
    obtain ⟨hd0, hd1, hd2, hd3⟩ := cz4_ (blk_below HK.out HB.out)
    by_cases hi : i < l0_2.length
    · have hlt : decide ((i : Int) < (l0_2.length : Int)) = true := decide_eq_true (by omega)
      obtain ⟨ad, e1, hx0, _⟩ := at_T51 (Kd.C_below HR2.out HB.out) (i : Int) (by omega) (by omega)
      subst e1
      rw [Int.toNat_natCast] at hx0
      have hrd : rd_T51 l0_2 (i : Int) = l0_2.getD i z51 := by unfold rd_T51; rw [Int.toNat_natCast]
      rw [hrd] at hx0
      have hmem : l0_2.getD i z51 ∈ l0_2 := by simp only [List.getD, List.getElem?_eq_getElem hi, Option.getD_some]; exact List.getElem_mem hi
      generalize hxx : l0_2.getD i z51 = x at *
      have HX := Aside0.mk hxx
      have HMEM := Aside0.mk hmem
      clear hxx hrd hmem
      cases hc : decide ((x.f0.size : Int) > 100) with
      | true =>
        have HRF := Aside0.mk (show false = r by have h1 := HH.out; rw [if_pos (List.any_eq_true.2 ⟨x, HMEM.out, hc⟩)] at h1; exact Option.some.inj h1)
        go_wp2
        go_ret
        exact ⟨by rw [← HRF.out]; try rfl, HB1.out.trans (HB.out.mono HB1.out.size)⟩
      | false =>
        have HCF := Aside0.mk hc
        go_wp2
        go_roundg (l0_2.length - (i + 1))
        case measure => have := HKQ.out; omega
        case rel =>
          refine ⟨i + 1, ⟨rfl⟩, ⟨hi⟩, by go_num, HB, ⟨fun j hj => ?_⟩⟩
          by_cases e : j = i
          · subst e; rw [HX.out]; exact HCF.out
          · exact HP.out j (by omega)
    · have hlt : decide ((i : Int) < (l0_2.length : Int)) = false := decide_eq_false (by omega)
      have hil : i = l0_2.length := by have := HI.out; omega
      subst hil
      have HG : Aside0 (semblanceref12_Light.ss k l0_3 0 = some r) := ⟨by
        have h1 := HH.out
        rw [if_neg] at h1
        · exact h1
        · rw [List.any_eq_true]
          rintro ⟨x, hx, hc⟩
          obtain ⟨j, hj, rfl⟩ := List.getElem_of_mem hx
          have := HP.out j hj
          simp only [List.getD, List.getElem?_eq_getElem hj, Option.getD_some] at this
          rw [this] at hc
          cases hc⟩
      clear HP HH
      go_wp2_with fail
      clear hd0 hd1 hd2 hd3
      go_loopg [4, 5] l0_3.length (fun kq v4 v5 wr => ∃ (i : Nat) (all : Int), Aside0 (l0_3.length - i = kq) ∧ Aside0 (i ≤ l0_3.length) ∧ v4 = .int .i64 all ∧ v5 = .int .i64 (i : Int) ∧ Aside0 (Below w1.heap.size w1 wr) ∧ Aside0 (semblanceref12_Light.ss k (l0_3.drop i) all = some r))
      case atStart => exact ⟨0, 0, ⟨rfl⟩, ⟨Nat.zero_le _⟩, rfl, rfl, HB, ⟨by rw [List.drop_zero]; exact HG.out⟩⟩
      case round =>
        obtain ⟨i, all, HKQ, HI, rfl, rfl, HB, HSS⟩ := hrel
        obtain ⟨hd0, hd1, hd2, hd3⟩ := cz4_ (blk_below HK.out HB.out)
        by_cases hi : i < l0_3.length
        · have hlt : decide ((i : Int) < (l0_3.length : Int)) = true := decide_eq_true (by omega)
          have hss := HSS.out
          rw [drop_at l0_3 z55 i hi] at hss
          unfold semblanceref12_Light.ss at hss
          by_cases ha : all ≤ 160
          · have hab : decide (all ≤ 160) = true := decide_eq_true ha
            rw [if_pos ha] at hss
            obtain ⟨ad, A3, c3, A4, c4, A5, c5, e1, hx0, hx1, hx2, hx3, hx4, hx5, hl3, hi3, hl4, hi4, hl5, hi5⟩ := at_T55 HR3.out (i : Int) (by omega) (by omega)
            subst e1
            rw [Int.toNat_natCast] at hx0 hx1 hx2 hx3 hx4 hx5
            replace hx0 := pw_cell_below HB.out hx0
            replace hx1 := pw_cell_below HB.out hx1
            replace hx2 := pw_cell_below HB.out hx2
            replace hx3 := pw_cell_below HB.out hx3
            replace hx4 := pw_cell_below HB.out hx4
            replace hx5 := pw_cell_below HB.out hx5
            have hrd : rd_T55 l0_3 (i : Int) = l0_3.getD i z55 := by unfold rd_T55; rw [Int.toNat_natCast]
            rw [hrd] at hx0 hx1 hx2 hx3 hx4 hx5 hl3 hi3 hl4 hi4 hl5 hi5
            generalize l0_3.getD i z55 = x at *
            have HI3 := Aside0.mk hi3
            have HI4 := Aside0.mk hi4
            have HI5 := Aside0.mk hi5
            have hm5 := Kd.C_max hi5
            clear hrd hi3 hi4 hi5 ha HSS
            rcases or4_cases (decide ((x.f0.size : Int) > 100)) (decide ((x.f5.length : Int) > 20)) (decide ((x.f3.length : Int) > 10)) (decide ((x.f4.length : Int) > 10)) with ⟨h4, hz⟩ | ⟨⟨q1, q2, q3, q4⟩, hz⟩
            · rw [if_pos (show semblanceref12_Light.s x = true from hz)] at hss
              have HRF := Aside0.mk (Option.some.inj hss)
              clear hz hss
              rcases h4 with q1 | ⟨q1, q2⟩ | ⟨q1, q2, q3⟩ | ⟨q1, q2, q3, q4⟩ <;>
                (go_wp2_with (first | ((with_reducible refine gate_dst (N := 6) rfl ?_); refine box_event ?hg (N := 6) ?hd (cs := #[.string (⟨#[]⟩ : ByteArray), .int .i64 0, .int .i64 0, .slice none 0 0, .slice none 0 0, .slice none 0 0]) (t := 55) ?hr ?_; (case hd => rfl); (case hg => rfl); (case hr => first | (go_simp; done) | (go_simp; rfl)); intro g hg u1 hbox hb; have HGE := Aside0.mk (Nat.le_of_eq hg.symm); clear hg) | (refine box_put (n := wr.heap.size) (W0 := wr) (vs := #[.string x.f0, .int .i64 x.f1, .int .i64 x.f2, .slice A3 x.f3.length c3, .slice A4 x.f4.length c4, .slice A5 x.f5.length c5]) rfl rfl (.tmp 6) (.tmp 60) rfl rfl rfl hbox (by kernel_rfl) rfl (by simp [Value.oneCell']) hb HGE.out ?_; intro u2 hbox2 hb2; have HB3 := Aside0.mk (below_step HB.out hb2); have HBX := Aside0.mk hbox2; obtain ⟨hz0, hz1, hz2, hz3, hz4, hz5⟩ := cz6_ hbox2; clear hbox hb hbox2 hb2))
                 go_ret
                 exact ⟨by rw [← HRF.out]; try rfl, HB1.out.trans (HB3.out.mono HB1.out.size)⟩)
            · rw [if_neg (show ¬ semblanceref12_Light.s x = true by unfold semblanceref12_Light.s; rw [hz]; decide)] at hss
              obtain ⟨wa, hwa, hss⟩ := Option.bind_eq_some_iff.mp hss
              obtain ⟨wb, hwb, hss⟩ := Option.bind_eq_some_iff.mp hss
              have HWA := Aside0.mk hwa
              have HWB := Aside0.mk hwb
              have HSS := Aside0.mk hss
              clear hz hss hwa hwb
              go_wp2_with (first | ((with_reducible refine gate_dst (N := 6) rfl ?_); refine box_event ?hg (N := 6) ?hd (cs := #[.string (⟨#[]⟩ : ByteArray), .int .i64 0, .int .i64 0, .slice none 0 0, .slice none 0 0, .slice none 0 0]) (t := 55) ?hr ?_; (case hd => rfl); (case hg => rfl); (case hr => first | (go_simp; done) | (go_simp; rfl)); intro g hg u1 hbox hb; have HGE := Aside0.mk (Nat.le_of_eq hg.symm); clear hg) | (refine box_put (n := wr.heap.size) (W0 := wr) (vs := #[.string x.f0, .int .i64 x.f1, .int .i64 x.f2, .slice A3 x.f3.length c3, .slice A4 x.f4.length c4, .slice A5 x.f5.length c5]) rfl rfl (.tmp 6) (.tmp 60) rfl rfl rfl hbox (by kernel_rfl) rfl (by simp [Value.oneCell']) hb HGE.out ?_; intro u2 hbox2 hb2; have HB3 := Aside0.mk (below_step HB.out hb2); have HBX := Aside0.mk hbox2; obtain ⟨hz0, hz1, hz2, hz3, hz4, hz5⟩ := cz6_ hbox2; clear hbox hb hbox2 hb2))
              clear q1 q2 q3 q4 hd0 hd1 hd2 hd3
              refine rs_ 10 [0, 1, 2, 5, 6, 3, 4, 7, 8, 9] (fun w' => w'.cell? ⟨g, 3, none⟩ = some (.slice A3 x.f3.length c3) ∧ w'.cell? ⟨g, 4, none⟩ = some (.slice A4 x.f4.length c4)) rfl (by kernel_rfl) ⟨hz3, hz4⟩ (fun hHeld => ?_)
              iterate 5 (first | (refine pu_ (a' := ?_) rfl rfl (by kernel_rfl) (fun _ _ _ h => h) (by rfl) ?_ ?_; rotate_left; (focus (simp only [Act.put, sb_, s0_, s1_, i64_w]; rfl))) | (refine tk_ (a' := ?_) (v := ?_) hHeld rfl rfl (by kernel_rfl) (fun _ _ _ h => h) (by rfl) ?_ ?_ ?_; rotate_left 2; (focus (intro W_ hS_; (repeat (obtain ⟨hs_, hS_⟩ := hS_)); go_simp; with_reducible rfl)); (focus (simp only [Act.put, sb_, s0_, s1_, i64_w]; rfl))))
              refine cs_ (args := ?_) rfl rfl rfl (by kernel_rfl) Try.func26 (by kernel_rfl) rfl (by rfl) ?_ ?_
              rotate_left; (focus (go_simp; with_reducible rfl))
              refine (semblanceref12_weigh.calls k A3 c3 x.f3 wa _ (Kd.C_below HI3.out (below_drew1 HB3.out)) hl3 HWA.out).mono ?_
              rintro e w5 ⟨rfl, hd5⟩; have HB5 := Aside0.mk (below_step (below_drew1 HB3.out) hd5.below); have HBY := Aside0.mk (blk_below (blk_drew HBX.out) hd5.below); clear hd5
              refine ⟨_, rfl, ⟨(cz6_ HBY.out).2.2.2.1, (cz6_ HBY.out).2.2.2.2.1⟩, fun hHeld => ?_⟩
              (try simp only [Act.put, sb_, s0_, s1_])
              iterate 1 (first | (refine pu_ (a' := ?_) rfl rfl (by kernel_rfl) (fun _ _ _ h => h) (by rfl) ?_ ?_; rotate_left; (focus (simp only [Act.put, sb_, s0_, s1_, i64_w]; rfl))) | (refine tk_ (a' := ?_) (v := ?_) hHeld rfl rfl (by kernel_rfl) (fun _ _ _ h => h) (by rfl) ?_ ?_ ?_; rotate_left 2; (focus (intro W_ hS_; (repeat (obtain ⟨hs_, hS_⟩ := hS_)); go_simp; with_reducible rfl)); (focus (simp only [Act.put, sb_, s0_, s1_, i64_w]; rfl))))
              refine cs_ (args := ?_) rfl rfl rfl (by kernel_rfl) Try.func26 (by kernel_rfl) rfl (by rfl) ?_ ?_
              rotate_left; (focus (go_simp; with_reducible rfl))
              refine (semblanceref12_weigh.calls k A4 c4 x.f4 wb _ (Kd.C_below HI4.out HB5.out) hl4 HWB.out).mono ?_
              rintro e w6 ⟨rfl, hd6⟩; have HB6 := Aside0.mk (below_step HB5.out hd6.below); have HBZ := Aside0.mk (blk_below HBY.out hd6.below); clear hd6
              refine ⟨_, rfl, ⟨(cz6_ HBZ.out).2.2.2.1, (cz6_ HBZ.out).2.2.2.2.1⟩, fun hHeld => ?_⟩
              (try simp only [Act.put, sb_, s0_, s1_])
              iterate 2 (first | (refine pu_ (a' := ?_) rfl rfl (by kernel_rfl) (fun _ _ _ h => h) (by rfl) ?_ ?_; rotate_left; (focus (simp only [Act.put, sb_, s0_, s1_, i64_w]; rfl))) | (refine tk_ (a' := ?_) (v := ?_) hHeld rfl rfl (by kernel_rfl) (fun _ _ _ h => h) (by rfl) ?_ ?_ ?_; rotate_left 2; (focus (intro W_ hS_; (repeat (obtain ⟨hs_, hS_⟩ := hS_)); go_simp; with_reducible rfl)); (focus (simp only [Act.put, sb_, s0_, s1_, i64_w]; rfl))))
              refine dn_ (by kernel_rfl) ?_
              clear hHeld hz0 hz1 hz2 hz3 hz4 hz5
              go_wp2_with fail
              generalize wrap64 (wrap64 (all + wa) + wb) = all2 at *
              go_loopg [4, 7] x.f5.length (fun kq v4 v7 wr => ∃ (m : Nat) (al : Int), Aside0 (x.f5.length - m = kq) ∧ Aside0 (m ≤ x.f5.length) ∧ v4 = .int .i64 al ∧ v7 = .int .i64 (m : Int) ∧ Aside0 (Below w1.heap.size w1 wr) ∧ Aside0 (wr.heap[g]? = some (.cells #[.string x.f0, .int .i64 x.f1, .int .i64 x.f2, .slice A3 x.f3.length c3, .slice A4 x.f4.length c4, .slice A5 x.f5.length c5] 55 (0, 0))) ∧ Aside0 (((semblanceref12_Light.ts k (x.f5.drop m) al).bind fun p => p.elim (some false) (fun all' => semblanceref12_Light.ss k (l0_3.drop (i + 1)) all')) = some r))
              case atStart => exact ⟨0, all2, ⟨rfl⟩, ⟨Nat.zero_le _⟩, rfl, rfl, HB6, HBZ, ⟨by rw [List.drop_zero]; exact HSS.out⟩⟩
              case round =>
                obtain ⟨m, al, HKQ2, HM, rfl, rfl, HB, HBW, HTS⟩ := hrel
                obtain ⟨hz0, hz1, hz2, hz3, hz4, hz5⟩ := cz6_ HBW.out
                by_cases hm : m < x.f5.length
                · have hlt2 : decide ((m : Int) < (x.f5.length : Int)) = true := decide_eq_true (by omega)
                  obtain ⟨ad5, B1, d1, B2, d2, e5, hs0, hs1, hs2, hs3, hd1, hi1, hd2, hi2⟩ := at_T58 HI5.out (m : Int) (by omega) (by omega)
                  subst e5
                  rw [Int.toNat_natCast] at hs0 hs1 hs2 hs3
                  replace hs0 := pw_cell_below HB.out hs0
                  replace hs1 := pw_cell_below HB.out hs1
                  replace hs2 := pw_cell_below HB.out hs2
                  replace hs3 := pw_cell_below HB.out hs3
                  have hts := HTS.out
                  rw [drop_at x.f5 z58 m hm] at hts
                  unfold semblanceref12_Light.ts at hts
                  have hrd : rd_T58 x.f5 (m : Int) = x.f5.getD m z58 := by unfold rd_T58; rw [Int.toNat_natCast]
                  rw [hrd] at hs0 hs1 hs2 hs3 hd1 hi1 hd2 hi2
                  generalize x.f5.getD m z58 = y at *
                  have HI1 := Aside0.mk hi1
                  have HI2 := Aside0.mk hi2
                  clear hrd hi1 hi2 HTS
                  rcases or3_cases (decide ((y.f0.size : Int) > 100)) (decide ((y.f3.size : Int) > 100)) (decide ((y.f2.length : Int) > 10)) with ⟨h4, hz⟩ | ⟨⟨q1, q2, q3⟩, hz⟩
                  · rw [if_pos (show semblanceref12_Light.t y = true from hz)] at hts
                    have HRF := Aside0.mk (show false = r from Option.some.inj hts)
                    clear hz hts
                    rcases h4 with q1 | ⟨q1, q2⟩ | ⟨q1, q2, q3⟩ <;>
                      (go_wp2_with (first | ((with_reducible refine gate_dst (N := 8) rfl ?_); refine box_event ?hg (N := 8) ?hd (cs := #[.string (⟨#[]⟩ : ByteArray), .slice none 0 0, .slice none 0 0, .string (⟨#[]⟩ : ByteArray)]) (t := 58) ?hr ?_; (case hd => rfl); (case hg => rfl); (case hr => first | (go_simp; done) | (go_simp; rfl)); intro g8 hg u1 hbox hb; have HGE := Aside0.mk (Nat.le_of_eq hg.symm); clear hg) | (refine box_put (n := wr.heap.size) (W0 := wr) (vs := #[.string y.f0, .slice B1 y.f1.length d1, .slice B2 y.f2.length d2, .string y.f3]) rfl rfl (.tmp 8) (.tmp 103) rfl rfl rfl hbox (by kernel_rfl) rfl (by simp [Value.oneCell']) hb HGE.out ?_; intro u2 hbox2 hb2; have HB7 := Aside0.mk (below_step HB.out hb2); have HBX7 := Aside0.mk (blk_below HBW.out hb2); have HBY7 := Aside0.mk hbox2; obtain ⟨hv0, hv1, hv2, hv3⟩ := cz4_ hbox2; obtain ⟨hz0, hz1, hz2, hz3, hz4, hz5⟩ := cz6_ HBX7.out; clear hbox hb hbox2 hb2))
                       go_ret
                       exact ⟨by rw [← HRF.out]; try rfl, HB1.out.trans (HB7.out.mono HB1.out.size)⟩)
                  · rw [if_neg (show ¬ semblanceref12_Light.t y = true by unfold semblanceref12_Light.t; rw [hz]; decide), Option.bind_assoc] at hts
                    obtain ⟨wc, hwc, hts⟩ := Option.bind_eq_some_iff.mp hts
                    rw [Option.bind_assoc] at hts
                    obtain ⟨wd, hwd, hts⟩ := Option.bind_eq_some_iff.mp hts
                    have HWC := Aside0.mk hwc
                    have HWD := Aside0.mk hwd
                    have HTS := Aside0.mk hts
                    clear hz hts hwc hwd
                    go_wp2_with (first | ((with_reducible refine gate_dst (N := 8) rfl ?_); refine box_event ?hg (N := 8) ?hd (cs := #[.string (⟨#[]⟩ : ByteArray), .slice none 0 0, .slice none 0 0, .string (⟨#[]⟩ : ByteArray)]) (t := 58) ?hr ?_; (case hd => rfl); (case hg => rfl); (case hr => first | (go_simp; done) | (go_simp; rfl)); intro g8 hg u1 hbox hb; have HGE := Aside0.mk (Nat.le_of_eq hg.symm); clear hg) | (refine box_put (n := wr.heap.size) (W0 := wr) (vs := #[.string y.f0, .slice B1 y.f1.length d1, .slice B2 y.f2.length d2, .string y.f3]) rfl rfl (.tmp 8) (.tmp 103) rfl rfl rfl hbox (by kernel_rfl) rfl (by simp [Value.oneCell']) hb HGE.out ?_; intro u2 hbox2 hb2; have HB7 := Aside0.mk (below_step HB.out hb2); have HBX7 := Aside0.mk (blk_below HBW.out hb2); have HBY7 := Aside0.mk hbox2; obtain ⟨hv0, hv1, hv2, hv3⟩ := cz4_ hbox2; obtain ⟨hz0, hz1, hz2, hz3, hz4, hz5⟩ := cz6_ HBX7.out; clear hbox hb hbox2 hb2))
                    clear q1 q2 q3
                    refine rs_ 11 [0, 1, 2, 3, 6, 7, 4, 5, 8, 9, 10] (fun w' => w'.cell? ⟨g8, 2, none⟩ = some (.slice B2 y.f2.length d2) ∧ w'.cell? ⟨g8, 1, none⟩ = some (.slice B1 y.f1.length d1)) rfl (by kernel_rfl) ⟨hv2, hv1⟩ (fun hHeld => ?_)
                    iterate 6 (first | (refine pu_ (a' := ?_) rfl rfl (by kernel_rfl) (fun _ _ _ h => h) (by rfl) ?_ ?_; rotate_left; (focus (simp only [Act.put, sb_, s0_, s1_, i64_w]; rfl))) | (refine tk_ (a' := ?_) (v := ?_) hHeld rfl rfl (by kernel_rfl) (fun _ _ _ h => h) (by rfl) ?_ ?_ ?_; rotate_left 2; (focus (intro W_ hS_; (repeat (obtain ⟨hs_, hS_⟩ := hS_)); go_simp; with_reducible rfl)); (focus (simp only [Act.put, sb_, s0_, s1_, i64_w]; rfl))))
                    refine cs_ (args := ?_) rfl rfl rfl (by kernel_rfl) Try.func26 (by kernel_rfl) rfl (by rfl) ?_ ?_
                    rotate_left; (focus (go_simp; with_reducible rfl))
                    refine (semblanceref12_weigh.calls k B2 d2 y.f2 wc _ (Kd.C_below HI2.out (below_drew1 HB7.out)) hd2 HWC.out).mono ?_
                    rintro e w5 ⟨rfl, hd5⟩; have HB8 := Aside0.mk (below_step (below_drew1 HB7.out) hd5.below); have HBX8 := Aside0.mk (blk_below (blk_drew HBX7.out) hd5.below); have HBY8 := Aside0.mk (blk_below (blk_drew HBY7.out) hd5.below); clear hd5
                    refine ⟨_, rfl, ⟨(cz4_ HBY8.out).2.2.1, (cz4_ HBY8.out).2.1⟩, fun hHeld => ?_⟩
                    (try simp only [Act.put, sb_, s0_, s1_])
                    iterate 1 (first | (refine pu_ (a' := ?_) rfl rfl (by kernel_rfl) (fun _ _ _ h => h) (by rfl) ?_ ?_; rotate_left; (focus (simp only [Act.put, sb_, s0_, s1_, i64_w]; rfl))) | (refine tk_ (a' := ?_) (v := ?_) hHeld rfl rfl (by kernel_rfl) (fun _ _ _ h => h) (by rfl) ?_ ?_ ?_; rotate_left 2; (focus (intro W_ hS_; (repeat (obtain ⟨hs_, hS_⟩ := hS_)); go_simp; with_reducible rfl)); (focus (simp only [Act.put, sb_, s0_, s1_, i64_w]; rfl))))
                    refine cs_ (args := ?_) rfl rfl rfl (by kernel_rfl) Try.func27 (by kernel_rfl) rfl (by rfl) ?_ ?_
                    rotate_left; (focus (go_simp; with_reducible rfl))
                    refine (semblanceref12_terms.calls k B1 d1 y.f1 wd _ (Kd.C_below HI1.out HB8.out) hd1 HWD.out).mono ?_
                    rintro e w6 ⟨rfl, hd6⟩; have HB9 := Aside0.mk (below_step HB8.out hd6.below); have HBX9 := Aside0.mk (blk_below HBX8.out hd6.below); have HBY9 := Aside0.mk (blk_below HBY8.out hd6.below); clear hd6
                    refine ⟨_, rfl, ⟨(cz4_ HBY9.out).2.2.1, (cz4_ HBY9.out).2.1⟩, fun hHeld => ?_⟩
                    (try simp only [Act.put, sb_, s0_, s1_])
                    iterate 2 (first | (refine pu_ (a' := ?_) rfl rfl (by kernel_rfl) (fun _ _ _ h => h) (by rfl) ?_ ?_; rotate_left; (focus (simp only [Act.put, sb_, s0_, s1_, i64_w]; rfl))) | (refine tk_ (a' := ?_) (v := ?_) hHeld rfl rfl (by kernel_rfl) (fun _ _ _ h => h) (by rfl) ?_ ?_ ?_; rotate_left 2; (focus (intro W_ hS_; (repeat (obtain ⟨hs_, hS_⟩ := hS_)); go_simp; with_reducible rfl)); (focus (simp only [Act.put, sb_, s0_, s1_, i64_w]; rfl))))
                    refine dn_ (by kernel_rfl) ?_
                    clear hHeld hv0 hv1 hv2 hv3 hz0 hz1 hz2 hz3 hz4 hz5
                    go_wp2_with fail
                    go_roundg (x.f5.length - (m + 1))
                    case measure => have := HKQ2.out; omega
                    case rel => exact ⟨m + 1, _, ⟨rfl⟩, ⟨hm⟩, rfl, by go_num, HB9, HBX9, HTS⟩
                · have hlt2 : decide ((m : Int) < (x.f5.length : Int)) = false := decide_eq_false (by omega)
                  have hml : m = x.f5.length := by have := HM.out; omega
                  subst hml
                  have hts := HTS.out
                  rw [List.drop_length] at hts
                  have HSN : Aside0 (semblanceref12_Light.ss k (l0_3.drop (i + 1)) al = some r) := ⟨hts⟩
                  clear hts HTS
                  go_wp2
                  go_roundg (l0_3.length - (i + 1))
                  case measure => have := HKQ.out; omega
                  case rel => exact ⟨i + 1, al, ⟨rfl⟩, ⟨hi⟩, rfl, by go_num, HB, HSN⟩
          · have hab : decide (all ≤ 160) = false := decide_eq_false ha
            rw [if_neg ha] at hss
            have HRF := Aside0.mk (Option.some.inj hss)
            clear hss
            go_wp2
            go_ret
            exact ⟨by rw [← HRF.out]; try rfl, HB1.out.trans (HB.out.mono HB1.out.size)⟩
        · have hlt : decide ((i : Int) < (l0_3.length : Int)) = false := decide_eq_false (by omega)
          have hil : i = l0_3.length := by have := HI.out; omega
          subst hil
          have hss := HSS.out
          rw [List.drop_length] at hss
          have HRF := Aside0.mk (Option.some.inj hss)
          clear hss HSS
          go_wp2
          go_ret
          exact ⟨by rw [← HRF.out]; try rfl, HB1.out.trans (HB.out.mono HB1.out.size)⟩


end Go.Proofs.Ytoeioigpkfgppaa.XR
