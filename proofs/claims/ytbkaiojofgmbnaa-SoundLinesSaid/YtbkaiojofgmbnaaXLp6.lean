-- written by wip/xprint.py out of the translation
import Derived.Test.YtbkaiojofgmbnaaXShort
import Derived.Test.YtbkaiojofgmbnaaXLp0
import Derived.Test.YtbkaiojofgmbnaaXLp3
import Derived.Test.YtbkaiojofgmbnaaXLp4
import Derived.Test.YtbkaiojofgmbnaaXLp5
namespace Go.Proofs.Ytbkaiojofgmbnaa.XL
open Go.Proofs.Ytbkaiojofgmbnaa.XShort Go.Proofs.Ytbkaiojofgmbnaa.XReg Go.Proofs.Ytbkaiojofgmbnaa.XGrow Go.RowKit Go.Proofs.YtbkaiojofgmbnaaW.PrintWords Go.Proofs.YtbkaiojofgmbnaaW.PrintLast Go.Proofs.YtbkaiojofgmbnaaW.PrintMore
attribute [local go_sem] max2_int min2_int max_two min_two max_three min_three max_four min_four   -- for this text's walks alone
set_option linter.unusedVariables false
set_option linter.unusedSimpArgs false

/-! ### rules_book_ranges: function 121 -/
-- USES (*semblance/rules.book).note
/-- a struct's copy into a box that lies there -/
theorem rules_store {P : Program} {ops : Array Oper} {rest : List Oper} {o : Oper} {a : Act} {Q : Exit → Act → World → Prop} {W W0 : World} {n : Nat} (hgd : o.guard = none) (hd : o.dst = none) {cs vs : Array Value} {t : TypeId} {g : Nat} (x y : Operand) (ho : o.op = .store t x y)
    (hx : a.eval x = .pointer (some ⟨g, 0, none⟩)) (hy : a.eval y = .agg vs) (hk : W.heap[g]? = some (.cells cs t (0, 0))) (hi : (P.info? t).map (·.size) = some vs.size) (hs : cs.size = vs.size) (h1 : vs.all (·.oneCell') = true) (hB : Below n W0 W) (hn : n ≤ g)
    (h : ∀ w1, w1.heap[g]? = some (.cells vs t (0, 0)) → Below n W0 w1 → wpList P ops Q rest a w1) : wpList P ops Q (o :: rest) a W := by
  refine wpList_store_row hgd t x y ho g vs hx hy t cs hk hi hs h1 ?_
  rw [hd]
  exact h _ (setRow_heap _ _ cs vs t _ hk) (below_setRow hB hn _)
/-- is a variable's range none? -/
def rules_range (x : S152) : Bool := decide (x.f1 > x.f2) || (decide (wrap64 (x.f2 - x.f1) ≥ 64) || (decide (x.f3 < x.f1) || decide (x.f3 > x.f2)))
def rules_ranges.at_ (b : rules_bk.Bk) (i : Nat) : List (S64) := if rules_range (rd_T152 b.l2 (i : Int)) = true then [⟨b.rule, (i : Int), 0⟩] else []
set_option maxHeartbeats 8000000 in
set_option maxRecDepth 100000 in
theorem rules_ranges.calls (w : World) (n₀ B : Nat) (b : rules_bk.Bk) (out : List (S64)) (vo : Value) (W : World) (hA : rules_bk.At w.heap.size n₀ W B b out vo) (hW : Below w.heap.size w W) (hr2 : Kd.C k152 w b.A2 b.l2.length b.l2)
    (hlen : (out ++ rules_all b.l2.length (rules_ranges.at_ b)).length ≤ 1000000) :
    Calls Try.prog 121 #[.pointer (some ⟨B, 0, none⟩)] W fun e W' => (∃ u, e = .returned u) ∧ (∃ vo', rules_bk.At w.heap.size n₀ W' B b (out ++ rules_all b.l2.length (rules_ranges.at_ b)) vo') ∧ rules_bk.Fr w.heap.size n₀ B W W' := by
  have hmax := Kd.C_max hr2
  have hu := Try.underlying159
  have hu2 := Try.underlying112
  have hu3 := Try.underlying152
  obtain ⟨hc0, hc1, hc2, hc3, hc4, hc5, hc6, hc7⟩ := hA.cells
  have HR := Aside0.mk hr2
  have HA := Aside0.mk hA
  have HW := Aside0.mk hW
  have HL := Aside0.mk hlen
  clear hr2 hA hW hlen hc0 hc1 hc3 hc4 hc5 hc6 hc7
  go_enter Try.func121, Try.ntmps121
  go_wp2_with fail
  clear hc2
  generalize b.A2 = A2 at *
  go_loopg [10] b.l2.length (fun kq v9 wr => ∃ (i : Nat) (vo' : Value), Aside0 (b.l2.length - i = kq) ∧ Aside0 (i ≤ b.l2.length) ∧ v9 = .int .i64 (i : Int) ∧ Aside0 (rules_bk.At w.heap.size n₀ wr B b (out ++ rules_all i (rules_ranges.at_ b)) vo') ∧ Aside0 (rules_bk.Fr w.heap.size n₀ B W wr))
  case atStart => exact ⟨0, vo, ⟨rfl⟩, ⟨Nat.zero_le _⟩, rfl, ⟨by simpa [rules_all] using HA.out⟩, ⟨rules_bk.Fr.refl _ _ _ _⟩⟩
  case round =>
    obtain ⟨i, vo', HK, HI, rfl, HAt, HFr⟩ := hrel
    by_cases hi : i < b.l2.length
    · have hlt : decide ((i : Int) < (b.l2.length : Int)) = true := decide_eq_true (by omega)
      obtain ⟨ad, e1, hx0, hx1, hx2, hx3⟩ := at_T152 (Kd.C_below HR.out (HW.out.trans HFr.out.bel)) (i : Int) (by omega) (by omega)
      subst e1
      rw [Int.toNat_natCast] at hx0 hx1 hx2 hx3
      have hle : (out ++ rules_all i (rules_ranges.at_ b)).length ≤ 1000000 := by
        have h1 := HL.out
        have h2 := rules_all_le (rules_ranges.at_ b) HI.out
        rw [List.length_append] at h1 ⊢
        omega
      have hat : rules_ranges.at_ b i = if rules_range (rd_T152 b.l2 (i : Int)) = true then [⟨b.rule, (i : Int), 0⟩] else [] := rfl
      generalize rd_T152 b.l2 (i : Int) = x at *
      have HX := Aside0.mk hat
      have HLE := Aside0.mk hle
      unfold rules_range at hat
      cases hq1 : decide (x.f1 > x.f2) <;> cases hq2 : decide (wrap64 (x.f2 - x.f1) ≥ 64) <;> cases hq3 : decide (x.f3 < x.f1) <;> cases hq4 : decide (x.f3 > x.f2) <;>
        (rw [hq1, hq2, hq3, hq4] at hat
         simp only [Bool.or_true, Bool.or_false, Bool.true_or, Bool.false_or, if_true, Bool.false_eq_true, if_false] at hat
         have HAT := Aside0.mk hat
         clear hat hle
         go_wp2_with (first
          | ((with_reducible refine gate_dst (N := 3) rfl ?_); refine box_event ?hg (N := 3) ?hd (cs := #[.string (⟨#[]⟩ : ByteArray), .int .i64 0, .int .i64 0, .int .i64 0]) (t := 152) ?hr ?_; (case hd => rfl); (case hg => rfl); (case hr => first | (go_simp; done) | (go_simp; rfl)); intro g hg w1 hbox hb; have HGE := Aside0.mk (Nat.le_of_eq hg.symm); clear hg)
          | (refine rules_store (n := wr.heap.size) (W0 := wr) (vs := #[.string x.f0, .int .i64 x.f1, .int .i64 x.f2, .int .i64 x.f3]) rfl rfl (.tmp 3) (.tmp 14) rfl rfl rfl hbox (by kernel_rfl) rfl (by simp [Value.oneCell']) hb HGE.out ?_; intro w2 hbox2 hb2; have HA2 := Aside0.mk (HAt.out.below hb2); have HF2 := Aside0.mk (HAt.out.fr hb2); obtain ⟨hz0, hz1, hz2, hz3⟩ := cz4_ hbox2; clear hbox hb hbox2 hb2)
          | (go_at_call 150; refine (rules_bk.note w.heap.size n₀ B b _ vo' _ (i : Int) 0 w2 HA2.out HLE.out).mono ?_; rintro e w3 ⟨⟨u, rfl⟩, ⟨vo3, hA3⟩, hF3⟩; have HA3 := Aside0.mk hA3; have HF3 := Aside0.mk hF3; clear hA3 hF3))
         go_roundg (b.l2.length - (i + 1))
         case measure => have := HK.out; omega
         case rel => exact ⟨i + 1, vo3, ⟨rfl⟩, ⟨hi⟩, by go_num, ⟨by rw [rules_all_succ, ← List.append_assoc, HAT.out]; simpa using HA3.out⟩, ⟨HFr.out.trans (HF2.out.trans HF3.out)⟩⟩)
    · have hlt : decide ((i : Int) < (b.l2.length : Int)) = false := decide_eq_false (by omega)
      have hil : i = b.l2.length := by have := HI.out; omega
      have HIL := Aside0.mk hil
      clear hil
      go_wp2
      go_end0
      exact ⟨⟨_, rfl⟩, ⟨vo', by rw [HIL.out] at HAt; exact HAt.out⟩, HFr.out⟩


/-! ### rules_open: function 119 -/
-- USES (*semblance/rules.book).ranges
theorem rules_open.info : (Try.prog.info? 9).map (fun i => (i.zero, i.size, i.bytes)) = some (some (.string ⟨#[]⟩), 1, 16) := by kernel_rfl
set_option maxHeartbeats 8000000 in
set_option maxRecDepth 100000 in
theorem rules_open.calls (a0 : ByteArray) (A1 : Option Addr) (c1 : Nat) (l1 : List ByteArray) (A2 : Option Addr) (c2 : Nat) (l2 : List (S152)) (A3 : Option Addr) (c3 : Nat) (l3 : List (S108)) (rule : Int) (w : World) (hr2 : Kd.C k152 w A2 l2.length l2) (hr3 : Kd.C k108 w A3 l3.length l3) (h2 : l2.length ≤ 100000) (h3 : l3.length ≤ 100000) :
    Calls Try.prog 119 #[.agg #[.string a0, .slice A1 l1.length c1, .slice A2 l2.length c2, .slice A3 l3.length c3], .int .i64 rule] w fun e W => ∃ B AV cV AS cS, e = .returned (.pointer (some ⟨B, 0, none⟩)) ∧ rules_bk.At w.heap.size W.heap.size W B ⟨a0, A1, c1, l1, A2, c2, l2, A3, c3, l3, AV, cV, l2.map (fun x => x.f0), AS, cS, l3.map (fun x => x.f0), rule⟩ [] (.slice none 0 0) ∧ Below w.heap.size w W := by
  have hu := Try.underlying159
  have hu2 := Try.underlying112
  have hu3 := Try.underlying152
  have hu4 := Try.underlying108
  have HR2 := Aside0.mk hr2
  have HR3 := Aside0.mk hr3
  have HLN := Aside0.mk (And.intro h2 h3)
  clear hr2 hr3 h2 h3
  go_enter Try.func119, Try.ntmps119
  go_wp2_with fail
  have hk := heap_alloc_new (w.alloc (.cells #[.string a0, .slice A1 l1.length c1, .slice A2 l2.length c2, .slice A3 l3.length c3] 112)) (.cells #[.string a0, .slice A1 l1.length c1, .slice A2 l2.length c2, .slice A3 l3.length c3, .slice none 0 0, .slice none 0 0, .int .i64 rule, .slice none 0 0] 159)
  have hkc := blk_alloc (heap_alloc_new w (.cells #[.string a0, .slice A1 l1.length c1, .slice A2 l2.length c2, .slice A3 l3.length c3] 112)) (.cells #[.string a0, .slice A1 l1.length c1, .slice A2 l2.length c2, .slice A3 l3.length c3, .slice none 0 0, .slice none 0 0, .int .i64 rule, .slice none 0 0] 159)
  rw [World.size_alloc] at hk
  have HB0 := Aside0.mk (show Below w.heap.size w ((w.alloc (.cells #[.string a0, .slice A1 l1.length c1, .slice A2 l2.length c2, .slice A3 l3.length c3] 112)).alloc (.cells #[.string a0, .slice A1 l1.length c1, .slice A2 l2.length c2, .slice A3 l3.length c3, .slice none 0 0, .slice none 0 0, .int .i64 rule, .slice none 0 0] 159)) from ((Below.refl _ _).alloc (Nat.le_refl _) _).alloc (by simp) _)
  have HBB := Aside0.mk (show w.heap.size < w.heap.size + 1 from Nat.lt_succ_self _)
  generalize (w.alloc (.cells #[.string a0, .slice A1 l1.length c1, .slice A2 l2.length c2, .slice A3 l3.length c3] 112)).alloc (.cells #[.string a0, .slice A1 l1.length c1, .slice A2 l2.length c2, .slice A3 l3.length c3, .slice none 0 0, .slice none 0 0, .int .i64 rule, .slice none 0 0] 159) = we at *
  generalize w.heap.size + 1 = B at *
  have HK := Aside0.mk hk
  have HKC := Aside0.mk hkc
  have hm2 := Kd.C_max HR2.out
  have hm3 := Kd.C_max HR3.out
  clear hk hkc
  go_loopg [17] l2.length (fun kq v9 wr => ∃ (i : Nat) (AV : Option Addr) (cV : Nat), Aside0 (l2.length - i = kq) ∧ Aside0 (i ≤ l2.length) ∧ v9 = .int .i64 (i : Int) ∧ Aside0 (wr.heap[B]? = some (.cells #[.string a0, .slice A1 l1.length c1, .slice A2 l2.length c2, .slice A3 l3.length c3, (.slice AV ((l2.take i).map (fun x => x.f0)).length cV), .slice none 0 0, .int .i64 rule, .slice none 0 0] 159 (0, 0))) ∧ Aside0 (wr.heap[w.heap.size]? = some (.cells #[.string a0, .slice A1 l1.length c1, .slice A2 l2.length c2, .slice A3 l3.length c3] 112 (0, 0))) ∧ Aside0 (Kd.R Kd.string 9 wr w.heap.size (fun k => k ≠ B) (.slice AV ((l2.take i).map (fun x => x.f0)).length cV) ((l2.take i).map (fun x => x.f0))) ∧ Aside0 (Below w.heap.size w wr) ∧ Aside0 (B < wr.heap.size))
  case atStart => exact ⟨0, none, 0, ⟨rfl⟩, ⟨Nat.zero_le _⟩, rfl, HK, HKC, ⟨Kd.R_nil _ _ _ _ _⟩, HB0, ⟨blk_lt HK.out⟩⟩
  case round =>
    obtain ⟨i, AV, cV, HKQ, HI, rfl, HBK, HKC2, HO, HB, HSB⟩ := hrel
    by_cases hi : i < l2.length
    · have hlt : decide ((i : Int) < (l2.length : Int)) = true := decide_eq_true (by omega)
      obtain ⟨ad, e1, hx0, hx1, hx2, hx3⟩ := at_T152 HR2.out (i : Int) (by omega) (by omega)
      subst e1
      rw [Int.toNat_natCast] at hx0 hx1 hx2 hx3
      replace hx0 := pw_cell_below HB.out hx0
      replace hx1 := pw_cell_below HB.out hx1
      replace hx2 := pw_cell_below HB.out hx2
      replace hx3 := pw_cell_below HB.out hx3
      have hxs : (l2.take (i + 1)).map (fun x => x.f0) = (l2.take i).map (fun x => x.f0) ++ [(rd_T152 l2 (i : Int)).f0] := by
        rw [List.take_succ_eq_append_getElem hi, List.map_append]
        simp [rd_T152, hi]
      have hxl : ((l2.take i).map (fun x => x.f0)).length = i := by rw [List.length_map, List.length_take]; omega
      generalize rd_T152 l2 (i : Int) = x at *
      generalize hxs0 : (l2.take i).map (fun x => x.f0) = xs at *
      clear hxs0
      have HXS := Aside0.mk hxs
      have HXL := Aside0.mk hxl
      clear hxs hxl
      go_wp2_with (first | ((with_reducible refine gate_dst (N := 7) rfl ?_); refine box_event ?hg (N := 7) ?hd (cs := #[.string (⟨#[]⟩ : ByteArray), .int .i64 0, .int .i64 0, .int .i64 0]) (t := 152) ?hr ?_; (case hd => rfl); (case hg => rfl); (case hr => first | (go_simp; done) | (go_simp; rfl)); intro g hg w1 hbox hb; have HGE := Aside0.mk (Nat.le_of_eq hg.symm); clear hg) | (refine rules_store (n := wr.heap.size) (W0 := wr) (vs := #[.string x.f0, .int .i64 x.f1, .int .i64 x.f2, .int .i64 x.f3]) rfl rfl (.tmp 7) (.tmp 20) rfl rfl rfl hbox (by kernel_rfl) rfl (by simp [Value.oneCell']) hb HGE.out ?_; intro w2 hbox2 hb2; have HBK2 := Aside0.mk (blk_below HBK.out hb2); have HKC3 := Aside0.mk (blk_below HKC2.out hb2); have HO2 := Aside0.mk (Kd.R_below HO.out hb2); have HB2 := Aside0.mk (below_step HB.out hb2); obtain ⟨hz0, hz1, hz2, hz3⟩ := cz4_ hbox2; clear hbox hb hbox2 hb2))
      have hc2 := (blk_cell HBK2.out 4).trans rfl
      have hf2 := blk_frozen HBK2.out 4
      have hc2a : (w2.alloc (.cells #[.string x.f0] 9)).cell? ⟨B, 4, none⟩ = some (.slice AV xs.length cV) := (blk_cell (blk_alloc HBK2.out _) 4).trans rfl
      have HLB := Aside0.mk (show ∀ k, w2.drew.heap.size ≤ k → k ≠ B from fun k hk => Nat.ne_of_gt (Nat.lt_of_lt_of_le (blk_lt HBK2.out) hk))
      have HSZ := Aside0.mk (show w.heap.size ≤ w2.drew.heap.size from HB2.out.size)
      go_region_law (refine Kd.R_append_step Kd.string (W := w2.drew) (w0 := w) w.heap.size (by rfl) (.tmp 25) (.tmp 28) 22 9 (.string ⟨#[]⟩) 16 rfl Try.underlying22 rules_open.info rfl (by decide) (by omega) (.slice AV (xs).length cV) (xs) x.f0 [.string x.f0] (fun k => k ≠ B) (fun _ => False) rfl rfl rfl (fun _ hk => hk.elim) (fun k hk => HLB.out k hk) (Kd.R_drew HO2.out) (below_drew HB2.out) HSZ.out (by have := HLN.out; have := HXL.out; omega) ?_; intro v1 w3 ho hb hg hat; obtain ⟨A9, c9, rfl⟩ := Kd.R_slice ho; have HO := Aside0.mk ho; have HB3 := Aside0.mk hb; have HG := Aside0.mk hg; have HBK3 := Aside0.mk (blk_grown (w := w2.drew) HBK2.out hg (Kd.R_away HO2.out (fun k hk => hk))); have hk7 := (blk_cell HBK3.out 4).trans rfl; have hf73 := blk_frozen HBK3.out 4; clear ho hb hg hat)
      all_goals
        go_wp2
        have hbk4 := blk_put HBK3.out 4 (.slice A9 (xs ++ [x.f0]).length c9) rfl
        have hkc4 := (Below.heap_setCell w3 ⟨B, 4, none⟩ (.slice A9 (xs ++ [x.f0]).length c9) w.heap.size (Nat.ne_of_lt HBB.out)).trans (blk_grown (w := w2.drew) HKC3.out HG.out (fun e => by have h1 := Kd.R_typed (w := w2) HO2.out w.heap.size e.symm; obtain ⟨cells, h1⟩ := h1; rw [HKC3.out] at h1; simp at h1))
        have ho4 := Kd.R_far HO.out (p := ⟨B, 4, none⟩) (fun k hk => hk) (.slice A9 (xs ++ [x.f0]).length c9)
        have hb4 := below_set (g := B) (j := 4) (v := .slice A9 (xs ++ [x.f0]).length c9) HB3.out (Nat.le_of_lt HBB.out)
        rw [← HXS.out] at hbk4 ho4 hkc4 hb4
        have hl9 : ((l2.take (i + 1)).map (fun x => x.f0)).length = xs.length + 1 := by rw [HXS.out]; simp
        rw [hl9] at hbk4 ho4 hkc4 hb4
        have HBK4 := Aside0.mk hbk4
        have HKC4 := Aside0.mk hkc4
        have HO4 := Aside0.mk ho4
        have HB4 := Aside0.mk hb4
        have HL9 := Aside0.mk hl9
        clear hbk4 hkc4 ho4 hb4 hl9
        go_roundg (l2.length - (i + 1))
        case measure => have := HKQ.out; omega
        case rel => exact ⟨i + 1, A9, c9, ⟨rfl⟩, ⟨hi⟩, by go_num, ⟨by rw [HL9.out]; exact HBK4.out⟩, HKC4, ⟨by rw [HL9.out]; exact HO4.out⟩, HB4, ⟨blk_lt HBK4.out⟩⟩
    · have hlt : decide ((i : Int) < (l2.length : Int)) = false := decide_eq_false (by omega)
      have hil : i = l2.length := by have := HI.out; omega
      subst hil
      rw [List.take_length] at HO HBK
      have HOV := Aside0.mk (Kd.R_mono (Kd.R_bound HO.out) (fun k hk => (⟨hk.2.2.1, hk.1⟩ : k < wr.heap.size ∧ k ≠ B)))
      generalize hxv : l2.map (fun x => x.f0) = xv at *
      have HXV := Aside0.mk hxv
      clear hxv
      obtain ⟨hd0, hd1, hd2, hd3⟩ := cz4_ HKC2.out
      obtain ⟨N, hN⟩ : ∃ N, N = wr.heap.size := ⟨_, rfl⟩
      rw [← hN] at HOV HSB
      have HNS := Aside0.mk (Nat.le_of_eq hN)
      have HNB := Aside0.mk (show w.heap.size ≤ N by rw [hN]; exact HB.out.size)
      clear hN HO HKC2
      go_wp2_with fail
      clear hd0 hd1 hd2 hd3
      go_loopg [36] l3.length (fun kq v9 wr => ∃ (i : Nat) (AS : Option Addr) (cS : Nat), Aside0 (l3.length - i = kq) ∧ Aside0 (i ≤ l3.length) ∧ v9 = .int .i64 (i : Int) ∧ Aside0 (wr.heap[B]? = some (.cells #[.string a0, .slice A1 l1.length c1, .slice A2 l2.length c2, .slice A3 l3.length c3, (.slice AV xv.length cV), (.slice AS ((l3.take i).map (fun x => x.f0)).length cS), .int .i64 rule, .slice none 0 0] 159 (0, 0))) ∧ Aside0 (Kd.R Kd.string 9 wr w.heap.size (fun k => k < N ∧ k ≠ B) (.slice AV xv.length cV) xv) ∧ Aside0 (Kd.R Kd.string 9 wr N (fun k => k ≠ B) (.slice AS ((l3.take i).map (fun x => x.f0)).length cS) ((l3.take i).map (fun x => x.f0))) ∧ Aside0 (Below w.heap.size w wr) ∧ Aside0 (N ≤ wr.heap.size))
      case atStart => exact ⟨0, none, 0, ⟨rfl⟩, ⟨Nat.zero_le _⟩, rfl, HBK, HOV, ⟨Kd.R_nil _ _ _ _ _⟩, HB, HNS⟩
      case round =>
        obtain ⟨i, AS, cS, HKQ, HI2, rfl, HBK, HV, HO, HB, HSN⟩ := hrel
        by_cases hi : i < l3.length
        · have hlt : decide ((i : Int) < (l3.length : Int)) = true := decide_eq_true (by omega)
          obtain ⟨ad, B3, d3, B4, d4, B5, d5, e1, hx0, hx1, hx2, hx3, hx4, hx5, _⟩ := at_T108 HR3.out (i : Int) (by omega) (by omega)
          subst e1
          rw [Int.toNat_natCast] at hx0 hx1 hx2 hx3 hx4 hx5
          replace hx0 := pw_cell_below HB.out hx0
          replace hx1 := pw_cell_below HB.out hx1
          replace hx2 := pw_cell_below HB.out hx2
          replace hx3 := pw_cell_below HB.out hx3
          replace hx4 := pw_cell_below HB.out hx4
          replace hx5 := pw_cell_below HB.out hx5
          have hxs : (l3.take (i + 1)).map (fun x => x.f0) = (l3.take i).map (fun x => x.f0) ++ [(rd_T108 l3 (i : Int)).f0] := by
            rw [List.take_succ_eq_append_getElem hi, List.map_append]
            simp [rd_T108, hi]
          have hxl : ((l3.take i).map (fun x => x.f0)).length = i := by rw [List.length_map, List.length_take]; omega
          generalize rd_T108 l3 (i : Int) = x at *
          generalize hxs0 : (l3.take i).map (fun x => x.f0) = xs at *
          clear hxs0
          have HXS := Aside0.mk hxs
          have HXL := Aside0.mk hxl
          clear hxs hxl
          go_wp2_with (first | ((with_reducible refine gate_dst (N := 9) rfl ?_); refine box_event ?hg (N := 9) ?hd (cs := #[.string (⟨#[]⟩ : ByteArray), .int .i64 0, .int .i64 0, .slice none 0 0, .slice none 0 0, .slice none 0 0]) (t := 108) ?hr ?_; (case hd => rfl); (case hg => rfl); (case hr => first | (go_simp; done) | (go_simp; rfl)); intro g hg w1 hbox hb; have HGE := Aside0.mk (Nat.le_of_eq hg.symm); clear hg) | (refine rules_store (n := wr.heap.size) (W0 := wr) (vs := #[.string x.f0, .int .i64 x.f1, .int .i64 x.f2, .slice B3 x.f3.length d3, .slice B4 x.f4.length d4, .slice B5 x.f5.length d5]) rfl rfl (.tmp 9) (.tmp 39) rfl rfl rfl hbox (by kernel_rfl) rfl (by simp [Value.oneCell']) hb HGE.out ?_; intro w2 hbox2 hb2; have HBK2 := Aside0.mk (blk_below HBK.out hb2); have HV2 := Aside0.mk (Kd.R_below HV.out hb2); have HO2 := Aside0.mk (Kd.R_below HO.out hb2); have HB2 := Aside0.mk (below_step HB.out hb2); have HSN2 := Aside0.mk (Nat.le_trans HSN.out hb2.size); obtain ⟨hz0, hz1, hz2, hz3, hz4, hz5⟩ := cz6_ hbox2; clear hbox hb hbox2 hb2))
          have hc2 := (blk_cell HBK2.out 5).trans rfl
          have hf2 := blk_frozen HBK2.out 5
          have hc2a : (w2.alloc (.cells #[.string x.f0] 9)).cell? ⟨B, 5, none⟩ = some (.slice AS xs.length cS) := (blk_cell (blk_alloc HBK2.out _) 5).trans rfl
          have HLB := Aside0.mk (show ∀ k, w2.drew.heap.size ≤ k → k ≠ B from fun k hk => Nat.ne_of_gt (Nat.lt_of_lt_of_le (blk_lt HBK2.out) hk))
          have HSZ := Aside0.mk (show N ≤ w2.drew.heap.size from HSN2.out)
          go_region_law (refine Kd.R_append_step Kd.string (W := w2.drew) (w0 := w2) N (by rfl) (.tmp 44) (.tmp 47) 22 9 (.string ⟨#[]⟩) 16 rfl Try.underlying22 rules_open.info rfl (by decide) (by omega) (.slice AS xs.length cS) (xs) x.f0 [.string x.f0] (fun k => k ≠ B) (fun _ => False) rfl rfl rfl (fun _ hk => hk.elim) (fun k hk => HLB.out k hk) (Kd.R_drew HO2.out) (below_drew (Below.refl _ _)) HSZ.out (by have := HLN.out; have := HXL.out; omega) ?_; intro v1 w3 ho hb hg hat; obtain ⟨A9, c9, rfl⟩ := Kd.R_slice ho; have HO := Aside0.mk ho; have HB3 := Aside0.mk hb; have HG := Aside0.mk hg; have HBK3 := Aside0.mk (blk_grown (w := w2.drew) HBK2.out hg (Kd.R_away HO2.out (fun k hk => hk))); have hk7 := (blk_cell HBK3.out 5).trans rfl; have hf73 := blk_frozen HBK3.out 5; clear ho hb hg hat)
          all_goals
            go_wp2
            have hbk4 := blk_put HBK3.out 5 (.slice A9 (xs ++ [x.f0]).length c9) rfl
            have hv4 := Kd.R_far (Kd.R_grown (w := w2.drew) (Kd.R_drew HV2.out) HG.out (fun k hk e => by have h1 := Kd.R_base HO2.out k e.symm; exact absurd hk.1 (Nat.not_lt.2 h1))) (p := ⟨B, 5, none⟩) (fun k hk => hk.2) (.slice A9 (xs ++ [x.f0]).length c9)
            have ho4 := Kd.R_far HO.out (p := ⟨B, 5, none⟩) (fun k hk => hk) (.slice A9 (xs ++ [x.f0]).length c9)
            have hb4 := below_set (g := B) (j := 5) (v := .slice A9 (xs ++ [x.f0]).length c9) (HB2.out.trans (HB3.out.mono HNB.out)) (Nat.le_of_lt HBB.out)
            have hn4 : N ≤ (w3.setCell ⟨B, 5, none⟩ (.slice A9 (xs ++ [x.f0]).length c9)).heap.size := Nat.le_trans HSN2.out (Nat.le_trans HG.out.size (by simp [World.setCell]))
            rw [← HXS.out] at hbk4 ho4 hv4 hb4 hn4
            have hl9 : ((l3.take (i + 1)).map (fun x => x.f0)).length = xs.length + 1 := by rw [HXS.out]; simp
            rw [hl9] at hbk4 ho4 hv4 hb4 hn4
            have HBK4 := Aside0.mk hbk4
            have HV4 := Aside0.mk hv4
            have HO4 := Aside0.mk ho4
            have HB4 := Aside0.mk hb4
            have HN4 := Aside0.mk hn4
            have HL9 := Aside0.mk hl9
            clear hbk4 hv4 ho4 hb4 hn4 hl9
            go_roundg (l3.length - (i + 1))
            case measure => have := HKQ.out; omega
            case rel => exact ⟨i + 1, A9, c9, ⟨rfl⟩, ⟨hi⟩, by go_num, ⟨by rw [HL9.out]; exact HBK4.out⟩, HV4, ⟨by rw [HL9.out]; exact HO4.out⟩, HB4, HN4⟩
        · have hlt : decide ((i : Int) < (l3.length : Int)) = false := decide_eq_false (by omega)
          have hil : i = l3.length := by have := HI2.out; omega
          subst hil
          rw [List.take_length] at HO HBK
          have HDN := Aside0.mk (show rules_bk.At w.heap.size wr.heap.size wr B ⟨a0, A1, c1, l1, A2, c2, l2, A3, c3, l3, AV, cV, xv, AS, cS, l3.map (fun x => x.f0), rule⟩ [] (.slice none 0 0) from ⟨HBK.out, Kd.R_nil _ _ _ _ _, Kd.R_mono HV.out (fun k hk => ⟨Nat.lt_of_lt_of_le hk.1 HSN.out, hk.2⟩), Kd.R_lower (Kd.R_mono (Kd.R_bound HO.out) (fun k hk => ⟨hk.2.2.1, hk.1⟩)) HNB.out, Nat.le_of_lt HBB.out, blk_lt HBK.out, Nat.le_refl _⟩)
          go_wp2
          go_ret
          exact ⟨B, _, _, _, _, rfl, by rw [HXV.out]; exact HDN.out, HB.out⟩


/-! ### names_Twins: function 149 -/
def names_Twins.f (l0 : List ByteArray) : Option (List Int) := if l0.length ≤ 1000000 then (if (l0.all fun s => decide (s.size ≤ 1000000)) = true then some (Go.Proofs.Ytbkaiojofgmbnaa.XNamesPlain.twinsF l0) else none) else none
theorem names_Twins.law : Go.Maps.Keyed Try.prog 9 := Go.Maps.string_keyed Try.underlying9
theorem names_Twins.zeroE (w : World) : (zeroValue 3).run Try.prog w = .ok (.int .i64 0) w := by kernel_rfl
theorem names_Twins.info8 : (Try.prog.info? 3).map (fun i => (i.zero, i.size, i.bytes)) = some (some (.int .i64 0), 1, 8) := by kernel_rfl
/-- the loop's relation but for its slots -/
def names_Twins.Rel (W : World) (g i : Nat) (v : Value) (l : List (List UInt8)) : Prop :=
  (∃ D : DataW Unit, W.ownsMap Try.prog 9 (plainElem Try.prog 3) g i D ∧ Go.Proofs.Ytbkaiojofgmbnaa.XNamesPlain.Counts D l i) ∧ Kd.R (Kd.int .i64) 3 W g (fun k => k ≠ g) v (Go.Proofs.Ytbkaiojofgmbnaa.XNamesPlain.twn l i)
open Go.Proofs.Ytbkaiojofgmbnaa.XNamesPlain in
set_option maxRecDepth 100000 in
set_option maxHeartbeats 2000000 in
theorem names_Twins.calls (A0 : Option Addr) (c0 : Nat) (l0 : List ByteArray) (r : List Int) (w : World) (hr0 : Kd.C Kd.string w A0 l0.length l0) (hc0 : l0.length ≤ c0) (h : names_Twins.f l0 = some r) :
    Calls Try.prog 149 #[.slice A0 l0.length c0] w fun e w' => ∃ v0_ : Value, e = .returned v0_ ∧ Kd.R (Kd.int .i64) 3 w' w.heap.size (fun _ => True) v0_ r ∧ Below w.heap.size w w' := by
  unfold names_Twins.f at h
  split at h
  case isFalse => cases h
  case isTrue hlen =>
  split at h
  case isFalse => cases h
  case isTrue hall =>
  have HRR := Aside0.mk (Option.some.inj h)
  have HWF := Aside0.mk (List.all_eq_true.1 hall)
  have HR := Aside0.mk hr0
  clear h hall hr0
  have hmm := @run_makeMap Try.prog
  go_enter Try.func149, Try.ntmps149
  go_wp2_with fail
  go_loopg [3, 10] l0.length (fun kq v3' v10 wr' => ∃ (v3 : Value) (wr : World) (i : Nat), v3 = v3' ∧ wr = wr' ∧ Aside0 (l0.length - i = kq) ∧ Aside0 (i ≤ l0.length) ∧ v10 = .int .i64 (i : Int) ∧ Aside0 (names_Twins.Rel wr w.heap.size i v3 (l0.map bts)) ∧ Aside0 (Below w.heap.size w wr))
  case atStart => exact ⟨_, _, 0, rfl, rfl, ⟨rfl⟩, ⟨Nat.zero_le _⟩, rfl, ⟨⟨⟨_, World.ownsMap_made _ _ _ _, Counts.empty _⟩, Kd.R_nil _ _ _ _ _⟩⟩, ⟨(Below.refl _ _).alloc (Nat.le_refl _) _⟩⟩
  case round =>
    obtain ⟨v3, wr, i, rfl, rfl, HK, HI, rfl, HREL, HB⟩ := hrel
    by_cases hi : i < l0.length
    · have hlt : decide ((i : Int) < (l0.length : Int)) = true := decide_eq_true (by omega)
      have hC := Kd.C_below HR.out HB.out
      obtain ⟨ad, e1, hx0⟩ := Kd.at_string hC (i : Int) (by omega) (by omega)
      subst e1
      rw [Int.toNat_natCast] at hx0
      have hxl : rdOf ByteArray.empty l0 (i : Int) = l0[i] := by simp [rdOf, hi]
      have hmem : rdOf ByteArray.empty l0 (i : Int) ∈ l0 := by rw [hxl]; exact List.getElem_mem hi
      have hwf : (rdOf ByteArray.empty l0 (i : Int)).size ≤ maxLen := by have := HWF.out _ hmem; simp only [decide_eq_true_eq] at this; unfold maxLen; omega
      have hbx : bts (rdOf ByteArray.empty l0 (i : Int)) = (l0.map bts).getD i [] := by rw [hxl]; simp [List.getD, hi]
      have hkey := Go.WideMaps.keyOf_string_mk (P := Try.prog) Try.underlying9 hwf
      obtain ⟨⟨D, hD, hG⟩, hO⟩ := HREL.out
      have hts := twn_succ (l0.map bts) i
      have htl := twn_length (l0.map bts) i
      have hml : i < (l0.map bts).length := by rw [List.length_map]; exact hi
      have hG2 := hG.put hml
      have hcl := List.count_le_length (a := (l0.map bts).getD i []) (l := (l0.map bts).take i)
      rw [List.length_take, Nat.min_eq_left (by omega)] at hcl
      have hcm : (l0.map bts).getD i [] ∈ (l0.map bts).take i ↔ 0 < ((l0.map bts).take i).count ((l0.map bts).getD i []) := List.count_pos_iff.symm
      have hat1 := hG.2 ((l0.map bts).getD i [])
      have hat2 : (D.put (.string ((l0.map bts).getD i [])) (.lit (.int .i64 ((((l0.map bts).take i).count ((l0.map bts).getD i []) : Nat) + 1 : Int)))).atKey (.string ((l0.map bts).getD i [])) (.lit (.int .i64 0)) = _ := Go.Maps.atKey_put_same hG.1 (show WideAt.IsKeyLit (.string _) from trivial) _ _
      rw [← hbx] at hts hG2 hcl hcm hat1 hat2
      have HG := Aside0.mk hG
      generalize hxx : rdOf ByteArray.empty l0 (i : Int) = x at *
      generalize hcc : ((l0.map bts).take i).count (bts x) = cn at *
      have HTS := Aside0.mk hts
      have HG2 := Aside0.mk hG2
      have HKEY : Aside0 (Go.keyOf Try.prog 9 (.string x) = some (.string (bts x))) := ⟨hkey⟩
      have HAT1 := Aside0.mk hat1
      have HAT2 := Aside0.mk hat2
      have HO := Aside0.mk hO
      have HCM := Aside0.mk hcm
      have hwl : (Lit.int .i64 ((cn : Int) + 1)).wf = true := WalkArith.wf_i64 (by omega)
      have HWL := Aside0.mk hwl
      clear hmem hC hxl hwf hbx hkey hG hO hts hml hG2 hat1 hat2 hxx hcc hcm hwl HREL
      generalize hns : twn (l0.map bts) i = nums at *
      have HNS := Aside0.mk hns
      clear hns
      obtain ⟨A3, c3, e3⟩ := Kd.R_slice HO.out
      subst e3
      have hgl := Go.Proofs.Ytbkaiojofgmbnaa.XNumber.lt hD
      have HD := Aside0.mk hD
      by_cases hin : 0 < cn
      · have dt : decide ((1 : Int) < (cn : Int) + 1) = true := decide_eq_true (by omega)
        have hstep : Aside0 (twn (l0.map bts) (i + 1) = nums ++ [(i : Int)]) := ⟨by rw [HTS.out, if_pos (HCM.out.2 hin)]⟩
        go_wp2_with (first
          | (at_lookup; refine wpList_lookup_own_int _ rfl _ _ 205 rfl 9 3 .i64 names_Twins.law Try.underlying205 Try.underlying3 (names_Twins.zeroE _) w.heap.size i D rfl hD _ _ rfl HKEY.out ?_; intro c hat hwc; obtain rfl : c = _ := Go.Proofs.Ytbkaiojofgmbnaa.XNumber.inj (hat.symm.trans HAT1.out); clear hat)
          | (at_mapUpdate; refine wpList_mapUpdate_own _ rfl _ _ _ 205 rfl 9 3 names_Twins.law Try.underlying205 _ w.heap.size i _ rfl hD (by unfold maxLen; omega) _ _ _ rfl rfl HKEY.out _ [] (plainElem_int Try.underlying3 HWL.out) ?_; intro w1 hown1 hgrow1; clear hD)
          | (at_lookup; refine wpList_lookup_own_int _ rfl _ _ 205 rfl 9 3 .i64 names_Twins.law Try.underlying205 Try.underlying3 (names_Twins.zeroE _) w.heap.size (i + 1) _ rfl hown1 _ _ rfl HKEY.out ?_; intro c hat hwc; obtain rfl : c = _ := Go.Proofs.Ytbkaiojofgmbnaa.XNumber.inj (hat.symm.trans HAT2.out); clear hat)
          | ((with_reducible refine gate_builtin (b := .append) (xs := #[.tmp 23, .tmp 25]) rfl ?_); at_builtin; refine Kd.R_append (Kd.int .i64) (w0 := w) w.heap.size rfl (.tmp 23) (.tmp 25) 90 3 (.int .i64 0) 8 rfl Try.underlying90 names_Twins.info8 rfl (by decide) (by omega) (.slice A3 nums.length c3) nums (i : Int) [.int .i64 (i : Int)] (fun k => k ≠ w.heap.size) (fun _ => False) rfl rfl ?aP (fun _ hk => hk.elim) ?aF ?aO ?aB ?aS ?aL ?aK))
        case aP => exact rfl
        case aF => intro k hk e; have := hgrow1.size; omega
        case aO => exact Kd.R_grown HO.out hgrow1 (fun k hk e => hk (by injection e))
        case aB => exact HB.out.grown hgrow1 HB.out.size (fun j hj => by cases hj; exact Nat.le_refl _)
        case aS => exact Nat.le_trans HB.out.size hgrow1.size
        case aL => omega
        case aK =>
          intro v1 w3 ho hb hg hat
          have hO1 : Kd.R (Kd.int .i64) 3 w1 w.heap.size (fun k => k ≠ w.heap.size) (.slice A3 nums.length c3) nums := Kd.R_grown HO.out hgrow1 (fun k hk e => hk (by injection e))
          have hne : w3.heap[w.heap.size]? = w1.heap[w.heap.size]? := hg.block _ (Go.Proofs.Ytbkaiojofgmbnaa.XNumber.lt hown1) (fun e => (hO1.1 _ e.symm) rfl)
          have HREL2 : Aside0 (names_Twins.Rel w3 w.heap.size (i + 1) v1 (l0.map bts)) := ⟨⟨⟨_, Go.Proofs.Ytbkaiojofgmbnaa.XNumber.stay hown1 hne, HG2.out⟩, by rw [hstep.out]; exact ho⟩⟩
          have HB3 := Aside0.mk hb
          clear ho hb hg hat hne hO1 hown1 hgrow1
          go_wp2
          go_roundg (l0.length - (i + 1))
          case measure => have := HK.out; omega
          case rel => exact ⟨_, _, i + 1, rfl, rfl, ⟨rfl⟩, ⟨hi⟩, by go_num, HREL2, HB3⟩
      · have dt : decide ((1 : Int) < (cn : Int) + 1) = false := decide_eq_false (by omega)
        have hstep : Aside0 (twn (l0.map bts) (i + 1) = nums) := ⟨by rw [HTS.out, if_neg (fun h_ => hin (HCM.out.1 h_)), List.append_nil]⟩
        go_wp2_with (first
          | (at_lookup; refine wpList_lookup_own_int _ rfl _ _ 205 rfl 9 3 .i64 names_Twins.law Try.underlying205 Try.underlying3 (names_Twins.zeroE _) w.heap.size i D rfl hD _ _ rfl HKEY.out ?_; intro c hat hwc; obtain rfl : c = _ := Go.Proofs.Ytbkaiojofgmbnaa.XNumber.inj (hat.symm.trans HAT1.out); clear hat)
          | (at_mapUpdate; refine wpList_mapUpdate_own _ rfl _ _ _ 205 rfl 9 3 names_Twins.law Try.underlying205 _ w.heap.size i _ rfl hD (by unfold maxLen; omega) _ _ _ rfl rfl HKEY.out _ [] (plainElem_int Try.underlying3 HWL.out) ?_; intro w1 hown1 hgrow1; clear hD)
          | (at_lookup; refine wpList_lookup_own_int _ rfl _ _ 205 rfl 9 3 .i64 names_Twins.law Try.underlying205 Try.underlying3 (names_Twins.zeroE _) w.heap.size (i + 1) _ rfl hown1 _ _ rfl HKEY.out ?_; intro c hat hwc; obtain rfl : c = _ := Go.Proofs.Ytbkaiojofgmbnaa.XNumber.inj (hat.symm.trans HAT2.out); clear hat))
        have hO1 : Kd.R (Kd.int .i64) 3 w1 w.heap.size (fun k => k ≠ w.heap.size) (.slice A3 nums.length c3) nums := Kd.R_grown HO.out hgrow1 (fun k hk e => hk (by injection e))
        have HREL2 : Aside0 (names_Twins.Rel w1 w.heap.size (i + 1) (.slice A3 nums.length c3) (l0.map bts)) := ⟨⟨⟨_, hown1, HG2.out⟩, by rw [hstep.out]; exact hO1⟩⟩
        have HB3 : Aside0 (Below w.heap.size w w1) := ⟨HB.out.grown hgrow1 HB.out.size (fun j hj => by cases hj; exact Nat.le_refl _)⟩
        clear hO1 hown1 hgrow1
        go_roundg (l0.length - (i + 1))
        case measure => have := HK.out; omega
        case rel => exact ⟨_, _, i + 1, rfl, rfl, ⟨rfl⟩, ⟨hi⟩, by go_num, HREL2, HB3⟩
    · have hlt : decide ((i : Int) < (l0.length : Int)) = false := decide_eq_false (by omega)
      have hil : i = l0.length := by have := HI.out; omega
      have HO := Aside0.mk HREL.out.2
      rw [hil] at HO
      have hres : twn (l0.map bts) l0.length = r := HRR.out
      rw [hres] at HO
      clear hil hres
      go_wp2_with fail
      go_ret
      exact ⟨_, rfl, Kd.R_mono HO.out (fun _ _ => trivial), HB.out⟩


/-! ### rules_book_twins: function 120 -/
-- USES semblance/names.Twins
-- USES (*semblance/rules.book).note
set_option maxHeartbeats 4000000 in
set_option maxRecDepth 100000 in
theorem rules_twins.calls (n₁ n₀ B : Nat) (b : rules_bk.Bk) (out : List (S64)) (vo : Value) (A0 : Option Addr) (c0 : Nat) (l0 : List ByteArray) (ts : List Int) (W : World) (hA : rules_bk.At n₁ n₀ W B b out vo) (hr0 : Kd.C Kd.string W A0 l0.length l0) (hc0 : l0.length ≤ c0) (h : names_Twins.f l0 = some ts)
    (hlen : (out ++ rules_all ts.length (fun j => [(⟨b.rule, rd ts (j : Int), 0⟩ : S64)])).length ≤ 1000000) :
    Calls Try.prog 120 #[.pointer (some ⟨B, 0, none⟩), .slice A0 l0.length c0] W fun e W' => (∃ u, e = .returned u) ∧ (∃ vo', rules_bk.At n₁ n₀ W' B b (out ++ rules_all ts.length (fun j => [⟨b.rule, rd ts (j : Int), 0⟩])) vo') ∧ rules_bk.Fr n₁ n₀ B W W' := by
  have HT := Aside0.mk (names_Twins.calls A0 c0 l0 ts W hr0 hc0 h)
  have HA := Aside0.mk hA
  have HL := Aside0.mk hlen
  clear hr0 hA hlen h
  go_enter Try.func120, Try.ntmps120
  go_wp2_with (go_at_call 149; refine HT.out.mono ?_; rintro e w2 ⟨v2, rfl, hR, hb2⟩; obtain ⟨A2, c2, rfl⟩ := Kd.R_slice hR; have HR := Aside0.mk hR; have HF := Aside0.mk (HA.out.fr hb2); have HA2 := Aside0.mk (HA.out.below hb2); clear hR hb2)
  have hts := Kd.C_max (Kd.R_reads' HR.out).2.2
  go_loopg [9] ts.length (fun kq v9 wr => ∃ (i : Nat) (vo' : Value), Aside0 (ts.length - i = kq) ∧ Aside0 (i ≤ ts.length) ∧ v9 = .int .i64 (i : Int) ∧ Aside0 (rules_bk.At n₁ n₀ wr B b (out ++ rules_all i (fun j => [⟨b.rule, rd ts (j : Int), 0⟩])) vo') ∧ Aside0 (rules_bk.Fr n₁ n₀ B w2 wr))
  case atStart => exact ⟨0, vo, ⟨rfl⟩, ⟨Nat.zero_le _⟩, rfl, ⟨by simpa [rules_all] using HA2.out⟩, ⟨rules_bk.Fr.refl _ _ _ _⟩⟩
  case round =>
    obtain ⟨i, vo', HK, HI, rfl, HAt, HFr⟩ := hrel
    by_cases hi : i < ts.length
    · have hlt : decide ((i : Int) < (ts.length : Int)) = true := decide_eq_true (by omega)
      have hRr := HFr.out.row HR.out (by decide) (Nat.lt_of_lt_of_le HA.out.hi HA.out.size)
      obtain ⟨ad, e1, hx0⟩ := Kd.at_int (Kd.R_reads' hRr).2.2 (i : Int) (by omega) (by omega)
      subst e1
      rw [Int.toNat_natCast] at hx0
      have hle : (out ++ rules_all i (fun j => [(⟨b.rule, rd ts (j : Int), 0⟩ : S64)])).length ≤ 1000000 := by
        have h1 := HL.out
        have h2 := rules_all_le (fun j => [(⟨b.rule, rd ts (j : Int), 0⟩ : S64)]) HI.out
        rw [List.length_append] at h1 ⊢
        omega
      have HN := Aside0.mk (rules_bk.note n₁ n₀ B b _ vo' true (rd ts (i : Int)) 0 wr HAt.out hle)
      clear hRr hle
      go_wp2_with (go_at_call 150; refine HN.out.mono ?_; rintro e w3 ⟨⟨u, rfl⟩, ⟨vo3, hA3⟩, hF3⟩; have HA3 := Aside0.mk hA3; have HF3 := Aside0.mk hF3; clear hA3 hF3)
      go_roundg (ts.length - (i + 1))
      case measure => have := HK.out; omega
      case rel => exact ⟨i + 1, vo3, ⟨rfl⟩, ⟨hi⟩, by go_num, ⟨by rw [rules_all_succ, ← List.append_assoc]; exact HA3.out⟩, ⟨HFr.out.trans HF3.out⟩⟩
    · have hlt : decide ((i : Int) < (ts.length : Int)) = false := decide_eq_false (by omega)
      have hil : i = ts.length := by have := HI.out; omega
      have HIL := Aside0.mk hil
      clear hil
      go_wp2
      go_end0
      exact ⟨⟨_, rfl⟩, ⟨vo', by rw [HIL.out] at HAt; exact HAt.out⟩, HF.out.trans HFr.out⟩


/-! ### slices_IndexFunc_int_int: function 190 -/
/-- the first place of which p holds; -1: none -/
def IndexFunc_int.f (p : Int → Bool) (l : List Int) : Int := match l.findIdx? p with | none => -1 | some i => i
theorem IndexFunc_int.hit (p : Int → Bool) (l : List Int) (n : Nat) (hn : n < l.length) (hx : p (rd l n) = true) (h : ∀ j : Nat, j < n → p (rd l j) = false) : IndexFunc_int.f p l = n := by
  have : l.findIdx? p = some n := by
    rw [List.findIdx?_eq_some_iff_getElem]
    refine ⟨hn, by simpa [rd, hn] using hx, fun j hj => ?_⟩
    have := h j hj
    simpa [rd, show j < l.length by omega] using this
  simp [IndexFunc_int.f, this]
theorem IndexFunc_int.miss (p : Int → Bool) (l : List Int) (h : ∀ j : Nat, j < l.length → p (rd l j) = false) : IndexFunc_int.f p l = -1 := by
  have : l.findIdx? p = none := by
    rw [List.findIdx?_eq_none_iff]
    intro x hx
    obtain ⟨j, hj, rfl⟩ := List.getElem_of_mem hx
    have := h j hj
    simpa [rd, hj] using this
  simp [IndexFunc_int.f, this]
set_option maxHeartbeats 2000000 in
theorem IndexFunc_int.calls (p : Int → Bool) (g : Nat) (lb : Array Value) (eg : ∀ args w, (callFunc g args).run Try.prog w = .ok (.enter g args) w) (A0 : Option Addr) (c0 : Nat) (l0 : List Int) (w : World) (hr0 : Kd.C (Kd.int .i64) w A0 l0.length l0) (hbig : l0.length ≤ 9223372036854775807)
    (hp : ∀ W, Below w.heap.size w W → ∀ x : Int, Calls Try.prog g (#[.int .i64 x] ++ lb) W fun e w' => e = .returned (.bool (p x)) ∧ Below w.heap.size w w') :
    Calls Try.prog 190 #[.slice A0 l0.length c0, .func (.func g) #[] lb] w fun e w' => e = .returned (.int .i64 (IndexFunc_int.f p l0)) ∧ Below w.heap.size w w' := by
  have HR := Aside0.mk hr0
  have HPF := Aside0.mk hp
  clear hr0 hp
  go_enter Try.func190, Try.ntmps190
  go_wp2
  go_loopg [8] l0.length (fun kq v8 wr => ∃ n : Nat, Aside0 (n ≤ l0.length) ∧ Aside0 (l0.length - n = kq) ∧ v8 = .int .i64 (n : Int) ∧ Aside0 (Below w.heap.size w wr) ∧ Aside0 (∀ j : Nat, j < n → p (rd l0 j) = false))
  case atStart => exact ⟨0, ⟨Nat.zero_le _⟩, ⟨by omega⟩, rfl, ⟨Below.refl _ _⟩, ⟨fun j hj => absurd hj (Nat.not_lt_zero _)⟩⟩
  case round =>
    obtain ⟨n, HN, HK, rfl, HB, HP⟩ := hrel
    by_cases hlt : n < l0.length
    · have hlt' : decide ((n : Int) < (l0.length : Int)) = true := decide_eq_true (by omega)
      have hC := Kd.C_below HR.out HB.out
      obtain ⟨ad, e1, hx0⟩ := Kd.at_int hC (n : Int) (by omega) (by omega)
      subst e1
      rw [Int.toNat_natCast] at hx0
      have hcall := HPF.out wr HB.out (rd l0 (n : Int))
      generalize hy : rd l0 (n : Int) = y at hx0 hcall
      have HY := Aside0.mk hy
      clear hy hC
      cases hq : p y with
      | true =>
        rw [hq] at hcall
        have HC := Aside0.mk hcall
        have HQ := Aside0.mk hq
        clear hcall hq
        go_wp2_with fail
        refine HC.out.mono ?_
        rintro e w' ⟨rfl, hb'⟩
        go_wp2
        go_ret
        refine ⟨?_, hb'⟩
        rw [IndexFunc_int.hit p l0 n hlt (by rw [HY.out]; exact HQ.out) HP.out]
        rfl
      | false =>
        rw [hq] at hcall
        have HC := Aside0.mk hcall
        have HQ := Aside0.mk hq
        clear hcall hq
        go_wp2_with fail
        refine HC.out.mono ?_
        rintro e w' ⟨rfl, hb'⟩
        go_wp2
        go_roundg (l0.length - (n + 1))
        case measure => have := HK.out; omega
        case rel =>
          refine ⟨n + 1, ⟨hlt⟩, ⟨rfl⟩, by go_num, ⟨hb'⟩, ⟨fun j hj => ?_⟩⟩
          by_cases e : j = n
          · subst e; rw [HY.out]; exact HQ.out
          · exact HP.out j (by omega)
    · have hlt' : decide ((n : Int) < (l0.length : Int)) = false := decide_eq_false (by omega)
      have hn : n = l0.length := by have := HN.out; omega
      have HNN := Aside0.mk hn
      clear hn
      go_wp2
      go_ret
      exact ⟨by rw [IndexFunc_int.miss p l0 (fun j hj => HP.out j (by have := HNN.out; omega))]; rfl, HB.out⟩


/-! ### slices_ContainsFunc_int_int: function 180 -/
-- USES slices.IndexFunc[[]int,int]
theorem ContainsFunc_int.any (p : Int → Bool) (l : List Int) : decide (0 ≤ IndexFunc_int.f p l) = l.any p := by
  unfold IndexFunc_int.f
  cases h : l.findIdx? p with
  | none =>
    rw [List.findIdx?_eq_none_iff] at h
    have : l.any p = false := by simpa using h
    simp [this]
  | some i =>
    rw [List.findIdx?_eq_some_iff_getElem] at h
    obtain ⟨hi, hp, _⟩ := h
    have : l.any p = true := List.any_eq_true.2 ⟨_, List.getElem_mem hi, hp⟩
    simp [this]
set_option maxHeartbeats 2000000 in
theorem ContainsFunc_int.calls (p : Int → Bool) (g : Nat) (lb : Array Value) (eg : ∀ args w, (callFunc g args).run Try.prog w = .ok (.enter g args) w) (A0 : Option Addr) (c0 : Nat) (l0 : List Int) (w : World) (hr0 : Kd.C (Kd.int .i64) w A0 l0.length l0) (hbig : l0.length ≤ 9223372036854775807)
    (hp : ∀ W, Below w.heap.size w W → ∀ x : Int, Calls Try.prog g (#[.int .i64 x] ++ lb) W fun e w' => e = .returned (.bool (p x)) ∧ Below w.heap.size w w') :
    Calls Try.prog 180 #[.slice A0 l0.length c0, .func (.func g) #[] lb] w fun e w' => e = .returned (.bool (l0.any p)) ∧ Below w.heap.size w w' := by
  have hcall := IndexFunc_int.calls p g lb eg A0 c0 l0 w hr0 hbig hp
  have HANY := Aside0.mk (ContainsFunc_int.any p l0)
  generalize IndexFunc_int.f p l0 = i at hcall HANY
  have HC := Aside0.mk hcall
  clear hp hr0 hcall
  go_enter Try.func180, Try.ntmps180
  go_wp2_with (go_at_call 190; refine HC.out.mono ?_; rintro e w' ⟨rfl, hb'⟩)
  go_ret
  exact ⟨by rw [← HANY.out]; rfl, hb'⟩


/-! ### shape_there: function 169 -/
-- USES semblance/shape.Check
-- USES slices.ContainsFunc[[]int,int]
/-- a place that is none -/
def shape_there.off (n : Nat) (i : Int) : Bool := decide (i < 0) || decide ((n : Int) ≤ i)
def shape_there.f (l0 : List (S108)) (l1 : List Int) : Option Bool :=
  if l1.length ≤ 9223372036854775807 then some (decide (shape_Check.f l0 = some 0) && !(l1.any (shape_there.off l0.length))) else none
set_option maxHeartbeats 2000000 in
theorem shape_there.lit (A0 : Option Addr) (n c0 : Nat) (B : Nat) (x : Int) (W : World) (hc : W.cell? ⟨B, 0, none⟩ = some (.slice A0 n c0)) :
    Calls Try.prog 181 #[.int .i64 x, .pointer (some ⟨B, 0, none⟩)] W fun e w' => e = .returned (.bool (shape_there.off n x)) ∧ W = w' := by
  unfold shape_there.off
  by_cases h0 : x < 0
  · have h0' : decide (x < 0) = true := decide_eq_true h0
    go_enter Try.func181, Try.ntmps181
    go_wp2
    go_ret
    exact ⟨by simp [h0], rfl⟩
  · have h0' : decide (x < 0) = false := decide_eq_false h0
    go_enter Try.func181, Try.ntmps181
    go_wp2
    go_ret
    exact ⟨by first | (simp; done) | (simp; omega), rfl⟩
set_option maxHeartbeats 2000000 in
theorem shape_there.calls (A0 : Option Addr) (c0 : Nat) (l0 : List (S108)) (A1 : Option Addr) (c1 : Nat) (l1 : List Int) (r : Bool) (w : World) (hr0 : Kd.C k108 w A0 l0.length l0) (hc0 : l0.length ≤ c0) (hr1 : Kd.C (Kd.int .i64) w A1 l1.length l1) (hc1 : l1.length ≤ c1) (h : shape_there.f l0 l1 = some r) :
    Calls Try.prog 169 #[.slice A0 l0.length c0, .slice A1 l1.length c1] w fun e w' => e = .returned (.bool r) ∧ Below w.heap.size w w' := by
  unfold shape_there.f at h
  split at h
  case isFalse => cases h
  case isTrue hbig =>
  have H := Option.some.inj h
  clear h
  obtain ⟨k, hk⟩ : ∃ k, shape_Check.f l0 = some k := ⟨_, rfl⟩
  rw [hk] at H
  have eg := Go.Proofs.enters_of Try.func181 (by kernel_rfl) rfl
  have hb0 : Below w.heap.size w (w.alloc (.cells #[.slice A0 l0.length c0] 109)) := (Below.refl _ _).alloc (Nat.le_refl _) _
  have hcell := cell_of_one (heap_alloc_new w (.cells #[.slice A0 l0.length c0] 109))
  have hcheck := shape_Check.calls A0 c0 l0 k (w.alloc (.cells #[.slice A0 l0.length c0] 109)) (Kd.C_below hr0 hb0) hc0 hk
  have hcont := fun W (hW : Below (w.alloc (.cells #[.slice A0 l0.length c0] 109)).heap.size (w.alloc (.cells #[.slice A0 l0.length c0] 109)) W) => ContainsFunc_int.calls (shape_there.off l0.length) 181 #[.pointer (some ⟨w.heap.size, 0, none⟩)] eg A1 c1 l1 W (Kd.C_below hr1 (hb0.trans (hW.mono (by simp)))) hbig
    (fun W2 h2 x => (shape_there.lit A0 l0.length c0 w.heap.size x W2 ((h2.cell (p := ⟨w.heap.size, 0, none⟩) (Nat.lt_of_lt_of_le (by simp) hW.size)).trans ((hW.cell (p := ⟨w.heap.size, 0, none⟩) (by simp)).trans hcell))).mono fun e w' ⟨he, hw⟩ => ⟨he, by subst hw; exact h2⟩)
  have HCH := Aside0.mk hcheck
  have HCO := Aside0.mk hcont
  clear hcheck hcont hr0 hr1 hk
  by_cases hk0 : k = 0
  · subst hk0
    generalize hany : l1.any (shape_there.off l0.length) = b at *
    have HH := Aside0.mk H
    clear H hany
    go_enter Try.func169, Try.ntmps169
    go_wp2_with (first | (go_at_call 113; refine HCH.out.mono ?_; rintro e w' ⟨rfl, hb1⟩) | (go_at_call 180; refine (HCO.out _ hb1).mono ?_; rintro e w' ⟨rfl, hb2⟩))
    go_ret
    refine ⟨?_, hb0.trans ((hb1.trans (hb2.mono hb1.size)).mono (by simp))⟩
    rw [← HH.out]
    simp
  · have hk1 : (k == 0) = false := beq_eq_false_iff_ne.mpr hk0
    have hr : r = false := by rw [← H]; simp [hk0]
    subst hr
    clear H
    go_enter Try.func169, Try.ntmps169
    go_wp2_with (go_at_call 113; refine HCH.out.mono ?_; rintro e w' ⟨rfl, hb1⟩)
    go_ret
    exact ⟨rfl, hb0.trans (hb1.mono (by simp))⟩


/-! ### shape_Kids: function 151 -/
def shape_Kids.l0 : Nat → Int → List Int → List (S108) → Int → Int → Option (List Int)
  | 0, _, _, _, _, _ => none
  | k + 1, x1, x5, x13, x14, x15 => if x15 < x14 then (if 0 ≤ x15 then (if x15 < (x13.length : Int) then (if ((rd_T108 x13 x15).f2) = x1 then (if x5.length < 17592186044416 then (shape_Kids.l0 k x1 (x5 ++ [x15]) x13 x14 (wrap64 (x15 + 1))) else (none)) else (shape_Kids.l0 k x1 x5 x13 x14 (wrap64 (x15 + 1)))) else (none)) else (none)) else (some x5)
def shape_Kids.f (k : Nat) (l0 : List (S108)) (a1 : Int) : Option (List Int) := (shape_there.f l0 (([a1] : List Int))).bind fun t164 => (if t164 = true then (shape_Kids.l0 k a1 ([] : List Int) l0 (l0.length : Int) 0) else (some ([] : List Int)))
theorem shape_Kids.mono_l : ∀ k, (∀ y0 y1 y2 y3 y4, LeO (shape_Kids.l0 k y0 y1 y2 y3 y4) (shape_Kids.l0 (k + 1) y0 y1 y2 y3 y4))
  | 0 => fun _ _ _ _ _ r h => by simp [shape_Kids.l0] at h
  | k + 1 => by
    have ih0 := shape_Kids.mono_l k
    · intro y0 y1 y2 y3 y4
      unfold shape_Kids.l0
      exact mo_
theorem shape_Kids.mono : ∀ a0 a1 k, LeO (shape_Kids.f k a0 a1) (shape_Kids.f (k + 1) a0 a1) := by
  intro a0 a1 k
  have ih0 := shape_Kids.mono_l k
  unfold shape_Kids.f
  exact mo_
instance shape_Kids.lc : ∀ a0 a1 k, LeC (shape_Kids.f k a0 a1) (shape_Kids.f (k + 1) a0 a1) := fun a0 a1 k => ⟨shape_Kids.mono a0 a1 k⟩
set_option maxHeartbeats 8000000 in
set_option maxRecDepth 100000 in
theorem shape_Kids.calls (k : Nat) (A0 : Option Addr) (c0 : Nat) (l0 : List (S108)) (a1 : Int) (r : List Int) (w : World) (hr0 : Kd.C k108 w A0 l0.length l0) (hc0 : l0.length ≤ c0) (h : shape_Kids.f k l0 a1 = some r) :
  Calls Try.prog 151 #[.slice A0 l0.length c0, .int .i64 a1] w fun e w' => ∃ v0_ : Value, e = .returned (v0_) ∧ Kd.R (Kd.int .i64) 3 w' w.heap.size (fun _ => True) v0_ r ∧ Below w.heap.size w w' := by
 have hu108 := Try.underlying108
 have HR0 := Aside0.mk hr0
 have HC0 := Aside0.mk hc0
 clear hr0 hc0
 have HB := Aside0.mk (Below.refl w.heap.size w)
 unfold shape_Kids.f at h
 have H := h
 clear h
 obtain ⟨y161, hy161⟩ : ∃ y_ : List Int, y_ = (([a1] : List Int)) := ⟨_, rfl⟩
 replace H : ((shape_there.f l0 y161).bind fun t164 => (if t164 = true then (shape_Kids.l0 k a1 ([] : List Int) l0 (l0.length : Int) 0) else (some ([] : List Int)))) = some r := by first | (rw [hy161]; with_reducible exact H) | (have H2_ := (Option.bind_some _ _).symm.trans H; rw [hy161]; with_reducible exact H2_) | (have H2_ := (Option.bind_some _ _).symm.trans H; with_reducible exact H2_) | with_reducible exact H | (rw [hy161]; exact H) | exact H
 have Ny161 := Aside0.mk hy161
 clear hy161
 replace H := bi_ H; obtain ⟨t164, A3, H⟩ := H
 replace H := ib_ H; obtain ⟨rfl, H⟩ | ⟨rfl, H⟩ := H
 ·obtain rfl := Option.some.inj H
  go_enter Try.func151, Try.ntmps151
  go_wp2_with (first | ((with_reducible refine gate_dst (N := 10) rfl ?_); refine Kd.R_lit (Kd.int .i64) _ 3 ?hg (N := 10) ?hd (xs := ([a1] : List Int)) (inner := [.int .i64 a1]) (ok := fun _ => True) (okp := fun _ => True) ?hr ?hp (fun _ hk => hk) trivial (Below.refl _ _) (Nat.le_refl _) (by simp) ?_; (case hd => rfl); (case hg => rfl); (case hr => first | (go_simp; done) | (go_simp; rfl)); (case hp => exact (Reps.one (show Kd.M (Kd.int .i64) _ _ _ a1 [.int .i64 a1] from rfl) (Reps.none _ _))); intro v162 w19 ho20 hb hg_ hnew_; clear hg_ hnew_; (first | rw [← Ny161.out] at ho20 | (simp only [Int.reduceToNat] at ho20; rw [← Ny161.out] at ho20)); have HO163 := Aside0.mk (Kd.R_lower ho20 (below_size (brw HB.out))); replace HB := ts_ HB hb; clear hb ho20; obtain ⟨Ao21, co21, eo21⟩ := Kd.R_slice HO163.out; subst eo21) | ((with_reducible refine gate_callee (f := 169) rfl ?_); refine gl_ (some 11) Try.func169 #[.slice A0 l0.length c0, .slice Ao21 y161.length co21] ?_; (with_reducible refine cm_ (shape_there.calls _ _ l0 _ _ y161 false _ (kc_ HR0 HB) HC0.out (kg_ (Kd.R_reads' HO163.out).2.2) (Kd.R_reads' HO163.out).2.1 A3.out) ?_); intro w22 hb; refine ⟨_, rfl, ?_⟩; replace HO163 := Aside0.mk (Kd.R_below (kR_ HO163) hb); replace HB := ts_ HB hb; clear hb))
  go_ret
  exact ⟨_, rv_, by first | exact Kd.R_nil _ _ _ _ _ | exact Kd.N_nil _ _ _ _ _ | exact Kd.V_nil _ _ _ _ _ | exact Kd.Q_nil _ _ _ _ _ | exact Kd.S_nil _ _ _ _ _, by repeat (first | (with_reducible first | exact HB.out | apply below_alloc | apply pw_below_drewN | apply below_drew1) | exact HB.out)⟩

 have H' := Aside0.mk H
 clear H
 go_enter Try.func151, Try.ntmps151
 go_wp2_with (first | ((with_reducible refine gate_dst (N := 10) rfl ?_); refine Kd.R_lit (Kd.int .i64) _ 3 ?hg (N := 10) ?hd (xs := ([a1] : List Int)) (inner := [.int .i64 a1]) (ok := fun _ => True) (okp := fun _ => True) ?hr ?hp (fun _ hk => hk) trivial (Below.refl _ _) (Nat.le_refl _) (by simp) ?_; (case hd => rfl); (case hg => rfl); (case hr => first | (go_simp; done) | (go_simp; rfl)); (case hp => exact (Reps.one (show Kd.M (Kd.int .i64) _ _ _ a1 [.int .i64 a1] from rfl) (Reps.none _ _))); intro v162 w5 ho6 hb hg_ hnew_; clear hg_ hnew_; (first | rw [← Ny161.out] at ho6 | (simp only [Int.reduceToNat] at ho6; rw [← Ny161.out] at ho6)); have HO163 := Aside0.mk (Kd.R_lower ho6 (below_size (brw HB.out))); replace HB := ts_ HB hb; clear hb ho6; obtain ⟨Ao7, co7, eo7⟩ := Kd.R_slice HO163.out; subst eo7) | ((with_reducible refine gate_callee (f := 169) rfl ?_); refine gl_ (some 11) Try.func169 #[.slice A0 l0.length c0, .slice Ao7 y161.length co7] ?_; (with_reducible refine cm_ (shape_there.calls _ _ l0 _ _ y161 true _ (kc_ HR0 HB) HC0.out (kg_ (Kd.R_reads' HO163.out).2.2) (Kd.R_reads' HO163.out).2.1 A3.out) ?_); intro w8 hb; refine ⟨_, rfl, ?_⟩; replace HO163 := Aside0.mk (Kd.R_below (kR_ HO163) hb); replace HB := ts_ HB hb; clear hb))
 go_loopg [5, 15] k (fun kq v5 v15 w' => ∃ (x5_1 : List Int) (x15_1 : Int), v15 = .int .i64 x15_1 ∧ Aside0 (shape_Kids.l0 kq a1 x5_1 l0 (l0.length : Int) x15_1 = some r) ∧ Aside0 (kq ≤ k) ∧ Aside0 (Kd.R (Kd.int .i64) 3 w' w.heap.size (fun _ => True) v5 x5_1) ∧ Aside0 (Below w.heap.size w w'))
 case atStart => exact ⟨(([] : List Int)), (0), rl_, H', ⟨Nat.le_refl _⟩, ⟨by first | exact Kd.R_nil _ _ _ _ _ | exact Kd.N_nil _ _ _ _ _ | exact Kd.V_nil _ _ _ _ _ | exact Kd.Q_nil _ _ _ _ _ | exact Kd.S_nil _ _ _ _ _⟩, ⟨bw_⟩⟩
 case round =>
  clear H'
  try clear c4
  obtain ⟨x5_1, x15_1, rfl, HA, HK1, HO_5, HB⟩ := hrel
  cases gk with
  | zero => exact absurd HA.out (by simp [shape_Kids.l0])
  | succ k1 =>
   have H := HA.out
   clear HA
   simp only [shape_Kids.l0] at H
   replace H := it_ H; obtain ⟨c9b0, H⟩ | ⟨c9b0, H⟩ := H
   ·obtain rfl := Option.some.inj H
    go_wp2
    go_ret
    exact ⟨_, rv_, by (with_reducible repeat (first | apply Kd.R_alloc | apply Kd.R_drewN | apply Kd.R_drew)); exact HO_5.out, by repeat (first | (with_reducible first | exact HB.out | apply below_alloc | apply pw_below_drewN | apply below_drew1) | exact HB.out)⟩
   replace H := is_ H; obtain ⟨c10b0, H⟩ := H
   replace H := is_ H; obtain ⟨c11b0, H⟩ := H
   have HZ_ := Aside0.mk H
   clear H
   obtain ⟨ad165, A165_3, c165_3, A165_4, c165_4, A165_5, c165_5, e165, hx165_0, hx165_1, hx165_2, hx165_3, hx165_4, hx165_5, HC165_3, HR165_3, HC165_4, HR165_4, HC165_5, HR165_5, p165, q165⟩ := au_T108 HR0 HB x15_1; cases e165
   have H := HZ_.out
   clear HZ_
   replace H := ic_ H; obtain ⟨c12, H⟩ | ⟨c12, H⟩ := H
   ·have c12b0 : (((rd_T108 l0 x15_1).f2) == a1) = false := beq_eq_false_iff_ne.mpr c12
    have c12b1 : (((rd_T108 l0 x15_1).f2) != a1) = true := bne_iff_ne.mpr c12
    have H' := Aside0.mk H
    clear H
    go_wp2_with (first | ((with_reducible refine gate_dst (N := 7) rfl ?_); refine by_ HB (N := 7) (cs := #[.string (⟨#[]⟩ : ByteArray), .int .i64 0, .int .i64 0, .slice none 0 0, .slice none 0 0, .slice none 0 0]) (t := 108) ?_; intro gb166 hg w17 hbox hb hB_; have BK166 := Aside0.mk (hbox); have GW166 := gw_ hg hB_; have GE166 := gw_ hg hB_; replace HO_5 := Aside0.mk (Kd.R_below (kR_ HO_5) hb); replace HB := Aside0.mk (below_step hB_ hb); clear hb hbox hg; obtain ⟨z18_0, z18_1, z18_2, z18_3, z18_4, z18_5, y18_0, y18_1, y18_2, y18_3, y18_4, y18_5⟩ := cw6_ BK166.out))
    go_roundg k1
    case measure => have := HK1.out; omega
    case rel => exact ⟨(x5_1), (wrap64 (x15_1 + 1)), rl_, H', ⟨kn_ HK1⟩, ⟨by (with_reducible repeat (first | apply Kd.R_alloc | apply Kd.R_drewN | apply Kd.R_drew)); exact Kd.R_mono (Kd.R_far (p := ⟨gb166, 5, none⟩) (Kd.R_far (p := ⟨gb166, 4, none⟩) (Kd.R_far (p := ⟨gb166, 3, none⟩) (Kd.R_far (p := ⟨gb166, 2, none⟩) (Kd.R_far (p := ⟨gb166, 1, none⟩) (Kd.R_far (p := ⟨gb166, 0, none⟩) (Kd.R_types HO_5.out BK166.out (by decide)) (fun _ hk => hk.2) (.string ((rd_T108 l0 x15_1).f0))) (fun _ hk => hk.2) (.int .i64 ((rd_T108 l0 x15_1).f1))) (fun _ hk => hk.2) (.int .i64 ((rd_T108 l0 x15_1).f2))) (fun _ hk => hk.2) (.slice A165_3 ((rd_T108 l0 x15_1).f3).length c165_3)) (fun _ hk => hk.2) (.slice A165_4 ((rd_T108 l0 x15_1).f4).length c165_4)) (fun _ hk => hk.2) (.slice A165_5 ((rd_T108 l0 x15_1).f5).length c165_5)) (fun _ hk => trivial)⟩, ⟨bw_⟩⟩
   have c12b0 : (((rd_T108 l0 x15_1).f2) == a1) = true := beq_iff_eq.mpr c12
   have c12b1 : (((rd_T108 l0 x15_1).f2) != a1) = false := bne_eq_false_iff_eq.mpr c12
   clear c12
   replace H := ip_ H; obtain ⟨c13, H⟩ := H
   have LMc13 := Aside0.mk c13
   clear c13
   obtain ⟨y167, hy167⟩ : ∃ y_ : List Int, y_ = (x5_1 ++ [x15_1]) := ⟨_, rfl⟩
   replace H : (shape_Kids.l0 k1 a1 y167 l0 (l0.length : Int) (wrap64 (x15_1 + 1))) = some r := by first | (rw [hy167]; with_reducible exact H) | (have H2_ := (Option.bind_some _ _).symm.trans H; rw [hy167]; with_reducible exact H2_) | (have H2_ := (Option.bind_some _ _).symm.trans H; with_reducible exact H2_) | with_reducible exact H | (rw [hy167]; exact H) | exact H
   have Ny167 := Aside0.mk hy167
   clear hy167
   have H' := Aside0.mk H
   clear H
   go_wp2_with (first | ((with_reducible refine gate_dst (N := 7) rfl ?_); refine by_ HB (N := 7) (cs := #[.string (⟨#[]⟩ : ByteArray), .int .i64 0, .int .i64 0, .slice none 0 0, .slice none 0 0, .slice none 0 0]) (t := 108) ?_; intro gb166 hg w14 hbox hb hB_; have BK166 := Aside0.mk (hbox); have GW166 := gw_ hg hB_; have GE166 := gw_ hg hB_; replace HO_5 := Aside0.mk (Kd.R_below (kR_ HO_5) hb); replace HB := Aside0.mk (below_step hB_ hb); clear hb hbox hg; obtain ⟨z15_0, z15_1, z15_2, z15_3, z15_4, z15_5, y15_0, y15_1, y15_2, y15_3, y15_4, y15_5⟩ := cw6_ BK166.out) | ((with_reducible refine gate_builtin (b := .append) (xs := #[.tmp 24, .tmp 26]) rfl ?_); at_builtin; refine Kd.R_append (Kd.int .i64) (w0 := w) w.heap.size rfl (.tmp 24) (.tmp 26) 90 3 (.int .i64 0) 8 rfl Try.underlying90 info3 rfl (by decide) (by omega) u5 x5_1 x15_1 [.int .i64 x15_1] (fun _ => True) (fun _ => False) rfl (by first | (go_simp; done) | (go_simp; rfl)) ?aP (fun _ hk => hk.elim) ?aF ?aO ?aB ?aS ?aL ?_; (case aP => exact rfl); (case aB => exact bw_); (case aF => exact (fun _ _ => trivial)); (case aO => exact (by (with_reducible repeat (first | apply Kd.R_alloc | apply Kd.R_drewN | apply Kd.R_drew)); exact Kd.R_mono (Kd.R_far (p := ⟨gb166, 5, none⟩) (Kd.R_far (p := ⟨gb166, 4, none⟩) (Kd.R_far (p := ⟨gb166, 3, none⟩) (Kd.R_far (p := ⟨gb166, 2, none⟩) (Kd.R_far (p := ⟨gb166, 1, none⟩) (Kd.R_far (p := ⟨gb166, 0, none⟩) (Kd.R_types HO_5.out BK166.out (by decide)) (fun _ hk => hk.2) (.string ((rd_T108 l0 x15_1).f0))) (fun _ hk => hk.2) (.int .i64 ((rd_T108 l0 x15_1).f1))) (fun _ hk => hk.2) (.int .i64 ((rd_T108 l0 x15_1).f2))) (fun _ hk => hk.2) (.slice A165_3 ((rd_T108 l0 x15_1).f3).length c165_3)) (fun _ hk => hk.2) (.slice A165_4 ((rd_T108 l0 x15_1).f4).length c165_4)) (fun _ hk => hk.2) (.slice A165_5 ((rd_T108 l0 x15_1).f5).length c165_5)) (fun _ hk => trivial))); (case aS => exact (below_size bw_)); (case aL => have := LMc13.out; omega); intro v168 w16 ho hb hg hat; rw [← Ny167.out] at ho; have HO169 := Aside0.mk (ho); replace BK166 := Aside0.mk (blk_grown (g := gb166) (o := .cells #[.string ((rd_T108 l0 x15_1).f0), .int .i64 ((rd_T108 l0 x15_1).f1), .int .i64 ((rd_T108 l0 x15_1).f2), .slice A165_3 ((rd_T108 l0 x15_1).f3).length c165_3, .slice A165_4 ((rd_T108 l0 x15_1).f4).length c165_4, .slice A165_5 ((rd_T108 l0 x15_1).f5).length c165_5] 108 (0, 0)) (by refine grO ?_; refine blk_put (cs := #[.string ((rd_T108 l0 x15_1).f0), .int .i64 ((rd_T108 l0 x15_1).f1), .int .i64 ((rd_T108 l0 x15_1).f2), .slice A165_3 ((rd_T108 l0 x15_1).f3).length c165_3, .slice A165_4 ((rd_T108 l0 x15_1).f4).length c165_4, .slice none 0 0]) ?_ 5 _ rfl; refine grO ?_; refine blk_put (cs := #[.string ((rd_T108 l0 x15_1).f0), .int .i64 ((rd_T108 l0 x15_1).f1), .int .i64 ((rd_T108 l0 x15_1).f2), .slice A165_3 ((rd_T108 l0 x15_1).f3).length c165_3, .slice none 0 0, .slice none 0 0]) ?_ 4 _ rfl; refine grO ?_; refine blk_put (cs := #[.string ((rd_T108 l0 x15_1).f0), .int .i64 ((rd_T108 l0 x15_1).f1), .int .i64 ((rd_T108 l0 x15_1).f2), .slice none 0 0, .slice none 0 0, .slice none 0 0]) ?_ 3 _ rfl; refine grO ?_; refine blk_put (cs := #[.string ((rd_T108 l0 x15_1).f0), .int .i64 ((rd_T108 l0 x15_1).f1), .int .i64 0, .slice none 0 0, .slice none 0 0, .slice none 0 0]) ?_ 2 _ rfl; refine grO ?_; refine blk_put (cs := #[.string ((rd_T108 l0 x15_1).f0), .int .i64 0, .int .i64 0, .slice none 0 0, .slice none 0 0, .slice none 0 0]) ?_ 1 _ rfl; refine grO ?_; refine blk_put (cs := #[.string (⟨#[]⟩ : ByteArray), .int .i64 0, .int .i64 0, .slice none 0 0, .slice none 0 0, .slice none 0 0]) ?_ 0 _ rfl; refine grO ?_; exact BK166.out) hg (Kd.R_ne HO_5.out BK166.out (by decide))); replace HB := Aside0.mk (hb); clear ho hb hg hat))
   go_roundg k1
   case measure => have := HK1.out; omega
   case rel => exact ⟨(y167), (wrap64 (x15_1 + 1)), rl_, H', ⟨kn_ HK1⟩, ⟨by (with_reducible repeat (first | apply Kd.R_alloc | apply Kd.R_drewN | apply Kd.R_drew)); exact HO169.out⟩, ⟨bw_⟩⟩
/-! ### rules_book_kids: function 122 -/
-- USES (*semblance/rules.book).ranges
-- USES semblance/shape.Kids
/-- has a state too few right below? -/
def rules_kid (x : S108) (n : Int) : Bool := (x.f1 == 2 && decide (n < 1)) || (x.f1 == 3 && decide (n < 2))
theorem rules_kid.cases (a n : Int) : ((a == 2) = true ∧ decide (n < 1) = true ∧ ((a == 2 && decide (n < 1)) || (a == 3 && decide (n < 2))) = true) ∨ ((a == 2) = true ∧ decide (n < 1) = false ∧ (a == 3) = false ∧ ((a == 2 && decide (n < 1)) || (a == 3 && decide (n < 2))) = false) ∨ ((a == 2) = false ∧ (a == 3) = true ∧ decide (n < 2) = true ∧ ((a == 2 && decide (n < 1)) || (a == 3 && decide (n < 2))) = true) ∨ ((a == 2) = false ∧ (a == 3) = true ∧ decide (n < 2) = false ∧ ((a == 2 && decide (n < 1)) || (a == 3 && decide (n < 2))) = false) ∨ ((a == 2) = false ∧ (a == 3) = false ∧ ((a == 2 && decide (n < 1)) || (a == 3 && decide (n < 2))) = false) := by
  by_cases h2 : a = 2
  · subst h2
    cases h : decide (n < 1)
    · exact .inr (.inl ⟨rfl, rfl, rfl, by simp⟩)
    · exact .inl ⟨rfl, rfl, by simp⟩
  · have h2' : (a == 2) = false := beq_eq_false_iff_ne.2 h2
    by_cases h3 : a = 3
    · have h3' : (a == 3) = true := beq_iff_eq.2 h3
      cases h : decide (n < 2)
      · exact .inr (.inr (.inr (.inl ⟨h2', h3', rfl, by simp [h2']⟩)))
      · exact .inr (.inr (.inl ⟨h2', h3', rfl, by simp [h3']⟩))
    · have h3' : (a == 3) = false := beq_eq_false_iff_ne.2 h3
      exact .inr (.inr (.inr (.inr ⟨h2', h3', by simp [h2', h3']⟩)))
def rules_kids.at_ (k : Nat) (b : rules_bk.Bk) (i : Nat) : List (S64) := if rules_kid (rd_T108 b.l3 (i : Int)) (((shape_Kids.f k b.l3 (i : Int)).getD []).length : Int) = true then [⟨b.rule, (i : Int), 0⟩] else []
def rules_kids.f (k : Nat) (b : rules_bk.Bk) : Option (List (S64)) := if ((List.range b.l3.length).all fun i => (shape_Kids.f k b.l3 (i : Int)).isSome) = true then some (rules_all b.l3.length (rules_kids.at_ k b)) else none
theorem rules_kids.parts {k : Nat} {b : rules_bk.Bk} {fl : List (S64)} (h : rules_kids.f k b = some fl) : (∀ i, i < b.l3.length → ∃ v, shape_Kids.f k b.l3 (i : Int) = some v) ∧ rules_all b.l3.length (rules_kids.at_ k b) = fl := by
  unfold rules_kids.f at h
  split at h
  case isFalse => cases h
  case isTrue hall => exact ⟨fun i hi => Option.isSome_iff_exists.1 (List.all_eq_true.1 hall i (List.mem_range.2 hi)), Option.some.inj h⟩
set_option maxHeartbeats 16000000 in
set_option maxRecDepth 100000 in
theorem rules_kids.calls (k : Nat) (w : World) (n₀ B : Nat) (b : rules_bk.Bk) (out : List (S64)) (vo : Value) (W : World) (hA : rules_bk.At w.heap.size n₀ W B b out vo) (hW : Below w.heap.size w W) (hr3 : Kd.C k108 w b.A3 b.l3.length b.l3) (hc3 : b.l3.length ≤ b.c3) (fl : List (S64)) (h : rules_kids.f k b = some fl)
    (hlen : (out ++ fl).length ≤ 1000000) :
    Calls Try.prog 122 #[.pointer (some ⟨B, 0, none⟩)] W fun e W' => (∃ u, e = .returned u) ∧ (∃ vo', rules_bk.At w.heap.size n₀ W' B b (out ++ fl) vo') ∧ rules_bk.Fr w.heap.size n₀ B W W' := by
  obtain ⟨hok, rfl⟩ := rules_kids.parts h
  have hmax := Kd.C_max hr3
  have hu := Try.underlying159
  have hu2 := Try.underlying112
  have hu3 := Try.underlying108
  obtain ⟨hc0, hc1, hc2, hc3', hc4, hc5, hc6, hc7⟩ := hA.cells
  have HR := Aside0.mk hr3
  have HA := Aside0.mk hA
  have HW := Aside0.mk hW
  have HL := Aside0.mk hlen
  have HOK := Aside0.mk hok
  clear hr3 hA hW hlen hc0 hc1 hc2 hc4 hc5 hc6 hc7 hok h
  go_enter Try.func122, Try.ntmps122
  go_wp2_with fail
  clear hc3'
  generalize hAS : b.A3 = AS3 at *
  have HAS := Aside0.mk hAS
  clear hAS
  go_loopg [11] b.l3.length (fun kq v9 wr => ∃ (i : Nat) (vo' : Value), Aside0 (b.l3.length - i = kq) ∧ Aside0 (i ≤ b.l3.length) ∧ v9 = .int .i64 (i : Int) ∧ Aside0 (rules_bk.At w.heap.size n₀ wr B b (out ++ rules_all i (rules_kids.at_ k b)) vo') ∧ Aside0 (rules_bk.Fr w.heap.size n₀ B W wr))
  case atStart => exact ⟨0, vo, ⟨rfl⟩, ⟨Nat.zero_le _⟩, rfl, ⟨by simpa [rules_all] using HA.out⟩, ⟨rules_bk.Fr.refl _ _ _ _⟩⟩
  case round =>
    obtain ⟨i, vo', HK, HI, rfl, HAt, HFr⟩ := hrel
    by_cases hi : i < b.l3.length
    · have hlt : decide ((i : Int) < (b.l3.length : Int)) = true := decide_eq_true (by omega)
      obtain ⟨ad, A3, c3, A4, c4, A5, c5, e1, hx0, hx1, hx2, hx3, hx4, hx5, hl3, hi3, hl4, hi4, hl5, hi5⟩ := at_T108 HR.out (i : Int) (by omega) (by omega)
      subst e1
      rw [Int.toNat_natCast] at hx0 hx1 hx2 hx3 hx4 hx5
      have HBR := Aside0.mk (HW.out.trans HFr.out.bel)
      replace hx0 := pw_cell_below HBR.out hx0
      replace hx1 := pw_cell_below HBR.out hx1
      replace hx2 := pw_cell_below HBR.out hx2
      replace hx3 := pw_cell_below HBR.out hx3
      replace hx4 := pw_cell_below HBR.out hx4
      replace hx5 := pw_cell_below HBR.out hx5
      have hle : (out ++ rules_all (i + 1) (rules_kids.at_ k b)).length ≤ 1000000 := by
        have h1 := HL.out
        have h2 := rules_all_le (rules_kids.at_ k b) (show i + 1 ≤ b.l3.length by omega)
        rw [List.length_append] at h1 ⊢
        omega
      have HLE := Aside0.mk hle
      have HI3 := Aside0.mk hi3
      have HI4 := Aside0.mk hi4
      have HI5 := Aside0.mk hi5
      have hok := HOK.out i hi
      clear hle hi3 hi4 hi5
      obtain ⟨ks, hks⟩ := hok
      have hat : rules_kids.at_ k b i = if rules_kid (rd_T108 b.l3 (i : Int)) (ks.length : Int) = true then [⟨b.rule, (i : Int), 0⟩] else [] := by unfold rules_kids.at_; rw [hks]; rfl
      generalize rd_T108 b.l3 (i : Int) = x at *
      have HKS := Aside0.mk hks
      unfold rules_kid at hat
      have hki : ((ks.length : Nat) : Int) = ((ks.length : Nat) : Int) := rfl
      clear hks hki
      rcases rules_kid.cases x.f1 (ks.length : Int) with ⟨hq1, hq2, hq0⟩ | ⟨hq1, hq2, hq3, hq0⟩ | ⟨hq1, hq3, hq4, hq0⟩ | ⟨hq1, hq3, hq4, hq0⟩ | ⟨hq1, hq3, hq0⟩ <;>
        (rw [hq0] at hat
         clear hq0
         have HAT := Aside0.mk hat
         clear hat
         go_wp2_with (first
          | ((with_reducible refine gate_dst (N := 3) rfl ?_); refine box_event ?hg (N := 3) ?hd (cs := #[.string (⟨#[]⟩ : ByteArray), .int .i64 0, .int .i64 0, .slice none 0 0, .slice none 0 0, .slice none 0 0]) (t := 108) ?hr ?_; (case hd => rfl); (case hg => rfl); (case hr => first | (go_simp; done) | (go_simp; rfl)); intro g hg w1 hbox hb; have HGE := Aside0.mk (Nat.le_of_eq hg.symm); clear hg)
          | (refine rules_store (n := wr.heap.size) (W0 := wr) (vs := #[.string x.f0, .int .i64 x.f1, .int .i64 x.f2, .slice A3 x.f3.length c3, .slice A4 x.f4.length c4, .slice A5 x.f5.length c5]) rfl rfl (.tmp 3) (.tmp 15) rfl rfl rfl hbox (by kernel_rfl) rfl (by simp [Value.oneCell']) hb HGE.out ?_; intro w2 hbox2 hb2; have HA2 := Aside0.mk (HAt.out.below hb2); have HF2 := Aside0.mk (HAt.out.fr hb2); have HBX := Aside0.mk hbox2; have hy3 := HA2.out.cells.2.2.2.1; rw [HAS.out] at hy3; clear hbox hb hbox2 hb2)
          | (go_at_call 151; refine (shape_Kids.calls k (some ad) b.c3 b.l3 (i : Int) ks w2 (Kd.C_below HR.out (HW.out.trans (HFr.out.bel.trans HF2.out.bel))) hc3 HKS.out).mono ?_; rintro e w4 ⟨v4, rfl, hR4, hb4⟩; obtain ⟨A9, c9, rfl⟩ := Kd.R_slice hR4; have HA4 := Aside0.mk (HA2.out.below hb4); have HF4 := Aside0.mk (HF2.out.trans (HA2.out.fr hb4)); obtain ⟨hz0, hz1, hz2, hz3, hz4, hz5⟩ := cz6_ (blk_below HBX.out hb4); clear hR4 hb4)
          | (go_at_call 150; refine (rules_bk.note w.heap.size n₀ B b _ vo' _ (i : Int) 0 w4 HA4.out (by have := HLE.out; rw [rules_all_succ, ← List.append_assoc, List.length_append] at this; omega)).mono ?_; rintro e w3 ⟨⟨u, rfl⟩, ⟨vo3, hA3⟩, hF3⟩; have HA3 := Aside0.mk hA3; have HF3 := Aside0.mk hF3; clear hA3 hF3))
         go_roundg (b.l3.length - (i + 1))
         case measure => have := HK.out; omega
         case rel => exact ⟨i + 1, vo3, ⟨rfl⟩, ⟨hi⟩, by go_num, ⟨by rw [rules_all_succ, ← List.append_assoc, HAT.out]; simpa using HA3.out⟩, ⟨HFr.out.trans (HF4.out.trans HF3.out)⟩⟩)
    · have hlt : decide ((i : Int) < (b.l3.length : Int)) = false := decide_eq_false (by omega)
      have hil : i = b.l3.length := by have := HI.out; omega
      have HIL := Aside0.mk hil
      clear hil
      go_wp2
      go_end0
      exact ⟨⟨_, rfl⟩, ⟨vo', by rw [HIL.out] at HAt; exact HAt.out⟩, HFr.out⟩


/-! ### api_Act_172: function 172 -/
open Go.Proofs.Ytbkaiojofgmbnaa.XFind in
set_option maxHeartbeats 2000000 in
set_option maxRecDepth 100000 in
theorem IndexFunc_Act.calls (p : S189 → Bool) (g : Nat) (lb : Array Value) (eg : ∀ args w, (callFunc g args).run Try.prog w = .ok (.enter g args) w) (A0 : Option Addr) (c0 : Nat) (l0 : List (S189)) (w : World) (hr0 : Kd.C k189 w A0 l0.length l0)
    (hp : ∀ W, Below w.heap.size w W → ∀ (x : S189), x ∈ l0 → ∀ (A2 : Option Addr) (c2 : Nat), k189.K W x [.string x.f0, .bool x.f1, .slice A2 x.f2.length c2] → Calls Try.prog g (#[.agg #[.string x.f0, .bool x.f1, .slice A2 x.f2.length c2]] ++ lb) W fun e w' => e = .returned (.bool (p x)) ∧ Below w.heap.size w w') :
    Calls Try.prog 172 #[.slice A0 l0.length c0, .func (.func g) #[] lb] w fun e w' => e = .returned (.int .i64 (idxF p l0)) ∧ Below w.heap.size w w' := by
  have hbig := hr0.2.1
  have HR := Aside0.mk hr0
  have HPF := Aside0.mk hp
  clear hr0 hp
  have hu := Try.underlying189
  go_enter Try.func172, Try.ntmps172
  go_wp2
  go_loopg [8] l0.length (fun kq v8 wr => ∃ n : Nat, Aside0 (n ≤ l0.length) ∧ Aside0 (l0.length - n = kq) ∧ v8 = .int .i64 (n : Int) ∧ Aside0 (Below w.heap.size w wr) ∧ Aside0 (∀ j : Nat, j < n → p (l0.getD j z189) = false))
  case atStart => exact ⟨0, ⟨Nat.zero_le _⟩, ⟨by omega⟩, rfl, ⟨Below.refl _ _⟩, ⟨fun j hj => absurd hj (Nat.not_lt_zero _)⟩⟩
  case round =>
    obtain ⟨n, HN, HK, rfl, HB, HP⟩ := hrel
    by_cases hlt : n < l0.length
    · have hlt' : decide ((n : Int) < (l0.length : Int)) = true := decide_eq_true (by omega)
      have hC := Kd.C_below HR.out HB.out
      obtain ⟨ad, A2, c2, e1, hx0, hx1, hx2, hl2, hg2⟩ := at_T189 hC (n : Int) (by omega) (by omega)
      subst e1
      rw [Int.toNat_natCast] at hx0 hx1 hx2
      have hy0 : rd_T189 l0 (n : Int) = l0.getD n z189 := by unfold rd_T189; rw [Int.toNat_natCast]
      rw [hy0] at hx0 hx1 hx2 hl2 hg2
      have hmem : l0.getD n z189 ∈ l0 := by simp only [List.getD, List.getElem?_eq_getElem hlt, Option.getD_some]; exact List.getElem_mem hlt
      have hcall := HPF.out wr HB.out (l0.getD n z189) hmem A2 c2 (k189_mk _ _ hl2 hg2)
      generalize hy : l0.getD n z189 = y at *
      have HY := Aside0.mk hy
      clear hy hC hy0 hmem hl2 hg2
      cases hq : p y with
      | true =>
        rw [hq] at hcall
        have HC := Aside0.mk hcall
        have HQ := Aside0.mk hq
        clear hcall hq
        go_wp2_with fail
        refine HC.out.mono ?_
        rintro e w' ⟨rfl, hb'⟩
        go_wp2
        go_ret
        refine ⟨?_, hb'⟩
        rw [idxF_hit p l0 z189 n hlt (by rw [HY.out]; exact HQ.out) HP.out]
        rfl
      | false =>
        rw [hq] at hcall
        have HC := Aside0.mk hcall
        have HQ := Aside0.mk hq
        clear hcall hq
        go_wp2_with fail
        refine HC.out.mono ?_
        rintro e w' ⟨rfl, hb'⟩
        go_wp2
        go_roundg (l0.length - (n + 1))
        case measure => have := HK.out; omega
        case rel =>
          refine ⟨n + 1, ⟨hlt⟩, ⟨rfl⟩, by go_num, ⟨hb'⟩, ⟨fun j hj => ?_⟩⟩
          by_cases e : j = n
          · subst e; rw [HY.out]; exact HQ.out
          · exact HP.out j (by omega)
    · have hlt' : decide ((n : Int) < (l0.length : Int)) = false := decide_eq_false (by omega)
      have hn : n = l0.length := by have := HN.out; omega
      have HNN := Aside0.mk hn
      clear hn
      go_wp2
      go_ret
      exact ⟨by rw [idxF_miss p l0 z189 (fun j hj => HP.out j (by have := HNN.out; omega))]; rfl, HB.out⟩


/-! ### api_Act_154: function 154 -/
-- USES slices.IndexFunc[[]semblance/api.Act,semblance/api.Act]
open Go.Proofs.Ytbkaiojofgmbnaa.XFind in
set_option maxHeartbeats 2000000 in
theorem ContainsFunc_Act.calls (p : S189 → Bool) (g : Nat) (lb : Array Value) (eg : ∀ args w, (callFunc g args).run Try.prog w = .ok (.enter g args) w) (A0 : Option Addr) (c0 : Nat) (l0 : List (S189)) (w : World) (hr0 : Kd.C k189 w A0 l0.length l0)
    (hp : ∀ W, Below w.heap.size w W → ∀ (x : S189), x ∈ l0 → ∀ (A2 : Option Addr) (c2 : Nat), k189.K W x [.string x.f0, .bool x.f1, .slice A2 x.f2.length c2] → Calls Try.prog g (#[.agg #[.string x.f0, .bool x.f1, .slice A2 x.f2.length c2]] ++ lb) W fun e w' => e = .returned (.bool (p x)) ∧ Below w.heap.size w w') :
    Calls Try.prog 154 #[.slice A0 l0.length c0, .func (.func g) #[] lb] w fun e w' => e = .returned (.bool (l0.any p)) ∧ Below w.heap.size w w' := by
  have hcall := IndexFunc_Act.calls p g lb eg A0 c0 l0 w hr0 hp
  have HANY := Aside0.mk (idxF_any p l0)
  generalize idxF p l0 = i at hcall HANY
  have HC := Aside0.mk hcall
  clear hp hr0 hcall
  go_enter Try.func154, Try.ntmps154
  go_wp2_with (go_at_call 172; refine HC.out.mono ?_; rintro e w' ⟨rfl, hb'⟩)
  go_ret
  exact ⟨by rw [← HANY.out]; rfl, hb'⟩


/-! ### term_all: function 196 -/
-- USES slices.ContainsFunc[[]int,int]
def term_all.f (l0 : List Int) (a1 : Int) : Option Bool := some (!(l0.any fun x => x != a1))
set_option maxHeartbeats 2000000 in
theorem term_all.lit (a1 : Int) (B : Nat) (x : Int) (W : World) (hc : W.cell? ⟨B, 0, none⟩ = some (.int .i64 a1)) :
    Calls Try.prog 198 #[.int .i64 x, .pointer (some ⟨B, 0, none⟩)] W fun e w' => e = .returned (.bool (x != a1)) ∧ W = w' := by
  go_enter Try.func198, Try.ntmps198
  go_wp2
  go_ret
  exact ⟨rfl, rfl⟩
set_option maxHeartbeats 2000000 in
theorem term_all.calls (A0 : Option Addr) (c0 : Nat) (l0 : List Int) (a1 : Int) (r : Bool) (w : World) (hr0 : Kd.C (Kd.int .i64) w A0 l0.length l0) (hc0 : l0.length ≤ c0) (h : term_all.f l0 a1 = some r) :
    Calls Try.prog 196 #[.slice A0 l0.length c0, .int .i64 a1] w fun e w' => e = .returned (.bool r) ∧ Below w.heap.size w w' := by
  have H := Option.some.inj h
  clear h
  have eg := Go.Proofs.enters_of Try.func198 (by kernel_rfl) rfl
  have hb0 : Below w.heap.size w (w.alloc (.cells #[.int .i64 a1] 3)) := (Below.refl _ _).alloc (Nat.le_refl _) _
  have hcell := cell_of_one (heap_alloc_new w (.cells #[.int .i64 a1] 3))
  have hcont := ContainsFunc_int.calls (fun x => x != a1) 198 #[.pointer (some ⟨w.heap.size, 0, none⟩)] eg A0 c0 l0 (w.alloc (.cells #[.int .i64 a1] 3)) (Kd.C_below hr0 hb0) hr0.2.1
    (fun W2 h2 x => (term_all.lit a1 w.heap.size x W2 ((h2.cell (p := ⟨w.heap.size, 0, none⟩) (by simp)).trans hcell)).mono fun e w' ⟨he, hw⟩ => ⟨he, by subst hw; exact h2⟩)
  have HCO := Aside0.mk hcont
  have HH := Aside0.mk H
  clear hcont hr0 H
  go_enter Try.func196, Try.ntmps196
  go_wp2_with (go_at_call 180; refine HCO.out.mono ?_; rintro e w' ⟨rfl, hb2⟩)
  go_ret
  exact ⟨by rw [← HH.out]; rfl, hb0.trans (hb2.mono (by simp))⟩


/-! ### term_typed: function 191 -/
def term_typed.j0 : Nat → List Int → Int → Int → Bool → Option (Int)
  | 0, _, _, _, _ => none
  | k + 1, x1, x5, x6, x10 => if x10 = true then ((term_all.f x1 2).bind fun t171 => (if t171 = true then (some x6) else (some 0))) else ((term_all.f x1 x5).bind fun t172 => (if t172 = true then (some x6) else (some 0)))
def term_typed.f (k : Nat) (a0 : Int) (l1 : List Int) : Option (Int) := if a0 ≤ 8 then ((term_all.f l1 1).bind fun t170 => (if t170 = true then (some 1) else (some 0))) else (if a0 ≤ 12 then (term_typed.j0 k l1 1 2 true) else (term_typed.j0 k l1 1 2 (decide (a0 ≥ 19))))
theorem term_typed.mono_l : ∀ k, (∀ y0 y1 y2 y3, LeO (term_typed.j0 k y0 y1 y2 y3) (term_typed.j0 (k + 1) y0 y1 y2 y3))
  | 0 => fun _ _ _ _ r h => by simp [term_typed.j0] at h
  | k + 1 => by
    have ih0 := term_typed.mono_l k
    · intro y0 y1 y2 y3
      unfold term_typed.j0
      exact mo_
theorem term_typed.mono : ∀ a0 a1 k, LeO (term_typed.f k a0 a1) (term_typed.f (k + 1) a0 a1) := by
  intro a0 a1 k
  have ih0 := term_typed.mono_l k
  unfold term_typed.f
  exact mo_
instance term_typed.lc : ∀ a0 a1 k, LeC (term_typed.f k a0 a1) (term_typed.f (k + 1) a0 a1) := fun a0 a1 k => ⟨term_typed.mono a0 a1 k⟩
set_option maxHeartbeats 8000000 in
set_option maxRecDepth 100000 in
theorem term_typed.calls (k : Nat) (a0 : Int) (A1 : Option Addr) (c1 : Nat) (l1 : List Int) (r : Int) (w : World) (hr1 : Kd.C (Kd.int .i64) w A1 l1.length l1) (hc1 : l1.length ≤ c1) (h : term_typed.f k a0 l1 = some r) :
  Calls Try.prog 191 #[.int .i64 a0, .slice A1 l1.length c1] w fun e w' => e = .returned (.int .i64 r) ∧ Below w.heap.size w w' := by
 have HR1 := Aside0.mk hr1
 have HC1 := Aside0.mk hc1
 clear hr1 hc1
 have HB := Aside0.mk (Below.refl w.heap.size w)
 unfold term_typed.f at h
 have H := h
 clear h
 replace H := iu_ H; obtain ⟨c3b0, H⟩ | ⟨c3b0, H⟩ := H
 ·replace H := bi_ H; obtain ⟨t170, A4, H⟩ := H
  replace H := ie_ H; obtain ⟨rfl, H⟩ | ⟨rfl, H⟩ := H
  ·obtain rfl := Option.some.inj H
   go_enter Try.func191, Try.ntmps191
   go_wp2_with (first | ((with_reducible refine gate_callee (f := 196) rfl ?_); refine gl_ (some 19) Try.func196 #[.slice A1 l1.length c1, .int .i64 1] ?_; (with_reducible refine cm_ (term_all.calls _ _ l1 1 true _ (kg_ HR1.out) HC1.out A4.out) ?_); intro w6 hb; refine ⟨_, rfl, ?_⟩; replace HB := ts_ HB hb; clear hb))
   go_ret
   exact ⟨rv_, bw_⟩
  obtain rfl := Option.some.inj H
  go_enter Try.func191, Try.ntmps191
  go_wp2_with (first | ((with_reducible refine gate_callee (f := 196) rfl ?_); refine gl_ (some 19) Try.func196 #[.slice A1 l1.length c1, .int .i64 1] ?_; (with_reducible refine cm_ (term_all.calls _ _ l1 1 false _ (kg_ HR1.out) HC1.out A4.out) ?_); intro w7 hb; refine ⟨_, rfl, ?_⟩; replace HB := ts_ HB hb; clear hb))
  go_ret
  exact ⟨rv_, bw_⟩
 have HC8 := Aside0.mk H
 clear H
 go_enter Try.func191, Try.ntmps191
 go_upto_region 4 with (fail)
 go_cut [10] (fun v10 wc => ∃ (kq : Nat) (x10_7 : Bool), v10 = .bool x10_7 ∧ Aside0 (term_typed.j0 kq l1 1 2 x10_7 = some r) ∧ Aside0 (kq ≤ k) ∧ Aside0 (Below w.heap.size w wc))
 case first =>
  have H := HC8.out
  clear HC8
  replace H := iu_ H; obtain ⟨c9b0, H⟩ | ⟨c9b0, H⟩ := H
  ·(first | rw [c9b0] | (simp only [i64_w, i32_w]; rw [c9b0]) | skip)
   have H' := Aside0.mk H
   clear H
   go_wp2
   go_meet
   case rel => exact ⟨_, (true), rl_, H', ⟨km_⟩, ⟨bw_⟩⟩
  (first | rw [c9b0] | (simp only [i64_w, i32_w]; rw [c9b0]) | skip)
  have H' := Aside0.mk H
  clear H
  go_wp2
  go_meet
  case rel => exact ⟨_, (decide (a0 ≥ 19)), rl_, H', ⟨km_⟩, ⟨bw_⟩⟩
 case rest =>
  clear HC8
  try clear c1
  try clear c3b0
  obtain ⟨kq, x10_7, rfl, HA, HJ7, HB⟩ := hcut
  cases kq with
  | zero => exact absurd HA.out (by simp [term_typed.j0])
  | succ kj7 =>
   have H := HA.out
   clear HA
   simp only [term_typed.j0] at H
   replace H := ie_ H; obtain ⟨rfl, H⟩ | ⟨rfl, H⟩ := H
   ·replace H := bi_ H; obtain ⟨t171, A11, H⟩ := H
    replace H := ie_ H; obtain ⟨rfl, H⟩ | ⟨rfl, H⟩ := H
    ·obtain rfl := Option.some.inj H
     go_wp2_with (first | ((with_reducible refine gate_callee (f := 196) rfl ?_); refine gl_ (some 19) Try.func196 #[.slice A1 l1.length c1, .int .i64 2] ?_; (with_reducible refine cm_ (term_all.calls _ _ l1 2 true _ (kc_ HR1 HB) HC1.out A11.out) ?_); intro w13 hb; refine ⟨_, rfl, ?_⟩; replace HB := ts_ HB hb; clear hb))
     go_ret
     exact ⟨rv_, bw_⟩
    obtain rfl := Option.some.inj H
    go_wp2_with (first | ((with_reducible refine gate_callee (f := 196) rfl ?_); refine gl_ (some 19) Try.func196 #[.slice A1 l1.length c1, .int .i64 2] ?_; (with_reducible refine cm_ (term_all.calls _ _ l1 2 false _ (kc_ HR1 HB) HC1.out A11.out) ?_); intro w14 hb; refine ⟨_, rfl, ?_⟩; replace HB := ts_ HB hb; clear hb))
    go_ret
    exact ⟨rv_, bw_⟩
   replace H := bi_ H; obtain ⟨t172, A15, H⟩ := H
   replace H := ib_ H; obtain ⟨rfl, H⟩ | ⟨rfl, H⟩ := H
   ·obtain rfl := Option.some.inj H
    go_wp2_with (first | ((with_reducible refine gate_callee (f := 196) rfl ?_); refine gl_ (some 19) Try.func196 #[.slice A1 l1.length c1, .int .i64 1] ?_; (with_reducible refine cm_ (term_all.calls _ _ l1 1 false _ (kc_ HR1 HB) HC1.out A15.out) ?_); intro w18 hb; refine ⟨_, rfl, ?_⟩; replace HB := ts_ HB hb; clear hb))
    go_ret
    exact ⟨rv_, bw_⟩

   obtain rfl := Option.some.inj H
   go_wp2_with (first | ((with_reducible refine gate_callee (f := 196) rfl ?_); refine gl_ (some 19) Try.func196 #[.slice A1 l1.length c1, .int .i64 1] ?_; (with_reducible refine cm_ (term_all.calls _ _ l1 1 true _ (kc_ HR1 HB) HC1.out A15.out) ?_); intro w17 hb; refine ⟨_, rfl, ?_⟩; replace HB := ts_ HB hb; clear hb))
   go_ret
   exact ⟨rv_, bw_⟩
/-! ### term_Type: function 182 -/
-- USES semblance/term.fold
def term_Type.f (k : Nat) (l0 : List (S214)) : Option Int := term_fold.f k (fun op vs => term_typed.f k op vs) l0
theorem term_Type.mono : ∀ a0 k, LeO (term_Type.f k a0) (term_Type.f (k + 1) a0) := fun a0 k => term_fold.mono k _ _ (fun op vs => term_typed.mono op vs k) a0
instance term_Type.lc : ∀ a0 k, LeC (term_Type.f k a0) (term_Type.f (k + 1) a0) := fun a0 k => ⟨term_Type.mono a0 k⟩
set_option maxHeartbeats 2000000 in
theorem term_Type.calls (k : Nat) (A0 : Option Addr) (c0 : Nat) (l0 : List (S214)) (r : Int) (w : World) (hr0 : Kd.C k214 w A0 l0.length l0) (hc0 : l0.length ≤ c0) (h : term_Type.f k l0 = some r) :
    Calls Try.prog 182 #[.slice A0 l0.length c0] w fun e w' => e = .returned (.int .i64 r) ∧ Below w.heap.size w w' := by
  have HC := Aside0.mk (term_fold.calls k (fun op vs => term_typed.f k op vs) 191 (Go.Proofs.enters_of Try.func191 (by kernel_rfl) rfl)
    (fun W base op v vs r hb hn hr h => by
      obtain ⟨A1, c1, rfl, hl1, hC1⟩ := Kd.R_reads hr
      exact (term_typed.calls k op A1 c1 vs r W hC1 hl1 h).mono fun e w' ⟨he, hw⟩ => ⟨he, grown_of_below hw _⟩) A0 c0 l0 r w hr0 hc0 h)
  clear hr0 h
  go_enter Try.func182, Try.ntmps182
  go_wp2_with fail
  refine HC.out.mono ?_
  rintro e w' ⟨rfl, hb⟩
  go_wp2
  go_ret
  exact ⟨rfl, hb⟩


/-! ### slices_Index_string_string: function 72 -/
def slices_Index_string_string.l0 : Nat → List ByteArray → ByteArray → Int → Int → Option (Int)
  | 0, _, _, _, _ => none
  | k + 1, x0, x1, x7, x8 => if x8 < x7 then (if 0 ≤ x8 then (if x8 < (x0.length : Int) then (if x1.toList = (rdOf ByteArray.empty x0 x8).toList then (some x8) else (slices_Index_string_string.l0 k x0 x1 x7 (wrap64 (x8 + 1)))) else (none)) else (none)) else (some (-1))
def slices_Index_string_string.f (k : Nat) (l0 : List ByteArray) (a1 : ByteArray) : Option (Int) := slices_Index_string_string.l0 k l0 a1 (l0.length : Int) 0
theorem slices_Index_string_string.mono_l : ∀ k, (∀ y0 y1 y2 y3, LeO (slices_Index_string_string.l0 k y0 y1 y2 y3) (slices_Index_string_string.l0 (k + 1) y0 y1 y2 y3))
  | 0 => fun _ _ _ _ r h => by simp [slices_Index_string_string.l0] at h
  | k + 1 => by
    have ih0 := slices_Index_string_string.mono_l k
    · intro y0 y1 y2 y3
      unfold slices_Index_string_string.l0
      exact mo_
theorem slices_Index_string_string.mono : ∀ a0 a1 k, LeO (slices_Index_string_string.f k a0 a1) (slices_Index_string_string.f (k + 1) a0 a1) := by
  intro a0 a1 k
  have ih0 := slices_Index_string_string.mono_l k
  unfold slices_Index_string_string.f
  exact mo_
instance slices_Index_string_string.lc : ∀ a0 a1 k, LeC (slices_Index_string_string.f k a0 a1) (slices_Index_string_string.f (k + 1) a0 a1) := fun a0 a1 k => ⟨slices_Index_string_string.mono a0 a1 k⟩
set_option maxHeartbeats 8000000 in
set_option maxRecDepth 100000 in
theorem slices_Index_string_string.calls (k : Nat) (A0 : Option Addr) (c0 : Nat) (l0 : List ByteArray) (a1 : ByteArray) (r : Int) (w : World) (hr0 : Kd.C Kd.string w A0 l0.length l0) (hc0 : l0.length ≤ c0) (h : slices_Index_string_string.f k l0 a1 = some r) :
  Calls Try.prog 72 #[.slice A0 l0.length c0, .string a1] w fun e w' => e = .returned (.int .i64 r) ∧ Drawn0 w w' := by
 have HR0 := Aside0.mk hr0
 have HC0 := Aside0.mk hc0
 clear hr0 hc0
 unfold slices_Index_string_string.f at h
 have H := h
 clear h
 have H' := Aside0.mk H
 clear H
 go_enter Try.func72, Try.ntmps72
 go_wp2
 go_loopg [8] k (fun kq v8 w' => ∃ (x8_1 : Int), v8 = .int .i64 x8_1 ∧ Aside0 (slices_Index_string_string.l0 kq l0 a1 (l0.length : Int) x8_1 = some r) ∧ Aside0 (kq ≤ k) ∧ Drawn0 w w')
 case atStart => exact ⟨(0), rl_, H', ⟨Nat.le_refl _⟩, dw_⟩
 case round =>
  clear H'
  obtain ⟨x8_1, rfl, HA, HK1, ⟨m1, rfl⟩⟩ := hrel
  cases gk with
  | zero => exact absurd HA.out (by simp [slices_Index_string_string.l0])
  | succ k1 =>
   have H := HA.out
   clear HA
   simp only [slices_Index_string_string.l0] at H
   replace H := it_ H; obtain ⟨c3b0, H⟩ | ⟨c3b0, H⟩ := H
   ·obtain rfl := Option.some.inj H
    go_wp2
    go_ret
    exact ⟨rl_, dw_⟩

   replace H := is_ H; obtain ⟨c4b0, H⟩ := H
   replace H := is_ H; obtain ⟨c5b0, H⟩ := H
   replace H := id_ H; obtain ⟨c6, H⟩ | ⟨c6, H⟩ := H
   ·have c6b0 : (a1.toList == (rdOf ByteArray.empty l0 x8_1).toList) = true := beq_iff_eq.mpr c6
    have c6b1 : (a1.toList != (rdOf ByteArray.empty l0 x8_1).toList) = false := bne_eq_false_iff_eq.mpr c6
    clear c6
    obtain rfl := Option.some.inj H
    have p173 : 0 ≤ (x8_1 : Int) := of_decide_eq_true (by first | (with_reducible assumption) | assumption)
    have q173 : x8_1 < (l0.length : Int) := of_decide_eq_true (by first | (with_reducible assumption) | assumption)
    obtain ⟨ad173, e173, hx173_0⟩ := Kd.at_string HR0.out x8_1 p173 q173
    cases e173
    replace p173 := eq_true p173
    replace q173 := eq_true q173
    go_wp2
    go_ret
    exact ⟨rl_, dw_⟩
   have c6b0 : (a1.toList == (rdOf ByteArray.empty l0 x8_1).toList) = false := beq_eq_false_iff_ne.mpr c6
   have c6b1 : (a1.toList != (rdOf ByteArray.empty l0 x8_1).toList) = true := bne_iff_ne.mpr c6
   have H' := Aside0.mk H
   clear H
   have p173 : 0 ≤ (x8_1 : Int) := of_decide_eq_true (by first | (with_reducible assumption) | assumption)
   have q173 : x8_1 < (l0.length : Int) := of_decide_eq_true (by first | (with_reducible assumption) | assumption)
   obtain ⟨ad173, e173, hx173_0⟩ := Kd.at_string HR0.out x8_1 p173 q173
   cases e173
   replace p173 := eq_true p173
   replace q173 := eq_true q173
   go_wp2
   go_roundg k1
   case measure => have := HK1.out; omega
   case rel => exact ⟨(wrap64 (x8_1 + 1)), rl_, H', ⟨kn_ HK1⟩, dw_⟩
end Go.Proofs.Ytbkaiojofgmbnaa.XL
