-- written by wip/xprint.py out of the translation
import Derived.Test.YtoeioigpkfgppaaXRp0
namespace Go.Proofs.Ytoeioigpkfgppaa.XR
open Go.Proofs.Ytoeioigpkfgppaa.XGrow Go.RowKit Go.Proofs.YtoeioigpkfgppaaW.PrintWords Go.Proofs.YtoeioigpkfgppaaW.PrintLast Go.Proofs.YtoeioigpkfgppaaW.PrintMore
attribute [local go_sem] max2_int min2_int max_two min_two max_three min_three max_four min_four   -- for this text's walks alone
set_option linter.unusedVariables false
set_option linter.unusedSimpArgs false

/-! ### rules_book_note: function 66 -/
/-- what a book holds beside its flaws: the chart, the names, the rule -/
structure rules_bk.Bk where
  nm : ByteArray
  A1 : Option Addr
  c1 : Nat
  l1 : List ByteArray
  A2 : Option Addr
  c2 : Nat
  l2 : List (S51)
  A3 : Option Addr
  c3 : Nat
  l3 : List (S55)
  AV : Option Addr
  cV : Nat
  lV : List ByteArray
  AS : Option Addr
  cS : Nat
  lS : List ByteArray
  rule : Int
/-- block B is a book; its names' rows lie below n₀, its flaws' row from n₀ on -/
structure rules_bk.At (n₁ n₀ : Nat) (W : World) (B : Nat) (b : rules_bk.Bk) (out : List (S66)) (vo : Value) : Prop where
  blk : W.heap[B]? = some (.cells #[.string b.nm, .slice b.A1 b.l1.length b.c1, .slice b.A2 b.l2.length b.c2, .slice b.A3 b.l3.length b.c3, .slice b.AV b.lV.length b.cV, .slice b.AS b.lS.length b.cS, .int .i64 b.rule, vo] 71 (0, 0))
  row : Kd.R k66 66 W n₀ (fun k => k ≠ B) vo out
  vars : Kd.R Kd.string 9 W n₁ (fun k => k < n₀ ∧ k ≠ B) (.slice b.AV b.lV.length b.cV) b.lV
  states : Kd.R Kd.string 9 W n₁ (fun k => k < n₀ ∧ k ≠ B) (.slice b.AS b.lS.length b.cS) b.lS
  lo : n₁ ≤ B
  hi : B < n₀
  size : n₀ ≤ W.heap.size
/-- what a method leaves as it is -/
structure rules_bk.Fr (n₁ n₀ B : Nat) (W W' : World) : Prop where
  bel : Below n₁ W W'
  same : ∀ K, K < n₀ → K ≠ B → W'.heap[K]? = W.heap[K]?
  kind : ∀ K cs t f, K ≠ B → t ≠ 66 → W.heap[K]? = some (.cells cs t f) → W'.heap[K]? = some (.cells cs t f)
theorem rules_bk.Fr.refl (n₁ n₀ B : Nat) (W : World) : rules_bk.Fr n₁ n₀ B W W := ⟨Below.refl _ _, fun _ _ _ => rfl, fun _ _ _ _ _ _ h => h⟩
theorem rules_bk.Fr.trans {n₁ n₀ B : Nat} {U V W : World} (h : rules_bk.Fr n₁ n₀ B U V) (k : rules_bk.Fr n₁ n₀ B V W) : rules_bk.Fr n₁ n₀ B U W := ⟨h.bel.trans k.bel, fun K h1 h2 => (k.same K h1 h2).trans (h.same K h1 h2), fun K cs t f h1 h2 h3 => k.kind K cs t f h1 h2 (h.kind K cs t f h1 h2 h3)⟩
theorem rules_bk.Fr.below {n₁ n₀ B : Nat} {W W' : World} (hb : Below W.heap.size W W') (h1 : n₁ ≤ n₀) (h0 : n₀ ≤ W.heap.size) : rules_bk.Fr n₁ n₀ B W W' := ⟨hb.mono (Nat.le_trans h1 h0), fun K hK _ => hb.block K (Nat.lt_of_lt_of_le hK h0), fun K cs t f _ _ h => (hb.block K (Array.getElem?_eq_some_iff.1 h).1).trans h⟩
theorem rules_bk.At.below {n₁ n₀ B : Nat} {W W' : World} {b : rules_bk.Bk} {out : List (S66)} {vo : Value} (h : rules_bk.At n₁ n₀ W B b out vo) (hb : Below W.heap.size W W') : rules_bk.At n₁ n₀ W' B b out vo :=
  ⟨blk_below h.blk hb, Kd.R_below h.row hb, Kd.R_below h.vars hb, Kd.R_below h.states hb, h.lo, h.hi, Nat.le_trans h.size hb.size⟩
theorem rules_bk.At.fr {n₁ n₀ B : Nat} {W W' : World} {b : rules_bk.Bk} {out : List (S66)} {vo : Value} (h : rules_bk.At n₁ n₀ W B b out vo) (hb : Below W.heap.size W W') : rules_bk.Fr n₁ n₀ B W W' := rules_bk.Fr.below hb (by have := h.lo; have := h.hi; omega) h.size
theorem rules_bk.At.cells {n₁ n₀ B : Nat} {W : World} {b : rules_bk.Bk} {out : List (S66)} {vo : Value} (h : rules_bk.At n₁ n₀ W B b out vo) :
    W.cell? ⟨B, 0, none⟩ = some (.string b.nm) ∧ W.cell? ⟨B, 1, none⟩ = some (.slice b.A1 b.l1.length b.c1) ∧ W.cell? ⟨B, 2, none⟩ = some (.slice b.A2 b.l2.length b.c2) ∧ W.cell? ⟨B, 3, none⟩ = some (.slice b.A3 b.l3.length b.c3) ∧ W.cell? ⟨B, 4, none⟩ = some (.slice b.AV b.lV.length b.cV) ∧ W.cell? ⟨B, 5, none⟩ = some (.slice b.AS b.lS.length b.cS) ∧ W.cell? ⟨B, 6, none⟩ = some (.int .i64 b.rule) ∧ W.cell? ⟨B, 7, none⟩ = some vo := cz8_ h.blk
/-- the flaws' slice stored anew, its row grown -/
theorem rules_bk.At.stored {n₁ n₀ B : Nat} {W w3 : World} {b : rules_bk.Bk} {out out1 : List (S66)} {vo v1 : Value} (h : rules_bk.At n₁ n₀ W B b out vo) (HO : Kd.R k66 66 w3 n₀ (fun k => k ≠ B) v1 out1) (HB : Below n₀ W w3) (HG : W.drew.grownBy w3 vo.ownBlock)
    (HK : w3.heap[B]? = some (.cells #[.string b.nm, .slice b.A1 b.l1.length b.c1, .slice b.A2 b.l2.length b.c2, .slice b.A3 b.l3.length b.c3, .slice b.AV b.lV.length b.cV, .slice b.AS b.lS.length b.cS, .int .i64 b.rule, vo] 71 (0, 0))) :
    rules_bk.At n₁ n₀ (w3.setCell ⟨B, 7, none⟩ v1) B b out1 v1 ∧ rules_bk.Fr n₁ n₀ B W (w3.setCell ⟨B, 7, none⟩ v1) := by
  have hs : ∀ k, k < n₀ → k ≠ B → (w3.setCell ⟨B, 7, none⟩ v1).heap[k]? = W.heap[k]? := fun k h1 h2 => (Below.heap_setCell _ ⟨B, 7, none⟩ _ _ h2).trans (HB.block k h1)
  have hb : Below n₁ W (w3.setCell ⟨B, 7, none⟩ v1) := (HB.mono (by have := h.lo; have := h.hi; omega)).setCell (p := ⟨B, 7, none⟩) h.lo v1
  have hk : ∀ K cs t f, K ≠ B → t ≠ 66 → W.heap[K]? = some (.cells cs t f) → (w3.setCell ⟨B, 7, none⟩ v1).heap[K]? = some (.cells cs t f) := fun K cs t f h1 h2 h3 => by
    refine (Below.heap_setCell _ ⟨B, 7, none⟩ _ _ h1).trans ((HG.block K (Array.getElem?_eq_some_iff.1 h3).1 (fun e => ?_)).trans h3)
    obtain ⟨cells, hc⟩ := Kd.R_typed h.row K e.symm
    rw [hc] at h3
    simp only [Option.some.injEq, Obj.cells.injEq] at h3
    exact h2 h3.2.1.symm
  exact ⟨⟨blk_put HK 7 v1 rfl, Kd.R_far HO (p := ⟨B, 7, none⟩) (fun k hk => hk) v1, Kd.R_step h.vars (fun k hk _ => hs k hk.1 hk.2), Kd.R_step h.states (fun k hk _ => hs k hk.1 hk.2), h.lo, h.hi, Nat.le_trans h.size hb.size⟩, ⟨hb, hs, hk⟩⟩
/-- a row of another kind, laid down behind the book, stays -/
theorem rules_bk.Fr.row {n₁ n₀ B : Nat} {W W' : World} (f : rules_bk.Fr n₁ n₀ B W W') {α : Type} {d : Kd α} {e base : Nat} {ok : Nat → Prop} {v : Value} {xs : List α} (h : Kd.R d e W base ok v xs) (hq : ∀ q, q ∈ e :: d.E → q ≠ 66) (hB : B < base) : Kd.R d e W' base ok v xs :=
  Kd.R_mono (Kd.R_step (Kd.R_bound h) (fun k hk _ => by
    obtain ⟨_, h1, _, q, hq1, cells, hc⟩ := hk
    rw [f.kind k _ _ _ (by omega) (hq q hq1) hc, hc])) (fun k hk => hk.1)
/-- all that is noted at n places, one behind the other -/
def rules_all {α : Type} (n : Nat) (g : Nat → List α) : List α := (List.range n).flatMap g
theorem rules_all_succ {α : Type} (n : Nat) (g : Nat → List α) : rules_all (n + 1) g = rules_all n g ++ g n := by simp [rules_all, List.range_succ]
theorem rules_all_le {α : Type} (g : Nat → List α) : ∀ {n m : Nat}, n ≤ m → (rules_all n g).length ≤ (rules_all m g).length := by
  intro n m h
  induction h with
  | refl => exact Nat.le_refl _
  | step _ ih => rw [rules_all_succ, List.length_append]; omega
theorem rules_all_congr {α : Type} {n : Nat} {g g' : Nat → List α} (h : ∀ i, i < n → g i = g' i) : rules_all n g = rules_all n g' := by
  induction n with
  | zero => rfl
  | succ n ih => rw [rules_all_succ, rules_all_succ, ih (fun i hi => h i (by omega)), h n (Nat.lt_succ_self n)]
theorem rules_bk.info : (Try.prog.info? 66).map (fun i => (i.zero, i.size, i.bytes)) = some (some (.agg #[(.int .i64 0), (.int .i64 0), (.int .i64 0)]), 3, 24) := by kernel_rfl
set_option maxHeartbeats 2000000 in
set_option maxRecDepth 100000 in
theorem rules_bk.note (n₁ n₀ B : Nat) (b : rules_bk.Bk) (out : List (S66)) (vo : Value) (is : Bool) (i p : Int) (W : World) (h : rules_bk.At n₁ n₀ W B b out vo) (hlen : out.length ≤ 1000000) :
    Calls Try.prog 66 #[.pointer (some ⟨B, 0, none⟩), .bool is, .int .i64 i, .int .i64 p] W fun e W' => (∃ u, e = .returned u) ∧ (∃ vo', rules_bk.At n₁ n₀ W' B b (if is = true then out ++ [⟨b.rule, i, p⟩] else out) vo') ∧ rules_bk.Fr n₁ n₀ B W W' := by
  cases is with
  | false =>
    have HF := Aside0.mk h
    clear h
    go_enter Try.func66, Try.ntmps66
    go_wp2
    go_end0
    exact ⟨⟨_, rfl⟩, ⟨_, HF.out⟩, rules_bk.Fr.refl _ _ _ _⟩
  | true =>
    obtain ⟨A, c, rfl⟩ := Kd.R_slice h.row
    obtain ⟨hc0, hc1, hc2, hc3, hc4, hc5, hc6, hc7⟩ := h.cells
    have hf7 := blk_frozen h.blk 7
    have hc7a : (W.alloc (.cells #[.int .i64 b.rule, .int .i64 i, .int .i64 p] 66)).cell? ⟨B, 7, none⟩ = some (.slice A out.length c) := (blk_cell (blk_alloc h.blk _) 7).trans rfl
    have HF := Aside0.mk h
    have hu := Try.underlying71
    clear h hc0 hc1 hc2 hc3 hc4 hc5
    go_enter Try.func66, Try.ntmps66
    go_wp2_with fail
    go_region_law (refine Kd.R_append_step k66 (W := W.drew) (w0 := W) n₀ (by rfl) (.tmp 13) (.tmp 21) 29 66 (.agg #[.int .i64 0, .int .i64 0, .int .i64 0]) 24 rfl Try.underlying29 rules_bk.info rfl (by decide) (by omega) (.slice A out.length c) out ⟨b.rule, i, p⟩ [.int .i64 b.rule, .int .i64 i, .int .i64 p] (fun k => k ≠ B) (fun _ => False) rfl rfl (k66_mkM _ _ _ ⟨b.rule, i, p⟩) (fun _ hk => hk.elim) (fun k hk => Nat.ne_of_gt (Nat.lt_of_lt_of_le HF.out.hi (Nat.le_trans HF.out.size hk))) (Kd.R_drew HF.out.row) (below_drew (Below.refl _ _)) HF.out.size (by omega) ?_; intro v1 w3 ho hb hg hat; obtain ⟨A1, c1, rfl⟩ := Kd.R_slice ho; have HO := Aside0.mk ho; have HB := Aside0.mk hb; have HG := Aside0.mk hg; have HBK := Aside0.mk (blk_grown (w := W.drew) HF.out.blk hg (Kd.R_away HF.out.row (fun k hk => hk))); have hk7 := (blk_cell HBK.out 7).trans rfl; have hf73 := blk_frozen HBK.out 7; clear ho hb hg hat)
    all_goals
      go_wp2
      go_end0
      have hst := HF.out.stored HO.out HB.out HG.out HBK.out
      rw [show (out ++ [(⟨b.rule, i, p⟩ : S66)]).length = out.length + 1 by simp] at hst
      exact ⟨⟨_, rfl⟩, ⟨_, hst.1⟩, hst.2⟩


/-! ### rules_book_ranges: function 35 -/
-- USES (*semblance/rules.book).note
/-- a struct's copy into a box that lies there -/
theorem rules_store {P : Program} {ops : Array Oper} {rest : List Oper} {o : Oper} {a : Act} {Q : Exit → Act → World → Prop} {W W0 : World} {n : Nat} (hgd : o.guard = none) (hd : o.dst = none) {cs vs : Array Value} {t : TypeId} {g : Nat} (x y : Operand) (ho : o.op = .store t x y)
    (hx : a.eval x = .pointer (some ⟨g, 0, none⟩)) (hy : a.eval y = .agg vs) (hk : W.heap[g]? = some (.cells cs t (0, 0))) (hi : (P.info? t).map (·.size) = some vs.size) (hs : cs.size = vs.size) (h1 : vs.all (·.oneCell') = true) (hB : Below n W0 W) (hn : n ≤ g)
    (h : ∀ w1, w1.heap[g]? = some (.cells vs t (0, 0)) → Below n W0 w1 → wpList P ops Q rest a w1) : wpList P ops Q (o :: rest) a W := by
  refine wpList_store_row hgd t x y ho g vs hx hy t cs hk hi hs h1 ?_
  rw [hd]
  exact h _ (setRow_heap _ _ cs vs t _ hk) (below_setRow hB hn _)
/-- is a variable's range none? -/
def rules_range (x : S51) : Bool := decide (x.f1 > x.f2) || (decide (wrap64 (x.f2 - x.f1) ≥ 64) || (decide (x.f3 < x.f1) || decide (x.f3 > x.f2)))
def rules_ranges.at_ (b : rules_bk.Bk) (i : Nat) : List (S66) := if rules_range (rd_T51 b.l2 (i : Int)) = true then [⟨b.rule, (i : Int), 0⟩] else []
set_option maxHeartbeats 8000000 in
set_option maxRecDepth 100000 in
theorem rules_ranges.calls (w : World) (n₀ B : Nat) (b : rules_bk.Bk) (out : List (S66)) (vo : Value) (W : World) (hA : rules_bk.At w.heap.size n₀ W B b out vo) (hW : Below w.heap.size w W) (hr2 : Kd.C k51 w b.A2 b.l2.length b.l2)
    (hlen : (out ++ rules_all b.l2.length (rules_ranges.at_ b)).length ≤ 1000000) :
    Calls Try.prog 35 #[.pointer (some ⟨B, 0, none⟩)] W fun e W' => (∃ u, e = .returned u) ∧ (∃ vo', rules_bk.At w.heap.size n₀ W' B b (out ++ rules_all b.l2.length (rules_ranges.at_ b)) vo') ∧ rules_bk.Fr w.heap.size n₀ B W W' := by
  have hmax := Kd.C_max hr2
  have hu := Try.underlying71
  have hu2 := Try.underlying26
  have hu3 := Try.underlying51
  obtain ⟨hc0, hc1, hc2, hc3, hc4, hc5, hc6, hc7⟩ := hA.cells
  have HR := Aside0.mk hr2
  have HA := Aside0.mk hA
  have HW := Aside0.mk hW
  have HL := Aside0.mk hlen
  clear hr2 hA hW hlen hc0 hc1 hc3 hc4 hc5 hc6 hc7
  go_enter Try.func35, Try.ntmps35
  go_wp2_with fail
  clear hc2
  generalize b.A2 = A2 at *
  go_loopg [10] b.l2.length (fun kq v9 wr => ∃ (i : Nat) (vo' : Value), Aside0 (b.l2.length - i = kq) ∧ Aside0 (i ≤ b.l2.length) ∧ v9 = .int .i64 (i : Int) ∧ Aside0 (rules_bk.At w.heap.size n₀ wr B b (out ++ rules_all i (rules_ranges.at_ b)) vo') ∧ Aside0 (rules_bk.Fr w.heap.size n₀ B W wr))
  case atStart => exact ⟨0, vo, ⟨rfl⟩, ⟨Nat.zero_le _⟩, rfl, ⟨by simpa [rules_all] using HA.out⟩, ⟨rules_bk.Fr.refl _ _ _ _⟩⟩
  case round =>
    obtain ⟨i, vo', HK, HI, rfl, HAt, HFr⟩ := hrel
    by_cases hi : i < b.l2.length
    · have hlt : decide ((i : Int) < (b.l2.length : Int)) = true := decide_eq_true (by omega)
      obtain ⟨ad, e1, hx0, hx1, hx2, hx3⟩ := at_T51 (Kd.C_below HR.out (HW.out.trans HFr.out.bel)) (i : Int) (by omega) (by omega)
      subst e1
      rw [Int.toNat_natCast] at hx0 hx1 hx2 hx3
      have hle : (out ++ rules_all i (rules_ranges.at_ b)).length ≤ 1000000 := by
        have h1 := HL.out
        have h2 := rules_all_le (rules_ranges.at_ b) HI.out
        rw [List.length_append] at h1 ⊢
        omega
      have hat : rules_ranges.at_ b i = if rules_range (rd_T51 b.l2 (i : Int)) = true then [⟨b.rule, (i : Int), 0⟩] else [] := rfl
      generalize rd_T51 b.l2 (i : Int) = x at *
      have HX := Aside0.mk hat
      have HLE := Aside0.mk hle
      unfold rules_range at hat
      cases hq1 : decide (x.f1 > x.f2) <;> cases hq2 : decide (wrap64 (x.f2 - x.f1) ≥ 64) <;> cases hq3 : decide (x.f3 < x.f1) <;> cases hq4 : decide (x.f3 > x.f2) <;>
        (rw [hq1, hq2, hq3, hq4] at hat
         simp only [Bool.or_true, Bool.or_false, Bool.true_or, Bool.false_or, if_true, Bool.false_eq_true, if_false] at hat
         have HAT := Aside0.mk hat
         clear hat hle
         go_wp2_with (first
          | ((with_reducible refine gate_dst (N := 3) rfl ?_); refine box_event ?hg (N := 3) ?hd (cs := #[.string (⟨#[]⟩ : ByteArray), .int .i64 0, .int .i64 0, .int .i64 0]) (t := 51) ?hr ?_; (case hd => rfl); (case hg => rfl); (case hr => first | (go_simp; done) | (go_simp; rfl)); intro g hg w1 hbox hb; have HGE := Aside0.mk (Nat.le_of_eq hg.symm); clear hg)
          | (refine rules_store (n := wr.heap.size) (W0 := wr) (vs := #[.string x.f0, .int .i64 x.f1, .int .i64 x.f2, .int .i64 x.f3]) rfl rfl (.tmp 3) (.tmp 14) rfl rfl rfl hbox (by kernel_rfl) rfl (by simp [Value.oneCell']) hb HGE.out ?_; intro w2 hbox2 hb2; have HA2 := Aside0.mk (HAt.out.below hb2); have HF2 := Aside0.mk (HAt.out.fr hb2); obtain ⟨hz0, hz1, hz2, hz3⟩ := cz4_ hbox2; clear hbox hb hbox2 hb2)
          | (go_at_call 66; refine (rules_bk.note w.heap.size n₀ B b _ vo' _ (i : Int) 0 w2 HA2.out HLE.out).mono ?_; rintro e w3 ⟨⟨u, rfl⟩, ⟨vo3, hA3⟩, hF3⟩; have HA3 := Aside0.mk hA3; have HF3 := Aside0.mk hF3; clear hA3 hF3))
         go_roundg (b.l2.length - (i + 1))
         case measure => have := HK.out; omega
         case rel => exact ⟨i + 1, vo3, ⟨rfl⟩, ⟨hi⟩, by go_num, ⟨by rw [rules_all_succ, ← List.append_assoc, HAT.out]; simpa using HA3.out⟩, ⟨HFr.out.trans (HF2.out.trans HF3.out)⟩⟩)
    · have hlt : decide ((i : Int) < (b.l2.length : Int)) = false := decide_eq_false (by omega)
      have hil : i = b.l2.length := by have := HI.out; omega
      have HIL := Aside0.mk hil
      clear hil
      go_wp2
      go_end0
      exact ⟨⟨_, rfl⟩, ⟨vo', by rw [HIL.out] at HAt; exact HAt.out⟩, HFr.out⟩


/-! ### rules_open: function 33 -/
-- USES (*semblance/rules.book).ranges
theorem rules_open.info : (Try.prog.info? 9).map (fun i => (i.zero, i.size, i.bytes)) = some (some (.string ⟨#[]⟩), 1, 16) := by kernel_rfl
set_option maxHeartbeats 8000000 in
set_option maxRecDepth 100000 in
theorem rules_open.calls (a0 : ByteArray) (A1 : Option Addr) (c1 : Nat) (l1 : List ByteArray) (A2 : Option Addr) (c2 : Nat) (l2 : List (S51)) (A3 : Option Addr) (c3 : Nat) (l3 : List (S55)) (rule : Int) (w : World) (hr2 : Kd.C k51 w A2 l2.length l2) (hr3 : Kd.C k55 w A3 l3.length l3) (h2 : l2.length ≤ 100000) (h3 : l3.length ≤ 100000) :
    Calls Try.prog 33 #[.agg #[.string a0, .slice A1 l1.length c1, .slice A2 l2.length c2, .slice A3 l3.length c3], .int .i64 rule] w fun e W => ∃ B AV cV AS cS, e = .returned (.pointer (some ⟨B, 0, none⟩)) ∧ rules_bk.At w.heap.size W.heap.size W B ⟨a0, A1, c1, l1, A2, c2, l2, A3, c3, l3, AV, cV, l2.map (fun x => x.f0), AS, cS, l3.map (fun x => x.f0), rule⟩ [] (.slice none 0 0) ∧ Below w.heap.size w W := by
  have hu := Try.underlying71
  have hu2 := Try.underlying26
  have hu3 := Try.underlying51
  have hu4 := Try.underlying55
  have HR2 := Aside0.mk hr2
  have HR3 := Aside0.mk hr3
  have HLN := Aside0.mk (And.intro h2 h3)
  clear hr2 hr3 h2 h3
  go_enter Try.func33, Try.ntmps33
  go_wp2_with fail
  have hk := heap_alloc_new (w.alloc (.cells #[.string a0, .slice A1 l1.length c1, .slice A2 l2.length c2, .slice A3 l3.length c3] 26)) (.cells #[.string a0, .slice A1 l1.length c1, .slice A2 l2.length c2, .slice A3 l3.length c3, .slice none 0 0, .slice none 0 0, .int .i64 rule, .slice none 0 0] 71)
  have hkc := blk_alloc (heap_alloc_new w (.cells #[.string a0, .slice A1 l1.length c1, .slice A2 l2.length c2, .slice A3 l3.length c3] 26)) (.cells #[.string a0, .slice A1 l1.length c1, .slice A2 l2.length c2, .slice A3 l3.length c3, .slice none 0 0, .slice none 0 0, .int .i64 rule, .slice none 0 0] 71)
  rw [World.size_alloc] at hk
  have HB0 := Aside0.mk (show Below w.heap.size w ((w.alloc (.cells #[.string a0, .slice A1 l1.length c1, .slice A2 l2.length c2, .slice A3 l3.length c3] 26)).alloc (.cells #[.string a0, .slice A1 l1.length c1, .slice A2 l2.length c2, .slice A3 l3.length c3, .slice none 0 0, .slice none 0 0, .int .i64 rule, .slice none 0 0] 71)) from ((Below.refl _ _).alloc (Nat.le_refl _) _).alloc (by simp) _)
  have HBB := Aside0.mk (show w.heap.size < w.heap.size + 1 from Nat.lt_succ_self _)
  generalize (w.alloc (.cells #[.string a0, .slice A1 l1.length c1, .slice A2 l2.length c2, .slice A3 l3.length c3] 26)).alloc (.cells #[.string a0, .slice A1 l1.length c1, .slice A2 l2.length c2, .slice A3 l3.length c3, .slice none 0 0, .slice none 0 0, .int .i64 rule, .slice none 0 0] 71) = we at *
  generalize w.heap.size + 1 = B at *
  have HK := Aside0.mk hk
  have HKC := Aside0.mk hkc
  have hm2 := Kd.C_max HR2.out
  have hm3 := Kd.C_max HR3.out
  clear hk hkc
  go_loopg [17] l2.length (fun kq v9 wr => ∃ (i : Nat) (AV : Option Addr) (cV : Nat), Aside0 (l2.length - i = kq) ∧ Aside0 (i ≤ l2.length) ∧ v9 = .int .i64 (i : Int) ∧ Aside0 (wr.heap[B]? = some (.cells #[.string a0, .slice A1 l1.length c1, .slice A2 l2.length c2, .slice A3 l3.length c3, (.slice AV ((l2.take i).map (fun x => x.f0)).length cV), .slice none 0 0, .int .i64 rule, .slice none 0 0] 71 (0, 0))) ∧ Aside0 (wr.heap[w.heap.size]? = some (.cells #[.string a0, .slice A1 l1.length c1, .slice A2 l2.length c2, .slice A3 l3.length c3] 26 (0, 0))) ∧ Aside0 (Kd.R Kd.string 9 wr w.heap.size (fun k => k ≠ B) (.slice AV ((l2.take i).map (fun x => x.f0)).length cV) ((l2.take i).map (fun x => x.f0))) ∧ Aside0 (Below w.heap.size w wr) ∧ Aside0 (B < wr.heap.size))
  case atStart => exact ⟨0, none, 0, ⟨rfl⟩, ⟨Nat.zero_le _⟩, rfl, HK, HKC, ⟨Kd.R_nil _ _ _ _ _⟩, HB0, ⟨blk_lt HK.out⟩⟩
  case round =>
    obtain ⟨i, AV, cV, HKQ, HI, rfl, HBK, HKC2, HO, HB, HSB⟩ := hrel
    by_cases hi : i < l2.length
    · have hlt : decide ((i : Int) < (l2.length : Int)) = true := decide_eq_true (by omega)
      obtain ⟨ad, e1, hx0, hx1, hx2, hx3⟩ := at_T51 HR2.out (i : Int) (by omega) (by omega)
      subst e1
      rw [Int.toNat_natCast] at hx0 hx1 hx2 hx3
      replace hx0 := pw_cell_below HB.out hx0
      replace hx1 := pw_cell_below HB.out hx1
      replace hx2 := pw_cell_below HB.out hx2
      replace hx3 := pw_cell_below HB.out hx3
      have hxs : (l2.take (i + 1)).map (fun x => x.f0) = (l2.take i).map (fun x => x.f0) ++ [(rd_T51 l2 (i : Int)).f0] := by
        rw [List.take_succ_eq_append_getElem hi, List.map_append]
        simp [rd_T51, hi]
      have hxl : ((l2.take i).map (fun x => x.f0)).length = i := by rw [List.length_map, List.length_take]; omega
      generalize rd_T51 l2 (i : Int) = x at *
      generalize hxs0 : (l2.take i).map (fun x => x.f0) = xs at *
      clear hxs0
      have HXS := Aside0.mk hxs
      have HXL := Aside0.mk hxl
      clear hxs hxl
      go_wp2_with (first | ((with_reducible refine gate_dst (N := 7) rfl ?_); refine box_event ?hg (N := 7) ?hd (cs := #[.string (⟨#[]⟩ : ByteArray), .int .i64 0, .int .i64 0, .int .i64 0]) (t := 51) ?hr ?_; (case hd => rfl); (case hg => rfl); (case hr => first | (go_simp; done) | (go_simp; rfl)); intro g hg w1 hbox hb; have HGE := Aside0.mk (Nat.le_of_eq hg.symm); clear hg) | (refine rules_store (n := wr.heap.size) (W0 := wr) (vs := #[.string x.f0, .int .i64 x.f1, .int .i64 x.f2, .int .i64 x.f3]) rfl rfl (.tmp 7) (.tmp 20) rfl rfl rfl hbox (by kernel_rfl) rfl (by simp [Value.oneCell']) hb HGE.out ?_; intro w2 hbox2 hb2; have HBK2 := Aside0.mk (blk_below HBK.out hb2); have HKC3 := Aside0.mk (blk_below HKC2.out hb2); have HO2 := Aside0.mk (Kd.R_below HO.out hb2); have HB2 := Aside0.mk (below_step HB.out hb2); obtain ⟨hz0, hz1, hz2, hz3⟩ := cz4_ hbox2; clear hbox hb hbox2 hb2))
      have hc2 := (blk_cell HBK2.out 4).trans rfl
      have hf2 := blk_frozen HBK2.out 4
      have hc2a : (w2.alloc (.cells #[.string x.f0] 9)).cell? ⟨B, 4, none⟩ = some (.slice AV xs.length cV) := (blk_cell (blk_alloc HBK2.out _) 4).trans rfl
      have HLB := Aside0.mk (show ∀ k, w2.drew.heap.size ≤ k → k ≠ B from fun k hk => Nat.ne_of_gt (Nat.lt_of_lt_of_le (blk_lt HBK2.out) hk))
      have HSZ := Aside0.mk (show w.heap.size ≤ w2.drew.heap.size from HB2.out.size)
      go_region_law (refine Kd.R_append_step Kd.string (W := w2.drew) (w0 := w) w.heap.size (by rfl) (.tmp 25) (.tmp 28) 22 9 (.string ⟨#[]⟩) 16 rfl Try.underlying22 rules_open.info rfl (by decide) (by omega) (.slice AV (xs).length cV) (xs) x.f0 [.string x.f0] (fun k => k ≠ B) (fun _ => False) rfl rfl rfl (fun _ hk => hk.elim) (fun k hk => HLB.out k hk) (Kd.R_drew HO2.out) (below_drew HB2.out) HSZ.out (by have := HLN.out; have := HXL.out; omega) ?_; intro v1 w3 ho hb hg hat; obtain ⟨A9, c9, rfl⟩ := Kd.R_slice ho; have HO := Aside0.mk ho; have HB3 := Aside0.mk hb; have HG := Aside0.mk hg; have HBK3 := Aside0.mk (blk_grown (w := w2.drew) HBK2.out hg (Kd.R_away HO2.out (fun k hk => hk))); have hk7 := (blk_cell HBK3.out 4).trans rfl; have hf73 := blk_frozen HBK3.out 4; clear ho hb hg hat)
      all_goals
        go_wp2
        have hbk4 := blk_put HBK3.out 4 (.slice A9 (xs ++ [x.f0]).length c9) rfl
        have hkc4 := (Below.heap_setCell w3 ⟨B, 4, none⟩ (.slice A9 (xs ++ [x.f0]).length c9) w.heap.size (Nat.ne_of_lt HBB.out)).trans (blk_grown (w := w2.drew) HKC3.out HG.out (fun e => by have h1 := Kd.R_typed (w := w2) HO2.out w.heap.size e.symm; obtain ⟨cells, h1⟩ := h1; rw [HKC3.out] at h1; simp at h1))
        have ho4 := Kd.R_far HO.out (p := ⟨B, 4, none⟩) (fun k hk => hk) (.slice A9 (xs ++ [x.f0]).length c9)
        have hb4 := below_set (g := B) (j := 4) (v := .slice A9 (xs ++ [x.f0]).length c9) HB3.out (Nat.le_of_lt HBB.out)
        rw [← HXS.out] at hbk4 ho4 hkc4 hb4
        have hl9 : ((l2.take (i + 1)).map (fun x => x.f0)).length = xs.length + 1 := by rw [HXS.out]; simp
        rw [hl9] at hbk4 ho4 hkc4 hb4
        have HBK4 := Aside0.mk hbk4
        have HKC4 := Aside0.mk hkc4
        have HO4 := Aside0.mk ho4
        have HB4 := Aside0.mk hb4
        have HL9 := Aside0.mk hl9
        clear hbk4 hkc4 ho4 hb4 hl9
        go_roundg (l2.length - (i + 1))
        case measure => have := HKQ.out; omega
        case rel => exact ⟨i + 1, A9, c9, ⟨rfl⟩, ⟨hi⟩, by go_num, ⟨by rw [HL9.out]; exact HBK4.out⟩, HKC4, ⟨by rw [HL9.out]; exact HO4.out⟩, HB4, ⟨blk_lt HBK4.out⟩⟩
    · have hlt : decide ((i : Int) < (l2.length : Int)) = false := decide_eq_false (by omega)
      have hil : i = l2.length := by have := HI.out; omega
      subst hil
      rw [List.take_length] at HO HBK
      have HOV := Aside0.mk (Kd.R_mono (Kd.R_bound HO.out) (fun k hk => (⟨hk.2.2.1, hk.1⟩ : k < wr.heap.size ∧ k ≠ B)))
      generalize hxv : l2.map (fun x => x.f0) = xv at *
      have HXV := Aside0.mk hxv
      clear hxv
      obtain ⟨hd0, hd1, hd2, hd3⟩ := cz4_ HKC2.out
      obtain ⟨N, hN⟩ : ∃ N, N = wr.heap.size := ⟨_, rfl⟩
      rw [← hN] at HOV HSB
      have HNS := Aside0.mk (Nat.le_of_eq hN)
      have HNB := Aside0.mk (show w.heap.size ≤ N by rw [hN]; exact HB.out.size)
      clear hN HO HKC2
      go_wp2_with fail
      clear hd0 hd1 hd2 hd3
      go_loopg [36] l3.length (fun kq v9 wr => ∃ (i : Nat) (AS : Option Addr) (cS : Nat), Aside0 (l3.length - i = kq) ∧ Aside0 (i ≤ l3.length) ∧ v9 = .int .i64 (i : Int) ∧ Aside0 (wr.heap[B]? = some (.cells #[.string a0, .slice A1 l1.length c1, .slice A2 l2.length c2, .slice A3 l3.length c3, (.slice AV xv.length cV), (.slice AS ((l3.take i).map (fun x => x.f0)).length cS), .int .i64 rule, .slice none 0 0] 71 (0, 0))) ∧ Aside0 (Kd.R Kd.string 9 wr w.heap.size (fun k => k < N ∧ k ≠ B) (.slice AV xv.length cV) xv) ∧ Aside0 (Kd.R Kd.string 9 wr N (fun k => k ≠ B) (.slice AS ((l3.take i).map (fun x => x.f0)).length cS) ((l3.take i).map (fun x => x.f0))) ∧ Aside0 (Below w.heap.size w wr) ∧ Aside0 (N ≤ wr.heap.size))
      case atStart => exact ⟨0, none, 0, ⟨rfl⟩, ⟨Nat.zero_le _⟩, rfl, HBK, HOV, ⟨Kd.R_nil _ _ _ _ _⟩, HB, HNS⟩
      case round =>
        obtain ⟨i, AS, cS, HKQ, HI2, rfl, HBK, HV, HO, HB, HSN⟩ := hrel
        by_cases hi : i < l3.length
        · have hlt : decide ((i : Int) < (l3.length : Int)) = true := decide_eq_true (by omega)
          obtain ⟨ad, B3, d3, B4, d4, B5, d5, e1, hx0, hx1, hx2, hx3, hx4, hx5, _⟩ := at_T55 HR3.out (i : Int) (by omega) (by omega)
          subst e1
          rw [Int.toNat_natCast] at hx0 hx1 hx2 hx3 hx4 hx5
          replace hx0 := pw_cell_below HB.out hx0
          replace hx1 := pw_cell_below HB.out hx1
          replace hx2 := pw_cell_below HB.out hx2
          replace hx3 := pw_cell_below HB.out hx3
          replace hx4 := pw_cell_below HB.out hx4
          replace hx5 := pw_cell_below HB.out hx5
          have hxs : (l3.take (i + 1)).map (fun x => x.f0) = (l3.take i).map (fun x => x.f0) ++ [(rd_T55 l3 (i : Int)).f0] := by
            rw [List.take_succ_eq_append_getElem hi, List.map_append]
            simp [rd_T55, hi]
          have hxl : ((l3.take i).map (fun x => x.f0)).length = i := by rw [List.length_map, List.length_take]; omega
          generalize rd_T55 l3 (i : Int) = x at *
          generalize hxs0 : (l3.take i).map (fun x => x.f0) = xs at *
          clear hxs0
          have HXS := Aside0.mk hxs
          have HXL := Aside0.mk hxl
          clear hxs hxl
          go_wp2_with (first | ((with_reducible refine gate_dst (N := 9) rfl ?_); refine box_event ?hg (N := 9) ?hd (cs := #[.string (⟨#[]⟩ : ByteArray), .int .i64 0, .int .i64 0, .slice none 0 0, .slice none 0 0, .slice none 0 0]) (t := 55) ?hr ?_; (case hd => rfl); (case hg => rfl); (case hr => first | (go_simp; done) | (go_simp; rfl)); intro g hg w1 hbox hb; have HGE := Aside0.mk (Nat.le_of_eq hg.symm); clear hg) | (refine rules_store (n := wr.heap.size) (W0 := wr) (vs := #[.string x.f0, .int .i64 x.f1, .int .i64 x.f2, .slice B3 x.f3.length d3, .slice B4 x.f4.length d4, .slice B5 x.f5.length d5]) rfl rfl (.tmp 9) (.tmp 39) rfl rfl rfl hbox (by kernel_rfl) rfl (by simp [Value.oneCell']) hb HGE.out ?_; intro w2 hbox2 hb2; have HBK2 := Aside0.mk (blk_below HBK.out hb2); have HV2 := Aside0.mk (Kd.R_below HV.out hb2); have HO2 := Aside0.mk (Kd.R_below HO.out hb2); have HB2 := Aside0.mk (below_step HB.out hb2); have HSN2 := Aside0.mk (Nat.le_trans HSN.out hb2.size); obtain ⟨hz0, hz1, hz2, hz3, hz4, hz5⟩ := cz6_ hbox2; clear hbox hb hbox2 hb2))
          have hc2 := (blk_cell HBK2.out 5).trans rfl
          have hf2 := blk_frozen HBK2.out 5
          have hc2a : (w2.alloc (.cells #[.string x.f0] 9)).cell? ⟨B, 5, none⟩ = some (.slice AS xs.length cS) := (blk_cell (blk_alloc HBK2.out _) 5).trans rfl
          have HLB := Aside0.mk (show ∀ k, w2.drew.heap.size ≤ k → k ≠ B from fun k hk => Nat.ne_of_gt (Nat.lt_of_lt_of_le (blk_lt HBK2.out) hk))
          have HSZ := Aside0.mk (show N ≤ w2.drew.heap.size from HSN2.out)
          go_region_law (refine Kd.R_append_step Kd.string (W := w2.drew) (w0 := w2) N (by rfl) (.tmp 44) (.tmp 47) 22 9 (.string ⟨#[]⟩) 16 rfl Try.underlying22 rules_open.info rfl (by decide) (by omega) (.slice AS xs.length cS) (xs) x.f0 [.string x.f0] (fun k => k ≠ B) (fun _ => False) rfl rfl rfl (fun _ hk => hk.elim) (fun k hk => HLB.out k hk) (Kd.R_drew HO2.out) (below_drew (Below.refl _ _)) HSZ.out (by have := HLN.out; have := HXL.out; omega) ?_; intro v1 w3 ho hb hg hat; obtain ⟨A9, c9, rfl⟩ := Kd.R_slice ho; have HO := Aside0.mk ho; have HB3 := Aside0.mk hb; have HG := Aside0.mk hg; have HBK3 := Aside0.mk (blk_grown (w := w2.drew) HBK2.out hg (Kd.R_away HO2.out (fun k hk => hk))); have hk7 := (blk_cell HBK3.out 5).trans rfl; have hf73 := blk_frozen HBK3.out 5; clear ho hb hg hat)
          all_goals
            go_wp2
            have hbk4 := blk_put HBK3.out 5 (.slice A9 (xs ++ [x.f0]).length c9) rfl
            have hv4 := Kd.R_far (Kd.R_grown (w := w2.drew) (Kd.R_drew HV2.out) HG.out (fun k hk e => by have h1 := Kd.R_base HO2.out k e.symm; exact absurd hk.1 (Nat.not_lt.2 h1))) (p := ⟨B, 5, none⟩) (fun k hk => hk.2) (.slice A9 (xs ++ [x.f0]).length c9)
            have ho4 := Kd.R_far HO.out (p := ⟨B, 5, none⟩) (fun k hk => hk) (.slice A9 (xs ++ [x.f0]).length c9)
            have hb4 := below_set (g := B) (j := 5) (v := .slice A9 (xs ++ [x.f0]).length c9) (HB2.out.trans (HB3.out.mono HNB.out)) (Nat.le_of_lt HBB.out)
            have hn4 : N ≤ (w3.setCell ⟨B, 5, none⟩ (.slice A9 (xs ++ [x.f0]).length c9)).heap.size := Nat.le_trans HSN2.out (Nat.le_trans HG.out.size (by simp [World.setCell]))
            rw [← HXS.out] at hbk4 ho4 hv4 hb4 hn4
            have hl9 : ((l3.take (i + 1)).map (fun x => x.f0)).length = xs.length + 1 := by rw [HXS.out]; simp
            rw [hl9] at hbk4 ho4 hv4 hb4 hn4
            have HBK4 := Aside0.mk hbk4
            have HV4 := Aside0.mk hv4
            have HO4 := Aside0.mk ho4
            have HB4 := Aside0.mk hb4
            have HN4 := Aside0.mk hn4
            have HL9 := Aside0.mk hl9
            clear hbk4 hv4 ho4 hb4 hn4 hl9
            go_roundg (l3.length - (i + 1))
            case measure => have := HKQ.out; omega
            case rel => exact ⟨i + 1, A9, c9, ⟨rfl⟩, ⟨hi⟩, by go_num, ⟨by rw [HL9.out]; exact HBK4.out⟩, HV4, ⟨by rw [HL9.out]; exact HO4.out⟩, HB4, HN4⟩
        · have hlt : decide ((i : Int) < (l3.length : Int)) = false := decide_eq_false (by omega)
          have hil : i = l3.length := by have := HI2.out; omega
          subst hil
          rw [List.take_length] at HO HBK
          have HDN := Aside0.mk (show rules_bk.At w.heap.size wr.heap.size wr B ⟨a0, A1, c1, l1, A2, c2, l2, A3, c3, l3, AV, cV, xv, AS, cS, l3.map (fun x => x.f0), rule⟩ [] (.slice none 0 0) from ⟨HBK.out, Kd.R_nil _ _ _ _ _, Kd.R_mono HV.out (fun k hk => ⟨Nat.lt_of_lt_of_le hk.1 HSN.out, hk.2⟩), Kd.R_lower (Kd.R_mono (Kd.R_bound HO.out) (fun k hk => ⟨hk.2.2.1, hk.1⟩)) HNB.out, Nat.le_of_lt HBB.out, blk_lt HBK.out, Nat.le_refl _⟩)
          go_wp2
          go_ret
          exact ⟨B, _, _, _, _, rfl, by rw [HXV.out]; exact HDN.out, HB.out⟩


/-! ### names_Twins: function 65 -/
def names_Twins.f (l0 : List ByteArray) : Option (List Int) := if l0.length ≤ 1000000 then (if (l0.all fun s => decide (s.size ≤ 1000000)) = true then some (Go.Proofs.Ytoeioigpkfgppaa.XNamesPlain.twinsF l0) else none) else none
theorem names_Twins.law : Go.Maps.Keyed Try.prog 9 := Go.Maps.string_keyed Try.underlying9
theorem names_Twins.zeroE (w : World) : (zeroValue 3).run Try.prog w = .ok (.int .i64 0) w := by kernel_rfl
theorem names_Twins.info8 : (Try.prog.info? 3).map (fun i => (i.zero, i.size, i.bytes)) = some (some (.int .i64 0), 1, 8) := by kernel_rfl
/-- the loop's relation but for its slots -/
def names_Twins.Rel (W : World) (g i : Nat) (v : Value) (l : List (List UInt8)) : Prop :=
  (∃ D : DataW Unit, W.ownsMap Try.prog 9 (plainElem Try.prog 3) g i D ∧ Go.Proofs.Ytoeioigpkfgppaa.XNamesPlain.Counts D l i) ∧ Kd.R (Kd.int .i64) 3 W g (fun k => k ≠ g) v (Go.Proofs.Ytoeioigpkfgppaa.XNamesPlain.twn l i)
open Go.Proofs.Ytoeioigpkfgppaa.XNamesPlain in
set_option maxRecDepth 100000 in
set_option maxHeartbeats 2000000 in
theorem names_Twins.calls (A0 : Option Addr) (c0 : Nat) (l0 : List ByteArray) (r : List Int) (w : World) (hr0 : Kd.C Kd.string w A0 l0.length l0) (hc0 : l0.length ≤ c0) (h : names_Twins.f l0 = some r) :
    Calls Try.prog 65 #[.slice A0 l0.length c0] w fun e w' => ∃ v0_ : Value, e = .returned v0_ ∧ Kd.R (Kd.int .i64) 3 w' w.heap.size (fun _ => True) v0_ r ∧ Below w.heap.size w w' := by
  unfold names_Twins.f at h
  split at h
  case isFalse => cases h
  case isTrue hlen =>
  split at h
  case isFalse => cases h
  case isTrue hall =>
  have HRR := Aside0.mk (Option.some.inj h)
  have HWF := Aside0.mk (List.all_eq_true.1 hall)
  have HR := Aside0.mk hr0
  clear h hall hr0
  have hmm := @run_makeMap Try.prog
  go_enter Try.func65, Try.ntmps65
  go_wp2_with fail
  go_loopg [3, 10] l0.length (fun kq v3' v10 wr' => ∃ (v3 : Value) (wr : World) (i : Nat), v3 = v3' ∧ wr = wr' ∧ Aside0 (l0.length - i = kq) ∧ Aside0 (i ≤ l0.length) ∧ v10 = .int .i64 (i : Int) ∧ Aside0 (names_Twins.Rel wr w.heap.size i v3 (l0.map bts)) ∧ Aside0 (Below w.heap.size w wr))
  case atStart => exact ⟨_, _, 0, rfl, rfl, ⟨rfl⟩, ⟨Nat.zero_le _⟩, rfl, ⟨⟨⟨_, World.ownsMap_made _ _ _ _, Counts.empty _⟩, Kd.R_nil _ _ _ _ _⟩⟩, ⟨(Below.refl _ _).alloc (Nat.le_refl _) _⟩⟩
  case round =>
    obtain ⟨v3, wr, i, rfl, rfl, HK, HI, rfl, HREL, HB⟩ := hrel
    by_cases hi : i < l0.length
    · have hlt : decide ((i : Int) < (l0.length : Int)) = true := decide_eq_true (by omega)
      have hC := Kd.C_below HR.out HB.out
      obtain ⟨ad, e1, hx0⟩ := Kd.at_string hC (i : Int) (by omega) (by omega)
      subst e1
      rw [Int.toNat_natCast] at hx0
      have hxl : rdOf ByteArray.empty l0 (i : Int) = l0[i] := by simp [rdOf, hi]
      have hmem : rdOf ByteArray.empty l0 (i : Int) ∈ l0 := by rw [hxl]; exact List.getElem_mem hi
      have hwf : (rdOf ByteArray.empty l0 (i : Int)).size ≤ maxLen := by have := HWF.out _ hmem; simp only [decide_eq_true_eq] at this; unfold maxLen; omega
      have hbx : bts (rdOf ByteArray.empty l0 (i : Int)) = (l0.map bts).getD i [] := by rw [hxl]; simp [List.getD, hi]
      have hkey := Go.WideMaps.keyOf_string_mk (P := Try.prog) Try.underlying9 hwf
      obtain ⟨⟨D, hD, hG⟩, hO⟩ := HREL.out
      have hts := twn_succ (l0.map bts) i
      have htl := twn_length (l0.map bts) i
      have hml : i < (l0.map bts).length := by rw [List.length_map]; exact hi
      have hG2 := hG.put hml
      have hcl := List.count_le_length (a := (l0.map bts).getD i []) (l := (l0.map bts).take i)
      rw [List.length_take, Nat.min_eq_left (by omega)] at hcl
      have hcm : (l0.map bts).getD i [] ∈ (l0.map bts).take i ↔ 0 < ((l0.map bts).take i).count ((l0.map bts).getD i []) := List.count_pos_iff.symm
      have hat1 := hG.2 ((l0.map bts).getD i [])
      have hat2 : (D.put (.string ((l0.map bts).getD i [])) (.lit (.int .i64 ((((l0.map bts).take i).count ((l0.map bts).getD i []) : Nat) + 1 : Int)))).atKey (.string ((l0.map bts).getD i [])) (.lit (.int .i64 0)) = _ := Go.Maps.atKey_put_same hG.1 (show WideAt.IsKeyLit (.string _) from trivial) _ _
      rw [← hbx] at hts hG2 hcl hcm hat1 hat2
      have HG := Aside0.mk hG
      generalize hxx : rdOf ByteArray.empty l0 (i : Int) = x at *
      generalize hcc : ((l0.map bts).take i).count (bts x) = cn at *
      have HTS := Aside0.mk hts
      have HG2 := Aside0.mk hG2
      have HKEY : Aside0 (Go.keyOf Try.prog 9 (.string x) = some (.string (bts x))) := ⟨hkey⟩
      have HAT1 := Aside0.mk hat1
      have HAT2 := Aside0.mk hat2
      have HO := Aside0.mk hO
      have HCM := Aside0.mk hcm
      have hwl : (Lit.int .i64 ((cn : Int) + 1)).wf = true := WalkArith.wf_i64 (by omega)
      have HWL := Aside0.mk hwl
      clear hmem hC hxl hwf hbx hkey hG hO hts hml hG2 hat1 hat2 hxx hcc hcm hwl HREL
      generalize hns : twn (l0.map bts) i = nums at *
      have HNS := Aside0.mk hns
      clear hns
      obtain ⟨A3, c3, e3⟩ := Kd.R_slice HO.out
      subst e3
      have hgl := Go.Proofs.Ytoeioigpkfgppaa.XNumber.lt hD
      have HD := Aside0.mk hD
      by_cases hin : 0 < cn
      · have dt : decide ((1 : Int) < (cn : Int) + 1) = true := decide_eq_true (by omega)
        have hstep : Aside0 (twn (l0.map bts) (i + 1) = nums ++ [(i : Int)]) := ⟨by rw [HTS.out, if_pos (HCM.out.2 hin)]⟩
        go_wp2_with (first
          | (at_lookup; refine wpList_lookup_own_int _ rfl _ _ 118 rfl 9 3 .i64 names_Twins.law Try.underlying118 Try.underlying3 (names_Twins.zeroE _) w.heap.size i D rfl hD _ _ rfl HKEY.out ?_; intro c hat hwc; obtain rfl : c = _ := Go.Proofs.Ytoeioigpkfgppaa.XNumber.inj (hat.symm.trans HAT1.out); clear hat)
          | (at_mapUpdate; refine wpList_mapUpdate_own _ rfl _ _ _ 118 rfl 9 3 names_Twins.law Try.underlying118 _ w.heap.size i _ rfl hD (by unfold maxLen; omega) _ _ _ rfl rfl HKEY.out _ [] (plainElem_int Try.underlying3 HWL.out) ?_; intro w1 hown1 hgrow1; clear hD)
          | (at_lookup; refine wpList_lookup_own_int _ rfl _ _ 118 rfl 9 3 .i64 names_Twins.law Try.underlying118 Try.underlying3 (names_Twins.zeroE _) w.heap.size (i + 1) _ rfl hown1 _ _ rfl HKEY.out ?_; intro c hat hwc; obtain rfl : c = _ := Go.Proofs.Ytoeioigpkfgppaa.XNumber.inj (hat.symm.trans HAT2.out); clear hat)
          | ((with_reducible refine gate_builtin (b := .append) (xs := #[.tmp 23, .tmp 25]) rfl ?_); at_builtin; refine Kd.R_append (Kd.int .i64) (w0 := w) w.heap.size rfl (.tmp 23) (.tmp 25) 45 3 (.int .i64 0) 8 rfl Try.underlying45 names_Twins.info8 rfl (by decide) (by omega) (.slice A3 nums.length c3) nums (i : Int) [.int .i64 (i : Int)] (fun k => k ≠ w.heap.size) (fun _ => False) rfl rfl ?aP (fun _ hk => hk.elim) ?aF ?aO ?aB ?aS ?aL ?aK))
        case aP => exact rfl
        case aF => intro k hk e; have := hgrow1.size; omega
        case aO => exact Kd.R_grown HO.out hgrow1 (fun k hk e => hk (by injection e))
        case aB => exact HB.out.grown hgrow1 HB.out.size (fun j hj => by cases hj; exact Nat.le_refl _)
        case aS => exact Nat.le_trans HB.out.size hgrow1.size
        case aL => omega
        case aK =>
          intro v1 w3 ho hb hg hat
          have hO1 : Kd.R (Kd.int .i64) 3 w1 w.heap.size (fun k => k ≠ w.heap.size) (.slice A3 nums.length c3) nums := Kd.R_grown HO.out hgrow1 (fun k hk e => hk (by injection e))
          have hne : w3.heap[w.heap.size]? = w1.heap[w.heap.size]? := hg.block _ (Go.Proofs.Ytoeioigpkfgppaa.XNumber.lt hown1) (fun e => (hO1.1 _ e.symm) rfl)
          have HREL2 : Aside0 (names_Twins.Rel w3 w.heap.size (i + 1) v1 (l0.map bts)) := ⟨⟨⟨_, Go.Proofs.Ytoeioigpkfgppaa.XNumber.stay hown1 hne, HG2.out⟩, by rw [hstep.out]; exact ho⟩⟩
          have HB3 := Aside0.mk hb
          clear ho hb hg hat hne hO1 hown1 hgrow1
          go_wp2
          go_roundg (l0.length - (i + 1))
          case measure => have := HK.out; omega
          case rel => exact ⟨_, _, i + 1, rfl, rfl, ⟨rfl⟩, ⟨hi⟩, by go_num, HREL2, HB3⟩
      · have dt : decide ((1 : Int) < (cn : Int) + 1) = false := decide_eq_false (by omega)
        have hstep : Aside0 (twn (l0.map bts) (i + 1) = nums) := ⟨by rw [HTS.out, if_neg (fun h_ => hin (HCM.out.1 h_)), List.append_nil]⟩
        go_wp2_with (first
          | (at_lookup; refine wpList_lookup_own_int _ rfl _ _ 118 rfl 9 3 .i64 names_Twins.law Try.underlying118 Try.underlying3 (names_Twins.zeroE _) w.heap.size i D rfl hD _ _ rfl HKEY.out ?_; intro c hat hwc; obtain rfl : c = _ := Go.Proofs.Ytoeioigpkfgppaa.XNumber.inj (hat.symm.trans HAT1.out); clear hat)
          | (at_mapUpdate; refine wpList_mapUpdate_own _ rfl _ _ _ 118 rfl 9 3 names_Twins.law Try.underlying118 _ w.heap.size i _ rfl hD (by unfold maxLen; omega) _ _ _ rfl rfl HKEY.out _ [] (plainElem_int Try.underlying3 HWL.out) ?_; intro w1 hown1 hgrow1; clear hD)
          | (at_lookup; refine wpList_lookup_own_int _ rfl _ _ 118 rfl 9 3 .i64 names_Twins.law Try.underlying118 Try.underlying3 (names_Twins.zeroE _) w.heap.size (i + 1) _ rfl hown1 _ _ rfl HKEY.out ?_; intro c hat hwc; obtain rfl : c = _ := Go.Proofs.Ytoeioigpkfgppaa.XNumber.inj (hat.symm.trans HAT2.out); clear hat))
        have hO1 : Kd.R (Kd.int .i64) 3 w1 w.heap.size (fun k => k ≠ w.heap.size) (.slice A3 nums.length c3) nums := Kd.R_grown HO.out hgrow1 (fun k hk e => hk (by injection e))
        have HREL2 : Aside0 (names_Twins.Rel w1 w.heap.size (i + 1) (.slice A3 nums.length c3) (l0.map bts)) := ⟨⟨⟨_, hown1, HG2.out⟩, by rw [hstep.out]; exact hO1⟩⟩
        have HB3 : Aside0 (Below w.heap.size w w1) := ⟨HB.out.grown hgrow1 HB.out.size (fun j hj => by cases hj; exact Nat.le_refl _)⟩
        clear hO1 hown1 hgrow1
        go_roundg (l0.length - (i + 1))
        case measure => have := HK.out; omega
        case rel => exact ⟨_, _, i + 1, rfl, rfl, ⟨rfl⟩, ⟨hi⟩, by go_num, HREL2, HB3⟩
    · have hlt : decide ((i : Int) < (l0.length : Int)) = false := decide_eq_false (by omega)
      have hil : i = l0.length := by have := HI.out; omega
      have HO := Aside0.mk HREL.out.2
      rw [hil] at HO
      have hres : twn (l0.map bts) l0.length = r := HRR.out
      rw [hres] at HO
      clear hil hres
      go_wp2_with fail
      go_ret
      exact ⟨_, rfl, Kd.R_mono HO.out (fun _ _ => trivial), HB.out⟩


/-! ### rules_book_twins: function 34 -/
-- USES semblance/names.Twins
-- USES (*semblance/rules.book).note
set_option maxHeartbeats 4000000 in
set_option maxRecDepth 100000 in
theorem rules_twins.calls (n₁ n₀ B : Nat) (b : rules_bk.Bk) (out : List (S66)) (vo : Value) (A0 : Option Addr) (c0 : Nat) (l0 : List ByteArray) (ts : List Int) (W : World) (hA : rules_bk.At n₁ n₀ W B b out vo) (hr0 : Kd.C Kd.string W A0 l0.length l0) (hc0 : l0.length ≤ c0) (h : names_Twins.f l0 = some ts)
    (hlen : (out ++ rules_all ts.length (fun j => [(⟨b.rule, rd ts (j : Int), 0⟩ : S66)])).length ≤ 1000000) :
    Calls Try.prog 34 #[.pointer (some ⟨B, 0, none⟩), .slice A0 l0.length c0] W fun e W' => (∃ u, e = .returned u) ∧ (∃ vo', rules_bk.At n₁ n₀ W' B b (out ++ rules_all ts.length (fun j => [⟨b.rule, rd ts (j : Int), 0⟩])) vo') ∧ rules_bk.Fr n₁ n₀ B W W' := by
  have HT := Aside0.mk (names_Twins.calls A0 c0 l0 ts W hr0 hc0 h)
  have HA := Aside0.mk hA
  have HL := Aside0.mk hlen
  clear hr0 hA hlen h
  go_enter Try.func34, Try.ntmps34
  go_wp2_with (go_at_call 65; refine HT.out.mono ?_; rintro e w2 ⟨v2, rfl, hR, hb2⟩; obtain ⟨A2, c2, rfl⟩ := Kd.R_slice hR; have HR := Aside0.mk hR; have HF := Aside0.mk (HA.out.fr hb2); have HA2 := Aside0.mk (HA.out.below hb2); clear hR hb2)
  have hts := Kd.C_max (Kd.R_reads' HR.out).2.2
  go_loopg [9] ts.length (fun kq v9 wr => ∃ (i : Nat) (vo' : Value), Aside0 (ts.length - i = kq) ∧ Aside0 (i ≤ ts.length) ∧ v9 = .int .i64 (i : Int) ∧ Aside0 (rules_bk.At n₁ n₀ wr B b (out ++ rules_all i (fun j => [⟨b.rule, rd ts (j : Int), 0⟩])) vo') ∧ Aside0 (rules_bk.Fr n₁ n₀ B w2 wr))
  case atStart => exact ⟨0, vo, ⟨rfl⟩, ⟨Nat.zero_le _⟩, rfl, ⟨by simpa [rules_all] using HA2.out⟩, ⟨rules_bk.Fr.refl _ _ _ _⟩⟩
  case round =>
    obtain ⟨i, vo', HK, HI, rfl, HAt, HFr⟩ := hrel
    by_cases hi : i < ts.length
    · have hlt : decide ((i : Int) < (ts.length : Int)) = true := decide_eq_true (by omega)
      have hRr := HFr.out.row HR.out (by decide) (Nat.lt_of_lt_of_le HA.out.hi HA.out.size)
      obtain ⟨ad, e1, hx0⟩ := Kd.at_int (Kd.R_reads' hRr).2.2 (i : Int) (by omega) (by omega)
      subst e1
      rw [Int.toNat_natCast] at hx0
      have hle : (out ++ rules_all i (fun j => [(⟨b.rule, rd ts (j : Int), 0⟩ : S66)])).length ≤ 1000000 := by
        have h1 := HL.out
        have h2 := rules_all_le (fun j => [(⟨b.rule, rd ts (j : Int), 0⟩ : S66)]) HI.out
        rw [List.length_append] at h1 ⊢
        omega
      have HN := Aside0.mk (rules_bk.note n₁ n₀ B b _ vo' true (rd ts (i : Int)) 0 wr HAt.out hle)
      clear hRr hle
      go_wp2_with (go_at_call 66; refine HN.out.mono ?_; rintro e w3 ⟨⟨u, rfl⟩, ⟨vo3, hA3⟩, hF3⟩; have HA3 := Aside0.mk hA3; have HF3 := Aside0.mk hF3; clear hA3 hF3)
      go_roundg (ts.length - (i + 1))
      case measure => have := HK.out; omega
      case rel => exact ⟨i + 1, vo3, ⟨rfl⟩, ⟨hi⟩, by go_num, ⟨by rw [rules_all_succ, ← List.append_assoc]; exact HA3.out⟩, ⟨HFr.out.trans HF3.out⟩⟩
    · have hlt : decide ((i : Int) < (ts.length : Int)) = false := decide_eq_false (by omega)
      have hil : i = ts.length := by have := HI.out; omega
      have HIL := Aside0.mk hil
      clear hil
      go_wp2
      go_end0
      exact ⟨⟨_, rfl⟩, ⟨vo', by rw [HIL.out] at HAt; exact HAt.out⟩, HF.out.trans HFr.out⟩


/-! ### shape_Check: function 112 -/
/-- the path, cut back to where it ends in a place -/
def shape_Check.pop (p : List Int) (a : Int) : List Int := (p.reverse.dropWhile (fun x => x != a)).reverse
/-- the path behind one more state; none: it may not stand there -/
def shape_Check.step (l0 : List (S55)) (p : List Int) (i : Int) : Option (List Int) :=
  if shape_Check.pop p (rd_T55 l0 i).f2 = [] then
    (if 0 < i ∨ (rd_T55 l0 i).f2 ≠ -1 then none else if 1 ≤ (rd_T55 l0 i).f1 ∧ (rd_T55 l0 i).f1 ≤ 3 then some [i] else none)
  else if (rd_T55 l0 (rd_T55 l0 i).f2).f1 = 1 then none
  else if 1 ≤ (rd_T55 l0 i).f1 ∧ (rd_T55 l0 i).f1 ≤ 3 then some (shape_Check.pop p (rd_T55 l0 i).f2 ++ [i]) else none
/-- the depth behind the states from one on (so many are left) -/
def shape_Check.run (l0 : List (S55)) : Nat → List Int → Int → Option Int
  | 0, _, deep => some deep
  | n + 1, p, deep => match shape_Check.step l0 p ((l0.length : Int) - ((n : Int) + 1)) with
    | none => none
    | some q => shape_Check.run l0 n q (max deep q.length)
def shape_Check.f (l0 : List (S55)) : Option Int :=
  some (if 60 < l0.length then 8 else if l0.length = 0 then 1 else match shape_Check.run l0 l0.length [] 0 with
    | none => 1
    | some d => if 12 < d then 6 else 0)

/-- a path in memory: a block of one cell that holds a row of the call's own -/
def shape_Check.At (w0 w : World) (g : Nat) (p : List Int) : Prop :=
  ∃ v, w.heap[g]? = some (.cells #[v] 130 (0, 0)) ∧ w.ownsRow w0.heap.size 3 1 v p.length (p.map (Value.int .i64)) ∧ v.ownBlock ≠ some g ∧ w0.heap.size ≤ g
theorem shape_Check.pop_nil (a : Int) : shape_Check.pop [] a = [] := rfl
theorem shape_Check.pop_hit (p : List Int) (a : Int) : shape_Check.pop (p ++ [a]) a = p ++ [a] := by simp [shape_Check.pop]
theorem shape_Check.pop_miss (p : List Int) (x a : Int) (h : x ≠ a) : shape_Check.pop (p ++ [x]) a = shape_Check.pop p a := by simp [shape_Check.pop, h]
theorem shape_Check.succ {W : World} {base : Nat} {e : TypeId} {size : Nat} {v : Value} {k : Nat} {xs : List Value} (h : W.ownsRow base e size v (k + 1) xs) : ∃ g cap, v = .slice (some ⟨g, 0, none⟩) (k + 1) cap := by
  rcases h.2 with ⟨_, h⟩ | ⟨g, cap, _, h, _⟩
  · omega
  · exact ⟨g, cap, h⟩
/-- behind the append: where the path lies, and what else -/
theorem shape_Check.pushed {w0 W w2 : World} {g : Nat} {v v' : Value} {p1 : List Int} {i : Int} {o : Obj} (e1 : W.heap[g]? = some (.cells #[v] 130 (0, 0))) (e2 : W.ownsRow w0.heap.size 3 1 v p1.length (p1.map (Value.int .i64))) (e3 : v.ownBlock ≠ some g) (e4 : w0.heap.size ≤ g)
    (hB : Below w0.heap.size w0 W) (hg : (W.alloc o).grownBy w2 v.ownBlock) (hown : w2.ownsRow w0.heap.size 3 1 v' (p1.length + 1) (p1.map (Value.int .i64) ++ [.int .i64 i])) :
    w2.heap[g]? = some (.cells #[v] 130 (0, 0)) ∧ Below w0.heap.size w0 w2 ∧ shape_Check.At w0 (w2.setCell ⟨g, 0, none⟩ v') g (p1 ++ [i]) ∧
      ∀ (b : Nat) (cs : Array Value) (t : TypeId), W.heap[b]? = some (Obj.cells cs t (0, 0)) → t ≠ 3 → w2.heap[b]? = some (Obj.cells cs t (0, 0)) := by
  have hk : ∀ (b : Nat) (cs : Array Value) (t : TypeId), W.heap[b]? = some (Obj.cells cs t (0, 0)) → t ≠ 3 → w2.heap[b]? = some (Obj.cells cs t (0, 0)) := by
    intro b cs t hb ht
    have h1 := blk_alloc hb o
    refine (hg.block b (lt_of_block h1) (fun e => ?_)).trans h1
    obtain ⟨c', hc'⟩ := own_typed e2 b e.symm
    rw [hb] at hc'
    injection hc' with hc'
    injection hc' with _ hc'
    exact ht hc'
  have h1 := hk g _ _ e1 (by decide)
  refine ⟨h1, (hB.alloc hB.size o).grown hg (Nat.le_trans hB.size (by simp)) (fun k hk => (e2.lt k hk).1), ⟨v', one_setCell h1, ?_, ?_, e4⟩, hk⟩
  · refine ownsRow_setCell_other (by simpa using hown) ?_ _
    intro e
    obtain ⟨c', hc'⟩ := own_typed hown g e
    rw [h1] at hc'
    injection hc' with hc'
    injection hc' with _ hc'
    exact absurd hc' (by decide)
  · intro e
    obtain ⟨c', hc'⟩ := own_typed hown g e
    rw [h1] at hc'
    injection hc' with hc'
    injection hc' with _ hc'
    exact absurd hc' (by decide)
set_option maxHeartbeats 2000000 in
set_option maxRecDepth 100000 in
theorem shape_Check.meet (g : Nat) (A0 : Option Addr) (c0 : Nat) (l0 : List (S55)) (i : Int) (p : List Int) (w0 w : World) (hr0 : Kd.C k55 w0 A0 l0.length l0) (h0 : 0 ≤ i) (hi : i < l0.length) (hl : l0.length ≤ 60)
    (hp : ∀ x ∈ p, 0 ≤ x ∧ x < l0.length) (hn : p.length ≤ 60) (hB : Below w0.heap.size w0 w) (hP : shape_Check.At w0 w g p) :
    Calls Try.prog 119 #[.pointer (some ⟨g, 0, none⟩), .slice A0 l0.length c0, .int .i64 i] w fun e w' => e = .returned (.bool (shape_Check.step l0 p i).isSome) ∧ Below w0.heap.size w0 w' ∧
      ∀ q, shape_Check.step l0 p i = some q → shape_Check.At w0 w' g q := by
  have hC := Kd.C_below hr0 hB
  obtain ⟨ad, A3, cc3, A4, cc4, A5, cc5, hA, hx0, hx1, hx2, hx3, hx4, hx5, -⟩ := at_T55 hC i h0 hi
  subst hA
  obtain ⟨i0, hi0, hz0, hz1, hz2⟩ := info_parts info3
  go_enter Try.func119, Try.ntmps119
  go_wp2
  have HR := Aside0.mk hr0
  have hsz := World.size_alloc
  obtain ⟨w1, hw1⟩ : ∃ w1 : World, w1 = w.alloc (.cells #[.string (rd_T55 l0 i).f0, .int .i64 (rd_T55 l0 i).f1, .int .i64 (rd_T55 l0 i).f2, .slice A3 (rd_T55 l0 i).f3.length cc3, .slice A4 (rd_T55 l0 i).f4.length cc4, .slice A5 (rd_T55 l0 i).f5.length cc5] 55) := ⟨_, rfl⟩
  have s0 : w0.heap.size ≤ w.heap.size := hB.size
  have b7 : w1.heap[w.heap.size]? = some (.cells #[.string (rd_T55 l0 i).f0, .int .i64 (rd_T55 l0 i).f1, .int .i64 (rd_T55 l0 i).f2, .slice A3 (rd_T55 l0 i).f3.length cc3, .slice A4 (rd_T55 l0 i).f4.length cc4, .slice A5 (rd_T55 l0 i).f5.length cc5] 55 (0, 0)) := by rw [hw1]; exact heap_alloc_new w _
  have B1 : Below w0.heap.size w0 w1 := by rw [hw1]; exact hB.alloc s0 _
  have hP1 : shape_Check.At w0 w1 g p := by
    obtain ⟨v, e1, e2, e3, e4⟩ := hP
    refine ⟨v, ?_, ?_, e3, e4⟩
    · rw [hw1]; exact blk_alloc e1 _
    · rw [hw1]; exact e2.alloc _
  rw [← hw1]
  clear hw1 hP hx0 hx1 hx2 hx3 hx4 hx5 hC hr0 hsz
  generalize w.heap.size = b7n at *
  generalize hS : rd_T55 l0 i = s at *
  have HS := Aside0.mk hS
  clear hS
  have HP := Aside0.mk hP1
  have HB := Aside0.mk B1
  have HB7 := Aside0.mk b7
  have HPP := Aside0.mk hp
  clear hP1 B1 b7 hp hB
  go_loopg [] p.length (fun kq wr => ∃ p1 : List Int, Aside0 (kq = p1.length) ∧ Aside0 (shape_Check.pop p s.f2 = shape_Check.pop p1 s.f2) ∧ Aside0 (∀ x ∈ p1, 0 ≤ x ∧ x < (l0.length : Int)) ∧ Aside0 (p1.length ≤ 60) ∧ Aside0 (shape_Check.At w0 wr g p1) ∧ Aside0 (Below w0.heap.size w0 wr) ∧ Aside0 (wr.heap[b7n]? = some (.cells #[.string s.f0, .int .i64 s.f1, .int .i64 s.f2, .slice A3 s.f3.length cc3, .slice A4 s.f4.length cc4, .slice A5 s.f5.length cc5] 55 (0, 0))))
  case atStart => exact ⟨p, ⟨rfl⟩, ⟨rfl⟩, HPP, ⟨hn⟩, HP, HB, HB7⟩
  case round =>
    clear HP HB HB7 HPP
    obtain ⟨p1, HK, HQ, HPP, HN, HP, HB, HB7⟩ := hrel
    obtain ⟨v, e1, e2, e3, e4⟩ := HP.out
    have c7 : ∀ j u, (#[.string s.f0, .int .i64 s.f1, .int .i64 s.f2, .slice A3 s.f3.length cc3, .slice A4 s.f4.length cc4, .slice A5 s.f5.length cc5] : Array Value)[j]? = some u → wr.cell? ⟨b7n, j, none⟩ = some u := fun j u h => by simpa [World.cell?, HB7.out] using h
    have d1 := c7 1 _ rfl
    have d2 := c7 2 _ rfl
    clear c7
    have cg := cell_of_one e1
    rcases List.eq_nil_or_concat p1 with rfl | ⟨q, x, rfl⟩
    · have hv : ∃ a c, v = .slice a 0 c := by
        rcases e2.2 with ⟨rfl, -⟩ | ⟨gb, cap, cur, rfl, -⟩
        · exact ⟨_, _, rfl⟩
        · exact ⟨_, _, rfl⟩
      obtain ⟨va, vc, rfl⟩ := hv
      have hq0 : shape_Check.pop p s.f2 = [] := HQ.out
      have hstep : shape_Check.step l0 p i = (if 0 < i ∨ s.f2 ≠ -1 then none else if 1 ≤ s.f1 ∧ s.f1 ≤ 3 then some [i] else none) := by
        unfold shape_Check.step; rw [HS.out, if_pos hq0]
      have HST := Aside0.mk hstep
      have HE2 := Aside0.mk e2
      have HE1 := Aside0.mk e1
      have HE3 := Aside0.mk e3
      clear hq0 hstep e2 e1 e3
      by_cases hA : 0 < i
      · have hA1 : decide (0 < i) = true := decide_eq_true hA
        go_wp2
        repeat (go_quiet (fail); try go_wp2)
        go_ret
        rw [HST.out, if_pos (.inl hA)]
        exact ⟨rfl, (pw_below_drewN HB.out _), fun q h => by cases h⟩
      · have hA1 : decide (0 < i) = false := decide_eq_false hA
        by_cases hpar : s.f2 = -1
        · have hp1 : (s.f2 == -1) = true := beq_iff_eq.mpr hpar
          have hp2 : (s.f2 != -1) = false := bne_eq_false_iff_eq.mpr hpar
          have HPAR := Aside0.mk hpar
          clear hpar
          go_wp2
          repeat (go_quiet (fail); try go_wp2_with (at_builtin; refine wpList_append_own _ rfl _ _ 130 rfl w0.heap.size 3 i0 (.int .i64 0) 1 8 Try.underlying130 hi0 hz0 hz1 hz2 rfl (by decide) _ _ _ rfl (World.ownsRow.alloc (pw_own_drewN HE2.out _) _) ⟨wr.heap.size, 0, none⟩ 1 1 [.int .i64 i] rfl rfl ?c1 ?c2 ?c3 ?c4 ?c5 ?c6))
          case c1 => exact cell_one_new _ _ _
          case c2 => intro u hu; simp at hu; subst hu; rfl
          case c3 => simp [maxLen]
          case c4 => simp
          case c5 => exact Nat.le_trans HB.out.size (by simp)
          case c6 =>
            intro v2 w2 hown hgrow _
            obtain ⟨hg2, hB2, hP2, hk2⟩ := shape_Check.pushed (i := i) (p1 := []) (blk_drewN HE1.out _) (pw_own_drewN HE2.out _) HE3.out e4 (pw_below_drewN HB.out _) hgrow hown
            have hb2 := hk2 _ _ _ (blk_drewN HB7.out _) (by decide)
            obtain ⟨g3, c3, rfl⟩ := shape_Check.succ hown
            have HP2 := Aside0.mk hP2
            have HB2 := Aside0.mk hB2
            clear hP2 hB2 hown hgrow hk2
            have cg2 := cell_of_one hg2
            have fg2 := free_of_one hg2
            have d1' : w2.cell? ⟨b7n, 1, none⟩ = some (.int .i64 s.f1) := by simp [World.cell?, hb2]
            have hne : ¬ (g = b7n) := by
              rintro rfl
              rw [hg2] at hb2
              injection hb2 with hb2
              injection hb2 with _ hb2
              exact absurd hb2 (by decide)
            have hne' : ¬ (b7n = g) := fun e => hne e.symm
            clear hg2 hb2 cg d1 d2
            have hno : ¬ (0 < i ∨ s.f2 ≠ -1) := by rw [HPAR.out]; simp; omega
            by_cases hk1 : 1 ≤ s.f1
            · have hk1' : decide (1 ≤ s.f1) = true := decide_eq_true hk1
              by_cases hk3 : s.f1 ≤ 3
              · have hk3' : decide (s.f1 ≤ 3) = true := decide_eq_true hk3
                go_wp2
                repeat (go_quiet (fail); try go_wp2)
                go_ret
                rw [HST.out, if_neg hno, if_pos ⟨hk1, hk3⟩]
                exact ⟨rfl, HB2.out.setCell (p := ⟨g, 0, none⟩) e4 _, fun q h => by cases h; exact HP2.out⟩
              · have hk3' : decide (s.f1 ≤ 3) = false := decide_eq_false hk3
                go_wp2
                repeat (go_quiet (fail); try go_wp2)
                go_ret
                rw [HST.out, if_neg hno, if_neg (by omega)]
                exact ⟨rfl, HB2.out.setCell (p := ⟨g, 0, none⟩) e4 _, fun q h => by cases h⟩
            · have hk1' : decide (1 ≤ s.f1) = false := decide_eq_false hk1
              go_wp2
              repeat (go_quiet (fail); try go_wp2)
              go_ret
              rw [HST.out, if_neg hno, if_neg (by omega)]
              exact ⟨rfl, HB2.out.setCell (p := ⟨g, 0, none⟩) e4 _, fun q h => by cases h⟩
        · have hp1 : (s.f2 == -1) = false := beq_eq_false_iff_ne.mpr hpar
          have hp2 : (s.f2 != -1) = true := bne_iff_ne.mpr hpar
          go_wp2
          repeat (go_quiet (fail); try go_wp2)
          go_ret
          rw [HST.out, if_pos (.inr hpar)]
          exact ⟨rfl, (pw_below_drewN HB.out _), fun q h => by cases h⟩
    · obtain ⟨gb, cap, cur, rfl, -, hcur, hcl, hcm, hcs, htk⟩ : ∃ gb cap cur, v = .slice (some ⟨gb, 0, none⟩) (q.length + 1) cap ∧ w0.heap.size ≤ gb ∧ wr.heap[gb]? = some (.cells cur 3 (0, 0)) ∧ q.length + 1 ≤ cap ∧ cap ≤ maxLen ∧ cur.size = cap * 1 ∧ cur.toList.take ((q.length + 1) * 1) = (q.concat x).map (Value.int .i64) := by
        have h2 := e2.2
        simp only [List.length_concat] at h2
        rcases h2 with ⟨-, h⟩ | h
        · omega
        · exact h
      have hlast : wr.cell? ⟨gb, q.length, none⟩ = some (.int .i64 x) := by
        have := e2.cells (g := gb) (by simp [Value.ownBlock]) q.length (.int .i64 x) (by simp)
        have hz : (⟨gb, 0, none⟩ : Addr).add q.length = ⟨gb, q.length, none⟩ := by rw [Addr.add_lit]; simp
        rwa [hz] at this
      have HE2 := Aside0.mk e2
      have HE1 := Aside0.mk e1
      have HE3 := Aside0.mk e3
      have HCUR := Aside0.mk hcur
      have HTK := Aside0.mk htk
      have HCS := Aside0.mk hcs
      have hql : q.length + 1 ≤ 60 := by have := HN.out; simpa using this
      clear e2 e1 e3 hcur htk hcs
      have hlen0 : decide ((0 : Int) < (q.length : Int) + 1) = true := decide_eq_true (by omega)
      by_cases hx : x = s.f2
      · subst hx
        have hpp : shape_Check.pop p s.f2 = q ++ [s.f2] := by rw [HQ.out, List.concat_eq_append, shape_Check.pop_hit]
        have hb := HPP.out s.f2 (by simp)
        obtain ⟨hb0, hb1⟩ := hb
        have hC := Kd.C_below HR.out HB.out
        obtain ⟨ad2, A3', cc3', A4', cc4', A5', cc5', hA, hx0, hx1, hx2, hx3, hx4, hx5, -⟩ := at_T55 hC s.f2 hb0 hb1
        cases hA
        have hstep : shape_Check.step l0 p i = (if (rd_T55 l0 s.f2).f1 = 1 then none else if 1 ≤ s.f1 ∧ s.f1 ≤ 3 then some (q ++ [s.f2] ++ [i]) else none) := by
          unfold shape_Check.step; rw [HS.out, if_neg (by rw [hpp]; simp), hpp]
        have HST := Aside0.mk hstep
        generalize hD : rd_T55 l0 s.f2 = s2 at *
        have HD := Aside0.mk hD
        clear hD hpp hstep hx0 hx2 hx3 hx4 hx5 hC
        by_cases hkk : s2.f1 = 1
        · have hkk1 : (s2.f1 == 1) = true := beq_iff_eq.mpr hkk
          have HKK := Aside0.mk hkk
          clear hkk
          go_wp2
          repeat (go_quiet (fail); try go_wp2)
          go_ret
          rw [HST.out, if_pos HKK.out]
          exact ⟨rfl, pw_below_drewN HB.out _, fun q h => by cases h⟩
        · have hkk1 : (s2.f1 == 1) = false := beq_eq_false_iff_ne.mpr hkk
          have HKK := Aside0.mk hkk
          clear hkk
          go_wp2
          repeat (go_quiet (fail); try go_wp2_with (at_builtin; refine wpList_append_own _ rfl _ _ 130 rfl w0.heap.size 3 i0 (.int .i64 0) 1 8 Try.underlying130 hi0 hz0 hz1 hz2 rfl (by decide) _ _ _ rfl (World.ownsRow.alloc (pw_own_drewN HE2.out _) _) ⟨wr.heap.size, 0, none⟩ 1 1 [.int .i64 i] rfl rfl ?c1 ?c2 ?c3 ?c4 ?c5 ?c6))
          case c1 => exact cell_one_new _ _ _
          case c2 => intro u hu; simp at hu; subst hu; rfl
          case c3 => simp [maxLen]; omega
          case c4 => simp; omega
          case c5 => exact Nat.le_trans HB.out.size (by simp)
          case c6 =>
            intro v2 w2 hown hgrow _
            have hown : w2.ownsRow w0.heap.size 3 1 v2 ((q ++ [s.f2]).length + 1) ((q ++ [s.f2]).map (Value.int .i64) ++ [.int .i64 i]) := by simpa [List.concat_eq_append] using hown
            obtain ⟨hg2, hB2, hP2, hk2⟩ := shape_Check.pushed (i := i) (p1 := q ++ [s.f2]) (blk_drewN HE1.out _) (by have := HE2.out; rw [List.concat_eq_append] at this; exact pw_own_drewN this _) HE3.out e4 (pw_below_drewN HB.out _) hgrow hown
            have hb2 := hk2 _ _ _ (blk_drewN HB7.out _) (by decide)
            simp only [List.length_append, List.length_singleton] at hown
            obtain ⟨g3, c3, rfl⟩ := shape_Check.succ hown
            have HP2 := Aside0.mk hP2
            have HB2 := Aside0.mk hB2
            clear hP2 hB2 hown hgrow hk2
            have cg2 := cell_of_one hg2
            have fg2 := free_of_one hg2
            have d1' : w2.cell? ⟨b7n, 1, none⟩ = some (.int .i64 s.f1) := by simp [World.cell?, hb2]
            have hne : ¬ (g = b7n) := by
              rintro rfl
              rw [hg2] at hb2
              injection hb2 with hb2
              injection hb2 with _ hb2
              exact absurd hb2 (by decide)
            have hne' : ¬ (b7n = g) := fun e => hne e.symm
            clear hg2 hb2 cg d1 d2 hx1 hlast
            by_cases hk1 : 1 ≤ s.f1
            · have hk1' : decide (1 ≤ s.f1) = true := decide_eq_true hk1
              by_cases hk3 : s.f1 ≤ 3
              · have hk3' : decide (s.f1 ≤ 3) = true := decide_eq_true hk3
                go_wp2
                repeat (go_quiet (fail); try go_wp2)
                go_ret
                rw [HST.out, if_neg HKK.out, if_pos ⟨hk1, hk3⟩]
                exact ⟨rfl, HB2.out.setCell (p := ⟨g, 0, none⟩) e4 _, fun q h => by cases h; exact HP2.out⟩
              · have hk3' : decide (s.f1 ≤ 3) = false := decide_eq_false hk3
                go_wp2
                repeat (go_quiet (fail); try go_wp2)
                go_ret
                rw [HST.out, if_neg HKK.out, if_neg (by omega)]
                exact ⟨rfl, HB2.out.setCell (p := ⟨g, 0, none⟩) e4 _, fun q h => by cases h⟩
            · have hk1' : decide (1 ≤ s.f1) = false := decide_eq_false hk1
              go_wp2
              repeat (go_quiet (fail); try go_wp2)
              go_ret
              rw [HST.out, if_neg HKK.out, if_neg (by omega)]
              exact ⟨rfl, HB2.out.setCell (p := ⟨g, 0, none⟩) e4 _, fun q h => by cases h⟩
      · have hx1 : (x == s.f2) = false := beq_eq_false_iff_ne.mpr hx
        have hx2 : (x != s.f2) = true := bne_iff_ne.mpr hx
        have HX := Aside0.mk hx
        clear hx
        have fg := free_of_one HE1.out
        go_wp2
        repeat (go_quiet (fail); try go_wp2)
        go_region
        all_goals
          go_wp2
          go_roundg q.length
          case measure => have := HK.out; simp at this; omega
          case rel =>
            refine ⟨q, ⟨rfl⟩, ⟨?_⟩, ⟨fun y hy => HPP.out y (by simp [hy])⟩, ⟨by omega⟩, ⟨?_⟩, ⟨(pw_below_drewN HB.out _).setCell (p := ⟨g, 0, none⟩) e4 _⟩, ⟨?_⟩⟩
            · rw [HQ.out, List.concat_eq_append, shape_Check.pop_miss _ _ _ HX.out]
            · have hgb : w0.heap.size ≤ gb := (HE2.out.lt gb rfl).1
              refine ⟨_, one_setCell (blk_drewN HE1.out _), ownsRow_setCell_other (pw_own_drewN ⟨by simp, .inr ⟨gb, cap, cur, rfl, hgb, HCUR.out, by omega, hcm, HCS.out, ?_⟩⟩ _) HE3.out _, HE3.out, e4⟩
              have h := HTK.out
              rw [List.concat_eq_append, List.map_append] at h
              have h2 := congrArg (List.take q.length) h
              rw [List.take_take, Nat.min_eq_left (by omega)] at h2
              rw [Nat.mul_one, h2]
              simp
            · refine blk_far (blk_drewN HB7.out _) (fun e => ?_) _
              have e' : b7n = g := e
              have h1 := HB7.out
              rw [e', HE1.out] at h1
              injection h1 with h1
              injection h1 with _ h1
              exact absurd h1 (by decide)

theorem shape_Check.pop_sub (p : List Int) (a : Int) : ∀ x ∈ shape_Check.pop p a, x ∈ p := by
  intro x hx
  unfold shape_Check.pop at hx
  rw [List.mem_reverse] at hx
  exact List.mem_reverse.1 ((List.dropWhile_sublist _).subset hx)
theorem shape_Check.pop_len (p : List Int) (a : Int) : (shape_Check.pop p a).length ≤ p.length := by
  unfold shape_Check.pop
  have := (List.dropWhile_sublist (fun x => x != a) (l := p.reverse)).length_le
  simpa using this
theorem shape_Check.step_in (l0 : List (S55)) (p q : List Int) (i : Int) (h0 : 0 ≤ i) (hi : i < l0.length) (hp : ∀ x ∈ p, 0 ≤ x ∧ x < (l0.length : Int)) (h : shape_Check.step l0 p i = some q) :
    q.length ≤ p.length + 1 ∧ ∀ x ∈ q, 0 ≤ x ∧ x < (l0.length : Int) := by
  have hl := shape_Check.pop_len p (rd_T55 l0 i).f2
  unfold shape_Check.step at h
  split at h
  · split at h
    · cases h
    · split at h
      · cases h
        exact ⟨by simp, fun x hx => by simp at hx; subst hx; exact ⟨h0, hi⟩⟩
      · cases h
  · split at h
    · cases h
    · split at h
      · cases h
        refine ⟨by simp; omega, fun x hx => ?_⟩
        rcases List.mem_append.1 hx with hx | hx
        · exact hp x (shape_Check.pop_sub _ _ _ hx)
        · simp at hx; subst hx; exact ⟨h0, hi⟩
      · cases h
theorem shape_Check.max_as (a b : Int) : max a b = if a < b then b else a := by omega
theorem shape_Check.At_cell {w0 w : World} {g : Nat} {p : List Int} (h : shape_Check.At w0 w g p) : ∃ a c, w.cell? ⟨g, 0, none⟩ = some (.slice a p.length c) := by
  obtain ⟨v, e1, e2, -, -⟩ := h
  rcases e2.2 with ⟨rfl, h⟩ | ⟨gb, cap, cur, rfl, -⟩
  · exact ⟨none, 0, by rw [h]; exact cell_of_one e1⟩
  · exact ⟨_, _, cell_of_one e1⟩
set_option maxHeartbeats 2000000 in
set_option maxRecDepth 100000 in
theorem shape_Check.calls (A0 : Option Addr) (c0 : Nat) (l0 : List (S55)) (r : Int) (w : World) (hr0 : Kd.C k55 w A0 l0.length l0) (hc0 : l0.length ≤ c0) (h : shape_Check.f l0 = some r) :
    Calls Try.prog 112 #[.slice A0 l0.length c0] w fun e w' => e = .returned (.int .i64 r) ∧ Below w.heap.size w w' := by
  unfold shape_Check.f at h
  have H := Option.some.inj h
  clear h
  by_cases h60 : 60 < l0.length
  · rw [if_pos h60] at H
    subst H
    have c1 : decide (60 < l0.length) = true := decide_eq_true h60
    have c2 : decide ((60 : Int) < (l0.length : Int)) = true := decide_eq_true (by omega)
    go_enter Try.func112, Try.ntmps112
    go_wp2
    go_ret
    exact ⟨rfl, Below.refl _ _⟩
  · rw [if_neg h60] at H
    have c1 : decide (60 < l0.length) = false := decide_eq_false h60
    have c2 : decide ((60 : Int) < (l0.length : Int)) = false := decide_eq_false (by omega)
    by_cases hz : l0.length = 0
    · rw [if_pos hz] at H
      subst H
      have c3 : ((l0.length : Int) == 0) = true := beq_iff_eq.mpr (by omega)
      have c4 : l0 = [] := List.length_eq_zero_iff.1 hz
      subst c4
      go_enter Try.func112, Try.ntmps112
      go_wp2
      go_ret
      exact ⟨rfl, Below.refl _ _⟩
    · rw [if_neg hz] at H
      have c3 : ((l0.length : Int) == 0) = false := beq_eq_false_iff_ne.mpr (by omega)
      have c4 : ¬ (l0 = []) := fun e => hz (by rw [e]; rfl)
      have HH := Aside0.mk H
      have HR := Aside0.mk hr0
      clear H hr0
      go_enter Try.func112, Try.ntmps112
      go_wp2_with fail
      have s0 : w.heap.size ≤ (w.alloc (.cells #[.slice none 0 0] 130)).heap.size := by simp
      have b3 : (w.alloc (.cells #[.slice none 0 0] 130)).heap[w.heap.size]? = some (.cells #[.slice none 0 0] 130 (0, 0)) := heap_alloc_new w _
      have B1 : Below w.heap.size w (w.alloc (.cells #[.slice none 0 0] 130)) := (Below.refl _ _).alloc (Nat.le_refl _) _
      have P1 : shape_Check.At w (w.alloc (.cells #[.slice none 0 0] 130)) w.heap.size [] := ⟨_, b3, World.ownsRow_nil _ _ _ _, by simp [Value.ownBlock], Nat.le_refl _⟩
      have HP := Aside0.mk P1
      have HB := Aside0.mk B1
      clear P1 B1 b3 s0
      go_loopg [4, 16] l0.length (fun kq v4 v16 wr => ∃ (n : Nat) (p : List Int) (deep : Int), Aside0 (kq = n) ∧ Aside0 (n ≤ l0.length) ∧ v16 = .int .i64 ((l0.length : Int) - (n : Int)) ∧ v4 = .int .i64 deep ∧ Aside0 (shape_Check.run l0 l0.length [] 0 = shape_Check.run l0 n p deep) ∧ Aside0 (p.length + n ≤ l0.length) ∧ Aside0 (∀ x ∈ p, 0 ≤ x ∧ x < (l0.length : Int)) ∧ Aside0 (shape_Check.At w wr w.heap.size p) ∧ Aside0 (Below w.heap.size w wr))
      case atStart => exact ⟨l0.length, [], 0, ⟨rfl⟩, ⟨Nat.le_refl _⟩, by simp, rfl, ⟨rfl⟩, ⟨by simp⟩, ⟨fun x hx => by cases hx⟩, HP, HB⟩
      case round =>
        clear HP HB
        obtain ⟨n, p, deep, HK, HN, rfl, rfl, HRUN, HPL, HPP, HP, HB⟩ := hrel
        cases n with
        | zero =>
          have hlt : decide ((l0.length : Int) - ((0 : Nat) : Int) < (l0.length : Int)) = false := decide_eq_false (by omega)
          have hr : (match some deep with | none => 1 | some d => if 12 < d then (6 : Int) else 0) = r := by have := HH.out; rw [HRUN.out] at this; exact this
          have hr' : (if 12 < deep then (6 : Int) else 0) = r := hr
          clear hr
          by_cases h12 : 12 < deep
          · rw [if_pos h12] at hr'
            subst hr'
            go_wp2
            go_ret
            exact ⟨rfl, HB.out⟩
          · rw [if_neg h12] at hr'
            subst hr'
            go_wp2
            go_ret
            exact ⟨rfl, HB.out⟩
        | succ n =>
          have hn1 := HN.out
          have hlt : decide ((l0.length : Int) - ((n + 1 : Nat) : Int) < (l0.length : Int)) = true := decide_eq_true (by omega)
          generalize hi : (l0.length : Int) - ((n + 1 : Nat) : Int) = i at *
          have hi0 : 0 ≤ i := by omega
          have hi1 : i < (l0.length : Int) := by omega
          have HI := Aside0.mk hi
          clear hi hn1
          have hcall := shape_Check.meet w.heap.size A0 c0 l0 i p w wr HR.out hi0 hi1 (by omega) HPP.out (by have := HPL.out; omega) HB.out HP.out
          have HC := Aside0.mk hcall
          clear hcall
          have hrun : shape_Check.run l0 (n + 1) p deep = match shape_Check.step l0 p i with | none => none | some q => shape_Check.run l0 n q (max deep q.length) := by
            rw [← HI.out]; simp only [shape_Check.run]; rfl
          have HRN := Aside0.mk hrun
          clear hrun
          cases hs : shape_Check.step l0 p i with
          | none =>
            rw [hs] at HC HRN
            have hr : r = 1 := by have := HH.out; rw [HRUN.out, HRN.out] at this; exact this.symm
            subst hr
            clear hs
            go_wp2_with (go_at_call 119; refine HC.out.mono ?_; rintro e w' ⟨rfl, hb, -⟩)
            go_ret
            exact ⟨rfl, hb⟩
          | some q =>
            obtain ⟨hq1, hq2⟩ := shape_Check.step_in l0 p q i hi0 hi1 HPP.out hs
            rw [hs] at HC HRN
            clear hs
            have hqn : q.length ≤ 60 := by have := HPL.out; omega
            by_cases hd : deep < (q.length : Int)
            all_goals
              go_wp2_with (go_at_call 119; refine HC.out.mono ?_; rintro e w' ⟨rfl, hb, hat⟩; have HAT := Aside0.mk (hat q rfl); clear hat; obtain ⟨a3, c3', hcell⟩ := shape_Check.At_cell HAT.out)
              go_roundg n
              case measure => have := HK.out; omega
              case rel =>
                refine ⟨n, q, max deep q.length, ⟨rfl⟩, ⟨by have := HN.out; omega⟩, ?_, ?_, ⟨?_⟩, ⟨by have := HPL.out; omega⟩, ⟨hq2⟩, HAT, ⟨hb⟩⟩
                · have := HI.out
                  rw [show i + 1 = (l0.length : Int) - (n : Int) by omega]
                · congr 1; omega
                · rw [HRUN.out, HRN.out]


/-! ### slices_IndexFunc_int_int: function 120 -/
/-- the first place of which p holds; -1: none -/
def IndexFunc_int.f (p : Int → Bool) (l : List Int) : Int := match l.findIdx? p with | none => -1 | some i => i
theorem IndexFunc_int.hit (p : Int → Bool) (l : List Int) (n : Nat) (hn : n < l.length) (hx : p (rd l n) = true) (h : ∀ j : Nat, j < n → p (rd l j) = false) : IndexFunc_int.f p l = n := by
  have : l.findIdx? p = some n := by
    rw [List.findIdx?_eq_some_iff_getElem]
    refine ⟨hn, by simpa [rd, hn] using hx, fun j hj => ?_⟩
    have := h j hj
    simpa [rd, show j < l.length by omega] using this
  simp [IndexFunc_int.f, this]
theorem IndexFunc_int.miss (p : Int → Bool) (l : List Int) (h : ∀ j : Nat, j < l.length → p (rd l j) = false) : IndexFunc_int.f p l = -1 := by
  have : l.findIdx? p = none := by
    rw [List.findIdx?_eq_none_iff]
    intro x hx
    obtain ⟨j, hj, rfl⟩ := List.getElem_of_mem hx
    have := h j hj
    simpa [rd, hj] using this
  simp [IndexFunc_int.f, this]
set_option maxHeartbeats 2000000 in
theorem IndexFunc_int.calls (p : Int → Bool) (g : Nat) (lb : Array Value) (eg : ∀ args w, (callFunc g args).run Try.prog w = .ok (.enter g args) w) (A0 : Option Addr) (c0 : Nat) (l0 : List Int) (w : World) (hr0 : Kd.C (Kd.int .i64) w A0 l0.length l0) (hbig : l0.length ≤ 9223372036854775807)
    (hp : ∀ W, Below w.heap.size w W → ∀ x : Int, Calls Try.prog g (#[.int .i64 x] ++ lb) W fun e w' => e = .returned (.bool (p x)) ∧ Below w.heap.size w w') :
    Calls Try.prog 120 #[.slice A0 l0.length c0, .func (.func g) #[] lb] w fun e w' => e = .returned (.int .i64 (IndexFunc_int.f p l0)) ∧ Below w.heap.size w w' := by
  have HR := Aside0.mk hr0
  have HPF := Aside0.mk hp
  clear hr0 hp
  go_enter Try.func120, Try.ntmps120
  go_wp2
  go_loopg [8] l0.length (fun kq v8 wr => ∃ n : Nat, Aside0 (n ≤ l0.length) ∧ Aside0 (l0.length - n = kq) ∧ v8 = .int .i64 (n : Int) ∧ Aside0 (Below w.heap.size w wr) ∧ Aside0 (∀ j : Nat, j < n → p (rd l0 j) = false))
  case atStart => exact ⟨0, ⟨Nat.zero_le _⟩, ⟨by omega⟩, rfl, ⟨Below.refl _ _⟩, ⟨fun j hj => absurd hj (Nat.not_lt_zero _)⟩⟩
  case round =>
    obtain ⟨n, HN, HK, rfl, HB, HP⟩ := hrel
    by_cases hlt : n < l0.length
    · have hlt' : decide ((n : Int) < (l0.length : Int)) = true := decide_eq_true (by omega)
      have hC := Kd.C_below HR.out HB.out
      obtain ⟨ad, e1, hx0⟩ := Kd.at_int hC (n : Int) (by omega) (by omega)
      subst e1
      rw [Int.toNat_natCast] at hx0
      have hcall := HPF.out wr HB.out (rd l0 (n : Int))
      generalize hy : rd l0 (n : Int) = y at hx0 hcall
      have HY := Aside0.mk hy
      clear hy hC
      cases hq : p y with
      | true =>
        rw [hq] at hcall
        have HC := Aside0.mk hcall
        have HQ := Aside0.mk hq
        clear hcall hq
        go_wp2_with fail
        refine HC.out.mono ?_
        rintro e w' ⟨rfl, hb'⟩
        go_wp2
        go_ret
        refine ⟨?_, hb'⟩
        rw [IndexFunc_int.hit p l0 n hlt (by rw [HY.out]; exact HQ.out) HP.out]
        rfl
      | false =>
        rw [hq] at hcall
        have HC := Aside0.mk hcall
        have HQ := Aside0.mk hq
        clear hcall hq
        go_wp2_with fail
        refine HC.out.mono ?_
        rintro e w' ⟨rfl, hb'⟩
        go_wp2
        go_roundg (l0.length - (n + 1))
        case measure => have := HK.out; omega
        case rel =>
          refine ⟨n + 1, ⟨hlt⟩, ⟨rfl⟩, by go_num, ⟨hb'⟩, ⟨fun j hj => ?_⟩⟩
          by_cases e : j = n
          · subst e; rw [HY.out]; exact HQ.out
          · exact HP.out j (by omega)
    · have hlt' : decide ((n : Int) < (l0.length : Int)) = false := decide_eq_false (by omega)
      have hn : n = l0.length := by have := HN.out; omega
      have HNN := Aside0.mk hn
      clear hn
      go_wp2
      go_ret
      exact ⟨by rw [IndexFunc_int.miss p l0 (fun j hj => HP.out j (by have := HNN.out; omega))]; rfl, HB.out⟩


/-! ### slices_ContainsFunc_int_int: function 113 -/
-- USES slices.IndexFunc[[]int,int]
theorem ContainsFunc_int.any (p : Int → Bool) (l : List Int) : decide (0 ≤ IndexFunc_int.f p l) = l.any p := by
  unfold IndexFunc_int.f
  cases h : l.findIdx? p with
  | none =>
    rw [List.findIdx?_eq_none_iff] at h
    have : l.any p = false := by simpa using h
    simp [this]
  | some i =>
    rw [List.findIdx?_eq_some_iff_getElem] at h
    obtain ⟨hi, hp, _⟩ := h
    have : l.any p = true := List.any_eq_true.2 ⟨_, List.getElem_mem hi, hp⟩
    simp [this]
set_option maxHeartbeats 2000000 in
theorem ContainsFunc_int.calls (p : Int → Bool) (g : Nat) (lb : Array Value) (eg : ∀ args w, (callFunc g args).run Try.prog w = .ok (.enter g args) w) (A0 : Option Addr) (c0 : Nat) (l0 : List Int) (w : World) (hr0 : Kd.C (Kd.int .i64) w A0 l0.length l0) (hbig : l0.length ≤ 9223372036854775807)
    (hp : ∀ W, Below w.heap.size w W → ∀ x : Int, Calls Try.prog g (#[.int .i64 x] ++ lb) W fun e w' => e = .returned (.bool (p x)) ∧ Below w.heap.size w w') :
    Calls Try.prog 113 #[.slice A0 l0.length c0, .func (.func g) #[] lb] w fun e w' => e = .returned (.bool (l0.any p)) ∧ Below w.heap.size w w' := by
  have hcall := IndexFunc_int.calls p g lb eg A0 c0 l0 w hr0 hbig hp
  have HANY := Aside0.mk (ContainsFunc_int.any p l0)
  generalize IndexFunc_int.f p l0 = i at hcall HANY
  have HC := Aside0.mk hcall
  clear hp hr0 hcall
  go_enter Try.func113, Try.ntmps113
  go_wp2_with (go_at_call 120; refine HC.out.mono ?_; rintro e w' ⟨rfl, hb'⟩)
  go_ret
  exact ⟨by rw [← HANY.out]; rfl, hb'⟩


end Go.Proofs.Ytoeioigpkfgppaa.XR
