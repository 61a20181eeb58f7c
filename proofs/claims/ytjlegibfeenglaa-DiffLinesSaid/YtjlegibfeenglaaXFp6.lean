-- written by wip/xprint.py out of the translation
import Derived.Test.YtjlegibfeenglaaXFp0
import Derived.Test.YtjlegibfeenglaaXFp2
import Derived.Test.YtjlegibfeenglaaXFp5
namespace Go.Proofs.Ytjlegibfeenglaa.XF
open Go.Proofs.Ytjlegibfeenglaa.XGrow Go.RowKit Go.Proofs.YtjlegibfeenglaaW.PrintWords Go.Proofs.YtjlegibfeenglaaW.PrintLast Go.Proofs.YtjlegibfeenglaaW.PrintMore
attribute [local go_sem] max2_int min2_int max_two min_two max_three min_three max_four min_four   -- for this text's walks alone
set_option linter.unusedVariables false
set_option linter.unusedSimpArgs false

attribute [local go_sem high] eqA117
/-! ### diff_find: function 68 -/
-- RSH 3:V 4:V 5:V
-- SHARE 0,3
-- USES slices.IndexFunc[[]semblance/api.State,semblance/api.State]
-- the kind of a chart: k59 S59
def diff_find.p (n : ByteArray) (x : S99) : Bool := decide (x.f0.toList = n.toList)
def diff_find.i (l : List (S99)) (n : ByteArray) : Int := Go.Proofs.Ytjlegibfeenglaa.XFind.idxF (diff_find.p n) l
def diff_find.x (l : List (S99)) (n : ByteArray) : S99 := if 0 ≤ diff_find.i l n then l.getD (diff_find.i l n).toNat z99 else z99
set_option maxHeartbeats 2000000 in
theorem diff_find.lit (n : ByteArray) (B : Nat) (s0 : ByteArray) (s1 s2 : Int) (A3 : Option Addr) (n3 c3 : Nat) (A4 : Option Addr) (n4 c4 : Nat) (A5 : Option Addr) (n5 c5 : Nat) (W : World) (hc : W.cell? ⟨B, 0, none⟩ = some (.string n)) :
    Calls Try.prog 96 (#[.agg #[.string s0, .int .i64 s1, .int .i64 s2, .slice A3 n3 c3, .slice A4 n4 c4, .slice A5 n5 c5]] ++ #[.pointer (some ⟨B, 0, none⟩)]) W fun e w' => e = .returned (.bool (decide (s0.toList = n.toList))) ∧ Below W.heap.size W w' := by
  have hu := Try.underlying99
  have hc2 := fun o => (World.cell?_alloc_some W _ o (by rw [hc]; rfl)).trans hc
  have HB := Aside0.mk ((Below.refl W.heap.size W).alloc (Nat.le_refl _) (.cells #[.string s0, .int .i64 s1, .int .i64 s2, .slice A3 n3 c3, .slice A4 n4 c4, .slice A5 n5 c5] 99))
  show Calls Try.prog 96 #[.agg #[.string s0, .int .i64 s1, .int .i64 s2, .slice A3 n3 c3, .slice A4 n4 c4, .slice A5 n5 c5], .pointer (some ⟨B, 0, none⟩)] W _
  by_cases h : s0.toList = n.toList
  · have b0 : (s0.toList == n.toList) = true := beq_iff_eq.mpr h
    rw [decide_eq_true h]
    clear h
    go_enter Try.func96, Try.ntmps96
    go_wp2
    go_ret
    exact ⟨by first | rfl | simp [b0], HB.out⟩
  · have b0 : (s0.toList == n.toList) = false := beq_eq_false_iff_ne.mpr h
    rw [decide_eq_false h]
    clear h
    go_enter Try.func96, Try.ntmps96
    go_wp2
    go_ret
    exact ⟨by first | rfl | simp [b0], HB.out⟩
theorem diff_find.lt (l : List (S99)) (n : ByteArray) : diff_find.i l n < (l.length : Int) := by
  unfold diff_find.i Go.Proofs.Ytjlegibfeenglaa.XFind.idxF
  cases hf : l.findIdx? (diff_find.p n) with
  | none => simp only; omega
  | some j =>
    obtain ⟨hj, _⟩ := List.findIdx?_eq_some_iff_getElem.mp hf
    simp only; omega
theorem diff_find.elem {w : World} {ok : Nat → Prop} {A : Option Addr} {l : List (S99)} (h : Kd.F k99 w ok A l.length l) (i : Int) (h0 : 0 ≤ i) (h1 : i < (l.length : Int)) :
    ∃ (ad : Addr) (B3 : Option Addr) (d3 : Nat) (B4 : Option Addr) (d4 : Nat) (B5 : Option Addr) (d5 : Nat), A = some ad ∧ w.cell? (ad.add (i.toNat * 6)) = some (.string (rd_T99 l i).f0) ∧ w.cell? ⟨(ad.add (i.toNat * 6)).block, (ad.add (i.toNat * 6)).off + 1, none⟩ = some (.int .i64 (rd_T99 l i).f1) ∧ w.cell? ⟨(ad.add (i.toNat * 6)).block, (ad.add (i.toNat * 6)).off + 2, none⟩ = some (.int .i64 (rd_T99 l i).f2) ∧ w.cell? ⟨(ad.add (i.toNat * 6)).block, (ad.add (i.toNat * 6)).off + 3, none⟩ = some (.slice B3 (rd_T99 l i).f3.length d3) ∧ w.cell? ⟨(ad.add (i.toNat * 6)).block, (ad.add (i.toNat * 6)).off + 4, none⟩ = some (.slice B4 (rd_T99 l i).f4.length d4) ∧ w.cell? ⟨(ad.add (i.toNat * 6)).block, (ad.add (i.toNat * 6)).off + 5, none⟩ = some (.slice B5 (rd_T99 l i).f5.length d5) ∧ (rd_T99 l i).f3.length ≤ d3 ∧ Kd.F k130 w ok B3 (rd_T99 l i).f3.length (rd_T99 l i).f3 ∧ (rd_T99 l i).f4.length ≤ d4 ∧ Kd.F k130 w ok B4 (rd_T99 l i).f4.length (rd_T99 l i).f4 ∧ (rd_T99 l i).f5.length ≤ d5 ∧ Kd.F k102 w ok B5 (rd_T99 l i).f5.length (rd_T99 l i).f5 := by
  obtain ⟨ad, c, e, _, hK, hc0, _⟩ := Kd.F_get h z99 i h0 h1
  have hc : ∀ j u, c[j]? = some u → w.cell? (ad.add (i.toNat * 6 + j)) = some u := hc0
  obtain ⟨A3, c3, A4, c4, A5, c5, rfl, l3, g3, l4, g4, l5, g5⟩ := k99_openF hK
  exact ⟨ad, A3, c3, A4, c4, A5, c5, e, hc 0 _ rfl, by rw [← add_field _ _ 1 (by omega)]; exact hc 1 _ rfl, by rw [← add_field _ _ 2 (by omega)]; exact hc 2 _ rfl, by rw [← add_field _ _ 3 (by omega)]; exact hc 3 _ rfl, by rw [← add_field _ _ 4 (by omega)]; exact hc 4 _ rfl, by rw [← add_field _ _ 5 (by omega)]; exact hc 5 _ rfl, l3, g3, l4, g4, l5, g5⟩
set_option maxHeartbeats 4000000 in
set_option maxRecDepth 100000 in
theorem diff_find.calls0 (ok : Nat → Prop) (a0 : ByteArray) (A1 : Option Addr) (n1 c1 : Nat) (A2 : Option Addr) (n2 c2 : Nat) (A3 : Option Addr) (c3 : Nat) (l3 : List (S99)) (s : ByteArray) (w : World) (hF3 : Kd.F k99 w ok A3 l3.length l3) :
    Calls Try.prog 68 #[.agg #[.string a0, .slice A1 n1 c1, .slice A2 n2 c2, .slice A3 l3.length c3], .string s] w fun e w' => ∃ (B3 : Option Addr) (d3 : Nat) (B4 : Option Addr) (d4 : Nat) (B5 : Option Addr) (d5 : Nat),
      e = .returned (.tuple #[.agg #[.string (diff_find.x l3 s).f0, .int .i64 (diff_find.x l3 s).f1, .int .i64 (diff_find.x l3 s).f2, .slice B3 (diff_find.x l3 s).f3.length d3, .slice B4 (diff_find.x l3 s).f4.length d4, .slice B5 (diff_find.x l3 s).f5.length d5], .bool (decide (0 ≤ diff_find.i l3 s))]) ∧
      (diff_find.x l3 s).f3.length ≤ d3 ∧ Kd.F k130 w' ok B3 (diff_find.x l3 s).f3.length (diff_find.x l3 s).f3 ∧ (diff_find.x l3 s).f4.length ≤ d4 ∧ Kd.F k130 w' ok B4 (diff_find.x l3 s).f4.length (diff_find.x l3 s).f4 ∧ (diff_find.x l3 s).f5.length ≤ d5 ∧ Kd.F k102 w' ok B5 (diff_find.x l3 s).f5.length (diff_find.x l3 s).f5 ∧ Below w.heap.size w w' := by
  have hr3 := Kd.F_now hF3
  have HFF := Aside0.mk hF3
  clear hF3
  have hu := Try.underlying99
  have hu2 := Try.underlying59
  have eg := Go.Proofs.enters_of Try.func96 (by kernel_rfl) rfl
  have HR := Aside0.mk hr3
  clear hr3
  have hfind := fun (W : World) (hW : Below w.heap.size w W) (B : Nat) (hcell : W.cell? ⟨B, 0, none⟩ = some (.string s)) => IndexFunc_State.calls (diff_find.p s) 96 #[.pointer (some ⟨B, 0, none⟩)] eg A3 c3 l3 W (Kd.C_below HR.out hW)
    (fun W2 h2 x _ A3 c3 A4 c4 A5 c5 _ => (diff_find.lit s B x.f0 x.f1 x.f2 A3 _ c3 A4 _ c4 A5 _ c5 W2 (pw_cell_below h2 hcell)).mono fun e w' ⟨he, hw⟩ => ⟨he, below_then h2 h2.size hw⟩)
  have HF := Aside0.mk hfind
  clear hfind eg
  have hidx : Go.Proofs.Ytjlegibfeenglaa.XFind.idxF (diff_find.p s) l3 = diff_find.i l3 s := rfl
  have HI := Aside0.mk hidx
  clear hidx
  obtain ⟨o1, ho1⟩ : ∃ o, o = Obj.cells #[Value.string a0, Value.slice A1 n1 c1, Value.slice A2 n2 c2, Value.slice A3 l3.length c3] 59 := ⟨_, rfl⟩
  obtain ⟨o2, ho2⟩ : ∃ o, o = Obj.cells #[Value.string s] 9 := ⟨_, rfl⟩
  obtain ⟨o3, ho3⟩ : ∃ o, o = Obj.cells #[Value.string { data := #[] }, Value.int IntKind.i64 0, Value.int IntKind.i64 0, Value.slice none 0 0, Value.slice none 0 0, Value.slice none 0 0] 99 := ⟨_, rfl⟩
  have hB1 : Below w.heap.size w (w.alloc o1) := (Below.refl w.heap.size w).alloc (Nat.le_refl _) o1
  have hB2 : Below w.heap.size w ((w.alloc o1).alloc o2) := hB1.alloc hB1.size o2
  have hB3 : Below w.heap.size w (((w.alloc o1).alloc o2).alloc o3) := hB2.alloc hB2.size o3
  have f3 : (((w.alloc o1).alloc o2).alloc o3).cell? ⟨w.heap.size, 3, none⟩ = some (.slice A3 l3.length c3) := by
    have h1 : (w.alloc o1).cell? ⟨w.heap.size, 3, none⟩ = some (.slice A3 l3.length c3) := by rw [blk_cell (by rw [ho1]; exact blk_new w _)]; rfl
    exact (World.cell?_alloc_some _ _ _ (by rw [World.cell?_alloc_some _ _ _ (by rw [h1]; rfl), h1]; rfl)).trans ((World.cell?_alloc_some _ _ _ (by rw [h1]; rfl)).trans h1)
  have f2 : (((w.alloc o1).alloc o2).alloc o3).cell? ⟨w.heap.size + 1, 0, none⟩ = some (.string s) := by
    have h1 : ((w.alloc o1).alloc o2).cell? ⟨w.heap.size + 1, 0, none⟩ = some (.string s) := by
      have := blk_new (w.alloc o1) o2
      rw [World.size_alloc, ho2] at this
      rw [← ho2] at this
      rw [blk_cell (by rw [ho2] at this; rw [ho2]; exact this)]; rfl
    exact (World.cell?_alloc_some _ _ _ (by rw [h1]; rfl)).trans h1
  have f4 : (((w.alloc o1).alloc o2).alloc o3).heap[w.heap.size + 1 + 1]? = some o3 := by
    have := blk_new ((w.alloc o1).alloc o2) o3
    rw [World.size_alloc, World.size_alloc] at this
    exact this
  have h4 : w.heap.size + 1 + 1 < (((w.alloc o1).alloc o2).alloc o3).heap.size := by rw [World.size_alloc, World.size_alloc, World.size_alloc]; omega
  have HF3 := Aside0.mk (HF.out _ hB3 _ f2)
  have F3 := Aside0.mk f3
  have F4 := Aside0.mk f4
  have H4 := Aside0.mk h4
  have HB3 := Aside0.mk hB3
  clear f2 f3 f4 h4 hB1 hB2 hB3 HF
  rw [ho1, ho2, ho3] at HF3 F3 F4 H4 HB3
  clear ho1 ho2 ho3 o1 o2 o3
  go_enter Try.func68, Try.ntmps68
  go_wp2_with fail
  refine HF3.out.mono ?_
  rintro e w' ⟨rfl, hb⟩
  have hc := pw_cell_below hb F3.out
  have h4 := (hb.block _ H4.out).trans F4.out
  have hB := below_then HB3.out HB3.out.size hb
  rw [HI.out]
  have HB := Aside0.mk hB
  have HC4 := Aside0.mk h4
  clear HF3 F3 F4 H4 HB3 hb hB
  generalize hi : diff_find.i l3 s = i at *
  have HII := Aside0.mk hi
  clear hi
  by_cases h0 : i < 0
  · have d0 : decide (i < 0) = true := decide_eq_true h0
    have d1 : decide (0 ≤ i) = false := decide_eq_false (by omega)
    have HX := Aside0.mk (show diff_find.x l3 s = z99 from by unfold diff_find.x; rw [if_neg (by rw [HII.out]; omega)])
    clear h0
    have NB0 := HC4.out
    have q0 := (blk_cell NB0 0).trans (show _ = some _ from rfl)
    have p0 := blk_frozen NB0 0
    have NB1 := blk_set NB0 0 (Value.string { data := #[] })
    have q1 := (blk_cell NB1 1).trans (show _ = some _ from rfl)
    have p1 := blk_frozen NB1 1
    have NB2 := blk_set NB1 1 (Value.int IntKind.i64 0)
    have q2 := (blk_cell NB2 2).trans (show _ = some _ from rfl)
    have p2 := blk_frozen NB2 2
    have NB3 := blk_set NB2 2 (Value.int IntKind.i64 0)
    have q3 := (blk_cell NB3 3).trans (show _ = some _ from rfl)
    have p3 := blk_frozen NB3 3
    have NB4 := blk_set NB3 3 (Value.slice none 0 0)
    have q4 := (blk_cell NB4 4).trans (show _ = some _ from rfl)
    have p4 := blk_frozen NB4 4
    have NB5 := blk_set NB4 4 (Value.slice none 0 0)
    have q5 := (blk_cell NB5 5).trans (show _ = some _ from rfl)
    have p5 := blk_frozen NB5 5
    have NB6 := blk_set NB5 5 (Value.slice none 0 0)
    have HBZ := Aside0.mk (below_set (j := 5) (v := Value.slice none 0 0) (below_set (j := 4) (v := Value.slice none 0 0) (below_set (j := 3) (v := Value.slice none 0 0) (below_set (j := 2) (v := Value.int IntKind.i64 0) (below_set (j := 1) (v := Value.int IntKind.i64 0) (below_set (j := 0) (v := Value.string { data := #[] }) HB.out (show w.heap.size ≤ w.heap.size + 1 + 1 by omega)) (show w.heap.size ≤ w.heap.size + 1 + 1 by omega)) (show w.heap.size ≤ w.heap.size + 1 + 1 by omega)) (show w.heap.size ≤ w.heap.size + 1 + 1 by omega)) (show w.heap.size ≤ w.heap.size + 1 + 1 by omega)) (show w.heap.size ≤ w.heap.size + 1 + 1 by omega))
    have HB6 := Aside0.mk NB6
    clear NB0 NB1 NB2 NB3 NB4 NB5 NB6
    go_wp2_with fail
    have r0 := (blk_cell HB6.out 0).trans (show _ = some (Value.string { data := #[] }) from rfl)
    have r1 := (blk_cell HB6.out 1).trans (show _ = some (Value.int IntKind.i64 0) from rfl)
    have r2 := (blk_cell HB6.out 2).trans (show _ = some (Value.int IntKind.i64 0) from rfl)
    have r3 := (blk_cell HB6.out 3).trans (show _ = some (Value.slice none 0 0) from rfl)
    have r4 := (blk_cell HB6.out 4).trans (show _ = some (Value.slice none 0 0) from rfl)
    have r5 := (blk_cell HB6.out 5).trans (show _ = some (Value.slice none 0 0) from rfl)
    clear HB6 q0 q1 q2 q3 q4 q5 p0 p1 p2 p3 p4 p5
    generalize ((((((w'.setCell { block := w.heap.size + 1 + 1, off := 0 } (Value.string { data := #[] })).setCell { block := w.heap.size + 1 + 1, off := 1 } (Value.int IntKind.i64 0)).setCell { block := w.heap.size + 1 + 1, off := 2 } (Value.int IntKind.i64 0)).setCell { block := w.heap.size + 1 + 1, off := 3 } (Value.slice none 0 0)).setCell { block := w.heap.size + 1 + 1, off := 4 } (Value.slice none 0 0)).setCell { block := w.heap.size + 1 + 1, off := 5 } (Value.slice none 0 0)) = W6 at *
    refine ⟨rfl, .tuple #[.agg #[Value.string { data := #[] }, Value.int IntKind.i64 0, Value.int IntKind.i64 0, Value.slice none 0 0, Value.slice none 0 0, Value.slice none 0 0], .bool false], ?_, ?_⟩
    · rw [results_cell_tmp (p := 4) (u := 5) (ty := 99) rfl]
      go_simp
      all_goals first | rfl | simp [r0, r1, r2, r3, r4, r5]
    · rw [HX.out]
      exact ⟨none, 0, none, 0, none, 0, by rw [HII.out, d1]; rfl, Nat.le_refl _, Kd.F_nil _ _ _, Nat.le_refl _, Kd.F_nil _ _ _, Nat.le_refl _, Kd.F_nil _ _ _, HBZ.out⟩
  · have hi0 : 0 ≤ i := by omega
    have hil : i < (l3.length : Int) := by rw [← HII.out]; exact diff_find.lt l3 s
    obtain ⟨n, rfl⟩ : ∃ n : Nat, i = (n : Int) := ⟨i.toNat, by omega⟩
    have hlt : n < l3.length := by omega
    have hlt' : decide ((n : Int) < (l3.length : Int)) = true := decide_eq_true hil
    have d0 : decide ((n : Int) < 0) = false := decide_eq_false h0
    have d1 : decide (0 ≤ (n : Int)) = true := decide_eq_true hi0
    obtain ⟨ad, B3, d3, B4, d4, B5, d5, e1, hx0, hx1, hx2, hx3, hx4, hx5, hl3, hg3, hl4, hg4, hl5, hg5⟩ := diff_find.elem HFF.out (n : Int) hi0 hil
    subst e1
    rw [Int.toNat_natCast] at hx0 hx1 hx2 hx3 hx4 hx5
    have hy0 : rd_T99 l3 (n : Int) = diff_find.x l3 s := by unfold rd_T99 diff_find.x; rw [HII.out, if_pos hi0]
    rw [hy0] at hx0 hx1 hx2 hx3 hx4 hx5 hl3 hg3 hl4 hg4 hl5 hg5
    have HK := Aside0.mk (And.intro hl3 (And.intro hg3 (And.intro hl4 (And.intro hg4 (And.intro hl5 hg5)))))
    generalize hxe : diff_find.x l3 s = x at *
    have HXE := Aside0.mk hxe
    clear hxe
    replace hx0 := pw_cell_below HB.out hx0
    replace hx1 := pw_cell_below HB.out hx1
    replace hx2 := pw_cell_below HB.out hx2
    replace hx3 := pw_cell_below HB.out hx3
    replace hx4 := pw_cell_below HB.out hx4
    replace hx5 := pw_cell_below HB.out hx5
    clear h0 hi0 hil hy0 hl3 hg3 hl4 hg4 hl5 hg5
    have NB0 := HC4.out
    have q0 := (blk_cell NB0 0).trans (show _ = some _ from rfl)
    have p0 := blk_frozen NB0 0
    have NB1 := blk_set NB0 0 (Value.string x.f0)
    have q1 := (blk_cell NB1 1).trans (show _ = some _ from rfl)
    have p1 := blk_frozen NB1 1
    have NB2 := blk_set NB1 1 (Value.int IntKind.i64 x.f1)
    have q2 := (blk_cell NB2 2).trans (show _ = some _ from rfl)
    have p2 := blk_frozen NB2 2
    have NB3 := blk_set NB2 2 (Value.int IntKind.i64 x.f2)
    have q3 := (blk_cell NB3 3).trans (show _ = some _ from rfl)
    have p3 := blk_frozen NB3 3
    have NB4 := blk_set NB3 3 (Value.slice B3 x.f3.length d3)
    have q4 := (blk_cell NB4 4).trans (show _ = some _ from rfl)
    have p4 := blk_frozen NB4 4
    have NB5 := blk_set NB4 4 (Value.slice B4 x.f4.length d4)
    have q5 := (blk_cell NB5 5).trans (show _ = some _ from rfl)
    have p5 := blk_frozen NB5 5
    have NB6 := blk_set NB5 5 (Value.slice B5 x.f5.length d5)
    have HBZ := Aside0.mk (below_set (j := 5) (v := Value.slice B5 x.f5.length d5) (below_set (j := 4) (v := Value.slice B4 x.f4.length d4) (below_set (j := 3) (v := Value.slice B3 x.f3.length d3) (below_set (j := 2) (v := Value.int IntKind.i64 x.f2) (below_set (j := 1) (v := Value.int IntKind.i64 x.f1) (below_set (j := 0) (v := Value.string x.f0) HB.out (show w.heap.size ≤ w.heap.size + 1 + 1 by omega)) (show w.heap.size ≤ w.heap.size + 1 + 1 by omega)) (show w.heap.size ≤ w.heap.size + 1 + 1 by omega)) (show w.heap.size ≤ w.heap.size + 1 + 1 by omega)) (show w.heap.size ≤ w.heap.size + 1 + 1 by omega)) (show w.heap.size ≤ w.heap.size + 1 + 1 by omega))
    have HB6 := Aside0.mk NB6
    clear NB0 NB1 NB2 NB3 NB4 NB5 NB6
    go_wp2_with fail
    have r0 := (blk_cell HB6.out 0).trans (show _ = some (Value.string x.f0) from rfl)
    have r1 := (blk_cell HB6.out 1).trans (show _ = some (Value.int IntKind.i64 x.f1) from rfl)
    have r2 := (blk_cell HB6.out 2).trans (show _ = some (Value.int IntKind.i64 x.f2) from rfl)
    have r3 := (blk_cell HB6.out 3).trans (show _ = some (Value.slice B3 x.f3.length d3) from rfl)
    have r4 := (blk_cell HB6.out 4).trans (show _ = some (Value.slice B4 x.f4.length d4) from rfl)
    have r5 := (blk_cell HB6.out 5).trans (show _ = some (Value.slice B5 x.f5.length d5) from rfl)
    clear HB6 q0 q1 q2 q3 q4 q5 p0 p1 p2 p3 p4 p5
    generalize ((((((w'.setCell { block := w.heap.size + 1 + 1, off := 0 } (Value.string x.f0)).setCell { block := w.heap.size + 1 + 1, off := 1 } (Value.int IntKind.i64 x.f1)).setCell { block := w.heap.size + 1 + 1, off := 2 } (Value.int IntKind.i64 x.f2)).setCell { block := w.heap.size + 1 + 1, off := 3 } (Value.slice B3 x.f3.length d3)).setCell { block := w.heap.size + 1 + 1, off := 4 } (Value.slice B4 x.f4.length d4)).setCell { block := w.heap.size + 1 + 1, off := 5 } (Value.slice B5 x.f5.length d5)) = W6 at *
    refine ⟨rfl, .tuple #[.agg #[Value.string x.f0, Value.int IntKind.i64 x.f1, Value.int IntKind.i64 x.f2, Value.slice B3 x.f3.length d3, Value.slice B4 x.f4.length d4, Value.slice B5 x.f5.length d5], .bool true], ?_, ?_⟩
    · rw [results_cell_tmp (p := 4) (u := 5) (ty := 99) rfl]
      go_simp
      all_goals first | rfl | simp [r0, r1, r2, r3, r4, r5]
    · rw [HXE.out]
      exact ⟨B3, d3, B4, d4, B5, d5, by first | (rw [HII.out, d1]; done) | (rw [HII.out, d1]; rfl), HK.out.1, Kd.F_below HK.out.2.1 HBZ.out, HK.out.2.2.1, Kd.F_below HK.out.2.2.2.1 HBZ.out, HK.out.2.2.2.2.1, Kd.F_below HK.out.2.2.2.2.2 HBZ.out, HBZ.out⟩
def diff_find.f (_ : ByteArray) (_ : List ByteArray) (_ : List (S95)) (l3 : List (S99)) (s : ByteArray) : Option (ByteArray × Int × Int × List (S130) × List (S130) × List (S102) × Bool) :=
  some ((diff_find.x l3 s).f0, (diff_find.x l3 s).f1, (diff_find.x l3 s).f2, (diff_find.x l3 s).f3, (diff_find.x l3 s).f4, (diff_find.x l3 s).f5, decide (0 ≤ diff_find.i l3 s))
theorem diff_find.calls (a0 : ByteArray) (A1 : Option Addr) (c1 : Nat) (l1 : List ByteArray) (A2 : Option Addr) (c2 : Nat) (l2 : List (S95)) (ok : Nat → Prop) (A3 : Option Addr) (c3 : Nat) (l3 : List (S99)) (s : ByteArray) (r0 : ByteArray) (r1 r2 : Int) (r3 r4 : List (S130)) (r5 : List (S102)) (r6 : Bool) (w : World)
    (_ : Kd.C Kd.string w A1 l1.length l1) (_ : l1.length ≤ c1) (_ : Kd.C k95 w A2 l2.length l2) (_ : l2.length ≤ c2) (hv3 : Kd.V k99 99 w w.heap.size ok (.slice A3 l3.length c3) l3)
    (h : diff_find.f a0 l1 l2 l3 s = some (r0, r1, r2, r3, r4, r5, r6)) :
    Calls Try.prog 68 #[.agg #[.string a0, .slice A1 l1.length c1, .slice A2 l2.length c2, .slice A3 l3.length c3], .string s] w fun e w' => ∃ v3 v4 v5 : Value,
      e = .returned (.tuple #[.agg #[.string r0, .int .i64 r1, .int .i64 r2, v3, v4, v5], .bool r6]) ∧ Kd.V k130 130 w' w.heap.size (fun k_ => ok k_ ∨ w.heap.size ≤ k_) v3 r3 ∧ Kd.V k130 130 w' w.heap.size (fun k_ => ok k_ ∨ w.heap.size ≤ k_) v4 r4 ∧ Kd.V k102 102 w' w.heap.size (fun k_ => ok k_ ∨ w.heap.size ≤ k_) v5 r5 ∧ Below w.heap.size w w' := by
  have hx := Option.some.inj h
  simp only [Prod.mk.injEq] at hx
  obtain ⟨rfl, rfl, rfl, rfl, rfl, rfl, rfl⟩ := hx
  refine (diff_find.calls0 ok a0 A1 l1.length c1 A2 l2.length c2 A3 c3 l3 s w (Kd.V_F hv3)).mono ?_
  rintro e w' ⟨B3, d3, B4, d4, B5, d5, rfl, h3, g3, h4, g4, h5, g5, hB⟩
  exact ⟨_, _, _, rfl, Kd.V_mk h3 (Kd.F_mono g3 fun _ hk => Or.inl hk), Kd.V_mk h4 (Kd.F_mono g4 fun _ hk => Or.inl hk), Kd.V_mk h5 (Kd.F_mono g5 fun _ hk => Or.inl hk), hB⟩


/-! ### diff_above: function 97 -/
def diff_above.f (a0_0 : ByteArray) (l0_1 : List ByteArray) (l0_2 : List (S95)) (l0_3 : List (S99)) (a1_0 : ByteArray) (a1_1 : Int) (a1_2 : Int) (l1_3 : List (S130)) (l1_4 : List (S130)) (l1_5 : List (S102)) : Option (ByteArray) := if a1_2 < 0 then (some (⟨#[]⟩ : ByteArray)) else (if a1_2 ≥ (l0_3.length : Int) then (some (⟨#[]⟩ : ByteArray)) else (if 0 ≤ a1_2 then (if a1_2 < (l0_3.length : Int) then (some ((rd_T99 l0_3 a1_2).f0)) else (none)) else (none)))
theorem hc8_ {w W : World} {a : Addr} {v : Value} (hb : Below w.heap.size w W) (h : w.cell? a = some v) : W.cell? a = some v := (hb.cell (World.block_lt_of_cell? w _ h)).trans h
theorem bz8_ {W W2 w : World} (_ : Below W.heap.size W W2) (h : Below w.heap.size w W) : Below w.heap.size w W := h
set_option maxHeartbeats 8000000 in
set_option maxRecDepth 100000 in
theorem diff_above.calls (a0_0 : ByteArray) (A0_1 : Option Addr) (c0_1 : Nat) (l0_1 : List ByteArray) (A0_2 : Option Addr) (c0_2 : Nat) (l0_2 : List (S95)) (A0_3 : Option Addr) (c0_3 : Nat) (l0_3 : List (S99)) (a1_0 : ByteArray) (a1_1 : Int) (a1_2 : Int) (A1_3 : Option Addr) (c1_3 : Nat) (l1_3 : List (S130)) (A1_4 : Option Addr) (c1_4 : Nat) (l1_4 : List (S130)) (A1_5 : Option Addr) (c1_5 : Nat) (l1_5 : List (S102)) (r : ByteArray) (w : World) (hr0_1 : Kd.C Kd.string w A0_1 l0_1.length l0_1) (hc0_1 : l0_1.length ≤ c0_1) (hr0_2 : Kd.C k95 w A0_2 l0_2.length l0_2) (hc0_2 : l0_2.length ≤ c0_2) (hr0_3 : Kd.C k99 w A0_3 l0_3.length l0_3) (hc0_3 : l0_3.length ≤ c0_3) (hr1_3 : Kd.C k130 w A1_3 l1_3.length l1_3) (hc1_3 : l1_3.length ≤ c1_3) (hr1_4 : Kd.C k130 w A1_4 l1_4.length l1_4) (hc1_4 : l1_4.length ≤ c1_4) (hr1_5 : Kd.C k102 w A1_5 l1_5.length l1_5) (hc1_5 : l1_5.length ≤ c1_5) (h : diff_above.f a0_0 l0_1 l0_2 l0_3 a1_0 a1_1 a1_2 l1_3 l1_4 l1_5 = some r) :
  Calls Try.prog 97 #[.agg #[.string a0_0, .slice A0_1 l0_1.length c0_1, .slice A0_2 l0_2.length c0_2, .slice A0_3 l0_3.length c0_3], .agg #[.string a1_0, .int .i64 a1_1, .int .i64 a1_2, .slice A1_3 l1_3.length c1_3, .slice A1_4 l1_4.length c1_4, .slice A1_5 l1_5.length c1_5]] w fun e w' => e = .returned (.string r) ∧ Below w.heap.size w w' := by
 have hu59 := Try.underlying59
 have hu99 := Try.underlying99
 have HR0_1 := Aside0.mk hr0_1
 have HC0_1 := Aside0.mk hc0_1
 clear hr0_1 hc0_1
 have HR0_2 := Aside0.mk hr0_2
 have HC0_2 := Aside0.mk hc0_2
 clear hr0_2 hc0_2
 have HR0_3 := Aside0.mk hr0_3
 have HC0_3 := Aside0.mk hc0_3
 clear hr0_3 hc0_3
 have HR1_3 := Aside0.mk hr1_3
 have HC1_3 := Aside0.mk hc1_3
 clear hr1_3 hc1_3
 have HR1_4 := Aside0.mk hr1_4
 have HC1_4 := Aside0.mk hc1_4
 clear hr1_4 hc1_4
 have HR1_5 := Aside0.mk hr1_5
 have HC1_5 := Aside0.mk hc1_5
 clear hr1_5 hc1_5
 have HB := Aside0.mk (Below.refl w.heap.size w)
 have H : (if a1_2 < 0 then (some (⟨#[]⟩ : ByteArray)) else (if a1_2 ≥ (l0_3.length : Int) then (some (⟨#[]⟩ : ByteArray)) else (if 0 ≤ a1_2 then (if a1_2 < (l0_3.length : Int) then (some ((rd_T99 l0_3 a1_2).f0)) else (none)) else (none)))) = some r := h
 clear h
 by_cases c3 : a1_2 < 0
 ·rw [if_pos c3] at H
  have c3b0 : decide (a1_2 < 0) = true := decide_eq_true c3
  clear c3
  obtain rfl := Option.some.inj H
  go_enter Try.func97, Try.ntmps97
  go_wp2_with (first | ((with_reducible refine gate_dst (N := 2) rfl ?_); (try (refine gate_guard (by rfl) ?_; dsimp only)); refine box_event ?hg (N := 2) ?hd (cs := #[.string a0_0, .slice A0_1 l0_1.length c0_1, .slice A0_2 l0_2.length c0_2, .slice A0_3 l0_3.length c0_3]) (t := 59) ?hr ?_; (case hd => rfl); (case hg => rfl); (case hr => first | (go_simp; done) | (go_simp; rfl)); intro gb140 hg w4 hbox hb; have hB_ := bz8_ hb (brw HB.out); have n0_ := Aside0.mk (below_step hB_ hb); have n1_ := Aside0.mk (hbox); have n2_ := Aside0.mk ((by rw [hg]; exact (below_size hB_) : w.heap.size ≤ gb140)); have n3_ := Aside0.mk ((by rw [hg]; exact (below_size hB_) : w.heap.size ≤ gb140)); clear HB; have HB := n0_; have BK140 := n1_; have GW140 := n2_; have GE140 := n3_; clear n0_ n1_ n2_ n3_; clear hb hbox hg) | ((with_reducible refine gate_dst (N := 3) rfl ?_); (try (refine gate_guard (by rfl) ?_; dsimp only)); refine box_event ?hg (N := 3) ?hd (cs := #[.string a1_0, .int .i64 a1_1, .int .i64 a1_2, .slice A1_3 l1_3.length c1_3, .slice A1_4 l1_4.length c1_4, .slice A1_5 l1_5.length c1_5]) (t := 99) ?hr ?_; (case hd => rfl); (case hg => rfl); (case hr => first | (go_simp; done) | (go_simp; rfl)); intro gb141 hg w5 hbox hb; have hB_ := bz8_ hb (by repeat (first | (with_reducible first | exact HB.out | apply below_alloc | apply pw_below_drewN | apply below_drew1 | refine below_set ?_ GE140.out) | exact HB.out)); have n0_ := Aside0.mk (blk_below (grw BK140.out) hb); have n1_ := Aside0.mk (below_step hB_ hb); have n2_ := Aside0.mk (hbox); have n3_ := Aside0.mk ((by rw [hg]; exact (below_size hB_) : w.heap.size ≤ gb141)); have n4_ := Aside0.mk ((by rw [hg]; exact (below_size hB_) : w.heap.size ≤ gb141)); have n5_ := Aside0.mk ((by rw [hg]; exact Nat.ne_of_lt (blk_lt (grw BK140.out)) : gb140 ≠ gb141)); have n6_ := Aside0.mk ((by rw [hg]; exact Nat.ne_of_gt (blk_lt (grw BK140.out)) : gb141 ≠ gb140)); clear BK140; clear HB; have BK140 := n0_; have HB := n1_; have BK141 := n2_; have GW141 := n3_; have GE141 := n4_; have NB140_141 := n5_; have NB141_140 := n6_; clear n0_ n1_ n2_ n3_ n4_ n5_ n6_; clear hb hbox hg; have hnb6 := NB141_140.out; have hnc6 := NB140_141.out; obtain ⟨hcz7_0, hcz7_1, hcz7_2, hcz7_3, hcz7_4, hcz7_5⟩ := cz6_ BK141.out; obtain ⟨hfz7_0, hfz7_1, hfz7_2, hfz7_3, hfz7_4, hfz7_5⟩ := cf6_ BK141.out))
  go_ret
  exact ⟨by first | rfl | (simp [errW_none, errW_some] <;> rfl) | (simp [*, errW_none, errW_some] <;> rfl), by repeat (first | (with_reducible first | exact HB.out | apply below_alloc | apply pw_below_drewN | apply below_drew1 | refine below_set ?_ GE140.out | refine below_set ?_ GE141.out) | exact HB.out)⟩
 rw [if_neg c3] at H
 have c3b0 : decide (a1_2 < 0) = false := decide_eq_false c3
 clear c3
 by_cases c8 : a1_2 ≥ (l0_3.length : Int)
 ·rw [if_pos c8] at H
  have c8b0 : decide ((l0_3.length : Int) ≤ a1_2) = true := decide_eq_true c8
  clear c8
  obtain rfl := Option.some.inj H
  go_enter Try.func97, Try.ntmps97
  go_wp2_with (first | ((with_reducible refine gate_dst (N := 2) rfl ?_); (try (refine gate_guard (by rfl) ?_; dsimp only)); refine box_event ?hg (N := 2) ?hd (cs := #[.string a0_0, .slice A0_1 l0_1.length c0_1, .slice A0_2 l0_2.length c0_2, .slice A0_3 l0_3.length c0_3]) (t := 59) ?hr ?_; (case hd => rfl); (case hg => rfl); (case hr => first | (go_simp; done) | (go_simp; rfl)); intro gb140 hg w9 hbox hb; have hB_ := bz8_ hb (brw HB.out); have n0_ := Aside0.mk (below_step hB_ hb); have n1_ := Aside0.mk (hbox); have n2_ := Aside0.mk ((by rw [hg]; exact (below_size hB_) : w.heap.size ≤ gb140)); have n3_ := Aside0.mk ((by rw [hg]; exact (below_size hB_) : w.heap.size ≤ gb140)); clear HB; have HB := n0_; have BK140 := n1_; have GW140 := n2_; have GE140 := n3_; clear n0_ n1_ n2_ n3_; clear hb hbox hg) | ((with_reducible refine gate_dst (N := 3) rfl ?_); (try (refine gate_guard (by rfl) ?_; dsimp only)); refine box_event ?hg (N := 3) ?hd (cs := #[.string a1_0, .int .i64 a1_1, .int .i64 a1_2, .slice A1_3 l1_3.length c1_3, .slice A1_4 l1_4.length c1_4, .slice A1_5 l1_5.length c1_5]) (t := 99) ?hr ?_; (case hd => rfl); (case hg => rfl); (case hr => first | (go_simp; done) | (go_simp; rfl)); intro gb141 hg w10 hbox hb; have hB_ := bz8_ hb (by repeat (first | (with_reducible first | exact HB.out | apply below_alloc | apply pw_below_drewN | apply below_drew1 | refine below_set ?_ GE140.out) | exact HB.out)); have n0_ := Aside0.mk (blk_below (grw BK140.out) hb); have n1_ := Aside0.mk (below_step hB_ hb); have n2_ := Aside0.mk (hbox); have n3_ := Aside0.mk ((by rw [hg]; exact (below_size hB_) : w.heap.size ≤ gb141)); have n4_ := Aside0.mk ((by rw [hg]; exact (below_size hB_) : w.heap.size ≤ gb141)); have n5_ := Aside0.mk ((by rw [hg]; exact Nat.ne_of_lt (blk_lt (grw BK140.out)) : gb140 ≠ gb141)); have n6_ := Aside0.mk ((by rw [hg]; exact Nat.ne_of_gt (blk_lt (grw BK140.out)) : gb141 ≠ gb140)); clear BK140; clear HB; have BK140 := n0_; have HB := n1_; have BK141 := n2_; have GW141 := n3_; have GE141 := n4_; have NB140_141 := n5_; have NB141_140 := n6_; clear n0_ n1_ n2_ n3_ n4_ n5_ n6_; clear hb hbox hg; have hnb11 := NB141_140.out; have hnc11 := NB140_141.out; obtain ⟨hcz12_0, hcz12_1, hcz12_2, hcz12_3, hcz12_4, hcz12_5⟩ := cz6_ BK141.out; obtain ⟨hfz12_0, hfz12_1, hfz12_2, hfz12_3, hfz12_4, hfz12_5⟩ := cf6_ BK141.out; obtain ⟨hcz13_0, hcz13_1, hcz13_2, hcz13_3⟩ := cz4_ BK140.out; obtain ⟨hfz13_0, hfz13_1, hfz13_2, hfz13_3⟩ := cf4_ BK140.out))
  go_ret
  exact ⟨by first | rfl | (simp [errW_none, errW_some] <;> rfl) | (simp [*, errW_none, errW_some] <;> rfl), by repeat (first | (with_reducible first | exact HB.out | apply below_alloc | apply pw_below_drewN | apply below_drew1 | refine below_set ?_ GE140.out | refine below_set ?_ GE141.out) | exact HB.out)⟩
 rw [if_neg c8] at H
 have c8b0 : decide ((l0_3.length : Int) ≤ a1_2) = false := decide_eq_false c8
 clear c8
 by_cases c14 : 0 ≤ a1_2
 rotate_left
 ·rw [if_neg c14] at H
  exact absurd H (by simp)

 rw [if_pos c14] at H
 have c14b0 : decide (0 ≤ a1_2) = true := decide_eq_true c14
 clear c14
 by_cases c15 : a1_2 < (l0_3.length : Int)
 rotate_left
 ·rw [if_neg c15] at H
  exact absurd H (by simp)
 rw [if_pos c15] at H
 have c15b0 : decide (a1_2 < (l0_3.length : Int)) = true := decide_eq_true c15
 clear c15
 obtain rfl := Option.some.inj H
 go_enter Try.func97, Try.ntmps97
 go_wp2_with (first | ((with_reducible refine gate_dst (N := 2) rfl ?_); (try (refine gate_guard (by rfl) ?_; dsimp only)); refine box_event ?hg (N := 2) ?hd (cs := #[.string a0_0, .slice A0_1 l0_1.length c0_1, .slice A0_2 l0_2.length c0_2, .slice A0_3 l0_3.length c0_3]) (t := 59) ?hr ?_; (case hd => rfl); (case hg => rfl); (case hr => first | (go_simp; done) | (go_simp; rfl)); intro gb140 hg w16 hbox hb; have hB_ := bz8_ hb (brw HB.out); have n0_ := Aside0.mk (below_step hB_ hb); have n1_ := Aside0.mk (hbox); have n2_ := Aside0.mk ((by rw [hg]; exact (below_size hB_) : w.heap.size ≤ gb140)); have n3_ := Aside0.mk ((by rw [hg]; exact (below_size hB_) : w.heap.size ≤ gb140)); clear HB; have HB := n0_; have BK140 := n1_; have GW140 := n2_; have GE140 := n3_; clear n0_ n1_ n2_ n3_; clear hb hbox hg) | ((with_reducible refine gate_dst (N := 3) rfl ?_); (try (refine gate_guard (by rfl) ?_; dsimp only)); refine box_event ?hg (N := 3) ?hd (cs := #[.string a1_0, .int .i64 a1_1, .int .i64 a1_2, .slice A1_3 l1_3.length c1_3, .slice A1_4 l1_4.length c1_4, .slice A1_5 l1_5.length c1_5]) (t := 99) ?hr ?_; (case hd => rfl); (case hg => rfl); (case hr => first | (go_simp; done) | (go_simp; rfl)); intro gb141 hg w17 hbox hb; have hB_ := bz8_ hb (by repeat (first | (with_reducible first | exact HB.out | apply below_alloc | apply pw_below_drewN | apply below_drew1 | refine below_set ?_ GE140.out) | exact HB.out)); have n0_ := Aside0.mk (blk_below (grw BK140.out) hb); have n1_ := Aside0.mk (below_step hB_ hb); have n2_ := Aside0.mk (hbox); have n3_ := Aside0.mk ((by rw [hg]; exact (below_size hB_) : w.heap.size ≤ gb141)); have n4_ := Aside0.mk ((by rw [hg]; exact (below_size hB_) : w.heap.size ≤ gb141)); have n5_ := Aside0.mk ((by rw [hg]; exact Nat.ne_of_lt (blk_lt (grw BK140.out)) : gb140 ≠ gb141)); have n6_ := Aside0.mk ((by rw [hg]; exact Nat.ne_of_gt (blk_lt (grw BK140.out)) : gb141 ≠ gb140)); clear BK140; clear HB; have BK140 := n0_; have HB := n1_; have BK141 := n2_; have GW141 := n3_; have GE141 := n4_; have NB140_141 := n5_; have NB141_140 := n6_; clear n0_ n1_ n2_ n3_ n4_ n5_ n6_; clear hb hbox hg; have hnb18 := NB141_140.out; have hnc18 := NB140_141.out; obtain ⟨hcz19_0, hcz19_1, hcz19_2, hcz19_3, hcz19_4, hcz19_5⟩ := cz6_ BK141.out; obtain ⟨hfz19_0, hfz19_1, hfz19_2, hfz19_3, hfz19_4, hfz19_5⟩ := cf6_ BK141.out; obtain ⟨hcz20_0, hcz20_1, hcz20_2, hcz20_3⟩ := cz4_ BK140.out; obtain ⟨hfz20_0, hfz20_1, hfz20_2, hfz20_3⟩ := cf4_ BK140.out; have p142 : 0 ≤ (a1_2 : Int) := of_decide_eq_true (by first | (with_reducible assumption) | assumption); have q142 : a1_2 < (l0_3.length : Int) := of_decide_eq_true (by first | (with_reducible assumption) | assumption); obtain ⟨ad142, A142_3, c142_3, A142_4, c142_4, A142_5, c142_5, e142, hx142_0, hx142_1, hx142_2, hx142_3, hx142_4, hx142_5, hl142_3, hi142_3, hl142_4, hi142_4, hl142_5, hi142_5⟩ := at_T99 HR0_3.out a1_2 p142 q142; cases e142; replace hx142_0 := hc8_ HB.out hx142_0; replace hx142_1 := hc8_ HB.out hx142_1; replace hx142_2 := hc8_ HB.out hx142_2; replace hx142_3 := hc8_ HB.out hx142_3; replace hx142_4 := hc8_ HB.out hx142_4; replace hx142_5 := hc8_ HB.out hx142_5; have HR142_3 := Aside0.mk hi142_3; have HC142_3 := Aside0.mk hl142_3; clear hi142_3 hl142_3; have HR142_4 := Aside0.mk hi142_4; have HC142_4 := Aside0.mk hl142_4; clear hi142_4 hl142_4; have HR142_5 := Aside0.mk hi142_5; have HC142_5 := Aside0.mk hl142_5; clear hi142_5 hl142_5; replace p142 := eq_true p142; replace q142 := eq_true q142))
 go_ret
 exact ⟨by first | rfl | (simp [errW_none, errW_some] <;> rfl) | (simp [*, errW_none, errW_some] <;> rfl), by repeat (first | (with_reducible first | exact HB.out | apply below_alloc | apply pw_below_drewN | apply below_drew1 | refine below_set ?_ GE140.out | refine below_set ?_ GE141.out) | exact HB.out)⟩
/-! ### api_Term: function 113 -/
def api_Term.l0 : Nat → List (S117) → List (S117) → Int → Int → Option (Bool)
  | 0, _, _, _, _ => none
  | k + 1, x0, x1, x12, x13 => if x13 < x12 then (if 0 ≤ x13 then (if x13 < (x0.length : Int) then (if x13 < (x1.length : Int) then (if (!(((rd_T117 x0 x13).f0) == ((rd_T117 x1 x13).f0)) || (!(((rd_T117 x0 x13).f1) == ((rd_T117 x1 x13).f1)) || (!((((rd_T117 x0 x13).f2).toList) == (((rd_T117 x1 x13).f2).toList))))) = true then (some false) else (api_Term.l0 k x0 x1 x12 (wrap64 (x13 + 1)))) else (none)) else (none)) else (none)) else (some true)
def api_Term.f (k : Nat) (l0 : List (S117)) (l1 : List (S117)) : Option (Bool) := if (l0.length : Int) = (l1.length : Int) then (api_Term.l0 k l0 l1 (l0.length : Int) 0) else (some false)
theorem api_Term.mono_l : ∀ k, (∀ y0 y1 y2 y3, LeO (api_Term.l0 k y0 y1 y2 y3) (api_Term.l0 (k + 1) y0 y1 y2 y3))
  | 0 => fun _ _ _ _ r h => by simp [api_Term.l0] at h
  | k + 1 => by
    have ih0 := api_Term.mono_l k
    · intro y0 y1 y2 y3
      unfold api_Term.l0
      repeat' first
      | (with_reducible exact ih0 _ _ _ _)
      | (with_reducible exact LeO.refl _)
      | (with_reducible exact LeO.none _)
      | (with_reducible refine LeO.ite ?_ ?_)
      | (with_reducible refine LeO.bind ?_ (fun _ => ?_))
      | exact ih0 _ _ _ _
      | exact LeO.none _
      | refine LeO.ite ?_ ?_
      | refine LeO.bind ?_ (fun _ => ?_)
theorem api_Term.mono : ∀ a0 a1 k, LeO (api_Term.f k a0 a1) (api_Term.f (k + 1) a0 a1) := by
  intro a0 a1 k
  have ih0 := api_Term.mono_l k
  unfold api_Term.f
  repeat' first
      | (with_reducible exact ih0 _ _ _ _)
      | (with_reducible exact LeO.refl _)
      | (with_reducible exact LeO.none _)
      | (with_reducible refine LeO.ite ?_ ?_)
      | (with_reducible refine LeO.bind ?_ (fun _ => ?_))
      | exact ih0 _ _ _ _
      | exact LeO.none _
      | refine LeO.ite ?_ ?_
      | refine LeO.bind ?_ (fun _ => ?_)
set_option maxHeartbeats 8000000 in
set_option maxRecDepth 100000 in
theorem api_Term.calls (k : Nat) (A0 : Option Addr) (c0 : Nat) (l0 : List (S117)) (A1 : Option Addr) (c1 : Nat) (l1 : List (S117)) (r : Bool) (w : World) (hr0 : Kd.C k117 w A0 l0.length l0) (hc0 : l0.length ≤ c0) (hr1 : Kd.C k117 w A1 l1.length l1) (hc1 : l1.length ≤ c1) (h : api_Term.f k l0 l1 = some r) :
  Calls Try.prog 113 #[.slice A0 l0.length c0, .slice A1 l1.length c1] w fun e w' => e = .returned (.bool r) ∧ Drawn0 w w' := by
 have hu117 := Try.underlying117
 have HR0 := Aside0.mk hr0
 have HC0 := Aside0.mk hc0
 clear hr0 hc0
 have HR1 := Aside0.mk hr1
 have HC1 := Aside0.mk hc1
 clear hr1 hc1
 have H : (if (l0.length : Int) = (l1.length : Int) then (api_Term.l0 k l0 l1 (l0.length : Int) 0) else (some false)) = some r := h
 clear h
 by_cases c3 : (l0.length : Int) = (l1.length : Int)
 rotate_left
 ·rw [if_neg c3] at H
  have c3b0 : ((l0.length : Int) == (l1.length : Int)) = false := beq_eq_false_iff_ne.mpr c3
  have c3b1 : ((l0.length : Int) != (l1.length : Int)) = true := bne_iff_ne.mpr c3
  have c3b2 : (l0.length == l1.length) = false := by first | simpa using c3 | (simp at c3 ⊢; omega)
  obtain rfl := Option.some.inj H
  go_enter Try.func113, Try.ntmps113
  go_wp2
  repeat (go_quiet (fail); try go_wp2)
  go_ret
  exact ⟨by first | rfl | (simp; done) | (simp [*]; done), by repeat (first | exact Drawn0.refl _ | apply Drawn0.step)⟩

 rw [if_pos c3] at H
 have c3b0 : ((l0.length : Int) == (l1.length : Int)) = true := beq_iff_eq.mpr c3
 have c3b1 : ((l0.length : Int) != (l1.length : Int)) = false := bne_eq_false_iff_eq.mpr c3
 have c3b2 : (l0.length == l1.length) = true := by first | simpa using c3 | (simp at c3 ⊢; omega)
 clear c3
 have H' := Aside0.mk H
 clear H
 go_enter Try.func113, Try.ntmps113
 go_wp2
 repeat (go_quiet (fail); try go_wp2)
 go_loopg [13] k (fun kq v13 w' => ∃ (x13_1 : Int), v13 = .int .i64 x13_1 ∧ Aside0 (api_Term.l0 kq l0 l1 (l0.length : Int) x13_1 = some r) ∧ Aside0 (kq ≤ k) ∧ Drawn0 w w')
 case atStart => exact ⟨(0), (by first | rfl | (simp; done) | (simp [*]; done)), H', ⟨Nat.le_refl _⟩, by repeat (first | exact Drawn0.refl _ | apply Drawn0.step)⟩
 case round =>
  clear H'
  try clear c1
  try clear p2
  try clear c3
  try clear c3b0
  try clear c3b1
  try clear c3b2
  obtain ⟨x13_1, rfl, HA, HK1, ⟨m1, rfl⟩⟩ := hrel
  cases gk with
  | zero => exact absurd HA.out (by simp [api_Term.l0])
  | succ k1 =>
   have H := HA.out
   clear HA
   simp only [api_Term.l0] at H
   by_cases c4 : x13_1 < (l0.length : Int)
   rotate_left
   ·rw [if_neg c4] at H
    have c4b0 : decide (x13_1 < (l0.length : Int)) = false := decide_eq_false c4
    clear c4
    obtain rfl := Option.some.inj H
    go_wp2
    repeat (go_quiet (fail); try go_wp2)
    go_ret
    exact ⟨by first | rfl | (simp; done) | (simp [*]; done), by repeat (first | exact Drawn0.refl _ | apply Drawn0.step)⟩
   rw [if_pos c4] at H
   have c4b0 : decide (x13_1 < (l0.length : Int)) = true := decide_eq_true c4
   clear c4
   by_cases c5 : 0 ≤ x13_1
   rotate_left
   ·rw [if_neg c5] at H
    exact absurd H (by simp)
   rw [if_pos c5] at H
   have c5b0 : decide (0 ≤ x13_1) = true := decide_eq_true c5
   clear c5
   by_cases c6 : x13_1 < (l0.length : Int)
   rotate_left
   ·rw [if_neg c6] at H
    exact absurd H (by simp)
   rw [if_pos c6] at H
   have c6b0 : decide (x13_1 < (l0.length : Int)) = true := decide_eq_true c6
   clear c6
   by_cases c7 : x13_1 < (l1.length : Int)
   rotate_left
   ·rw [if_neg c7] at H
    exact absurd H (by simp)
   rw [if_pos c7] at H
   have c7b0 : decide (x13_1 < (l1.length : Int)) = true := decide_eq_true c7
   clear c7
   by_cases c8 : (!(((rd_T117 l0 x13_1).f0) == ((rd_T117 l1 x13_1).f0)) || (!(((rd_T117 l0 x13_1).f1) == ((rd_T117 l1 x13_1).f1)) || (!((((rd_T117 l0 x13_1).f2).toList) == (((rd_T117 l1 x13_1).f2).toList))))) = true
   ·rw [if_pos c8] at H
    have c8b0 : (!(((rd_T117 l0 x13_1).f0) == ((rd_T117 l1 x13_1).f0)) || (!(((rd_T117 l0 x13_1).f1) == ((rd_T117 l1 x13_1).f1)) || (!((((rd_T117 l0 x13_1).f2).toList) == (((rd_T117 l1 x13_1).f2).toList))))) = true := c8
    clear c8
    obtain rfl := Option.some.inj H
    have p143 : 0 ≤ (x13_1 : Int) := of_decide_eq_true (by first | (with_reducible assumption) | assumption)
    have q143 : x13_1 < (l0.length : Int) := of_decide_eq_true (by first | (with_reducible assumption) | assumption)
    obtain ⟨ad143, e143, hx143_0, hx143_1, hx143_2⟩ := at_T117 HR0.out x13_1 p143 q143
    cases e143
    replace p143 := eq_true p143
    replace q143 := eq_true q143
    have p144 : 0 ≤ (x13_1 : Int) := of_decide_eq_true (by first | (with_reducible assumption) | assumption)
    have q144 : x13_1 < (l1.length : Int) := of_decide_eq_true (by first | (with_reducible assumption) | assumption)
    obtain ⟨ad144, e144, hx144_0, hx144_1, hx144_2⟩ := at_T117 HR1.out x13_1 p144 q144
    cases e144
    replace p144 := eq_true p144
    replace q144 := eq_true q144
    go_wp2
    repeat (go_quiet (fail); try go_wp2)
    go_ret
    exact ⟨by first | rfl | (simp; done) | (simp [*]; done), by repeat (first | exact Drawn0.refl _ | apply Drawn0.step)⟩
   rw [if_neg c8] at H
   have c8b0 : (!(((rd_T117 l0 x13_1).f0) == ((rd_T117 l1 x13_1).f0)) || (!(((rd_T117 l0 x13_1).f1) == ((rd_T117 l1 x13_1).f1)) || (!((((rd_T117 l0 x13_1).f2).toList) == (((rd_T117 l1 x13_1).f2).toList))))) = false := by simpa using c8
   clear c8
   have H' := Aside0.mk H
   clear H
   have p143 : 0 ≤ (x13_1 : Int) := of_decide_eq_true (by first | (with_reducible assumption) | assumption)
   have q143 : x13_1 < (l0.length : Int) := of_decide_eq_true (by first | (with_reducible assumption) | assumption)
   obtain ⟨ad143, e143, hx143_0, hx143_1, hx143_2⟩ := at_T117 HR0.out x13_1 p143 q143
   cases e143
   replace p143 := eq_true p143
   replace q143 := eq_true q143
   have p144 : 0 ≤ (x13_1 : Int) := of_decide_eq_true (by first | (with_reducible assumption) | assumption)
   have q144 : x13_1 < (l1.length : Int) := of_decide_eq_true (by first | (with_reducible assumption) | assumption)
   obtain ⟨ad144, e144, hx144_0, hx144_1, hx144_2⟩ := at_T117 HR1.out x13_1 p144 q144
   cases e144
   replace p144 := eq_true p144
   replace q144 := eq_true q144
   go_wp2
   repeat (go_quiet (fail); try go_wp2)
   go_roundg k1
   case measure => have := HK1.out; omega
   case rel => exact ⟨(wrap64 (x13_1 + 1)), (by first | rfl | (simp; done) | (simp [*]; done)), H', ⟨by have := HK1.out; omega⟩, by repeat (first | exact Drawn0.refl _ | apply Drawn0.step)⟩
/-! ### api_Act: function 114 -/
def EqualFunc_Act.val (p : S130 → S130 → Bool) (l0 l1 : List (S130)) : Bool := decide (l0.length = l1.length) && (List.range l0.length).all fun j => p (l0.getD j z130) (l1.getD j z130)
theorem EqualFunc_Act.val_no (p : S130 → S130 → Bool) (l0 l1 : List (S130)) (n : Nat) (hn : n < l0.length) (h : p (l0.getD n z130) (l1.getD n z130) = false) : EqualFunc_Act.val p l0 l1 = false := by
  unfold EqualFunc_Act.val
  rw [Bool.and_eq_false_iff]
  right
  rw [List.all_eq_false]
  exact ⟨n, List.mem_range.2 hn, by rw [h]; simp⟩
theorem EqualFunc_Act.val_yes (p : S130 → S130 → Bool) (l0 l1 : List (S130)) (he : l0.length = l1.length) (h : ∀ j : Nat, j < l0.length → p (l0.getD j z130) (l1.getD j z130) = true) : EqualFunc_Act.val p l0 l1 = true := by
  unfold EqualFunc_Act.val
  rw [decide_eq_true he, Bool.true_and, List.all_eq_true]
  exact fun j hj => h j (List.mem_range.1 hj)
set_option maxHeartbeats 2000000 in
set_option maxRecDepth 100000 in
theorem EqualFunc_Act.calls (p : S130 → S130 → Bool) (g : Nat) (lb : Array Value) (eg : ∀ args w, (callFunc g args).run Try.prog w = .ok (.enter g args) w) (A0 : Option Addr) (c0 : Nat) (l0 : List (S130)) (A1 : Option Addr) (c1 : Nat) (l1 : List (S130)) (w : World) (hr0 : Kd.C k130 w A0 l0.length l0) (hr1 : Kd.C k130 w A1 l1.length l1)
    (hp : ∀ W, Below w.heap.size w W → ∀ (x y : S130), x ∈ l0 → y ∈ l1 → ∀ (A2 : Option Addr) (c2 : Nat) (B2 : Option Addr) (d2 : Nat), k130.K W x [.string x.f0, .bool x.f1, .slice A2 x.f2.length c2] → k130.K W y [.string y.f0, .bool y.f1, .slice B2 y.f2.length d2] → Calls Try.prog g (#[.agg #[.string x.f0, .bool x.f1, .slice A2 x.f2.length c2], .agg #[.string y.f0, .bool y.f1, .slice B2 y.f2.length d2]] ++ lb) W fun e w' => e = .returned (.bool (p x y)) ∧ Below w.heap.size w w') :
    Calls Try.prog 114 #[.slice A0 l0.length c0, .slice A1 l1.length c1, .func (.func g) #[] lb] w fun e w' => e = .returned (.bool (EqualFunc_Act.val p l0 l1)) ∧ Below w.heap.size w w' := by
  have hbig := hr0.2.1
  have hbig1 := hr1.2.1
  have HR := Aside0.mk hr0
  have HR1 := Aside0.mk hr1
  have HPF := Aside0.mk hp
  clear hr0 hr1 hp
  have hu := Try.underlying130
  by_cases hne : l0.length = l1.length
  rotate_left
  · have hv : EqualFunc_Act.val p l0 l1 = false := by unfold EqualFunc_Act.val; rw [decide_eq_false hne, Bool.false_and]
    have hd : ((l0.length : Int) != (l1.length : Int)) = true := by rw [bne_iff_ne]; omega
    have hd2 : (l0.length != l1.length) = true := by rw [bne_iff_ne]; omega
    have hd3 : ((l0.length : Int) == (l1.length : Int)) = false := by rw [beq_eq_false_iff_ne]; omega
    have hd4 : (l0.length == l1.length) = false := by rw [beq_eq_false_iff_ne]; omega
    rw [hv]
    have HN := Aside0.mk hne
    clear hv hne
    go_enter Try.func114, Try.ntmps114
    go_wp2
    go_ret
    exact ⟨rfl, Below.refl _ _⟩
  generalize hv : EqualFunc_Act.val p l0 l1 = v
  have HV := Aside0.mk hv
  have hd : ((l0.length : Int) != (l1.length : Int)) = false := by rw [hne]; simp
  have HNE := Aside0.mk hne
  rw [← hne]
  clear hv hne
  go_enter Try.func114, Try.ntmps114
  go_wp2
  go_loopg [17] l0.length (fun kq v17 wr => ∃ n : Nat, Aside0 (n ≤ l0.length) ∧ Aside0 (l0.length - n = kq) ∧ v17 = .int .i64 (n : Int) ∧ Aside0 (Below w.heap.size w wr) ∧ Aside0 (∀ j : Nat, j < n → p (l0.getD j z130) (l1.getD j z130) = true))
  case atStart => exact ⟨0, ⟨Nat.zero_le _⟩, ⟨by omega⟩, rfl, ⟨Below.refl _ _⟩, ⟨fun j hj => absurd hj (Nat.not_lt_zero _)⟩⟩
  case round =>
    obtain ⟨n, HN, HK, rfl, HB, HP⟩ := hrel
    by_cases hlt : n < l0.length
    · have hlt' : decide ((n : Int) < (l0.length : Int)) = true := decide_eq_true (by omega)
      have hlt1 : n < l1.length := by have := HNE.out; omega
      have hC := Kd.C_below HR.out HB.out
      have hC1 := Kd.C_below HR1.out HB.out
      obtain ⟨ad, A2, c2, e0, hx0, hx1, hx2, hl2, hg2⟩ := at_T130 hC (n : Int) (by omega) (by omega)
      obtain ⟨bd, B2, d2, e1, hy0, hy1, hy2, hm2, hh2⟩ := at_T130 hC1 (n : Int) (by omega) (by omega)
      subst e0
      subst e1
      rw [Int.toNat_natCast] at hx0 hx1 hx2 hy0 hy1 hy2
      have hz0 : rd_T130 l0 (n : Int) = l0.getD n z130 := by unfold rd_T130; rw [Int.toNat_natCast]
      have hz1 : rd_T130 l1 (n : Int) = l1.getD n z130 := by unfold rd_T130; rw [Int.toNat_natCast]
      rw [hz0] at hx0 hx1 hx2 hl2 hg2
      rw [hz1] at hy0 hy1 hy2 hm2 hh2
      have hmem : l0.getD n z130 ∈ l0 := by simp only [List.getD, List.getElem?_eq_getElem hlt, Option.getD_some]; exact List.getElem_mem hlt
      have hmem1 : l1.getD n z130 ∈ l1 := by simp only [List.getD, List.getElem?_eq_getElem hlt1, Option.getD_some]; exact List.getElem_mem hlt1
      have hcall := fun W' (hW : Below wr.heap.size wr W') => HPF.out W' (below_then HB.out HB.out.size hW) (l0.getD n z130) (l1.getD n z130) hmem hmem1 A2 c2 B2 d2 (k130.K_below hW (k130_mk _ _ hl2 hg2)) (k130.K_below hW (k130_mk _ _ hm2 hh2))
      generalize hx : l0.getD n z130 = x at *
      generalize hy : l1.getD n z130 = y at *
      have HX := Aside0.mk hx
      have HY := Aside0.mk hy
      have HC := Aside0.mk hcall
      clear hx hy hC hC1 hz0 hz1 hmem hmem1 hcall hl2 hg2 hm2 hh2
      have hw0 := fun o => (World.cell?_alloc_some wr _ o (by rw [hy0]; rfl)).trans hy0
      have hw1 := fun o => (World.cell?_alloc_some wr _ o (by rw [hy1]; rfl)).trans hy1
      have hw2 := fun o => (World.cell?_alloc_some wr _ o (by rw [hy2]; rfl)).trans hy2
      cases hq : p x y with
      | true =>
        rw [hq] at HC
        have HQ := Aside0.mk hq
        clear hq
        go_wp2_with fail
        refine (HC.out _ ?hW).mono ?_
        case hW => exact ((Below.refl _ _).alloc (Nat.le_refl _) _).alloc (by rw [World.size_alloc]; exact Nat.le_succ _) _
        rintro e w' ⟨rfl, hb'⟩
        clear hx0 hy0 hw0 hx1 hy1 hw1 hx2 hy2 hw2
        go_wp2
        go_roundg (l0.length - (n + 1))
        case measure => have := HK.out; omega
        case rel =>
          refine ⟨n + 1, ⟨hlt⟩, ⟨rfl⟩, by go_num, ⟨hb'⟩, ⟨fun j hj => ?_⟩⟩
          by_cases e : j = n
          · subst e; rw [HX.out, HY.out]; exact HQ.out
          · exact HP.out j (by omega)
      | false =>
        rw [hq] at HC
        have HQ := Aside0.mk hq
        clear hq
        go_wp2_with fail
        refine (HC.out _ ?hW).mono ?_
        case hW => exact ((Below.refl _ _).alloc (Nat.le_refl _) _).alloc (by rw [World.size_alloc]; exact Nat.le_succ _) _
        rintro e w' ⟨rfl, hb'⟩
        clear hx0 hy0 hw0 hx1 hy1 hw1 hx2 hy2 hw2
        go_wp2
        go_ret
        refine ⟨?_, hb'⟩
        rw [← HV.out, EqualFunc_Act.val_no p l0 l1 n hlt (by rw [HX.out, HY.out]; exact HQ.out)]
        rfl
    · have hlt' : decide ((n : Int) < (l0.length : Int)) = false := decide_eq_false (by omega)
      have hn : n = l0.length := by have := HN.out; omega
      have HNN := Aside0.mk hn
      clear hn
      go_wp2
      go_ret
      exact ⟨by rw [← HV.out, EqualFunc_Act.val_yes p l0 l1 HNE.out (fun j hj => HP.out j (by have := HNN.out; omega))]; rfl, HB.out⟩


/-! ### trans_sameAct: function 115 -/
def trans_sameAct.f (k : Nat) (a0_0 : ByteArray) (a0_1 : Bool) (l0_2 : List (S117)) (a1_0 : ByteArray) (a1_1 : Bool) (l1_2 : List (S117)) : Option (Bool) := if a0_0.toList = a1_0.toList then (if (a0_1 == a1_1) = true then ((api_Term.f k l0_2 l1_2).bind fun t147 => (some t147)) else (some false)) else (some false)
theorem trans_sameAct.mono : ∀ a0 a1 a2 a3 a4 a5 k, LeO (trans_sameAct.f k a0 a1 a2 a3 a4 a5) (trans_sameAct.f (k + 1) a0 a1 a2 a3 a4 a5) := by
  intro a0 a1 a2 a3 a4 a5 k
  unfold trans_sameAct.f
  repeat' first
      | (with_reducible exact api_Term.mono _ _ _)
      | (with_reducible exact LeO.refl _)
      | (with_reducible exact LeO.none _)
      | (with_reducible refine LeO.ite ?_ ?_)
      | (with_reducible refine LeO.bind ?_ (fun _ => ?_))
      | exact api_Term.mono _ _ _
      | exact LeO.none _
      | refine LeO.ite ?_ ?_
      | refine LeO.bind ?_ (fun _ => ?_)
theorem bz10_ {W W2 w : World} (_ : Below W.heap.size W W2) (h : Below w.heap.size w W) : Below w.heap.size w W := h
set_option maxHeartbeats 8000000 in
set_option maxRecDepth 100000 in
theorem trans_sameAct.calls (k : Nat) (a0_0 : ByteArray) (a0_1 : Bool) (A0_2 : Option Addr) (c0_2 : Nat) (l0_2 : List (S117)) (a1_0 : ByteArray) (a1_1 : Bool) (A1_2 : Option Addr) (c1_2 : Nat) (l1_2 : List (S117)) (r : Bool) (w : World) (hr0_2 : Kd.C k117 w A0_2 l0_2.length l0_2) (hc0_2 : l0_2.length ≤ c0_2) (hr1_2 : Kd.C k117 w A1_2 l1_2.length l1_2) (hc1_2 : l1_2.length ≤ c1_2) (h : trans_sameAct.f k a0_0 a0_1 l0_2 a1_0 a1_1 l1_2 = some r) :
  Calls Try.prog 115 #[.agg #[.string a0_0, .bool a0_1, .slice A0_2 l0_2.length c0_2], .agg #[.string a1_0, .bool a1_1, .slice A1_2 l1_2.length c1_2]] w fun e w' => e = .returned (.bool r) ∧ Below w.heap.size w w' := by
 have hu130 := Try.underlying130
 have HR0_2 := Aside0.mk hr0_2
 have HC0_2 := Aside0.mk hc0_2
 clear hr0_2 hc0_2
 have HR1_2 := Aside0.mk hr1_2
 have HC1_2 := Aside0.mk hc1_2
 clear hr1_2 hc1_2
 have HB := Aside0.mk (Below.refl w.heap.size w)
 have H : (if a0_0.toList = a1_0.toList then (if (a0_1 == a1_1) = true then ((api_Term.f k l0_2 l1_2).bind fun t147 => (some t147)) else (some false)) else (some false)) = some r := h
 clear h
 by_cases c3 : a0_0.toList = a1_0.toList
 rotate_left
 ·rw [if_neg c3] at H
  have c3b0 : (a0_0.toList == a1_0.toList) = false := beq_eq_false_iff_ne.mpr c3
  have c3b1 : (a0_0.toList != a1_0.toList) = true := bne_iff_ne.mpr c3
  obtain rfl := Option.some.inj H
  go_enter Try.func115, Try.ntmps115
  go_wp2_with (first | ((with_reducible refine gate_dst (N := 2) rfl ?_); refine box_event ?hg (N := 2) ?hd (cs := #[.string a0_0, .bool a0_1, .slice A0_2 l0_2.length c0_2]) (t := 130) ?hr ?_; (case hd => rfl); (case hg => rfl); (case hr => first | (go_simp; done) | (go_simp; rfl)); intro gb145 hg w16 hbox hb; have hB_ := bz10_ hb (brw HB.out); have n0_ := Aside0.mk (below_step hB_ hb); have n1_ := Aside0.mk (hbox); have n2_ := Aside0.mk ((by rw [hg]; exact (below_size hB_) : w.heap.size ≤ gb145)); have n3_ := Aside0.mk ((by rw [hg]; exact (below_size hB_) : w.heap.size ≤ gb145)); clear HB; have HB := n0_; have BK145 := n1_; have GW145 := n2_; have GE145 := n3_; clear n0_ n1_ n2_ n3_; clear hb hbox hg) | ((with_reducible refine gate_dst (N := 3) rfl ?_); refine box_event ?hg (N := 3) ?hd (cs := #[.string a1_0, .bool a1_1, .slice A1_2 l1_2.length c1_2]) (t := 130) ?hr ?_; (case hd => rfl); (case hg => rfl); (case hr => first | (go_simp; done) | (go_simp; rfl)); intro gb146 hg w17 hbox hb; have hB_ := bz10_ hb (by repeat (first | (with_reducible first | exact HB.out | apply below_alloc | apply pw_below_drewN | apply below_drew1 | refine below_set ?_ GE145.out) | exact HB.out)); have n0_ := Aside0.mk (blk_below (grw BK145.out) hb); have n1_ := Aside0.mk (below_step hB_ hb); have n2_ := Aside0.mk (hbox); have n3_ := Aside0.mk ((by rw [hg]; exact (below_size hB_) : w.heap.size ≤ gb146)); have n4_ := Aside0.mk ((by rw [hg]; exact (below_size hB_) : w.heap.size ≤ gb146)); have n5_ := Aside0.mk ((by rw [hg]; exact Nat.ne_of_lt (blk_lt (grw BK145.out)) : gb145 ≠ gb146)); have n6_ := Aside0.mk ((by rw [hg]; exact Nat.ne_of_gt (blk_lt (grw BK145.out)) : gb146 ≠ gb145)); clear BK145; clear HB; have BK145 := n0_; have HB := n1_; have BK146 := n2_; have GW146 := n3_; have GE146 := n4_; have NB145_146 := n5_; have NB146_145 := n6_; clear n0_ n1_ n2_ n3_ n4_ n5_ n6_; clear hb hbox hg; have hnb18 := NB145_146.out; have hnc18 := NB146_145.out; obtain ⟨hcz19_0, hcz19_1, hcz19_2⟩ := cz3_ BK145.out; obtain ⟨hfz19_0, hfz19_1, hfz19_2⟩ := cf3_ BK145.out; obtain ⟨hcz20_0, hcz20_1, hcz20_2⟩ := cz3_ BK146.out; obtain ⟨hfz20_0, hfz20_1, hfz20_2⟩ := cf3_ BK146.out))
  go_ret
  exact ⟨by first | rfl | (simp [errW_none, errW_some] <;> rfl) | (simp [*, errW_none, errW_some] <;> rfl), by repeat (first | (with_reducible first | exact HB.out | apply below_alloc | apply pw_below_drewN | apply below_drew1 | refine below_set ?_ GE145.out | refine below_set ?_ GE146.out) | exact HB.out)⟩

 rw [if_pos c3] at H
 have c3b0 : (a0_0.toList == a1_0.toList) = true := beq_iff_eq.mpr c3
 have c3b1 : (a0_0.toList != a1_0.toList) = false := bne_eq_false_iff_eq.mpr c3
 clear c3
 by_cases c4 : (a0_1 == a1_1) = true
 rotate_left
 ·rw [if_neg c4] at H
  have c4b0 : (a0_1 == a1_1) = false := by simpa using c4
  (try (have c4b1 : decide (a0_1 = a1_1) = false := by simpa using c4))
  (try (have c4b2 : (a0_1 == a1_1) = false := by simpa using c4))
  (try (have c4b3 : ¬ (a0_1 = a1_1) := by simpa using c4))
  clear c4
  obtain rfl := Option.some.inj H
  go_enter Try.func115, Try.ntmps115
  go_wp2_with (first | ((with_reducible refine gate_dst (N := 2) rfl ?_); refine box_event ?hg (N := 2) ?hd (cs := #[.string a0_0, .bool a0_1, .slice A0_2 l0_2.length c0_2]) (t := 130) ?hr ?_; (case hd => rfl); (case hg => rfl); (case hr => first | (go_simp; done) | (go_simp; rfl)); intro gb145 hg w11 hbox hb; have hB_ := bz10_ hb (brw HB.out); have n0_ := Aside0.mk (below_step hB_ hb); have n1_ := Aside0.mk (hbox); have n2_ := Aside0.mk ((by rw [hg]; exact (below_size hB_) : w.heap.size ≤ gb145)); have n3_ := Aside0.mk ((by rw [hg]; exact (below_size hB_) : w.heap.size ≤ gb145)); clear HB; have HB := n0_; have BK145 := n1_; have GW145 := n2_; have GE145 := n3_; clear n0_ n1_ n2_ n3_; clear hb hbox hg) | ((with_reducible refine gate_dst (N := 3) rfl ?_); refine box_event ?hg (N := 3) ?hd (cs := #[.string a1_0, .bool a1_1, .slice A1_2 l1_2.length c1_2]) (t := 130) ?hr ?_; (case hd => rfl); (case hg => rfl); (case hr => first | (go_simp; done) | (go_simp; rfl)); intro gb146 hg w12 hbox hb; have hB_ := bz10_ hb (by repeat (first | (with_reducible first | exact HB.out | apply below_alloc | apply pw_below_drewN | apply below_drew1 | refine below_set ?_ GE145.out) | exact HB.out)); have n0_ := Aside0.mk (blk_below (grw BK145.out) hb); have n1_ := Aside0.mk (below_step hB_ hb); have n2_ := Aside0.mk (hbox); have n3_ := Aside0.mk ((by rw [hg]; exact (below_size hB_) : w.heap.size ≤ gb146)); have n4_ := Aside0.mk ((by rw [hg]; exact (below_size hB_) : w.heap.size ≤ gb146)); have n5_ := Aside0.mk ((by rw [hg]; exact Nat.ne_of_lt (blk_lt (grw BK145.out)) : gb145 ≠ gb146)); have n6_ := Aside0.mk ((by rw [hg]; exact Nat.ne_of_gt (blk_lt (grw BK145.out)) : gb146 ≠ gb145)); clear BK145; clear HB; have BK145 := n0_; have HB := n1_; have BK146 := n2_; have GW146 := n3_; have GE146 := n4_; have NB145_146 := n5_; have NB146_145 := n6_; clear n0_ n1_ n2_ n3_ n4_ n5_ n6_; clear hb hbox hg; have hnb13 := NB145_146.out; have hnc13 := NB146_145.out; obtain ⟨hcz14_0, hcz14_1, hcz14_2⟩ := cz3_ BK145.out; obtain ⟨hfz14_0, hfz14_1, hfz14_2⟩ := cf3_ BK145.out; obtain ⟨hcz15_0, hcz15_1, hcz15_2⟩ := cz3_ BK146.out; obtain ⟨hfz15_0, hfz15_1, hfz15_2⟩ := cf3_ BK146.out))
  go_ret
  exact ⟨by first | rfl | (simp [errW_none, errW_some] <;> rfl) | (simp [*, errW_none, errW_some] <;> rfl), by repeat (first | (with_reducible first | exact HB.out | apply below_alloc | apply pw_below_drewN | apply below_drew1 | refine below_set ?_ GE145.out | refine below_set ?_ GE146.out) | exact HB.out)⟩
 rw [if_pos c4] at H
 have c4b0 : (a0_1 == a1_1) = true := c4
 (try (have c4b1 : decide (a0_1 = a1_1) = true := by simpa using c4))
 (try (have c4b2 : (a0_1 == a1_1) = true := by simpa using c4))
 clear c4
 replace H := Option.bind_eq_some_iff.mp H
 obtain ⟨t147, A50, H⟩ := H
 replace H : (some t147) = some r := H
 have A5 := Aside0.mk A50
 clear A50
 obtain rfl := Option.some.inj H
 go_enter Try.func115, Try.ntmps115
 go_wp2_with (first | ((with_reducible refine gate_dst (N := 2) rfl ?_); refine box_event ?hg (N := 2) ?hd (cs := #[.string a0_0, .bool a0_1, .slice A0_2 l0_2.length c0_2]) (t := 130) ?hr ?_; (case hd => rfl); (case hg => rfl); (case hr => first | (go_simp; done) | (go_simp; rfl)); intro gb145 hg w6 hbox hb; have hB_ := bz10_ hb (brw HB.out); have n0_ := Aside0.mk (below_step hB_ hb); have n1_ := Aside0.mk (hbox); have n2_ := Aside0.mk ((by rw [hg]; exact (below_size hB_) : w.heap.size ≤ gb145)); have n3_ := Aside0.mk ((by rw [hg]; exact (below_size hB_) : w.heap.size ≤ gb145)); clear HB; have HB := n0_; have BK145 := n1_; have GW145 := n2_; have GE145 := n3_; clear n0_ n1_ n2_ n3_; clear hb hbox hg) | ((with_reducible refine gate_dst (N := 3) rfl ?_); refine box_event ?hg (N := 3) ?hd (cs := #[.string a1_0, .bool a1_1, .slice A1_2 l1_2.length c1_2]) (t := 130) ?hr ?_; (case hd => rfl); (case hg => rfl); (case hr => first | (go_simp; done) | (go_simp; rfl)); intro gb146 hg w7 hbox hb; have hB_ := bz10_ hb (by repeat (first | (with_reducible first | exact HB.out | apply below_alloc | apply pw_below_drewN | apply below_drew1 | refine below_set ?_ GE145.out) | exact HB.out)); have n0_ := Aside0.mk (blk_below (grw BK145.out) hb); have n1_ := Aside0.mk (below_step hB_ hb); have n2_ := Aside0.mk (hbox); have n3_ := Aside0.mk ((by rw [hg]; exact (below_size hB_) : w.heap.size ≤ gb146)); have n4_ := Aside0.mk ((by rw [hg]; exact (below_size hB_) : w.heap.size ≤ gb146)); have n5_ := Aside0.mk ((by rw [hg]; exact Nat.ne_of_lt (blk_lt (grw BK145.out)) : gb145 ≠ gb146)); have n6_ := Aside0.mk ((by rw [hg]; exact Nat.ne_of_gt (blk_lt (grw BK145.out)) : gb146 ≠ gb145)); clear BK145; clear HB; have BK145 := n0_; have HB := n1_; have BK146 := n2_; have GW146 := n3_; have GE146 := n4_; have NB145_146 := n5_; have NB146_145 := n6_; clear n0_ n1_ n2_ n3_ n4_ n5_ n6_; clear hb hbox hg; have hnb8 := NB145_146.out; have hnc8 := NB146_145.out; obtain ⟨hcz9_0, hcz9_1, hcz9_2⟩ := cz3_ BK145.out; obtain ⟨hfz9_0, hfz9_1, hfz9_2⟩ := cf3_ BK145.out; obtain ⟨hcz10_0, hcz10_1, hcz10_2⟩ := cz3_ BK146.out; obtain ⟨hfz10_0, hfz10_1, hfz10_2⟩ := cf3_ BK146.out) | (go_at_call 113; (with_reducible refine (api_Term.calls k _ _ l0_2 _ _ l1_2 t147 _ ?side1 ?side2 ?side3 ?side4 A5.out).mono ?_); (case side1 => repeat (first | exact (Kd.C_below HR0_2.out HB.out) | (with_reducible refine Kd.C_alloc ?_ _) | (with_reducible refine Kd.C_drewN ?_ _) | (with_reducible refine Kd.C_drew ?_))); (case side2 => exact HC0_2.out); (case side3 => repeat (first | exact (Kd.C_below HR1_2.out HB.out) | (with_reducible refine Kd.C_alloc ?_ _) | (with_reducible refine Kd.C_drewN ?_ _) | (with_reducible refine Kd.C_drew ?_))); (case side4 => exact HC1_2.out); rintro e w' ⟨rfl, ⟨nd, rfl⟩⟩))
 go_ret
 exact ⟨by first | rfl | (simp [errW_none, errW_some] <;> rfl) | (simp [*, errW_none, errW_some] <;> rfl), by repeat (first | (with_reducible first | exact HB.out | apply below_alloc | apply pw_below_drewN | apply below_drew1 | refine below_set ?_ GE145.out | refine below_set ?_ GE146.out) | exact HB.out)⟩
end Go.Proofs.Ytjlegibfeenglaa.XF
