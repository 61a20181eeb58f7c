/-
  slices.AppendSeq, slices.Collect, group.List: the list that is collected from a set.
-/
import Derived.Test.YtjlegibfeenglaaDoorXList
import Derived.Test.YtjlegibfeenglaaDoorXBp
namespace Go.Proofs.YtjlegibfeenglaaDoor
open Go Go.RowKit Go.Shelf
attribute [local go_sem] Oper.semAt_some

theorem info3 : (Tryd.prog.info? 3).map (fun i => (i.zero, i.size, i.bytes)) = some (some (.int .i64 0), 1, 8) := by kernel_rfl

set_option maxRecDepth 100000 in
set_option maxHeartbeats 2000000 in
theorem appendSeq_in (n : Nat) (hn : 3 ≤ n) (lb : Array Value) (eg : ∀ args w, (callFunc 20 args).run Tryd.prog w = .ok (.enter 20 args) w) (w : World) (L : List Nat) (hL : L.length ≤ 64)
    (hseq : SeqStopsK Fence.wide (n - 1) Tryd.prog 20 lb (fun i : Nat => #[enc i]) (Below w.heap.size) (fun ys => ys = L) (fun pre => pre <+: L) L.length w) :
    CallsIn Fence.wide n Tryd.prog 23 #[.slice none 0 0, .func (.func 20) #[] lb] w fun e W' => ∃ v, e = .returned v ∧ W'.ownsRow w.heap.size 3 1 v L.length (L.map enc) ∧ Below w.heap.size w W' := by
  have h1 : 1 ≤ n := by omega
  obtain ⟨i0, hi, hz0, hz1, hz2⟩ := info_parts info3
  refine callsIn_of_wp_marks Tryd.func23 rfl trivial ?_ rfl
  simp only [Tryd.ntmps23, List.size_toArray, List.length_cons, List.length_nil, Nat.reduceAdd, Nat.reduceSub, Array.replicate_succ, Array.replicate_zero, List.push_toArray, List.append_toArray, List.nil_append, List.cons_append]
  gi_wp2
  have bO := Boxed.new w 23 (.slice none 0 0)
  have hB0 : Below w.heap.size w (w.alloc (.cells #[.slice none 0 0] 23)) := (Below.refl _ w).alloc (Nat.le_refl _) _
  have hseq' : SeqStopsK Fence.wide (n - 1) Tryd.prog 20 lb (fun i : Nat => #[enc i]) (Below w.heap.size) (fun ys => ys = L) (fun pre => pre <+: L) L.length (w.alloc (.cells #[.slice none 0 0] 23)) :=
    fun l J Jx W hW a b c d => hseq l J Jx W (hB0.trans (hW.mono (by simp))) a b c d
  refine wpIn_rangeFunc_ownG rfl h1 (gf := 20) (lb := lb) rfl trivial eg
    hseq' belowK_t (belowK_b (by simp)) (Below.refl _ _) (fun _ => rfl)
    (fun (pre : List Nat) W => (∃ v, Boxed W w.heap.size 23 v ∧ W.ownsRow w.heap.size 3 1 v pre.length (pre.map enc) ∧ True) ∧ Below w.heap.size w W)
    (fun _ _ _ => False)
    (OwnFrom.and (Own.from (holdsRow_own w.heap.size w.heap.size 23 3 1 (fun (pre : List Nat) => pre.length) (fun pre => pre.map enc) (fun _ _ => True)) _) (ownFrom_below (Nat.le_refl _) (by simp)))
    (fun _ _ _ _ _ hs _ _ => hs)
    ⟨⟨_, bO, World.ownsRow_nil _ _ _ _, trivial⟩, hB0⟩
    (fun x => { tmps := #[.slice none 0 0, .func (.func 20) #[] lb, .pointer (some ⟨w.heap.size, 0, none⟩), undef, .slice none 0 0, enc x, .func (.func 20) #[] lb, enc x, undef, undef, undef, undef, undef], defers := [] }) ?assign ?body ?done ?stop
  case assign =>
    intro l x W K hK
    gi_wp2
    exact hK
  case body =>
    rintro l pre x W ⟨⟨v, hv, hrow, -⟩, hB⟩ hlt
    have hc := hv.cell
    dsimp only [enc]
    gi_wp2_with (gi_at_builtin; refine wpListIn_append_own _ rfl _ _ 23 rfl w.heap.size 3 i0 (.int .i64 0) 1 8 Tryd.underlying23 hi hz0 hz1 hz2 rfl (by decide) _ _ _ rfl (hrow.alloc _) ⟨W.heap.size, 0, none⟩ 1 1 [enc x] rfl rfl (cell_one_new _ _ _) (by simp [Value.oneCell', enc]) (by simp [maxLen]; omega) (by omega) (by have := hB.size; simp; omega) ?_; intro v' w1 hown' hgrow _; obtain ⟨g', cap', rfl⟩ := ownsRow_succ hown'; obtain ⟨hv1, hv2, hr2, hk2, hb2⟩ := hv.appended (by decide) hrow hB.size (Nat.le_refl _) hown' hgrow; have hc1 := hv1.cell; have hf1 := hv1.frozen)
    exact ⟨hk2.from _, hb2, ⟨_, hv2, by simpa using hr2, trivial⟩, hB.trans hb2⟩
  case done =>
    rintro D ys W hD rfl ⟨⟨v, hv, hrow, -⟩, hB⟩ hK
    have hc := hv.cell
    gi_wp2
    refine ⟨by simp, .inl ⟨_, _, rfl, run_takeDeferred hK, ?_⟩⟩
    exact ⟨_, results_tmp rfl _ _ _, v, rfl, ownsRow_putObj hrow _ hK rfl, hB.trans (belowK_b (w := w) (Nat.le_refl _) W D _ _ (by simp at hD; omega) hK rfl rfl)⟩
  case stop =>
    rintro D c pre W _ _ h _
    exact h.elim

set_option maxHeartbeats 1000000 in
theorem collect_in (n : Nat) (hn : 4 ≤ n) (lb : Array Value) (eg : ∀ args w, (callFunc 20 args).run Tryd.prog w = .ok (.enter 20 args) w) (w : World) (L : List Nat) (hL : L.length ≤ 64)
    (hseq : SeqStopsK Fence.wide (n - 1 - 1) Tryd.prog 20 lb (fun i : Nat => #[enc i]) (Below w.heap.size) (fun ys => ys = L) (fun pre => pre <+: L) L.length w) :
    CallsIn Fence.wide n Tryd.prog 19 #[.func (.func 20) #[] lb] w fun e W' => ∃ v, e = .returned v ∧ W'.ownsRow w.heap.size 3 1 v L.length (L.map enc) ∧ Below w.heap.size w W' := by
  have cA := appendSeq_in (n - 1) (by omega) lb eg w L hL hseq
  have hf : Fence.wide.fn 23 := trivial
  have h1 : 1 ≤ n := by omega
  refine callsIn_of_wp Tryd.func19 rfl trivial ?_ rfl
  simp only [Tryd.ntmps19, List.size_toArray, List.length_cons, List.length_nil, Nat.reduceAdd, Nat.reduceSub, Array.replicate_succ, Array.replicate_zero, List.push_toArray, List.append_toArray, List.nil_append, List.cons_append]
  gi_wp2_with (gi_at_call 23; refine cA.mono ?_; rintro e w' ⟨v, rfl, hrow, hb⟩)
  go_ret
  exact ⟨v, rfl, hrow, hb⟩

/-- the numbers of a set, as the program's list has them -/
def ints (x : Nat) : List Int := (bl x).map fun (i : Nat) => (i : Int)

open Go.Proofs.YtjlegibfeenglaaDoorW.PrintWords in
set_option maxHeartbeats 1000000 in
/-- group.List: a new slice that holds a set's numbers, from the lowest on. -/
theorem list_calls (x : Nat) (hx : x < 18446744073709551616) (w : World) (hT : Tab w) (h0 : 0 < w.heap.size) :
    Calls Tryd.prog 7 #[.int .u64 x] w fun e w' => ∃ v : Value, e = .returned v ∧ Kd.R (Kd.int .i64) 3 w' w.heap.size (fun _ => True) v (ints x) ∧ Below w.heap.size w w' := by
  refine (callsIn_wide (n := 6)).1 ?_
  have cE := each_in 5 x w
  have hB : Below w.heap.size w (w.alloc (.cells #[.int .u64 x] 22)) := (Below.refl _ w).alloc (Nat.le_refl _) _
  have cC := collect_in 5 (by omega) #[.pointer (some ⟨w.heap.size, 0, none⟩)] (enters_of Tryd.func20 (by kernel_rfl) rfl) (w.alloc (.cells #[.int .u64 x] 22)) (bl x) (bl_len x)
    (each_stops 3 (by omega) w.heap.size _ x hx _ (by simp) (by simp) (by simp) (by simp) (hT.below hB h0))
  have hfE : Fence.wide.fn 12 := trivial
  have hfC : Fence.wide.fn 19 := trivial
  refine callsIn_of_wp Tryd.func7 rfl trivial ?_ rfl
  simp only [Tryd.ntmps7, List.size_toArray, List.length_cons, List.length_nil, Nat.reduceAdd, Nat.reduceSub, Array.replicate_succ, Array.replicate_zero, List.push_toArray, List.append_toArray, List.nil_append, List.cons_append]
  gi_wp2_with (first
    | (gi_at_call 12; refine cE.mono ?_; rintro e w' ⟨rfl, rfl⟩)
    | (gi_at_call 19; refine cC.mono ?_; rintro e w' ⟨v, rfl, hrow, hb⟩))
  go_ret
  refine ⟨v, rfl, Kd.R_of_own (enc := Value.int .i64) (h1 := fun _ => rfl) ?_ (fun _ _ => trivial), hB.trans (hb.mono (by simp))⟩
  have hr : w'.ownsRow w.heap.size 3 1 v (bl x).length ((bl x).map enc) := own_weaken hrow (by simp)
  have e : encs (Value.int .i64) (ints x) = (bl x).map enc := by simp [ints, encs, Function.comp_def]
  rw [e]
  simpa [ints] using hr

end Go.Proofs.YtjlegibfeenglaaDoor
