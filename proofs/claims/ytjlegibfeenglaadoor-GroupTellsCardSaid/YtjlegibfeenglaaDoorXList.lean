/-
  The iterator over a set, and the list that is collected from it.
-/
import Derived.RangeFuncNested
import Derived.RangeFuncBound
import Derived.RangeFuncCalls
import Derived.RangeFuncLeaves
import Derived.RangeFuncBox
import Derived.Shelf.Abstract
import Derived.Shelf.RegionOpen
import Derived.WalkKit
import Derived.OwnWalkIn
import Derived.TacticsInMore
import Derived.LoopNIn
import Derived.LoopIn
import Derived.Maps.AppendAt
import Derived.Test.YtjlegibfeenglaaDoorXSets
import Derived.Test.YtjlegibfeenglaaDoorXTab
namespace Go.Proofs.YtjlegibfeenglaaDoor
open Go Go.RowKit Go.Shelf
attribute [local go_sem] Oper.semAt_some

theorem tz_key (x a : Nat) (hx : x < 18446744073709551616) (hx0 : x ≠ 0) (hlow : x &&& (18446744073709551616 - x) = a) :
    IntKind.u64.wrap (bits BinOp.and IntKind.u64 (x : Int) (IntKind.u64.wrap (-(x : Int))) * 285870213051353865) / 288230376151711744 = ((a * 285870213051353865 % 18446744073709551616 / 288230376151711744 : Nat) : Int) := by
  have e1 : IntKind.u64.wrap (-(x : Int)) = ((18446744073709551616 - x : Nat) : Int) := by rw [IntKind.wrap_u64]; omega
  rw [e1, bits_and_u64_nat x _ hx (by omega), hlow, IntKind.wrap_u64]
  omega

set_option maxHeartbeats 1000000 in
theorem tz_core (x k idx : Nat) (w : World) (hx0 : ((x : Int) == 0) = false)
    (key : IntKind.u64.wrap (bits BinOp.and IntKind.u64 (x : Int) (IntKind.u64.wrap (-(x : Int))) * 285870213051353865) / 288230376151711744 = (idx : Int))
    (hi : idx < 64) (hk : k < 64) (hcell : w.cell? ⟨0, idx, none⟩ = some (.int .u8 k)) :
    Calls Tryd.prog 21 #[.int .u64 x] w fun e w' => e = .returned (.int .i64 k) ∧ w' = w := by
  go_enter Tryd.func21, Tryd.ntmps21
  go_wp2_with (simp only [key])
  go_ret
  exact ⟨rfl, rfl⟩

/-- math/bits.TrailingZeros64 of a set that is not empty: its lowest one. -/
theorem tz (x : Nat) (hx : x < 18446744073709551616) (hx0 : x ≠ 0) (w : World) (hT : Tab w) :
    Calls Tryd.prog 21 #[.int .u64 x] w fun e w' => e = .returned (.int .i64 (Lib.ctz 64 x)) ∧ w' = w := by
  obtain ⟨hlow, hk⟩ := Lib.lowest_bit 64 x hx0 hx
  obtain ⟨hi, htab⟩ := Lib.deBruijn64_at _ hk
  have hcell := hT _ hi
  rw [htab] at hcell
  exact tz_core x _ _ w (by simp; omega) (tz_key x _ hx hx0 hlow) hi hk hcell

abbrev enc (i : Nat) : Value := .int .i64 (i : Int)

set_option maxHeartbeats 1000000 in
/-- group.Each: the set is boxed; the function value captures the box. -/
theorem each_in (n : Nat) (x : Nat) (w : World) :
    CallsIn Fence.wide n Tryd.prog 12 #[.int .u64 x] w fun e w' => e = .returned (.func (.func 20) #[] #[.pointer (some ⟨w.heap.size, 0, none⟩)]) ∧ w' = w.alloc (.cells #[.int .u64 x] 22) := by
  refine callsIn_of_wp Tryd.func12 rfl trivial ?_ rfl
  simp only [Tryd.ntmps12, List.size_toArray, List.length_cons, List.length_nil, Nat.reduceAdd, Nat.reduceSub, Array.replicate_succ, Array.replicate_zero, List.push_toArray, List.append_toArray, List.nil_append, List.cons_append]
  gi_wp2
  go_ret
  exact ⟨rfl, rfl⟩

theorem next_set (x : Nat) (h0 : x ≠ 0) (h : x < 18446744073709551616) : bits .and .u64 (x : Int) ((x : Int) - 1) = ((x &&& (x - 1) : Nat) : Int) := by
  have e1 : (x : Int) - 1 = ((x - 1 : Nat) : Int) := by omega
  rw [e1, bits_and_u64_nat x _ h (by omega)]

def left : Value → Nat
  | .int _ i => i.toNat
  | _ => 0

set_option maxRecDepth 100000 in
set_option maxHeartbeats 1000000 in
theorem each1_in (n : Nat) (hn : 1 ≤ n) (l Bn n₀ : Nat) (x0 : Nat) (hx0 : x0 < 18446744073709551616) (h0n : 0 < n₀) (J Jx : List Nat → World → Prop)
    (hY : ∀ pre x W, J pre W → pre.length < (bl x0).length → YieldAt Fence.wide (n - 1) Tryd.prog l #[enc x] W fun e W' =>
      (e = .returned (.bool true) ∧ J (pre ++ [x]) W' ∧ Below n₀ W W') ∨ (e = .returned (.bool false) ∧ Jx (pre ++ [x]) W'))
    (W : World) (hBn : W.cell? ⟨Bn, 0, none⟩ = some (.int .u64 x0)) (hT : Tab W) (h0 : J [] W) :
    CallsIn Fence.wide n Tryd.prog 20 #[.func (.yield l) #[] #[], .pointer (some ⟨Bn, 0, none⟩)] W fun e W' => (∃ v, e = .returned v) ∧
      ((∃ ys, ys = bl x0 ∧ J ys W') ∨ (∃ pre, pre <+: bl x0 ∧ Jx pre W')) := by
  refine callsIn_of_wp Tryd.func20 rfl trivial ?_ rfl
  simp only [Tryd.ntmps20, List.size_toArray, List.length_cons, List.length_nil, Nat.reduceAdd, Nat.reduceSub, Array.replicate_succ, Array.replicate_zero, List.push_toArray, List.append_toArray, List.nil_append, List.cons_append]
  gi_wp2
  gi_loopw [3] (fun p wr => ∃ (pre : List Nat) (x : Nat), p = .int .u64 (x : Int) ∧ x < 18446744073709551616 ∧ bl x0 = pre ++ bl x ∧ Tab wr ∧ J pre wr)
    (fun p _ => left p)
  case atStart =>
    exact ⟨[], x0, rfl, hx0, rfl, hT, h0⟩
  case round =>
    obtain ⟨pre, x, rfl, hxl, hpre, hTr, hJs⟩ := hrel
    by_cases hz : x = 0
    · subst hz
      gi_wp2
      go_end0
      exact ⟨⟨_, rfl⟩, .inl ⟨pre, by rw [hpre, bl_zero, List.append_nil], hJs⟩⟩
    · have hb : ((x : Int) != 0) = true := by simp; omega
      have hst := bl_step x hz (by omega)
      obtain ⟨fn, tmps, assign, body, hy, hR⟩ := hY pre (Lib.ctz 64 x) wr hJs (by rw [hpre, hst]; simp)
      have hc := (callsIn_wide (n := n - 1)).2 (tz x hxl hz wr hTr)
      have hf21 : Fence.wide.fn 21 := trivial
      have hnx := next_set x hz hxl
      dsimp only [enc] at hy
      gi_wp2_with (gi_at_call 21; refine hc.mono ?_; clear hc; rintro e w' ⟨rfl, rfl⟩)
      refine hR.mono ?_
      rintro e W3 (⟨rfl, hJ3, hk3⟩ | ⟨rfl, hJx3⟩)
      · gi_wp2
        go_roundw
        case rel => exact ⟨pre ++ [Lib.ctz 64 x], x &&& (x - 1), rfl, Nat.lt_of_le_of_lt Nat.and_le_left hxl, by rw [hpre, hst]; simp, hTr.below hk3 h0n, hJ3⟩
        case measure => simp only [left, Int.toNat_natCast]; exact and_pred_lt x hz
      · gi_wp2
        refine bodyPost_ret (results_none rfl _ _ _) rfl ?_
        exact ⟨⟨_, rfl⟩, .inr ⟨pre ++ [Lib.ctz 64 x], ⟨bl (x &&& (x - 1)), by rw [hpre, hst]; simp⟩, hJx3⟩⟩

/-- what group.Each hands back gives a set's numbers, from the lowest on -/
theorem each_stops (n : Nat) (hn : 1 ≤ n) (Bn n₀ : Nat) (x : Nat) (hx : x < 18446744073709551616) (w : World) (hBn : Bn < w.heap.size) (hn₀ : n₀ ≤ w.heap.size) (h0n : 0 < n₀)
    (hc : w.cell? ⟨Bn, 0, none⟩ = some (.int .u64 x)) (hT : Tab w) :
    SeqStopsK Fence.wide n Tryd.prog 20 #[.pointer (some ⟨Bn, 0, none⟩)] (fun i : Nat => #[enc i]) (Below n₀) (fun ys => ys = bl x) (fun pre => pre <+: bl x) (bl x).length w := fun l J Jx W hW _ _ hY h0 =>
  each1_in n hn l Bn n₀ x hx h0n J Jx hY W ((hW.cell (p := ⟨Bn, 0, none⟩) hBn).trans hc) (hT.below (hW.mono hn₀) h0n) h0

end Go.Proofs.YtjlegibfeenglaaDoor
