-- written by wip/xprint.py out of the translation
import Derived.Test.YtjlegibfeenglaaXVp0
import Derived.Test.YtjlegibfeenglaaXVp1
namespace Go.Proofs.Ytjlegibfeenglaa.XV
open Go.RowKit Go.Proofs.YtjlegibfeenglaaW.PrintWords Go.Proofs.YtjlegibfeenglaaW.PrintLast Go.Proofs.YtjlegibfeenglaaW.PrintMore
attribute [local go_sem] max2_int min2_int max_two min_two max_three min_three max_four min_four   -- for this text's walks alone
set_option linter.unusedVariables false
set_option linter.unusedSimpArgs false

/-! ### semblancelaw55_TallyNobody: function 6 -/
-- USES semblance/tally.New
-- USES semblance/semblancelaw55.awake
def semblancelaw55_TallyNobody.f (a0_0 a0_1 a0_2 : Int) : Option Bool := some true
set_option maxHeartbeats 4000000 in
set_option maxRecDepth 100000 in
theorem semblancelaw55_TallyNobody.calls (a0_0 a0_1 a0_2 : Int) (r : Bool) (w : World) (h : semblancelaw55_TallyNobody.f a0_0 a0_1 a0_2 = some r) :
    Calls Try.prog 6 #[.agg #[.int .i64 a0_0, .int .i64 a0_1, .int .u64 a0_2]] w fun e w' => e = .returned (.bool r) ∧ Below w.heap.size w w' := by
  obtain rfl : true = r := Option.some.inj h
  clear h
  have hu := Try.underlying53
  go_enter Try.func6, Try.ntmps6
  go_wp2_with fail
  generalize hW : w.alloc (.cells #[.int .i64 a0_0, .int .i64 a0_1, .int .u64 a0_2] 38) = W
  have hB0 : Below w.heap.size w W := hW ▸ below_alloc (Below.refl _ _) _
  have hblk : W.heap[w.heap.size]? = some (.cells #[.int .i64 a0_0, .int .i64 a0_1, .int .u64 a0_2] 38 (0, 0)) := hW ▸ heap_alloc_new _ _
  have hlt0 := lt_of_block hblk
  have hc1 : W.cell? ⟨w.heap.size, 1, none⟩ = some (.int .i64 a0_1) := by unfold World.cell?; rw [hblk]; rfl
  have hc2 : W.cell? ⟨w.heap.size, 2, none⟩ = some (.int .u64 a0_2) := by unfold World.cell?; rw [hblk]; rfl
  have HB0 := Aside0.mk hB0
  have HC1 := Aside0.mk hc1
  have HC2 := Aside0.mk hc2
  clear hW hB0 hblk hc1 hc2 hlt0
  go_loopg [3] 2 (fun kq v3 wr' => ∃ (wr : World) (i : Nat), wr = wr' ∧ Aside0 (2 - i = kq) ∧ Aside0 (i ≤ 2) ∧ v3 = .int .i64 (i : Int) ∧ Aside0 (Below W.heap.size W wr))
  case atStart => exact ⟨_, 0, rfl, ⟨rfl⟩, ⟨by omega⟩, rfl, ⟨Below.refl _ _⟩⟩
  case round =>
    obtain ⟨wr, i, rfl, HK, HI, rfl, HB⟩ := hrel
    have hc1 := pw_cell_below HB.out HC1.out
    have hc2 := pw_cell_below HB.out HC2.out
    by_cases hi : i < 2
    · have hlt : decide ((i : Int) < 2) = true := decide_eq_true (by omega)
      by_cases h1 : i = 1
      · have heq : ((i : Int) == 1) = true := by rw [beq_iff_eq]; omega
        clear h1
        have hN : tally.None (wr.alloc (.cells #[.slice none 0 0] 53)) (.pointer (some ⟨wr.heap.size, 0, none⟩)) := .inr ⟨_, rfl, by
          have h := heap_alloc_new wr (.cells #[.slice none 0 0] 53 (0, 0))
          unfold World.cell?; rw [h]; rfl⟩
        have hsc : (wr.alloc (.cells #[.slice none 0 0] 53)).cell? ⟨wr.heap.size, 0, none⟩ = some (.slice none 0 0) := by
          have h := heap_alloc_new wr (.cells #[.slice none 0 0] 53 (0, 0))
          unfold World.cell?; rw [h]; rfl
        have HN := Aside0.mk hN
        have HSC := Aside0.mk hsc
        have hsz : w.heap.size < wr.heap.size := World.block_lt_of_cell? wr _ hc1
        have hd1 : (wr.alloc (.cells #[.slice none 0 0] 53)).cell? ⟨w.heap.size, 1, none⟩ = some (.int .i64 a0_1) := pw_cell_below (below_alloc (Below.refl _ _) _) hc1
        have hd2 : (wr.alloc (.cells #[.slice none 0 0] 53)).cell? ⟨w.heap.size, 2, none⟩ = some (.int .u64 a0_2) := pw_cell_below (below_alloc (Below.refl _ _) _) hc2
        clear hN hsc
        go_wp2_with (first
          | (go_at_call 21; refine (tally.swapNone a0_1 a0_2 _ _ HN.out).mono ?_; rintro e w' ⟨rfl, rfl⟩)
          | (go_at_call 22; refine (tally.raiseNone a0_1 a0_2 _ _ HN.out).mono ?_; rintro e w' ⟨rfl, rfl⟩)
          | (go_at_call 19; refine (tally.sizeL _ 0 0 none _ HSC.out).mono ?_; rintro e w' ⟨rfl, rfl⟩)
          | (go_at_call 20; refine (tally.addNone a0_1 a0_2 _ _ HN.out).mono ?_; rintro e w' ⟨rfl, rfl⟩)
          | (go_at_call 23; refine (tally.getNone a0_1 _ _ HN.out).mono ?_; rintro e w' ⟨rfl, rfl⟩)
          | (go_at_call 25; refine (tally.allNone _ _ HN.out).mono ?_; rintro e w' ⟨rfl, rfl⟩)
          | (go_at_call 26; refine (tally.totalNone _ _ HN.out).mono ?_; rintro e w' ⟨rfl, rfl⟩))
        go_roundg (2 - (i + 1))
        case measure => have := HK.out; omega
        case rel => exact ⟨_, i + 1, rfl, ⟨rfl⟩, ⟨by omega⟩, by go_num, ⟨below_alloc HB.out _⟩⟩
      · have heq : ((i : Int) == 1) = false := by rw [beq_eq_false_iff_ne]; omega
        clear h1
        have HN : Aside0 (tally.None wr (.pointer none)) := ⟨.inl rfl⟩
        go_wp2_with (first
          | (go_at_call 21; refine (tally.swapNone a0_1 a0_2 _ _ HN.out).mono ?_; rintro e w' ⟨rfl, rfl⟩)
          | (go_at_call 22; refine (tally.raiseNone a0_1 a0_2 _ _ HN.out).mono ?_; rintro e w' ⟨rfl, rfl⟩)
          | (go_at_call 19; refine (tally.sizeN _).mono ?_; rintro e w' ⟨rfl, rfl⟩)
          | (go_at_call 20; refine (tally.addNone a0_1 a0_2 _ _ HN.out).mono ?_; rintro e w' ⟨rfl, rfl⟩)
          | (go_at_call 23; refine (tally.getNone a0_1 _ _ HN.out).mono ?_; rintro e w' ⟨rfl, rfl⟩)
          | (go_at_call 25; refine (tally.allNone _ _ HN.out).mono ?_; rintro e w' ⟨rfl, rfl⟩)
          | (go_at_call 26; refine (tally.totalNone _ _ HN.out).mono ?_; rintro e w' ⟨rfl, rfl⟩))
        go_roundg (2 - (i + 1))
        case measure => have := HK.out; omega
        case rel => exact ⟨_, i + 1, rfl, ⟨rfl⟩, ⟨by omega⟩, by go_num, HB⟩
    · have hlt : decide ((i : Int) < 2) = false := decide_eq_false (by omega)
      go_wp2_with (go_at_call 17; refine (semblancelaw55_awake.calls true _ rfl).mono ?_; rintro e w' ⟨rfl, hb⟩)
      go_ret
      exact ⟨rfl, below_then (below_then HB0.out HB0.out.size HB.out) (below_then HB0.out HB0.out.size HB.out).size hb⟩


end Go.Proofs.Ytjlegibfeenglaa.XV
