/-
  The law's plain example: it is true.
-/
import Derived.Test.YtjlegibfeenglaaDoorXPop
namespace Go.Proofs.YtjlegibfeenglaaDoor
open Go Go.RowKit Go.Proofs.YtjlegibfeenglaaDoor.XB Go.Proofs.YtjlegibfeenglaaDoor.XFuel Go.Proofs.YtjlegibfeenglaaDoorW.PrintWords
set_option linter.unusedVariables false
set_option linter.unusedSimpArgs false

theorem lit_C (w : World) (xs : List Int) (hn : xs.length ≤ 1000) : Kd.C (Kd.int .i64) (w.alloc (.cells (nums .i64 xs).toArray 3)) (some ⟨w.heap.size, 0, none⟩) xs.length xs := by
  have h := own_lit (e := 3) (k := .i64) w w.heap.size xs (Nat.le_refl _) (by omega)
  have hR : (Kd.int .i64).R 3 (w.alloc (.cells (nums .i64 xs).toArray 3)) w.heap.size (fun _ => True) (.slice (some ⟨w.heap.size, 0, none⟩) xs.length xs.length) xs := Kd.R_of_own h (fun _ _ => trivial)
  obtain ⟨A, c, e, _, hC⟩ := Kd.R_reads hR
  cases e
  exact hC

theorem same_calls (l : List Int) (hl : l.length ≤ 9223372036854775807) (A0 A1 : Option Addr) (c0 c1 : Nat) (w : World) (h0 : Kd.C (Kd.int .i64) w A0 l.length l) (hc0 : l.length ≤ c0) (h1 : Kd.C (Kd.int .i64) w A1 l.length l) (hc1 : l.length ≤ c1) :
    Calls Tryd.prog 13 #[.slice A0 l.length c0, .slice A1 l.length c1] w fun e w' => e = .returned (.bool true) ∧ ∃ n, w' = w.drewN n := by
  obtain ⟨k, hk⟩ := same_f l hl
  refine (semblanceref01_Same.calls k A0 c0 l A1 c1 l true w h0 hc0 h1 hc1 hk).mono ?_
  rintro e w' ⟨rfl, ⟨h⟩⟩
  exact ⟨rfl, h⟩
theorem of_calls (l : List Int) (hl : l.length ≤ 9223372036854775807) (A0 : Option Addr) (c0 : Nat) (w : World) (h0 : Kd.C (Kd.int .i64) w A0 l.length l) (hc0 : l.length ≤ c0) :
    Calls Tryd.prog 6 #[.slice A0 l.length c0] w fun e w' => e = .returned (.int .u64 (U l)) ∧ ∃ n, w' = w.drewN n := by
  obtain ⟨k, hk⟩ := of_f l hl
  refine (group_Of.calls k A0 c0 l _ w h0 hc0 hk).mono ?_
  rintro e w' ⟨rfl, ⟨h⟩⟩
  exact ⟨rfl, h⟩
theorem has_calls (m : Nat) (hm : m < 18446744073709551616) (i : Int) (w : World) : Calls Tryd.prog 14 #[.int .u64 m, .int .i64 i] w fun e w' => e = .returned (.bool (hs m i)) ∧ ∃ n, w' = w.drewN n := by
  refine (group_Has.calls m i _ w (has_f m hm i)).mono ?_
  rintro e w' ⟨rfl, ⟨h⟩⟩
  exact ⟨rfl, h⟩
theorem count_calls (m : Nat) (hm : m < 18446744073709551616) (w : World) : Calls Tryd.prog 15 #[.int .u64 m] w fun e w' => e = .returned (.int .i64 ((bl m).length : Nat)) ∧ ∃ n, w' = w.drewN n := by
  refine (group_Count.calls m _ w (count_f m hm)).mono ?_
  rintro e w' ⟨rfl, ⟨h⟩⟩
  exact ⟨rfl, h⟩
theorem within_calls (a b : Nat) (ha : a < 18446744073709551616) (hb : b < 18446744073709551616) (w : World) : Calls Tryd.prog 11 #[.int .u64 a, .int .u64 b] w fun e w' => e = .returned (.bool (decide (a &&& (18446744073709551615 - b) = 0))) ∧ ∃ n, w' = w.drewN n := by
  refine (group_Within.calls a b _ w (within_f a b ha hb)).mono ?_
  rintro e w' ⟨rfl, ⟨h⟩⟩
  exact ⟨rfl, h⟩
theorem with_calls (m : Nat) (hm : m < 18446744073709551616) (i : Int) (w : World) : Calls Tryd.prog 16 #[.int .u64 m, .int .i64 i] w fun e w' => e = .returned (.int .u64 (m ||| sb i : Nat)) ∧ ∃ n, w' = w.drewN n := by
  refine (group_With.calls m i _ w (with_f m hm i)).mono ?_
  rintro e w' ⟨rfl, ⟨h⟩⟩
  exact ⟨rfl, h⟩
theorem without_calls (m : Nat) (hm : m < 18446744073709551616) (i : Int) (w : World) : Calls Tryd.prog 17 #[.int .u64 m, .int .i64 i] w fun e w' => e = .returned (.int .u64 (m &&& (18446744073709551615 - sb i) : Nat)) ∧ ∃ n, w' = w.drewN n := by
  refine (group_Without.calls m i _ w (without_f m hm i)).mono ?_
  rintro e w' ⟨rfl, ⟨h⟩⟩
  exact ⟨rfl, h⟩
theorem refHas_calls (m : Nat) (hm : m < 18446744073709551616) (i : Int) (w : World) : Calls Tryd.prog 10 #[.int .u64 m, .int .i64 i] w fun e w' => e = .returned (.bool (hs m i)) ∧ ∃ n, w' = w.drewN n := by
  obtain ⟨k, hk⟩ := refHas m hm i
  refine (semblanceref16_Has.calls k m i _ w hk).mono ?_
  rintro e w' ⟨rfl, ⟨h⟩⟩
  exact ⟨rfl, h⟩
theorem refList_calls (m : Nat) (hm : m < 18446744073709551616) (w : World) : Calls Tryd.prog 9 #[.int .u64 m] w fun e w' => ∃ v : Value, e = .returned v ∧ Kd.R (Kd.int .i64) 3 w' w.heap.size (fun _ => True) v (ints m) ∧ Below w.heap.size w w' := by
  obtain ⟨k, hk⟩ := refList m hm
  exact semblanceref16_List.calls k m _ w hk

theorem of_lit (l : List Int) (hn : l.length ≤ 1000) (w : World) (b : Nat) (hb : b = w.heap.size) :
    Calls Tryd.prog 6 #[.slice (some ⟨b, 0, none⟩) l.length l.length] (w.alloc (.cells (nums .i64 l).toArray 3)) fun e w' => e = .returned (.int .u64 (U l)) ∧ ∃ n, w' = (w.alloc (.cells (nums .i64 l).toArray 3)).drewN n := by
  subst hb
  exact of_calls l (by omega) _ _ _ (lit_C w l hn) (Nat.le_refl _)

set_option maxRecDepth 100000 in
set_option maxHeartbeats 2000000 in
theorem awake_calls (w : World) (hT : Tab w) (h0 : 0 < w.heap.size) : Calls Tryd.prog 5 #[] w fun e w' => e = .returned (.bool true) ∧ Below w.heap.size w w' := by
  have cL := list_calls 5 (by decide) w hT h0
  go_enter Tryd.func5, Tryd.ntmps5
  go_wp2_with fail
  go_at_call 7
  refine cL.mono ?_
  rintro e w1 ⟨v, rfl, hR, hB⟩
  have hi5 : ints 5 = [0, 2] := by decide +kernel
  rw [hi5] at hR
  obtain ⟨A, c, rfl, hcl, hC⟩ := Kd.R_reads hR
  clear cL hR
  go_wp2_with fail
  go_at_call 13
  refine (same_calls [0, 2] (by decide) A _ c 2 _ (Kd.C_below hC ((Below.refl _ w1).alloc (Nat.le_refl _) _)) hcl (lit_C w1 [0, 2] (by decide)) (by decide)).mono ?_
  rintro e w2 ⟨rfl, n2, rfl⟩
  go_wp2_with fail
  go_at_call 14
  refine (has_calls 5 (by decide) 2 _).mono ?_
  rintro e w3 ⟨rfl, n3, rfl⟩
  rw [show hs 5 2 = true by decide +kernel]
  go_wp2_with fail
  go_at_call 14
  refine (has_calls 5 (by decide) 64 _).mono ?_
  rintro e w4 ⟨rfl, n4, rfl⟩
  rw [show hs 5 64 = false by decide +kernel]
  go_wp2_with fail
  go_at_call 6
  refine (of_lit [0, 2, -1] (by decide) _ _ (by show _ = (World.alloc w1 _).heap.size; simp)).mono ?_
  rintro e w5 ⟨rfl, n5, rfl⟩
  rw [show U [0, 2, -1] = 5 by decide +kernel]
  go_wp2_with fail
  go_at_call 15
  refine (count_calls 5 (by decide) _).mono ?_
  rintro e w6 ⟨rfl, n6, rfl⟩
  rw [show (bl 5).length = 2 by decide +kernel]
  go_wp2_with fail
  go_at_call 11
  refine (within_calls 4 5 (by decide) (by decide) _).mono ?_
  rintro e w7 ⟨rfl, n7, rfl⟩
  rw [show decide (4 &&& (18446744073709551615 - 5) = 0) = true by decide +kernel]
  go_wp2_with fail
  go_at_call 16
  refine (with_calls 1 (by decide) 2 _).mono ?_
  rintro e w8 ⟨rfl, n8, rfl⟩
  rw [show (1 ||| sb 2 : Nat) = 5 by decide +kernel]
  go_wp2
  go_ret
  exact ⟨rfl, by repeat (first | (with_reducible first | exact hB | apply below_alloc | apply pw_below_drewN | apply below_drew1) | exact hB)⟩
end Go.Proofs.YtjlegibfeenglaaDoor
