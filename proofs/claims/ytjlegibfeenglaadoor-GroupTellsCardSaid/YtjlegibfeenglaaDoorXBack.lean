/-
  GroupBack: its walk.
-/
import Derived.Test.YtjlegibfeenglaaDoorXOf
namespace Go.Proofs.YtjlegibfeenglaaDoor
open Go Go.RowKit Go.Proofs.YtjlegibfeenglaaDoor.XB Go.Proofs.YtjlegibfeenglaaDoor.XFuel Go.Proofs.YtjlegibfeenglaaDoorW.PrintWords
set_option linter.unusedVariables false
set_option linter.unusedSimpArgs false

theorem all_take (l : List Int) (p : Int → Bool) (n : Nat) (hn : n < l.length) : (l.take (n + 1)).all p = ((l.take n).all p && p (l[n])) := by
  rw [List.take_add_one, List.getElem?_eq_getElem hn, List.all_append]; simp
theorem and_in (a b : Nat) (ha : a < 18446744073709551616) (hb : b < 18446744073709551616) : (a &&& b) &&& (18446744073709551615 - b) = 0 := by
  rw [within_all _ _ (Nat.lt_of_le_of_lt Nat.and_le_left ha) hb]
  intro x hx
  rw [mem_ints] at hx
  simp only [hs, Nat.testBit_and, Bool.and_eq_true] at hx ⊢
  exact ⟨hx.1, hx.2.2⟩
theorem in_or (a b : Nat) (ha : a < 18446744073709551616) (hb : b < 18446744073709551616) : a &&& (18446744073709551615 - (a ||| b)) = 0 := by
  rw [within_all _ _ ha (or_lt64 ha hb)]
  intro x hx
  rw [mem_ints] at hx
  simp only [hs, Nat.testBit_or, Bool.and_eq_true, Bool.or_eq_true] at hx ⊢
  exact ⟨hx.1, .inl hx.2⟩
theorem back_within (a b : Nat) (ha : a < 18446744073709551616) (hb : b < 18446744073709551616) : decide (a &&& (18446744073709551615 - b) = 0) = (ints a).all (hs b) := by
  apply Bool.eq_iff_iff.2
  rw [decide_eq_true_eq, within_all a b ha hb, List.all_eq_true]
theorem ints_len (m : Nat) : (ints m).length ≤ 64 := by
  have := bl_len m
  simpa [ints] using this

set_option maxRecDepth 100000 in
set_option maxHeartbeats 4000000 in
theorem back_calls (a b : Nat) (ha : a < 18446744073709551616) (hb : b < 18446744073709551616) (A0 : Option Addr) (c0 : Nat) (l : List Int) (w : World) (hT : Tab w) (h0 : 0 < w.heap.size)
    (hC : Kd.C (Kd.int .i64) w A0 l.length l) (hc0 : l.length ≤ c0) :
    Calls Tryd.prog 3 #[.int .u64 a, .int .u64 b, .slice A0 l.length c0] w fun e w' => e = .returned (.bool true) ∧ Below w.heap.size w w' := by
  have HC := Aside0.mk hC
  clear hC
  by_cases hlen : (l.length : Int) > 100
  · have hlt : decide ((l.length : Int) > 100) = true := decide_eq_true hlen
    go_enter Tryd.func3, Tryd.ntmps3
    go_wp2_with fail
    go_at_call 5
    refine (awake_calls w hT h0).mono ?_
    rintro e w1 ⟨rfl, hB⟩
    go_wp2
    go_ret
    exact ⟨rfl, hB⟩
  have hlt : decide ((l.length : Int) > 100) = false := decide_eq_false hlen
  have hl : l.length ≤ 9223372036854775807 := by omega
  go_enter Tryd.func3, Tryd.ntmps3
  go_wp2_with fail
  go_at_call 6
  refine (of_calls l hl A0 c0 _ HC.out hc0).mono ?_
  rintro e w1 ⟨rfl, n1, hw1⟩
  have hB1 : Below w.heap.size w w1 := Drawn0.below ⟨⟨n1, hw1⟩⟩
  clear hw1
  have hT1 := hT.below hB1 h0
  have h01 : 0 < w1.heap.size := Nat.lt_of_lt_of_le h0 hB1.size
  go_wp2_with fail
  go_at_call 7
  refine (list_calls a ha w1 hT1 h01).mono ?_
  rintro e w2 ⟨v, rfl, hR, hB2⟩
  obtain ⟨A, c, rfl, hcl, hC2⟩ := Kd.R_reads hR
  clear hR
  have hB02 : Below w.heap.size w w2 := hB1.trans (hB2.mono hB1.size)
  have hal : (ints a).length ≤ 9223372036854775807 := Nat.le_trans (ints_len a) (by decide)
  go_wp2_with fail
  go_at_call 6
  refine (of_calls (ints a) hal A c w2 hC2 hcl).mono ?_
  rintro e w3 ⟨rfl, n3, hw3⟩
  have hB3 : Below w.heap.size w w3 := hB02.trans ((Drawn0.below ⟨⟨n3, hw3⟩⟩).mono hB02.size)
  clear hw3 hB2 hC2 hT1 h01
  rw [U_ints a ha]
  have hne : ((a : Int) != (a : Int)) = false := by simp
  go_wp2_with fail
  go_at_call 8
  refine (refOf_calls l hl A0 c0 w3 (Kd.C_below HC.out hB3) hc0).mono ?_
  rintro e w4 ⟨rfl, n4, hw4⟩
  have hB4 : Below w.heap.size w w4 := hB3.trans ((Drawn0.below ⟨⟨n4, hw4⟩⟩).mono hB3.size)
  clear hw4 hne
  have hne : (((U l : Nat) : Int) != ((U l : Nat) : Int)) = false := by simp
  go_wp2_with fail
  go_at_call 9
  refine (refList_calls a ha w4).mono ?_
  rintro e w5 ⟨v5, rfl, hR5, hB5⟩
  obtain ⟨A5, c5, rfl, hcl5, hC5⟩ := Kd.R_reads hR5
  have hB05 : Below w.heap.size w w5 := hB4.trans (hB5.mono hB4.size)
  clear hR5 hne hB5
  have HC5 := Aside0.mk hC5
  clear hC5
  go_wp2
  go_loopg [8, 10] (ints a).length (fun kq v8 v10 wr => ∃ n : Nat, Aside0 (n ≤ (ints a).length) ∧ Aside0 ((ints a).length - n = kq) ∧ v8 = .bool (((ints a).take n).all (hs b)) ∧ v10 = .int .i64 (n : Int) ∧ Aside0 (Below w.heap.size w wr) ∧ Aside0 (Below w5.heap.size w5 wr))
  case atStart => exact ⟨0, ⟨Nat.zero_le _⟩, ⟨by omega⟩, rfl, rfl, ⟨hB05⟩, ⟨Below.refl _ _⟩⟩
  case round =>
    obtain ⟨n, HN, HK, rfl, rfl, HB, HB5⟩ := hrel
    by_cases hlt : n < (ints a).length
    · have hlt' : decide ((n : Int) < ((ints a).length : Int)) = true := decide_eq_true (by omega)
      have hC := Kd.C_below HC5.out HB5.out
      obtain ⟨ad, e1, hx0⟩ := Kd.at_int hC (n : Int) (by omega) (by omega)
      subst e1
      rw [Int.toNat_natCast, rd_at hlt] at hx0
      generalize hy : (ints a)[n] = y at hx0
      have HY := Aside0.mk hy
      clear hy hC
      cases hq : ((ints a).take n).all (hs b) with
      | true =>
        have HQ := Aside0.mk hq
        clear hq
        go_wp2_with fail
        go_at_call 10
        refine (refHas_calls b hb y wr).mono ?_
        rintro e w6 ⟨rfl, n6, hw6⟩
        have hB6 := Drawn0.below ⟨⟨n6, hw6⟩⟩
        clear hw6
        go_wp2
        go_roundg ((ints a).length - (n + 1))
        case measure => have := HK.out; omega
        case rel =>
          refine ⟨n + 1, ⟨hlt⟩, ⟨rfl⟩, ?_, by go_num, ⟨HB.out.trans (hB6.mono HB.out.size)⟩, ⟨HB5.out.trans (hB6.mono HB5.out.size)⟩⟩
          rw [all_take _ _ _ hlt, HQ.out, HY.out]; rfl
      | false =>
        have HQ := Aside0.mk hq
        clear hq
        go_wp2
        go_roundg ((ints a).length - (n + 1))
        case measure => have := HK.out; omega
        case rel =>
          refine ⟨n + 1, ⟨hlt⟩, ⟨rfl⟩, ?_, by go_num, ⟨HB.out⟩, ⟨HB5.out⟩⟩
          rw [all_take _ _ _ hlt, HQ.out]; rfl
    · have hlt' : decide ((n : Int) < ((ints a).length : Int)) = false := decide_eq_false (by omega)
      have hn : n = (ints a).length := by have := HN.out; omega
      subst hn
      rw [List.take_length]
      have hbw := back_within a b ha hb
      have hab := bits_and_u64_nat a b ha hb
      have hob := bits_or_u64_nat a b ha hb
      go_wp2_with fail
      go_at_call 11
      refine (within_calls a b ha hb wr).mono ?_
      rintro e w6 ⟨rfl, n6, hw6⟩
      rw [hbw]
      have hB6 : Below w.heap.size w w6 := HB.out.trans ((Drawn0.below ⟨⟨n6, hw6⟩⟩).mono HB.out.size)
      clear hw6
      have heq : ((ints a).all (hs b) == (ints a).all (hs b)) = true := by simp
      generalize (ints a).all (hs b) = q at heq
      go_wp2_with fail
      go_at_call 11
      refine (within_calls (a &&& b) b (Nat.lt_of_le_of_lt Nat.and_le_left ha) hb w6).mono ?_
      rintro e w7 ⟨rfl, n7, hw7⟩
      rw [decide_eq_true (and_in a b ha hb)]
      have hB7 : Below w.heap.size w w7 := hB6.trans ((Drawn0.below ⟨⟨n7, hw7⟩⟩).mono hB6.size)
      clear hw7
      go_wp2_with fail
      go_at_call 11
      refine (within_calls a (a ||| b) ha (or_lt64 ha hb) w7).mono ?_
      rintro e w8 ⟨rfl, n8, hw8⟩
      rw [decide_eq_true (in_or a b ha hb)]
      have hB8 : Below w.heap.size w w8 := hB7.trans ((Drawn0.below ⟨⟨n8, hw8⟩⟩).mono hB7.size)
      clear hw8
      go_wp2_with fail
      go_at_call 5
      refine (awake_calls w8 (hT.below hB8 h0) (Nat.lt_of_lt_of_le h0 hB8.size)).mono ?_
      rintro e w9 ⟨rfl, hB9⟩
      go_wp2
      go_ret
      exact ⟨rfl, hB8.trans (hB9.mono hB8.size)⟩
end Go.Proofs.YtjlegibfeenglaaDoor
