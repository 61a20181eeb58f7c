-- written by wip/xprint.py out of the translation
import Derived.Test.YtfpmbognpacidaaXMp0
import Derived.Test.YtfpmbognpacidaaXMp1
import Derived.Test.YtfpmbognpacidaaXMp2
import Derived.Test.YtfpmbognpacidaaXMp6
import Derived.Test.YtfpmbognpacidaaXMp7
import Derived.Test.YtfpmbognpacidaaXMp8
import Derived.Test.YtfpmbognpacidaaXMp9
namespace Go.Proofs.Ytfpmbognpacidaa.XM
open Go.RowKit Go.Proofs.YtfpmbognpacidaaW.PrintWords Go.Proofs.YtfpmbognpacidaaW.PrintLast Go.Proofs.YtfpmbognpacidaaW.PrintMore
attribute [local go_sem] max2_int min2_int max_two min_two max_three min_three max_four min_four   -- for this text's walks alone
set_option linter.unusedVariables false
set_option linter.unusedSimpArgs false

/-! ### semblancelaw02_NamesIs: function 7 -/
-- USES semblance/semblancelaw02.awake
-- USES semblance/semblanceref02.Keywords
-- USES semblance/semblanceref02.Place
-- USES semblance/semblanceref02.Is
-- USES semblance/names.Is
-- USES semblance/names.Keyword
def semblancelaw02_NamesIs.f (k : Nat) (a0 : ByteArray) : Option Bool :=
  if 1000 < a0.size then (if semblancelaw02_awake.f k = some true then some true else none) else semblanceref02_Keywords.f.bind fun l => (semblanceref02_Place.f k l a0).bind fun p => (names_Is.f k a0).bind fun i1 => (semblanceref02_Is.f k a0).bind fun i2 => (names_Keyword.f k a0).bind fun kw =>
    if i1 = i2 ∧ kw = decide (0 ≤ p) ∧ ¬ (i1 = true ∧ kw = true) ∧ semblancelaw02_awake.f k = some true then some true else none
set_option maxHeartbeats 2000000 in
theorem semblancelaw02_NamesIs.calls (k : Nat) (a0 : ByteArray) (r : Bool) (w : World) (h : semblancelaw02_NamesIs.f k a0 = some r) :
    Calls Try.prog 7 #[.string a0] w fun e w' => e = .returned (.bool r) ∧ Below w.heap.size w w' := by
  unfold semblancelaw02_NamesIs.f at h
  by_cases h0 : 1000 < a0.size
  · rw [if_pos h0] at h
    split at h
    case isFalse => cases h
    case isTrue ha =>
    obtain rfl : true = r := Option.some.inj h
    have HA := Aside0.mk ha
    have c1 : decide (1000 < a0.size) = true := decide_eq_true h0
    have c2 : decide ((1000 : Int) < (a0.size : Int)) = true := decide_eq_true (by omega)
    clear ha h
    go_enter Try.func7, Try.ntmps7
    go_wp2_with (go_at_call 29; refine (semblancelaw02_awake.calls k true _ HA.out).mono ?_; rintro e w' ⟨rfl, hb⟩)
    go_ret
    exact ⟨rfl, hb⟩
  · rw [if_neg h0] at h
    obtain ⟨l, hl, h1⟩ := Option.bind_eq_some_iff.mp h
    obtain ⟨p, hp, h2⟩ := Option.bind_eq_some_iff.mp h1
    obtain ⟨i1, hi1, h3⟩ := Option.bind_eq_some_iff.mp h2
    obtain ⟨i2, hi2, h4⟩ := Option.bind_eq_some_iff.mp h3
    obtain ⟨kw, hkw, h5⟩ := Option.bind_eq_some_iff.mp h4
    clear h h1 h2 h3 h4
    split at h5
    case isFalse => cases h5
    case isTrue hc =>
    obtain ⟨rfl, hk2, hnot, ha⟩ := hc
    obtain rfl : true = r := Option.some.inj h5
    have HL := Aside0.mk hl
    have HP := Aside0.mk hp
    have HI1 := Aside0.mk hi1
    have HI2 := Aside0.mk hi2
    have HKW := Aside0.mk hkw
    have HA := Aside0.mk ha
    have c1 : decide (1000 < a0.size) = false := decide_eq_false h0
    have c2 : decide ((1000 : Int) < (a0.size : Int)) = false := decide_eq_false (by omega)
    have c3 : decide (0 ≤ p) = kw := hk2.symm
    clear hl hp hi1 hi2 hkw ha h5 hk2
    cases i1 <;> cases kw
    case true.true => exact absurd ⟨rfl, rfl⟩ hnot
    all_goals
      clear hnot
      go_enter Try.func7, Try.ntmps7
      go_wp2_with fail
      refine (semblanceref02_Keywords.calls l _ HL.out).mono ?_
      rintro e w1 ⟨vl, rfl, ho, hb⟩
      obtain ⟨Al, cl, rfl, hll, hCl⟩ := Kd.R_reads ho
      have HB1 := Aside0.mk hb
      have HCL := Aside0.mk hCl
      clear ho hCl hb
      go_wp2_with fail
      refine (semblanceref02_Place.calls k Al cl l a0 p _ HCL.out hll HP.out).mono ?_
      rintro e w2 ⟨rfl, ⟨m, rfl⟩⟩
      have HB2 := Aside0.mk (pw_below_drewN HB1.out m)
      clear HB1 HCL
      go_wp2_with fail
      refine (names_Is.calls k a0 _ _ HI1.out).mono ?_
      rintro e w3 ⟨rfl, hb⟩
      have HB3 := Aside0.mk (below_then HB2.out HB2.out.size hb)
      clear hb HB2
      go_wp2_with fail
      refine (semblanceref02_Is.calls k a0 _ _ HI2.out).mono ?_
      rintro e w4 ⟨rfl, hb⟩
      have HB4 := Aside0.mk (below_then HB3.out HB3.out.size hb)
      clear hb HB3
      go_wp2_with fail
      refine (names_Keyword.calls k a0 _ _ HKW.out).mono ?_
      rintro e w5 ⟨rfl, hb⟩
      have HB5 := Aside0.mk (below_then HB4.out HB4.out.size hb.below)
      clear hb HB4
      go_wp2_with fail
      refine (names_Is.calls k a0 _ _ HI1.out).mono ?_
      rintro e w6 ⟨rfl, hb⟩
      have HB6 := Aside0.mk (below_then HB5.out HB5.out.size hb)
      clear hb HB5
      go_wp2_with (first | (go_at_call 34; refine (names_Keyword.calls k a0 _ _ HKW.out).mono ?_; rintro e w7 ⟨rfl, hb⟩; have n_ := Aside0.mk (below_then HB6.out HB6.out.size hb.below); clear HB6 hb; have HB6 := n_; clear n_) | (go_at_call 29; refine (semblancelaw02_awake.calls k true _ HA.out).mono ?_; rintro e w' ⟨rfl, hb⟩))
      go_ret
      exact ⟨rfl, below_then HB6.out HB6.out.size hb⟩


end Go.Proofs.Ytfpmbognpacidaa.XM
