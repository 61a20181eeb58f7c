import Derived.Test.YtoeioigpkfgppaaXBytes
import Derived.Test.YtoeioigpkfgppaaXFind
import Derived.Test.YtoeioigpkfgppaaXFuel
import Derived.Test.YtoeioigpkfgppaaXNamesPlain
import Derived.Test.YtoeioigpkfgppaaXTermPlain
import Derived.Test.YtoeioigpkfgppaaXVleval2
import Derived.Test.YtoeioigpkfgppaaXVo
import Derived.Test.YtoeioigpkfgppaaXVp2
import Derived.Test.YtoeioigpkfgppaaXVp4
import Derived.Test.YtoeioigpkfgppaaXVp5
import Derived.Test.YtoeioigpkfgppaaXVp6
import Derived.Test.YtoeioigpkfgppaaXVp9
namespace Go.Proofs.Ytoeioigpkfgppaa.XV
open Go.RowKit Go.Proofs.Ytoeioigpkfgppaa.XRead Go.Proofs.Ytoeioigpkfgppaa.XV Go.Proofs.YtoeioigpkfgppaaW.PrintWords Go.Proofs.YtoeioigpkfgppaaW.PrintLast Go.Proofs.YtoeioigpkfgppaaW.PrintMore
open Go.Proofs.Ytoeioigpkfgppaa.TermPlain Go.Proofs.Ytoeioigpkfgppaa.XFuel Go.Proofs.Ytoeioigpkfgppaa.XFind
set_option linter.unusedVariables false
set_option linter.unusedSimpArgs false
/-! ### why to nothing -/
def lacks (e : EnvT) (t : S47) : Bool := t.f0 == 2 && decide (plc e t.f2 < 0)
def chk7 (e : EnvT) (l : List (S47)) : Int := if (e.vs.length : Int) > 4 then 1 else if chk l = 0 then (if vI l MKt 0 = 0 then 4 else if l.any (lacks e) = true then 7 else 0) else chk l
theorem chk_zero {l : List (S47)} (h : chk l = 0) : l.length ≤ 40 ∧ E (aOf l) l.length 0 = some l.length ∧ (∀ x ∈ l, mayB x.f0 x.f1 x.f2 = true) ∧ vI l MKd 0 ≤ 12 := by
  unfold chk at h
  split at h
  · exact absurd h (by decide)
  · split at h
    · split at h
      · exact absurd h (by decide)
      · rename_i h40 hw hm
        split at h
        · exact absurd h (by decide)
        · refine ⟨by omega, hw, fun x hx => ?_, by omega⟩
          rw [Bool.not_eq_true, List.any_eq_false] at hm
          have := hm x hx
          simpa using this
    · exact absurd h (by decide)
theorem names_loop (l : List (S47)) (kind : Int) (hl : l.length ≤ 1000) : ∀ (d n : Nat) (acc : List ByteArray), l.length - n = d → n ≤ l.length → acc.length ≤ n →
    Ev (fun k => term_Names.l0 k kind acc l l.length n) (acc ++ ((l.drop n).filter (fun t => t.f0 == kind)).map (·.f2)) := by
  intro d
  induction d with
  | zero =>
    intro n acc hd hn ha
    have h1 : ¬ ((n : Int) < (l.length : Int)) := by omega
    apply Ev.succ
    simp only [term_Names.l0, h1, if_false]
    rw [List.drop_of_length_le (by omega)]
    refine Ev.const ?_
    simp
  | succ d ih =>
    intro n acc hd hn ha
    have h1 : (n : Int) < (l.length : Int) := by omega
    have h2 : (0 : Int) ≤ (n : Int) := by omega
    have h3 : acc.length < 8796093022208 := by omega
    have hg : n < l.length := by omega
    have hr : rd_T47 l (n : Int) = l[n] := by simp [rd_T47, hg]
    rw [List.drop_eq_getElem_cons hg]
    by_cases hk : (l[n]).f0 = kind
    · apply Ev.succ
      simp only [term_Names.l0, h1, h2, h3, hr, hk, if_true]
      rw [wrap_succ (by omega)]
      refine Ev.eq (ih (n + 1) (acc ++ [(l[n]).f2]) (by omega) (by omega) (by simp; omega)) ?_
      rw [List.filter_cons_of_pos (by simp [hk])]
      simp
    · apply Ev.succ
      simp only [term_Names.l0, h1, h2, hr, hk, if_true, if_false]
      rw [wrap_succ (by omega)]
      refine Ev.eq (ih (n + 1) acc (by omega) (by omega) (by omega)) ?_
      rw [List.filter_cons_of_neg (by simp [hk])]
theorem check7_prog (e : EnvT) (l : List (S47)) : Ev (fun k => eval_Check.f k l e.vs e.c1 e.c2 e.c3 e.c4 e.ins) (chk7 e l) := by
  unfold chk7
  simp only [eval_Check.f]
  by_cases hv : (e.vs.length : Int) > 4
  · simp only [hv, if_true]; exact Ev.now _
  · simp only [hv, if_false]
    refine Ev.bind (check_prog l) ?_
    by_cases hc : chk l = 0
    · obtain ⟨h40, hw, _⟩ := chk_zero hc
      simp only [hc, if_true]
      refine Ev.bind (Ev.eq (fold_prog l (MK := MKt) (mk := fun k op vs => term_typed.f k op vs) mk_type) (if_pos ⟨h40, hw⟩)) ?_
      by_cases ht : vI l MKt 0 = 0
      · simp only [ht, if_true]; exact Ev.now _
      · simp only [ht, if_false]
        have hn := names_loop l 2 (by omega) l.length 0 [] (by omega) (Nat.zero_le _) (Nat.le_refl _)
        rw [List.drop_zero, List.nil_append] at hn
        refine Ev.bind (f := fun k ns => if ns.length ≤ 9223372036854775807 then some (if ns.any (eval_Check.no e.vs) = true then (7 : Int) else 0) else none) hn ?_
        have hle : ((l.filter (fun t => t.f0 == 2)).map (·.f2)).length ≤ 9223372036854775807 := by
          rw [List.length_map]
          have := List.length_filter_le (fun t : S47 => t.f0 == 2) l
          omega
        have ha : (((l.filter (fun t => t.f0 == 2)).map (·.f2)).any (eval_Check.no e.vs)) = l.any (lacks e) := by
          rw [List.any_map, List.any_filter]
          rfl
        rw [if_pos hle, ha]
        exact Ev.now _
    · simp only [hc, if_false]; exact Ev.now _
theorem check7_loop (e : EnvT) (l : List (S47)) (hl : l.length ≤ 1000) (hv : e.vs.length ≤ 4) : ∀ (d n : Nat), l.length - n = d → n ≤ l.length →
    Ev (fun k => semblanceref07_Check.l0 k l n e.vs e.c1 e.c2 e.c3 e.c4 e.ins) (if (l.drop n).any (lacks e) = true then 7 else 0) := by
  intro d
  induction d with
  | zero =>
    intro n hd hn
    have h1 : ¬ ((n : Int) < (l.length : Int)) := by omega
    apply Ev.succ
    simp only [semblanceref07_Check.l0, h1, if_false]
    rw [List.drop_of_length_le (by omega)]
    exact Ev.now _
  | succ d ih =>
    intro n hd hn
    have h1 : (n : Int) < (l.length : Int) := by omega
    have h2 : (0 : Int) ≤ (n : Int) := by omega
    have hg : n < l.length := by omega
    have hr : rd_T47 l (n : Int) = l[n] := by simp [rd_T47, hg]
    rw [List.drop_eq_getElem_cons hg, List.any_cons]
    have hih := ih (n + 1) (by omega) (by omega)
    by_cases hk : (l[n]).f0 = 2
    · apply Ev.succ
      simp only [semblanceref07_Check.l0, h1, h2, hr, hk, if_true]
      refine Ev.bind (var_ref e _ (by omega)) ?_
      by_cases hp : plc e (l[n]).f2 < 0
      · simp only [hp, if_true]
        have : lacks e l[n] = true := by unfold lacks; simp [hk, hp]
        rw [this, Bool.true_or, if_pos rfl]
        exact Ev.now _
      · simp only [hp, if_false]
        have : lacks e l[n] = false := by unfold lacks; simp [hp]
        rw [this, Bool.false_or, wrap_succ (by omega)]
        exact hih
    · apply Ev.succ
      simp only [semblanceref07_Check.l0, h1, h2, hr, hk, if_true, if_false]
      have : lacks e l[n] = false := by unfold lacks; simp [hk]
      rw [this, Bool.false_or, wrap_succ (by omega)]
      exact hih
theorem check7_ref (e : EnvT) (l : List (S47)) : Ev (fun k => semblanceref07_Check.f k l e.vs e.c1 e.c2 e.c3 e.c4 e.ins) (chk7 e l) := by
  unfold chk7
  simp only [semblanceref07_Check.f]
  by_cases hv : (e.vs.length : Int) > 4
  · simp only [hv, if_true]; exact Ev.now _
  · simp only [hv, if_false]
    refine Ev.bind (check_ref l) ?_
    by_cases hc : chk l = 0
    · obtain ⟨h40, hw, _⟩ := chk_zero hc
      have hw0 := E_lt hw
      simp only [hc, if_true]
      refine Ev.bind (type_ref l h40 hw _ 0 (Nat.le_refl _) (by omega)) ?_
      by_cases ht : vI l MKt 0 = 0
      · simp only [ht, if_true]; exact Ev.now _
      · simp only [ht, if_false]
        have := check7_loop e l (by omega) (by omega) _ 0 rfl (Nat.zero_le _)
        rw [List.drop_zero] at this
        exact this
    · simp only [hc, if_false]; exact Ev.now _
/-- what comes to something is well made -/
theorem chk7_zero {e : EnvT} {l : List (S47)} (hi : e.ins.length ≤ 100000) (h : chk7 e l = 0) : OKE e l ∧ vI l MKt 0 ≠ 0 ∧ chk l = 0 ∧ l.any (lacks e) = false := by
  unfold chk7 at h
  split at h
  · exact absurd h (by decide)
  · rename_i hv
    split at h
    · rename_i hc
      split at h
      · exact absurd h (by decide)
      · rename_i ht
        split at h
        · exact absurd h (by decide)
        · rename_i hl
          obtain ⟨h40, hw, hm, _⟩ := chk_zero hc
          rw [Bool.not_eq_true] at hl
          have hrd : ∀ i : Nat, (hi : i < l.length) → rd_T47 l (i : Int) = l[i] := fun i hi => by simp [rd_T47, hi]
          refine ⟨⟨h40, hw, by omega, hi, fun i hil ho => ?_, fun i hil ho => ?_⟩, ht, hc, hl⟩
          · have h1 := hm _ (List.getElem_mem hil)
            have h2 : (l[i]).f0 = 1 := by rw [← hrd i hil]; exact ho
            rw [hrd i hil]
            unfold mayB at h1
            rw [if_pos h2] at h1
            simp only [Bool.and_eq_true, decide_eq_true_eq] at h1
            unfold In6
            omega
          · have h1 := List.any_eq_false.1 hl _ (List.getElem_mem hil)
            have h2 : (l[i]).f0 = 2 := by rw [← hrd i hil]; exact ho
            rw [hrd i hil]
            unfold lacks at h1
            simp only [h2, beq_self_eq_true, Bool.true_and, decide_eq_true_eq] at h1
            omega
    · exact absurd h (by assumption)
/-! ### the answers -/
def ans (e : EnvT) (l : List (S47)) : Int × Int := if chk7 e l = 0 then (vA e l 0, 0) else (0, chk7 e l)
theorem at_prog (e : EnvT) (l : List (S47)) (hi : e.ins.length ≤ 100000) : Ev (fun k => eval_At.f k l e.vs e.c1 e.c2 e.c3 e.c4 e.ins) (ans e l) := by
  simp only [eval_At.f]
  refine Ev.bind (check7_prog e l) ?_
  unfold ans
  by_cases hc : chk7 e l = 0
  · obtain ⟨H, hT, _⟩ := chk7_zero hi hc
    simp only [hc, if_true]
    simp only [show l.length ≤ 1000 from by have := H.len; omega, if_true]
    refine Ev.bind (fold_all_ev H hT) (Ev.const ?_)
    rfl
  · simp only [hc, if_false]; exact Ev.now _
def hld (e : EnvT) (l : List (S47)) : Bool := decide (l.length = 0 ∨ chk7 e l = 0 ∧ vI l MKt 0 = 2 ∧ vA e l 0 = 1)
theorem holds_prog (e : EnvT) (l : List (S47)) (hi : e.ins.length ≤ 100000) : Ev (fun k => eval_Holds.f k l e.vs e.c1 e.c2 e.c3 e.c4 e.ins) (hld e l) := by
  unfold hld
  simp only [eval_Holds.f]
  by_cases h0 : (l.length : Int) = 0
  · simp only [h0, if_true]
    refine Ev.const ?_
    rw [decide_eq_true (.inl (by omega))]
  · simp only [h0, if_false]
    refine Ev.bind (at_prog e l hi) ?_
    unfold ans
    by_cases hc : chk7 e l = 0
    · obtain ⟨H, hT, _⟩ := chk7_zero hi hc
      simp only [hc, if_true]
      by_cases hx : vA e l 0 = 1
      · simp only [hx, if_true]
        refine Ev.bind (Ev.eq (fold_prog l (MK := MKt) (mk := fun k op vs => term_typed.f k op vs) mk_type) (if_pos ⟨H.len, H.whole⟩)) (Ev.const ?_)
        congr 1
        rw [Bool.eq_iff_iff, beq_iff_eq, decide_eq_true_eq]
        constructor
        · intro h; exact .inr ⟨trivial, h, trivial⟩
        · rintro (h | h)
          · omega
          · exact h.2.1
      · simp only [hx, if_false]
        refine Ev.const ?_
        rw [decide_eq_false]
        rintro (h | h)
        · omega
        · exact absurd h.2.2 (by simp)
    · simp only [hc, if_false]
      refine Ev.const ?_
      rw [decide_eq_false]
      rintro (h | h)
      · omega
      · exact absurd h.1 (by simp)
theorem holds_ref (e : EnvT) (l : List (S47)) (hi : e.ins.length ≤ 100000) : Ev (fun k => semblanceref07_Holds.f k l e.vs e.c1 e.c2 e.c3 e.c4 e.ins) (hld e l) := by
  unfold hld
  simp only [semblanceref07_Holds.f]
  by_cases h0 : (l.length : Int) = 0
  · simp only [h0, if_true]
    refine Ev.const ?_
    rw [decide_eq_true (.inl (by omega))]
  · simp only [h0, if_false]
    refine Ev.bind (check7_ref e l) ?_
    by_cases hc : chk7 e l = 0
    · obtain ⟨H, hT, _⟩ := chk7_zero hi hc
      have hw0 := E_lt H.whole
      simp only [hc, if_true]
      refine Ev.bind (type_ref l H.len H.whole _ 0 (Nat.le_refl _) (by omega)) ?_
      by_cases ht : vI l MKt 0 = 2
      · simp only [ht, if_true]
        refine Ev.bind (at_ref H _ 0 (Nat.le_refl _) (by omega)) (Ev.const ?_)
        congr 1
        rw [Bool.eq_iff_iff, beq_iff_eq, decide_eq_true_eq]
        constructor
        · intro h; exact .inr ⟨trivial, trivial, h⟩
        · rintro (h | h)
          · omega
          · exact h.2.2
      · simp only [ht, if_false]
        refine Ev.const ?_
        rw [decide_eq_false]
        rintro (h | h)
        · omega
        · exact absurd h.2.1 (by simp)
    · simp only [hc, if_false]
      refine Ev.const ?_
      rw [decide_eq_false]
      rintro (h | h)
      · omega
      · exact absurd h.1 (by simp)
/-! ### the guard -/
theorem light_l2 (e : EnvT) (hv : e.vs.length ≤ 20) : ∀ (d n : Nat), e.vs.length - n = d → n ≤ e.vs.length → ∃ b, Ev (fun k => semblancelaw07_Light.l2 k n e.vs e.c1 e.c2 e.c3 e.c4 e.ins) b := by
  intro d
  induction d with
  | zero =>
    intro n hd hn
    have h1 : ¬ ((n : Int) < (e.vs.length : Int)) := by omega
    refine ⟨true, Ev.succ ?_⟩
    simp only [semblancelaw07_Light.l2, h1, if_false]
    exact Ev.now _
  | succ d ih =>
    intro n hd hn
    have h1 : (n : Int) < (e.vs.length : Int) := by omega
    have h2 : (0 : Int) ≤ (n : Int) := by omega
    by_cases h3 : (((rd_T51 e.vs (n : Int)).f0).size : Int) > 100
    · refine ⟨false, Ev.succ ?_⟩
      simp only [semblancelaw07_Light.l2, h1, h2, h3, if_true]
      exact Ev.now _
    · obtain ⟨b, hb⟩ := ih (n + 1) (by omega) (by omega)
      refine ⟨b, Ev.succ ?_⟩
      simp only [semblancelaw07_Light.l2, h1, h2, h3, if_true, if_false]
      rw [wrap_succ (by omega)]
      exact hb
theorem light_l1 (e : EnvT) (hv : e.vs.length ≤ 20) (hi : e.ins.length ≤ 80) : ∀ (d n : Nat), e.ins.length - n = d → n ≤ e.ins.length → ∃ b, Ev (fun k => semblancelaw07_Light.l1 k n e.vs e.c1 e.c2 e.c3 e.c4 e.ins) b := by
  intro d
  induction d with
  | zero =>
    intro n hd hn
    have h1 : ¬ ((n : Int) < (e.ins.length : Int)) := by omega
    obtain ⟨b, hb⟩ := light_l2 e hv _ 0 rfl (Nat.zero_le _)
    refine ⟨b, Ev.succ ?_⟩
    simp only [semblancelaw07_Light.l1, h1, if_false]
    exact hb
  | succ d ih =>
    intro n hd hn
    have h1 : (n : Int) < (e.ins.length : Int) := by omega
    have h2 : (0 : Int) ≤ (n : Int) := by omega
    by_cases h3 : ((rdOf ByteArray.empty e.ins (n : Int)).size : Int) > 100
    · refine ⟨false, Ev.succ ?_⟩
      simp only [semblancelaw07_Light.l1, h1, h2, h3, if_true]
      exact Ev.now _
    · obtain ⟨b, hb⟩ := ih (n + 1) (by omega) (by omega)
      refine ⟨b, Ev.succ ?_⟩
      simp only [semblancelaw07_Light.l1, h1, h2, h3, if_true, if_false]
      rw [wrap_succ (by omega)]
      exact hb
theorem light_l0 (e : EnvT) (l : List (S47)) (hl : l.length ≤ 60) (hv : e.vs.length ≤ 20) (hi : e.ins.length ≤ 80) : ∀ (d n : Nat), l.length - n = d → n ≤ l.length → ∃ b, Ev (fun k => semblancelaw07_Light.l0 k l n e.vs e.c1 e.c2 e.c3 e.c4 e.ins) b := by
  intro d
  induction d with
  | zero =>
    intro n hd hn
    have h1 : ¬ ((n : Int) < (l.length : Int)) := by omega
    obtain ⟨b, hb⟩ := light_l1 e hv hi _ 0 rfl (Nat.zero_le _)
    refine ⟨b, Ev.succ ?_⟩
    simp only [semblancelaw07_Light.l0, h1, if_false]
    exact hb
  | succ d ih =>
    intro n hd hn
    have h1 : (n : Int) < (l.length : Int) := by omega
    have h2 : (0 : Int) ≤ (n : Int) := by omega
    by_cases h3 : (((rd_T47 l (n : Int)).f2).size : Int) > 100
    · refine ⟨false, Ev.succ ?_⟩
      simp only [semblancelaw07_Light.l0, h1, h2, h3, if_true]
      exact Ev.now _
    · obtain ⟨b, hb⟩ := ih (n + 1) (by omega) (by omega)
      refine ⟨b, Ev.succ ?_⟩
      simp only [semblancelaw07_Light.l0, h1, h2, h3, if_true, if_false]
      rw [wrap_succ (by omega)]
      exact hb
theorem light07_ev (e : EnvT) (l : List (S47)) : ∃ b, Ev (fun k => semblancelaw07_Light.f k l e.vs e.c1 e.c2 e.c3 e.c4 e.ins) b ∧ (b = true → l.length ≤ 60 ∧ e.ins.length ≤ 100000) := by
  simp only [semblancelaw07_Light.f]
  have j0 : Ev (fun k => semblancelaw07_Light.j0 k l true e.vs e.c1 e.c2 e.c3 e.c4 e.ins) false := by
    apply Ev.succ
    simp only [semblancelaw07_Light.j0, if_true]
    exact Ev.now _
  by_cases h1 : (l.length : Int) > 60
  · simp only [h1, if_true]; exact ⟨false, j0, fun h => by cases h⟩
  · simp only [h1, if_false]
    by_cases h2 : (e.vs.length : Int) > 20
    · simp only [h2, if_true]; exact ⟨false, j0, fun h => by cases h⟩
    · simp only [h2, if_false]
      by_cases h3 : (e.ins.length : Int) > 80
      · simp only [h3, decide_true]; exact ⟨false, j0, fun h => by cases h⟩
      · simp only [h3, decide_false]
        obtain ⟨b, hb⟩ := light_l0 e l (by omega) (by omega) (by omega) _ 0 rfl (Nat.zero_le _)
        refine ⟨b, ?_, fun _ => ⟨by omega, by omega⟩⟩
        apply Ev.succ
        simp only [semblancelaw07_Light.j0, Bool.false_eq_true, if_false]
        exact hb
theorem awake07_ev : Ev (fun k => semblancelaw07_awake.f k) true := Ev.of (fun k => semblancelaw07_awake.mono k) (k := 60) (by decide +kernel)

end Go.Proofs.Ytoeioigpkfgppaa.XV
