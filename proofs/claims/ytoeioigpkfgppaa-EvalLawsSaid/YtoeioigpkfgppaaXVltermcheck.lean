import Derived.Test.YtoeioigpkfgppaaXBytes
import Derived.Test.YtoeioigpkfgppaaXFind
import Derived.Test.YtoeioigpkfgppaaXFuel
import Derived.Test.YtoeioigpkfgppaaXTermPlain
import Derived.Test.YtoeioigpkfgppaaXVlnames
import Derived.Test.YtoeioigpkfgppaaXVlterm
import Derived.Test.YtoeioigpkfgppaaXVltermfold
import Derived.Test.YtoeioigpkfgppaaXVo
import Derived.Test.YtoeioigpkfgppaaXVp3
import Derived.Test.YtoeioigpkfgppaaXVp4
import Derived.Test.YtoeioigpkfgppaaXVp8
namespace Go.Proofs.Ytoeioigpkfgppaa.XV
open Go.RowKit Go.Proofs.Ytoeioigpkfgppaa.XRead Go.Proofs.Ytoeioigpkfgppaa.XV Go.Proofs.YtoeioigpkfgppaaW.PrintWords Go.Proofs.YtoeioigpkfgppaaW.PrintLast Go.Proofs.YtoeioigpkfgppaaW.PrintMore
open Go.Proofs.Ytoeioigpkfgppaa.TermPlain Go.Proofs.Ytoeioigpkfgppaa.XFuel
set_option linter.unusedVariables false
set_option linter.unusedSimpArgs false
/-! ### the check -/
def mayB (op a : Int) (s : ByteArray) : Bool := if op = 1 then (decide (0 ≤ a) && decide (a ≤ 1000000) && decide (s.size = 0)) else a == 0 && (if op = 2 ∨ op = 11 then isN s else decide (s.size = 0))
theorem toList_nil (s : ByteArray) : (s.toList == ([] : List UInt8)) = decide (s.size = 0) := by
  rw [Bool.eq_iff_iff, beq_iff_eq, decide_eq_true_eq]
  have := Go.Proofs.Ytoeioigpkfgppaa.XBytes.tl_length s
  constructor
  · intro h; rw [h] at this; simpa using this.symm
  · intro h; rw [h] at this; exact List.eq_nil_of_length_eq_zero this
theorem may_prog (op a : Int) (s : ByteArray) : Ev (fun k => term_may.f k op a s) (mayB op a s) := by
  simp only [term_may.f, toList_nil]
  unfold mayB
  by_cases h1 : op = 1
  · simp only [h1, if_true]
    refine Ev.const ?_
    by_cases ha : a ≥ 0
    · by_cases hb : a ≤ 1000000
      · simp [ha, hb]
      · simp [ha, hb]
    · simp [ha]
  · by_cases h2 : op = 2
    · subst h2
      simp only [show ¬ ((2 : Int) = 1) by decide, if_true, if_false, true_or]
      by_cases ha : a = 0
      · simp only [ha, if_true]
        refine Ev.bind (is_prog s) (Ev.const ?_)
        simp
      · simp only [ha, if_false]
        refine Ev.const ?_
        simp [ha]
    · by_cases h11 : op = 11
      · subst h11
        simp only [show ¬ ((11 : Int) = 1) by decide, show ¬ ((11 : Int) = 2) by decide, if_true, if_false, or_true]
        by_cases ha : a = 0
        · simp only [ha, if_true]
          refine Ev.bind (is_prog s) (Ev.const ?_)
          simp
        · simp only [ha, if_false]
          refine Ev.const ?_
          simp [ha]
      · simp only [h1, h2, h11, if_false, or_self]
        exact Ev.now _
theorem may_ref (op a : Int) (s : ByteArray) (ho : 1 ≤ op ∧ op ≤ 20) : Ev (fun k => semblanceref05_May.f k op a s) (mayB op a s) := by
  have j0 : ∀ b : Bool, Ev (fun k => semblanceref05_May.j0 k b op a s) (if b = true then false else if op = 2 ∨ op = 11 then isN s else decide (s.size = 0)) := by
    intro b
    apply Ev.succ
    cases b with
    | true => simp only [semblanceref05_May.j0, if_true]; exact Ev.now _
    | false =>
      simp only [semblanceref05_May.j0, Bool.false_eq_true, if_false]
      by_cases h2 : op = 2
      · simp only [h2, if_true, true_or]
        exact Ev.bind (is_ref s) (Ev.now _)
      · by_cases h11 : op = 11
        · simp only [h2, h11, if_true, if_false, or_true]
          exact Ev.bind (is_ref s) (Ev.now _)
        · simp only [h2, h11, if_false, or_self]
          refine Ev.const ?_
          congr 1
          rw [Bool.eq_iff_iff, beq_iff_eq, decide_eq_true_eq]
          omega
  simp only [semblanceref05_May.f, show ¬ op < 1 by omega, show ¬ op > 20 by omega, if_false]
  unfold mayB
  by_cases h1 : op = 1
  · rw [if_pos h1]
    have h3 : ¬ (op = 2 ∨ op = 11) := by omega
    simp only [h1, if_true]
    rw [← h1]
    by_cases ha : a < 0
    · simp only [ha, if_true]
      refine Ev.eq (j0 true) ?_
      simp; omega
    · simp only [ha, if_false]
      refine Ev.eq (j0 _) ?_
      rw [if_neg h3]
      by_cases hb : a > 1000000
      · simp only [hb, decide_true, if_true]
        rw [show decide (a ≤ 1000000) = false by simp; omega, Bool.and_false, Bool.false_and]
      · simp only [hb, decide_false, Bool.false_eq_true, if_false]
        rw [show decide (a ≤ 1000000) = true by simp; omega, show decide (0 ≤ a) = true by simp; omega, Bool.true_and, Bool.true_and]
  · rw [if_neg h1]
    simp only [h1, if_false]
    by_cases ha : a = 0
    · simp only [ha, if_true, show ¬ ((0 : Int) < 0) by decide, if_false]
      rw [← ha]
      refine Ev.eq (j0 _) ?_
      simp [ha]
    · simp only [ha, if_false]
      refine Ev.eq (j0 true) ?_
      simp [ha]
def chk (l : List (S47)) : Int := if 40 < l.length then 8 else if E (aOf l) l.length 0 = some l.length then (if l.any (fun x => !mayB x.f0 x.f1 x.f2) = true then 1 else if 12 < vI l MKd 0 then 6 else 0) else 1
theorem mapM_ev {α β : Type} {f : Nat → α → Option β} {g : α → β} (hmono : ∀ x k, LeO (f k x) (f (k + 1) x)) : ∀ (l : List α), (∀ x ∈ l, Ev (fun k => f k x) (g x)) → Ev (fun k => l.mapM (f k)) (l.map g) := by
  intro l h
  have key : ∃ K, ∀ k, K ≤ k → ∀ x ∈ l, f k x = some (g x) := by
    clear hmono
    induction l with
    | nil => exact ⟨0, fun _ _ _ hx => by cases hx⟩
    | cons y l ih =>
      obtain ⟨K, hK⟩ := ih (fun x hx => h x (List.mem_cons_of_mem _ hx))
      obtain ⟨L, hL⟩ := h y List.mem_cons_self
      refine ⟨max K L, fun k hk x hx => ?_⟩
      rcases List.mem_cons.1 hx with rfl | hx
      · exact hL k (by omega)
      · exact hK k (by omega) x hx
  obtain ⟨K, hK⟩ := key
  exact ⟨K, fun k hk => Go.Proofs.Ytoeioigpkfgppaa.XFind.mapM_of (hK k hk)⟩
theorem check_prog (l : List (S47)) : Ev (fun k => term_Check.f k l) (chk l) := by
  unfold chk
  simp only [term_Check.f]
  by_cases h40 : 40 < l.length
  · simp only [h40, if_true]; exact Ev.now _
  · simp only [h40, if_false]
    refine Ev.bind (whole_prog l) ?_
    by_cases hw : E (aOf l) l.length 0 = some l.length
    · have hd : decide (l.length ≤ 40 ∧ E (aOf l) l.length 0 = some l.length) = true := decide_eq_true ⟨by omega, hw⟩
      rw [if_pos hw]
      simp only [hd, if_true]
      refine Ev.bind (mapM_ev (f := fun k x => term_may.f k x.f0 x.f1 x.f2) (g := fun x => mayB x.f0 x.f1 x.f2) (fun x k => term_may.mono _ _ _ k) l (fun x _ => may_prog _ _ _)) ?_
      have ha : (l.map fun x => mayB x.f0 x.f1 x.f2).any (fun b => !b) = l.any fun x => !mayB x.f0 x.f1 x.f2 := by rw [List.any_map]; rfl
      rw [ha]
      by_cases hm : l.any (fun x => !mayB x.f0 x.f1 x.f2) = true
      · simp only [hm, if_true]; exact Ev.now _
      · simp only [hm, if_false]
        refine Ev.bind (Ev.eq (fold_prog l mk_depth) (if_pos ⟨by omega, hw⟩)) ?_
        refine Ev.const ?_
        split <;> rfl
    · have hd : decide (l.length ≤ 40 ∧ E (aOf l) l.length 0 = some l.length) = false := decide_eq_false (fun h => hw h.2)
      rw [if_neg hw]
      simp only [hd, Bool.false_eq_true, if_false]
      exact Ev.now _
theorem check_loop (l : List (S47)) (hl : l.length ≤ 40) (hw : E (aOf l) l.length 0 = some l.length) : ∀ (d n : Nat), l.length - n = d → n ≤ l.length →
    Ev (fun k => semblanceref05_Check.l0 k l n) (if (l.drop n).any (fun x => !mayB x.f0 x.f1 x.f2) = true then 1 else if 12 < vI l MKd 0 then 6 else 0) := by
  have h0 := E_lt hw
  intro d
  induction d with
  | zero =>
    intro n hd hn
    apply Ev.succ
    simp only [semblanceref05_Check.l0, show ¬ ((n : Int) < (l.length : Int)) by omega, if_false]
    rw [List.drop_of_length_le (by omega)]
    simp only [List.any_nil, Bool.false_eq_true, if_false]
    refine Ev.bind (depth_ref l hl hw _ 0 (Nat.le_refl _) (by omega)) (Ev.const ?_)
    by_cases h : vI l MKd 0 > 12
    · rw [if_pos h, if_pos (by omega)]
    · rw [if_neg h, if_neg (by omega)]
  | succ d ih =>
    intro n hd hn
    have h1 : (n : Int) < (l.length : Int) := by omega
    have h2 : (0 : Int) ≤ (n : Int) := by omega
    have hg : n < l.length := by omega
    have hr : rd_T47 l (n : Int) = l[n] := by simp [rd_T47, hg]
    obtain ⟨e, he⟩ := all_end hw n hg
    have ho : 1 ≤ (l[n]).f0 ∧ (l[n]).f0 ≤ 20 := by
      have h3 : 0 ≤ aOf l n := (E_lt he).2.2
      have h4 : aOf l n = ar (l[n]).f0 := by show ar (rd_T47 l (n : Int)).f0 = _; rw [hr]
      rw [h4] at h3
      unfold ar at h3
      constructor
      · apply Classical.byContradiction
        intro hc
        rw [if_pos (by omega)] at h3
        exact absurd h3 (by decide)
      · apply Classical.byContradiction
        intro hc
        rw [if_neg (by omega), if_pos (by omega)] at h3
        exact absurd h3 (by decide)
    apply Ev.succ
    simp only [semblanceref05_Check.l0, h1, h2, hr, if_true]
    refine Ev.bind (may_ref _ _ _ ho) ?_
    rw [List.drop_eq_getElem_cons hg, List.any_cons]
    cases hm : mayB (l[n]).f0 (l[n]).f1 (l[n]).f2 with
    | true =>
      simp only [if_true, Bool.not_true, Bool.false_or]
      rw [wrap_succ (by omega)]
      exact ih (n + 1) (by omega) (by omega)
    | false =>
      simp only [Bool.false_eq_true, if_false, Bool.not_false, Bool.true_or, if_true]
      exact Ev.now _
theorem check_ref (l : List (S47)) : Ev (fun k => semblanceref05_Check.f k l) (chk l) := by
  unfold chk
  simp only [semblanceref05_Check.f]
  by_cases h40 : 40 < l.length
  · have h40' : (l.length : Int) > 40 := by omega
    simp only [h40, h40', if_true]; exact Ev.now _
  · have h40' : ¬ ((l.length : Int) > 40) := by omega
    simp only [h40, h40', if_false]
    refine Ev.bind (whole_ref l) ?_
    by_cases hw : E (aOf l) l.length 0 = some l.length
    · have hd : decide (l.length ≤ 40 ∧ E (aOf l) l.length 0 = some l.length) = true := decide_eq_true ⟨by omega, hw⟩
      rw [if_pos hw]
      simp only [hd, if_true]
      have := check_loop l (by omega) hw _ 0 rfl (Nat.zero_le _)
      rw [List.drop_zero] at this
      exact this
    · have hd : decide (l.length ≤ 40 ∧ E (aOf l) l.length 0 = some l.length) = false := decide_eq_false (fun h => hw h.2)
      rw [if_neg hw]
      simp only [hd, Bool.false_eq_true, if_false]
      exact Ev.now _


end Go.Proofs.Ytoeioigpkfgppaa.XV
