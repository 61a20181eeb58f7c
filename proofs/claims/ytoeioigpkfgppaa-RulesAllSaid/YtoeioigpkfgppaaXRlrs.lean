import Derived.Test.YtoeioigpkfgppaaXFuel
import Derived.Test.YtoeioigpkfgppaaXRo
import Derived.Test.YtoeioigpkfgppaaXRp11
import Derived.Test.YtoeioigpkfgppaaXRp2
import Derived.Test.YtoeioigpkfgppaaXRp3
import Derived.Test.YtoeioigpkfgppaaXRp7
import Derived.Test.YtoeioigpkfgppaaXRp8
import Derived.Test.YtoeioigpkfgppaaXShapePlain
namespace Go.Proofs.Ytoeioigpkfgppaa.XR
open Go.RowKit Go.Proofs.Ytoeioigpkfgppaa.XRead Go.Proofs.Ytoeioigpkfgppaa.XR Go.Proofs.YtoeioigpkfgppaaW.PrintWords Go.Proofs.YtoeioigpkfgppaaW.PrintLast Go.Proofs.YtoeioigpkfgppaaW.PrintMore

set_option linter.unusedVariables false
set_option linter.unusedSimpArgs false
namespace Sh
open Go.Proofs.Ytoeioigpkfgppaa.ShapePlain Go.Proofs.Ytoeioigpkfgppaa.XFuel
/-- a state's parent, a state's kind, by its place -/
def Pf (l : List (S55)) (i : Nat) : Int := (rd_T55 l i).f2
def Kf (l : List (S55)) (i : Nat) : Int := (rd_T55 l i).f1

/-! ### who is above: the reference -/
theorem above_ref (l : List (S55)) (hl : l.length ≤ 1000) : ∀ (i : Nat) (acc : List Int), i < l.length → valid (Pf l) (Kf l) (i + 1) → acc.length + i ≤ 2000 →
    Ev (fun k => semblanceref10_Above.l0 k l i acc) (acc ++ anc (Pf l) i) := by
  intro i
  induction i using Nat.strongRecOn with
  | _ i ih =>
    intro acc hi hv ha
    have h1 : (0 : Int) ≤ (i : Int) := by omega
    have h2 : (i : Int) < (l.length : Int) := by omega
    apply Ev.succ
    by_cases h0 : i = 0
    · subst h0
      have h3 : ¬ ((rd_T55 l ((0 : Nat) : Int)).f2 ≥ 0) := by have : Pf l 0 = -1 := hv.1; unfold Pf at this; omega
      simp only [semblanceref10_Above.l0, h1, h2, h3, if_true, if_false]
      rw [valid_root hv, List.append_nil]
      exact Ev.now _
    · have g := hv.2.2 i (by omega) (by omega)
      have g1 : 0 ≤ (rd_T55 l (i : Int)).f2 := g.1
      have g2 : (rd_T55 l (i : Int)).f2 < i := g.2.1
      have h3 : (rd_T55 l (i : Int)).f2 ≥ 0 := g1
      have h4 : acc.length < 17592186044416 := by omega
      simp only [semblanceref10_Above.l0, h1, h2, h3, h4, if_true]
      have e : (rd_T55 l (i : Int)).f2 = (((Pf l i).toNat : Nat) : Int) := by
        have : Pf l i = (rd_T55 l (i : Int)).f2 := rfl
        rw [this]; omega
      have hlt : (Pf l i).toNat < i := by have := e; omega
      rw [e]
      have hv' : valid (Pf l) (Kf l) ((Pf l i).toNat + 1) := ⟨hv.1, hv.2.1, fun j hj1 hj2 => hv.2.2 j hj1 (by omega)⟩
      have := ih (Pf l i).toNat hlt (acc ++ [(((Pf l i).toNat : Nat) : Int)]) (by omega) hv' (by simp; omega)
      rw [valid_anc hv (by omega) (by omega), chain]
      simpa using this
theorem above_ref_f (l : List (S55)) (hl : l.length ≤ 1000) (i : Nat) (hi : i < l.length) (hv : valid (Pf l) (Kf l) (i + 1)) : Ev (fun k => semblanceref10_Above.f k l i) (anc (Pf l) i) := by
  have := above_ref l hl i [] hi hv (by simp; omega)
  simpa [semblanceref10_Above.f] using this
theorem in_ref (x : Int) (xs : List Int) (hx : xs.length ≤ 100000) : ∀ (d n : Nat), xs.length - n = d → n ≤ xs.length → Ev (fun k => semblanceref10_In.l0 k xs x n) (decide (x ∈ xs.drop n)) := by
  intro d
  induction d with
  | zero =>
    intro n hd hn
    have h1 : ¬ ((n : Int) < (xs.length : Int)) := by omega
    apply Ev.succ
    simp only [semblanceref10_In.l0, h1, if_false]
    rw [List.drop_of_length_le (by omega)]
    exact Ev.now _
  | succ d ih =>
    intro n hd hn
    have h1 : (n : Int) < (xs.length : Int) := by omega
    have h2 : (0 : Int) ≤ (n : Int) := by omega
    have h3 : n < xs.length := by omega
    apply Ev.succ
    rw [List.drop_eq_getElem_cons h3]
    have hr : rd xs (n : Int) = xs[n] := by simp [rd, h3]
    by_cases hc : xs[n] = x
    · have hc' : rd xs (n : Int) = x := by rw [hr]; exact hc
      simp only [semblanceref10_In.l0, h1, h2, hc', if_true]
      rw [decide_eq_true (by rw [← hc]; exact List.mem_cons_self)]
      exact Ev.now _
    · have hc' : ¬ (rd xs (n : Int) = x) := by rw [hr]; exact hc
      simp only [semblanceref10_In.l0, h1, h2, hc', if_true, if_false]
      rw [wrap_succ (by omega)]
      have hne : ¬ (x = xs[n]) := fun e => hc e.symm
      refine Ev.eq (ih (n + 1) (by omega) (by omega)) ?_
      rw [decide_eq_decide, List.mem_cons]
      exact ⟨.inr, fun h => h.resolve_left hne⟩
theorem in_ref_f (x : Int) (xs : List Int) (hx : xs.length ≤ 100000) : Ev (fun k => semblanceref10_In.f k xs x) (decide (x ∈ xs)) := in_ref x xs hx xs.length 0 (by omega) (by omega)

/-! ### which states may stand so: the reference -/
theorem may_loop (l : List (S55)) (hl : l.length ≤ 1000) : ∀ (d i : Nat), l.length - i = d → 1 ≤ i → i ≤ l.length → valid (Pf l) (Kf l) i →
    ∃ b, Ev (fun k => semblanceref10_may.l0 k l i) b ∧ (b = true ↔ valid (Pf l) (Kf l) l.length) := by
  intro d
  induction d with
  | zero =>
    intro i hd h1 hi hv
    have h2 : ¬ ((i : Int) < (l.length : Int)) := by omega
    refine ⟨true, ?_, ?_⟩
    · apply Ev.succ
      simp only [semblanceref10_may.l0, h2, if_false]
      exact Ev.now _
    · obtain rfl : i = l.length := by omega
      simp [hv]
  | succ d ih =>
    intro i hd h1 hi hv
    have a1 : (i : Int) < (l.length : Int) := by omega
    have a2 : (0 : Int) ≤ (i : Int) := by omega
    have a3 : ¬ ((i : Int) = 0) := by omega
    have e1 : ((i - 1 : Nat) : Int) = (i : Int) - 1 := by omega
    have hab := above_ref_f l hl (i - 1) (by omega) (by rw [show i - 1 + 1 = i by omega]; exact hv)
    have hin := in_ref_f (rd_T55 l (i : Int)).f2 (anc (Pf l) (i - 1)) (by have := anc_length (P := Pf l) (i - 1); omega)
    have w1 : wrap64 ((i : Int) - 1) = (((i - 1 : Nat) : Nat) : Int) := by rw [wrap_in (by omega) (by omega)]; omega
    have w2 : wrap64 ((i : Int) + 1) = ((i + 1 : Nat) : Int) := wrap_succ (by omega)
    have hbad : ¬ good (Pf l) (Kf l) i → ¬ valid (Pf l) (Kf l) l.length := fun hg hv2 => hg (hv2.2.2 i h1 (by omega))
    have hfalse : Ev (fun k => semblanceref10_may.l0 k l i) false → ¬ good (Pf l) (Kf l) i → ∃ b, Ev (fun k => semblanceref10_may.l0 k l i) b ∧ (b = true ↔ valid (Pf l) (Kf l) l.length) := fun h hg => ⟨false, h, by simp [hbad hg]⟩
    have more : good (Pf l) (Kf l) i → ∃ b, Ev (fun k => semblanceref10_may.l0 k l ((i + 1 : Nat) : Int)) b ∧ (b = true ↔ valid (Pf l) (Kf l) l.length) := by
      intro g
      refine ih (i + 1) (by omega) (by omega) (by omega) ⟨hv.1, hv.2.1, fun j hj1 hj2 => ?_⟩
      by_cases e : j = i
      · rw [e]; exact g
      · exact hv.2.2 j hj1 (by omega)
    have hK : Kf l i = (rd_T55 l (i : Int)).f1 := rfl
    have hP : Pf l i = (rd_T55 l (i : Int)).f2 := rfl
    by_cases k1 : (rd_T55 l (i : Int)).f1 < 1
    · refine hfalse ?_ (fun g => by have := g.2.2.2.2.1; omega)
      apply Ev.succ
      simp only [semblanceref10_may.l0, a1, a2, k1, if_true]
      apply Ev.succ
      simp only [semblanceref10_may.j2, if_true]
      exact Ev.now _
    by_cases k3 : (rd_T55 l (i : Int)).f1 > 3
    · refine hfalse ?_ (fun g => by have := g.2.2.2.2.2; omega)
      apply Ev.succ
      simp only [semblanceref10_may.l0, a1, a2, k1, k3, if_true, if_false, decide_true]
      apply Ev.succ
      simp only [semblanceref10_may.j2, if_true]
      exact Ev.now _
    by_cases p0 : (rd_T55 l (i : Int)).f2 < 0
    · refine hfalse ?_ (fun g => by have := g.1; omega)
      apply Ev.succ
      simp only [semblanceref10_may.l0, a1, a2, k1, k3, if_true, if_false, decide_false]
      apply Ev.succ
      simp only [semblanceref10_may.j2, a1, a2, a3, p0, if_true, if_false, Bool.false_eq_true]
      exact Ev.now _
    by_cases p1 : (rd_T55 l (i : Int)).f2 ≥ i
    · refine hfalse ?_ (fun g => by have := g.2.1; omega)
      apply Ev.succ
      simp only [semblanceref10_may.l0, a1, a2, k1, k3, if_true, if_false, decide_false]
      apply Ev.succ
      simp only [semblanceref10_may.j2, a1, a2, a3, p0, p1, if_true, if_false, Bool.false_eq_true]
      exact Ev.now _
    have p2 : 0 ≤ (rd_T55 l (i : Int)).f2 := by omega
    have p3 : (rd_T55 l (i : Int)).f2 < (l.length : Int) := by omega
    have eK : Kf l (Pf l i).toNat = (rd_T55 l (rd_T55 l (i : Int)).f2).f1 := by
      unfold Kf; rw [hP, Int.toNat_of_nonneg p2]
    by_cases k0 : (rd_T55 l (rd_T55 l (i : Int)).f2).f1 = 1
    · refine hfalse ?_ (fun g => by have := g.2.2.1; omega)
      apply Ev.succ
      simp only [semblanceref10_may.l0, a1, a2, k1, k3, if_true, if_false, decide_false]
      apply Ev.succ
      simp only [semblanceref10_may.j2, a1, a2, a3, p0, p1, p2, p3, k0, if_true, if_false, Bool.false_eq_true]
      exact Ev.now _
    have gd : (Pf l i = (i : Int) - 1 ∨ Pf l i ∈ anc (Pf l) (i - 1)) → good (Pf l) (Kf l) i := fun h => ⟨p2, Int.not_le.1 p1, by rw [eK]; exact k0, h, Int.not_lt.1 k1, Int.not_lt.1 k3⟩
    by_cases pe : (rd_T55 l (i : Int)).f2 = (((i - 1 : Nat) : Nat) : Int)
    · obtain ⟨b, hb, hbv⟩ := more (gd (.inl (hP.trans (pe.trans e1))))
      refine ⟨b, ?_, hbv⟩
      apply Ev.succ
      simp only [semblanceref10_may.l0, a1, a2, k1, k3, if_true, if_false, decide_false]
      apply Ev.succ
      simp only [semblanceref10_may.j2, a1, a2, a3, p0, p1, p2, p3, k0, w1, pe, w2, if_true, if_false, Bool.false_eq_true]
      simp only [pe] at p0 p1 p2 p3 k0
      simp only [p0, p1, p2, p3, k0, if_true, if_false]
      exact hb
    · by_cases hm : (rd_T55 l (i : Int)).f2 ∈ anc (Pf l) (i - 1)
      · obtain ⟨b, hb, hbv⟩ := more (gd (.inr hm))
        refine ⟨b, ?_, hbv⟩
        apply Ev.succ
        simp only [semblanceref10_may.l0, a1, a2, k1, k3, if_true, if_false, decide_false]
        apply Ev.succ
        simp only [semblanceref10_may.j2, a1, a2, a3, p0, p1, p2, p3, k0, w1, pe, w2, if_true, if_false, Bool.false_eq_true]
        refine Ev.bind hab (Ev.bind hin ?_)
        simp only [hm, decide_true, if_true]
        exact hb
      · refine hfalse ?_ (fun g => by
          rcases g.2.2.2.1 with h | h
          · exact pe (hP.symm.trans (h.trans e1.symm))
          · exact hm h)
        apply Ev.succ
        simp only [semblanceref10_may.l0, a1, a2, k1, k3, if_true, if_false, decide_false]
        apply Ev.succ
        simp only [semblanceref10_may.j2, a1, a2, a3, p0, p1, p2, p3, k0, w1, pe, w2, if_true, if_false, Bool.false_eq_true]
        refine Ev.bind hab (Ev.bind hin ?_)
        simp only [hm, decide_false, if_false, Bool.false_eq_true]
        exact Ev.now _
theorem may_ref (l : List (S55)) (hl : l.length ≤ 1000) : ∃ b, Ev (fun k => semblanceref10_may.f k l) b ∧ (b = true ↔ 1 ≤ l.length ∧ valid (Pf l) (Kf l) l.length) := by
  by_cases h0 : (l.length : Int) < 1
  · refine ⟨false, ?_, by simp; omega⟩
    simp only [semblanceref10_may.f, h0, if_true]
    apply Ev.succ
    simp only [semblanceref10_may.j0, if_true]
    exact Ev.now _
  · have h1 : (0 : Int) < (l.length : Int) := by omega
    have hP : Pf l 0 = (rd_T55 l 0).f2 := rfl
    have hK : Kf l 0 = (rd_T55 l 0).f1 := rfl
    by_cases hp : (rd_T55 l 0).f2 = -1
    · have hp' : ((rd_T55 l 0).f2 != -1) = false := by simp [hp]
      by_cases k1 : (rd_T55 l 0).f1 < 1
      · refine ⟨false, ?_, by simp; intro _ hv; have := hv.2.1; omega⟩
        simp only [semblanceref10_may.f, h0, h1, hp', if_true, if_false]
        apply Ev.succ
        simp only [semblanceref10_may.j0, if_false, Bool.false_eq_true]
        apply Ev.succ
        simp only [semblanceref10_may.l0, h1, k1, if_true, Int.le_refl]
        apply Ev.succ
        simp only [semblanceref10_may.j2, if_true]
        exact Ev.now _
      by_cases k3 : (rd_T55 l 0).f1 > 3
      · refine ⟨false, ?_, by simp; intro _ hv; have := hv.2.1; omega⟩
        simp only [semblanceref10_may.f, h0, h1, hp', if_true, if_false]
        apply Ev.succ
        simp only [semblanceref10_may.j0, if_false, Bool.false_eq_true]
        apply Ev.succ
        simp only [semblanceref10_may.l0, h1, k1, k3, if_true, if_false, decide_true, Int.le_refl]
        apply Ev.succ
        simp only [semblanceref10_may.j2, if_true]
        exact Ev.now _
      · obtain ⟨b, hb, hbv⟩ := may_loop l hl (l.length - 1) 1 rfl (Nat.le_refl _) (by omega) ⟨by rw [hP]; exact hp, by omega, fun j h1 h2 => by omega⟩
        refine ⟨b, ?_, by rw [hbv]; simp; omega⟩
        simp only [semblanceref10_may.f, h0, h1, hp', if_true, if_false]
        apply Ev.succ
        simp only [semblanceref10_may.j0, if_false, Bool.false_eq_true]
        apply Ev.succ
        simp only [semblanceref10_may.l0, h1, k1, k3, if_true, if_false, decide_false, Int.le_refl]
        apply Ev.succ
        simp only [semblanceref10_may.j2, if_true, if_false, Bool.false_eq_true]
        rw [show wrap64 (0 + 1) = ((1 : Nat) : Int) from wrap_succ (n := 0) (by omega)]
        exact hb
    · have hp' : ((rd_T55 l 0).f2 != -1) = true := by simp [hp]
      refine ⟨false, ?_, by simp; intro _ hv; exact hp hv.1⟩
      simp only [semblanceref10_may.f, h0, h1, hp', if_true, if_false]
      apply Ev.succ
      simp only [semblanceref10_may.j0, if_true]
      exact Ev.now _
/-- is some state too deep? -/
def deepFrom (l : List (S55)) (i : Nat) : Prop := ∃ j, i ≤ j ∧ j < l.length ∧ 11 < (anc (Pf l) j).length
theorem check_loop (l : List (S55)) (hl : l.length ≤ 1000) (hv : valid (Pf l) (Kf l) l.length) : ∀ (d i : Nat), l.length - i = d → i ≤ l.length →
    ∃ c, Ev (fun k => semblanceref10_Check.l0 k l i) c ∧ (c = 6 ∧ deepFrom l i ∨ c = 0 ∧ ¬ deepFrom l i) := by
  intro d
  induction d with
  | zero =>
    intro i hd hi
    have h2 : ¬ ((i : Int) < (l.length : Int)) := by omega
    refine ⟨0, ?_, .inr ⟨rfl, fun ⟨j, h1, h2, _⟩ => by omega⟩⟩
    apply Ev.succ
    simp only [semblanceref10_Check.l0, h2, if_false]
    exact Ev.now _
  | succ d ih =>
    intro i hd hi
    have a1 : (i : Int) < (l.length : Int) := by omega
    have hab := above_ref_f l hl i (by omega) ⟨hv.1, hv.2.1, fun j hj1 hj2 => hv.2.2 j hj1 (by omega)⟩
    by_cases hdp : 11 < (anc (Pf l) i).length
    · have hdp' : ((anc (Pf l) i).length : Int) > 11 := by omega
      refine ⟨6, ?_, .inl ⟨rfl, i, Nat.le_refl _, by omega, hdp⟩⟩
      apply Ev.succ
      simp only [semblanceref10_Check.l0, a1, if_true]
      refine Ev.bind (hab) ?_
      simp only [hdp', if_true]
      exact Ev.now _
    · have hdp' : ¬ (((anc (Pf l) i).length : Int) > 11) := by omega
      obtain ⟨c, hc, hcv⟩ := ih (i + 1) (by omega) (by omega)
      have hiff : deepFrom l i ↔ deepFrom l (i + 1) := ⟨fun ⟨j, h1, h2, h3⟩ => ⟨j, by by_cases e : j = i; (subst e; exact absurd h3 hdp); omega, h2, h3⟩, fun ⟨j, h1, h2, h3⟩ => ⟨j, by omega, h2, h3⟩⟩
      refine ⟨c, ?_, by rw [hiff]; exact hcv⟩
      apply Ev.succ
      simp only [semblanceref10_Check.l0, a1, if_true]
      refine Ev.bind (hab) ?_
      simp only [hdp', if_false]
      rw [wrap_succ (by omega)]
      exact hc
/-- what both tell of states -/
def checked (l : List (S55)) (c : Int) : Prop :=
  (60 < l.length ∧ c = 8) ∨ (l.length ≤ 60 ∧ ¬ (1 ≤ l.length ∧ valid (Pf l) (Kf l) l.length) ∧ c = 1) ∨ (l.length ≤ 60 ∧ (1 ≤ l.length ∧ valid (Pf l) (Kf l) l.length) ∧ deepFrom l 0 ∧ c = 6) ∨ (l.length ≤ 60 ∧ (1 ≤ l.length ∧ valid (Pf l) (Kf l) l.length) ∧ ¬ deepFrom l 0 ∧ c = 0)
theorem checked_one {l : List (S55)} {c d : Int} (h : checked l c) (k : checked l d) : c = d := by
  unfold checked at h k
  rcases h with h | h | h | h <;> rcases k with k | k | k | k <;> first | (exfalso; omega) | (exfalso; exact h.2.1 k.2.1) | (exfalso; exact k.2.1 h.2.1) | (exfalso; exact h.2.2.1 k.2.2.1) | (exfalso; exact k.2.2.1 h.2.2.1) | omega
theorem check_ref (l : List (S55)) (hl : l.length ≤ 1000) : ∃ c, Ev (fun k => semblanceref10_Check.f k l) c ∧ checked l c := by
  by_cases h60 : (l.length : Int) > 60
  · refine ⟨8, ?_, .inl ⟨by omega, rfl⟩⟩
    simp only [semblanceref10_Check.f, h60, if_true]
    exact Ev.now _
  · obtain ⟨b, hb, hbv⟩ := may_ref l hl
    cases b with
    | false =>
      refine ⟨1, ?_, .inr (.inl ⟨by omega, fun h => absurd (hbv.2 h) (by simp), rfl⟩)⟩
      simp only [semblanceref10_Check.f, h60, if_false]
      refine Ev.bind (hb) ?_
      simp only [if_false, Bool.false_eq_true]
      exact Ev.now _
    | true =>
      have hv := hbv.1 rfl
      obtain ⟨c, hc, hcv⟩ := check_loop l hl hv.2 l.length 0 (by omega) (by omega)
      refine ⟨c, ?_, ?_⟩
      · simp only [semblanceref10_Check.f, h60, if_false]
        refine Ev.bind (hb) ?_
        simp only [if_true]
        exact hc
      · rcases hcv with ⟨rfl, h⟩ | ⟨rfl, h⟩
        · exact .inr (.inr (.inl ⟨by omega, hv, h, rfl⟩))
        · exact .inr (.inr (.inr ⟨by omega, hv, h, rfl⟩))

/-! ### the same of the program -/
theorem pop_chain (P : Nat → Int) (i : Nat) (a : Int) : shape_Check.pop ((chain P i).reverse) a = ((chain P i).dropWhile (fun x => x != a)).reverse := by
  unfold shape_Check.pop; rw [List.reverse_reverse]
theorem step_chain (l : List (S55)) (i : Nat) (h1 : 1 ≤ i) (hi : i < l.length) (hv : valid (Pf l) (Kf l) i) :
    shape_Check.step l ((chain (Pf l) (i - 1)).reverse) i = if good (Pf l) (Kf l) i then some ((chain (Pf l) i).reverse) else none := by
  have hP : (rd_T55 l (i : Int)).f2 = Pf l i := rfl
  have hK : (rd_T55 l (i : Int)).f1 = Kf l i := rfl
  unfold shape_Check.step
  rw [pop_chain, hP, hK]
  have hi0 : (0 : Int) < (i : Int) := by omega
  by_cases hm : Pf l i ∈ chain (Pf l) (i - 1)
  · rw [chain_drop _ _ hm, if_neg (by simp [chain])]
    have hb := chain_le hm
    have eK : (rd_T55 l (Pf l i)).f1 = Kf l (Pf l i).toNat := by unfold Kf; rw [Int.toNat_of_nonneg hb.1]
    rw [eK]
    have hgm := (good_mem (P := Pf l) (i := i) h1).2 hm
    by_cases hk0 : Kf l (Pf l i).toNat = 1
    · rw [if_pos hk0, if_neg (fun g => g.2.2.1 hk0)]
    · rw [if_neg hk0]
      by_cases hk : 1 ≤ Kf l i ∧ Kf l i ≤ 3
      · rw [if_pos hk, if_pos ⟨hb.1, by omega, hk0, hgm, hk.1, hk.2⟩]
        congr 1
        have : anc (Pf l) i = chain (Pf l) (Pf l i).toNat := anc_chain ⟨hb.1, by omega⟩
        rw [show chain (Pf l) i = (i : Int) :: anc (Pf l) i from rfl, this, List.reverse_cons]
      · rw [if_neg hk, if_neg (fun g => hk g.2.2.2.2)]
  · rw [chain_drop_not hm, List.reverse_nil, if_pos rfl, if_pos (.inl hi0), if_neg (fun g => hm ((good_mem h1).1 g.2.2.2.1))]
theorem run_chain (l : List (S55)) : ∀ (n i : Nat) (deep : Int), 1 ≤ i → i + n = l.length → valid (Pf l) (Kf l) i → (12 < deep ↔ ∃ j, j < i ∧ 11 < (anc (Pf l) j).length) →
    match shape_Check.run l n ((chain (Pf l) (i - 1)).reverse) deep with
    | none => ¬ valid (Pf l) (Kf l) l.length
    | some d => valid (Pf l) (Kf l) l.length ∧ (12 < d ↔ deepFrom l 0) := by
  intro n
  induction n with
  | zero =>
    intro i deep h1 hi hv hd
    obtain rfl : i = l.length := by omega
    simp only [shape_Check.run]
    exact ⟨hv, by rw [hd]; exact ⟨fun ⟨j, a, b⟩ => ⟨j, Nat.zero_le _, a, b⟩, fun ⟨j, _, a, b⟩ => ⟨j, a, b⟩⟩⟩
  | succ n ih =>
    intro i deep h1 hi hv hd
    simp only [shape_Check.run]
    rw [show (l.length : Int) - ((n : Int) + 1) = (i : Int) by omega, step_chain l i h1 (by omega) hv]
    by_cases hg : good (Pf l) (Kf l) i
    · rw [if_pos hg]
      have hv' : valid (Pf l) (Kf l) (i + 1) := ⟨hv.1, hv.2.1, fun j hj1 hj2 => by
        by_cases e : j = i
        · subst e; exact hg
        · exact hv.2.2 j hj1 (by omega)⟩
      have := ih (i + 1) (max deep (((chain (Pf l) i).reverse).length : Int)) (by omega) (by omega) hv' (by
        have hlen : (((chain (Pf l) i).reverse).length : Int) = ((anc (Pf l) i).length : Int) + 1 := by simp [chain]
        rw [hlen]
        constructor
        · intro h
          by_cases hd2 : 12 < deep
          · obtain ⟨j, a, b⟩ := hd.1 hd2; exact ⟨j, by omega, b⟩
          · exact ⟨i, by omega, by omega⟩
        · rintro ⟨j, a, b⟩
          by_cases e : j = i
          · subst e; omega
          · have := hd.2 ⟨j, by omega, b⟩; omega)
      exact this
    · rw [if_neg hg]
      exact fun hv2 => hg (hv2.2.2 i h1 (by omega))
theorem check_prog (l : List (S55)) : ∃ c, shape_Check.f l = some c ∧ checked l c := by
  refine ⟨_, rfl, ?_⟩
  by_cases h60 : 60 < l.length
  · rw [if_pos h60]; exact .inl ⟨h60, rfl⟩
  rw [if_neg h60]
  by_cases h0 : l.length = 0
  · rw [if_pos h0]; exact .inr (.inl ⟨by omega, by omega, rfl⟩)
  rw [if_neg h0]
  obtain ⟨m, hm⟩ : ∃ m, l.length = m + 1 := ⟨l.length - 1, by omega⟩
  have hP : (rd_T55 l 0).f2 = Pf l 0 := rfl
  have hK : (rd_T55 l 0).f1 = Kf l 0 := rfl
  have hrun : shape_Check.run l l.length [] 0 = match shape_Check.step l [] 0 with | none => none | some q => shape_Check.run l m q (max 0 q.length) := by
    rw [hm]; simp only [shape_Check.run]
    rw [show ((l.length : Int) - ((m : Int) + 1)) = 0 by omega]
    first | done | (cases shape_Check.step l [] 0 <;> rfl)
  have hstep : shape_Check.step l [] 0 = if Pf l 0 ≠ -1 then none else if 1 ≤ Kf l 0 ∧ Kf l 0 ≤ 3 then some [0] else none := by
    unfold shape_Check.step
    rw [shape_Check.pop_nil, if_pos rfl, hP, hK]
    simp
  rw [hrun, hstep]
  by_cases hp : Pf l 0 = -1
  · rw [if_neg (by simp [hp])]
    by_cases hk : 1 ≤ Kf l 0 ∧ Kf l 0 ≤ 3
    · rw [if_pos hk]
      have hv1 : valid (Pf l) (Kf l) 1 := ⟨hp, hk, fun j h1 h2 => by omega⟩
      have hc : ((chain (Pf l) (1 - 1)).reverse) = [0] := by simp [chain, valid_root hv1]
      have := run_chain l m 1 (max 0 ([(0 : Int)].length)) (Nat.le_refl _) (by omega) hv1 (by
        constructor
        · intro h; simp at h; omega
        · rintro ⟨j, a, b⟩
          obtain rfl : j = 0 := by omega
          rw [valid_root hv1] at b; simp at b)
      rw [hc] at this
      show checked l (match shape_Check.run l m [0] (max 0 ([(0 : Int)].length)) with | none => 1 | some d => if 12 < d then 6 else 0)
      cases hr : shape_Check.run l m [0] (max 0 ([(0 : Int)].length)) with
      | none => rw [hr] at this; exact .inr (.inl ⟨by omega, fun h => this h.2, rfl⟩)
      | some d =>
        rw [hr] at this
        by_cases hd : 12 < d
        · exact .inr (.inr (.inl ⟨by omega, ⟨by omega, this.1⟩, this.2.1 hd, by simp [hd]⟩))
        · exact .inr (.inr (.inr ⟨by omega, ⟨by omega, this.1⟩, fun h => hd (this.2.2 h), by simp [hd]⟩))
    · rw [if_neg hk]
      exact .inr (.inl ⟨by omega, fun h => hk h.2.2.1, rfl⟩)
  · rw [if_pos (by simpa using hp)]
    exact .inr (.inl ⟨by omega, fun h => hp h.2.1, rfl⟩)
/-- states that stand right, none too deep -/
def Okay (l : List (S55)) : Prop := l.length ≤ 60 ∧ valid (Pf l) (Kf l) l.length
theorem check_zero {l : List (S55)} {c : Int} (h : checked l c) (e : c = 0) : Okay l ∧ 1 ≤ l.length := by
  rcases h with h | h | h | h
  · omega
  · omega
  · omega
  · exact ⟨⟨h.1, h.2.1.2⟩, h.2.1.1⟩
theorem there_any (l : List (S55)) (c : Int) (hc : shape_Check.f l = some c) (p : List Int) (hp : p.length ≤ 100) : shape_there.f l p = some (decide (c = 0) && !(p.any (shape_there.off l.length))) := by
  unfold shape_there.f
  rw [if_pos (by omega), hc]
  simp
theorem there_one (l : List (S55)) (c : Int) (hc : shape_Check.f l = some c) (i : Int) : shape_there.f l [i] = some (decide (c = 0 ∧ 0 ≤ i ∧ i < l.length)) := by
  rw [there_any l c hc _ (by simp)]
  congr 1
  simp only [List.any_cons, List.any_nil, Bool.or_false, shape_there.off]
  rw [Bool.eq_iff_iff]
  simp
theorem there_two (l : List (S55)) (c : Int) (hc : shape_Check.f l = some c) (i k : Int) : shape_there.f l [i, k] = some (decide (c = 0 ∧ (0 ≤ i ∧ i < l.length) ∧ 0 ≤ k ∧ k < l.length)) := by
  rw [there_any l c hc _ (by simp)]
  congr 1
  simp only [List.any_cons, List.any_nil, Bool.or_false, shape_there.off]
  rw [Bool.eq_iff_iff]
  simp
theorem there_in (l : List (S55)) (hc : shape_Check.f l = some 0) (i : Nat) (hi : i < l.length) : shape_there.f l [(i : Int)] = some true := by
  rw [there_one l 0 hc]; congr 1; simp; omega
theorem there_both (l : List (S55)) (hc : shape_Check.f l = some 0) (i j : Nat) (hi : i < l.length) (hj : j < l.length) : shape_there.f l [(i : Int), (j : Int)] = some true := by
  rw [there_two l 0 hc]; congr 1; simp; omega
theorem Pf_nat (l : List (S55)) (i : Nat) (h : 0 ≤ Pf l i) : (rd_T55 l (i : Int)).f2 = (((Pf l i).toNat : Nat) : Int) := by
  have : Pf l i = (rd_T55 l (i : Int)).f2 := rfl
  rw [this] at h ⊢
  omega

/-! ### kids -/
def kd (l : List (S55)) (a : Int) : Nat → Nat → List Int
  | 0, _ => []
  | d + 1, n => if Pf l n = a then (n : Int) :: kd l a d (n + 1) else kd l a d (n + 1)
theorem kids_ref (l : List (S55)) (hl : l.length ≤ 1000) (a : Int) : ∀ (d n : Nat) (acc : List Int), l.length - n = d → acc.length ≤ n → n ≤ l.length → Ev (fun k => semblanceref10_Kids.l0 k l a acc n) (acc ++ kd l a d n) := by
  intro d
  induction d with
  | zero =>
    intro n acc hd ha hn
    have h1 : ¬ ((n : Int) < (l.length : Int)) := by omega
    apply Ev.succ
    simp only [semblanceref10_Kids.l0, h1, if_false, kd, List.append_nil]
    exact Ev.now _
  | succ d ih =>
    intro n acc hd ha hn
    have h1 : (n : Int) < (l.length : Int) := by omega
    have h2 : (0 : Int) ≤ (n : Int) := by omega
    have h3 : acc.length < 17592186044416 := by omega
    have w : wrap64 ((n : Int) + 1) = ((n + 1 : Nat) : Int) := wrap_succ (by omega)
    have hP : (rd_T55 l (n : Int)).f2 = Pf l n := rfl
    apply Ev.succ
    by_cases hc : Pf l n = a
    · simp only [semblanceref10_Kids.l0, h1, h2, h3, hP, hc, if_true, w, kd]
      refine Ev.eq (ih (n + 1) (acc ++ [(n : Int)]) (by omega) (by simp; omega) (by omega)) (by simp)
    · simp only [semblanceref10_Kids.l0, h1, h2, h3, hP, hc, if_true, if_false, w, kd]
      exact ih (n + 1) acc (by omega) (by omega) (by omega)
theorem kids_prog (l : List (S55)) (hl : l.length ≤ 1000) (a : Int) : ∀ (d n : Nat) (acc : List Int), l.length - n = d → acc.length ≤ n → n ≤ l.length → Ev (fun k => shape_Kids.l0 k a acc l l.length n) (acc ++ kd l a d n) := by
  intro d
  induction d with
  | zero =>
    intro n acc hd ha hn
    have h1 : ¬ ((n : Int) < (l.length : Int)) := by omega
    apply Ev.succ
    simp only [shape_Kids.l0, h1, if_false, kd, List.append_nil]
    exact Ev.now _
  | succ d ih =>
    intro n acc hd ha hn
    have h1 : (n : Int) < (l.length : Int) := by omega
    have h2 : (0 : Int) ≤ (n : Int) := by omega
    have h3 : acc.length < 17592186044416 := by omega
    have w : wrap64 ((n : Int) + 1) = ((n + 1 : Nat) : Int) := wrap_succ (by omega)
    have hP : (rd_T55 l (n : Int)).f2 = Pf l n := rfl
    apply Ev.succ
    by_cases hc : Pf l n = a
    · simp only [shape_Kids.l0, h1, h2, h3, hP, hc, if_true, w, kd]
      refine Ev.eq (ih (n + 1) (acc ++ [(n : Int)]) (by omega) (by simp; omega) (by omega)) (by simp)
    · simp only [shape_Kids.l0, h1, h2, h3, hP, hc, if_true, if_false, w, kd]
      exact ih (n + 1) acc (by omega) (by omega) (by omega)
theorem kids_f (l : List (S55)) (hk : Okay l) (hc : shape_Check.f l = some 0) (i : Nat) (hi : i < l.length) : Ev (fun k => shape_Kids.f k l i) (kd l i l.length 0) := by
  have hl := hk.1
  simp only [shape_Kids.f, there_in l hc i hi, Option.bind_some, if_true]
  exact Ev.eq (kids_prog l (by omega) i l.length 0 [] (by omega) (by simp) (by omega)) (by simp)
theorem kids_ref_f (l : List (S55)) (hl : l.length ≤ 1000) (i : Int) : Ev (fun k => semblanceref10_Kids.f k l i) (kd l i l.length 0) := by
  simp only [semblanceref10_Kids.f]
  exact Ev.eq (kids_ref l hl i l.length 0 [] (by omega) (by simp) (by omega)) (by simp)
end Sh

end Go.Proofs.Ytoeioigpkfgppaa.XR
