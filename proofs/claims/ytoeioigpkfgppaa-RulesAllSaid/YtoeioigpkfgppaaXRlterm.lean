import Derived.Test.YtoeioigpkfgppaaXFuel
import Derived.Test.YtoeioigpkfgppaaXRo
import Derived.Test.YtoeioigpkfgppaaXRp3
import Derived.Test.YtoeioigpkfgppaaXRp4
import Derived.Test.YtoeioigpkfgppaaXRp8
import Derived.Test.YtoeioigpkfgppaaXRp9
import Derived.Test.YtoeioigpkfgppaaXTermPlain
namespace Go.Proofs.Ytoeioigpkfgppaa.XR
open Go.RowKit Go.Proofs.Ytoeioigpkfgppaa.XRead Go.Proofs.Ytoeioigpkfgppaa.XR Go.Proofs.YtoeioigpkfgppaaW.PrintWords Go.Proofs.YtoeioigpkfgppaaW.PrintLast Go.Proofs.YtoeioigpkfgppaaW.PrintMore
open Go.Proofs.Ytoeioigpkfgppaa.TermPlain Go.Proofs.Ytoeioigpkfgppaa.XFuel
set_option linter.unusedVariables false
set_option linter.unusedSimpArgs false
/-- how many expressions are below a term -/
def ar (op : Int) : Int := if op < 1 then -1 else if op > 20 then -1 else if op = 3 ∨ op = 12 then 1 else if op ≤ 2 ∨ (9 ≤ op ∧ op ≤ 11) then 0 else 2
theorem ar_le (op : Int) : ar op ≤ 2 ∧ -1 ≤ ar op := by unfold ar; split <;> (try split) <;> (try split) <;> (try split) <;> omega
theorem arity_prog (op : Int) : Ev (fun k => term_Arity.f k op) (ar op) := by
  have j1 : ∀ b : Bool, Ev (fun k => term_Arity.j1 k op b) (if b = true then 1 else if op ≤ 2 then 0 else if op ≥ 9 then (if op ≤ 11 then 0 else 2) else 2) := by
    intro b
    apply Ev.succ
    simp only [term_Arity.j1]
    split
    · exact Ev.now _
    · split
      · exact Ev.now _
      · split
        · split <;> exact Ev.now _
        · exact Ev.now _
  by_cases h1 : op < 1
  · simp only [term_Arity.f, h1, if_true]
    apply Ev.succ
    simp only [term_Arity.j0, if_true]
    unfold ar; rw [if_pos h1]
    exact Ev.now _
  by_cases h2 : op > 20
  · simp only [term_Arity.f, h1, h2, if_false, decide_true]
    apply Ev.succ
    simp only [term_Arity.j0, if_true]
    unfold ar; rw [if_neg h1, if_pos h2]
    exact Ev.now _
  · simp only [term_Arity.f, h1, h2, if_false, decide_false]
    apply Ev.succ
    simp only [term_Arity.j0, if_false, Bool.false_eq_true]
    unfold ar; rw [if_neg h1, if_neg h2]
    by_cases h3 : op = 3
    · simp only [h3, if_true]
      have := j1 true
      simp only [if_true, h3] at this
      simp
      exact this
    · simp only [h3, if_false]
      refine Ev.eq (j1 (op == 12)) ?_
      by_cases h12 : op = 12
      · simp [h12]
      · have hb : (op == 12) = false := by simp [h12]
        rw [hb]
        simp only [Bool.false_eq_true, if_false, h12, false_or]
        split
        · rw [if_pos (by omega)]
        · split
          · split
            · rw [if_pos (by omega)]
            · rw [if_neg (by omega)]
          · rw [if_neg (by omega)]
theorem arity_ref (op : Int) : semblanceref05_Arity.f op = some (ar op) := by
  unfold semblanceref05_Arity.f
  by_cases h1 : op < 1
  · rw [if_pos h1]; unfold ar; rw [if_pos h1]
  by_cases h2 : op > 20
  · rw [if_neg h1, if_pos h2]; unfold ar; rw [if_neg h1, if_pos h2]
  · rw [if_neg h1, if_neg h2, Option.bind_some, if_pos (by omega), if_pos (by simp; omega)]
    have key : ∀ n : Fin 21, 1 ≤ n.val → rd ([0, 0, 0, 1, 2, 2, 2, 2, 2, 0, 0, 0, 1, 2, 2, 2, 2, 2, 2, 2, 2] : List Int) ((n.val : Nat) : Int) = ar ((n.val : Nat) : Int) := by decide
    have hn : ((op.toNat : Nat) : Int) = op := by omega
    have := key ⟨op.toNat, by omega⟩ (by show 1 ≤ op.toNat; omega)
    simp only [hn] at this
    rw [this]

/-- what a term does, by its place; how many are below -/
def opOf (l : List (S47)) (i : Nat) : Int := (rd_T47 l i).f0
def aOf (l : List (S47)) (i : Nat) : Int := ar (opOf l i)
def toI : Option Nat → Int
  | none => -1
  | some e => e
theorem end_prog (l : List (S47)) (hl : l.length ≤ 1000) : ∀ (d i p : Nat), l.length - i ≤ d → p + 2 * l.length ≤ 1000000 + 2 * i → i ≤ 2000 → Ev (fun k => term_End.l0 k l i p) (toI (sc (aOf l) l.length i p)) := by
  intro d
  induction d with
  | zero =>
    intro i p hd hp hi0
    apply Ev.succ
    cases p with
    | zero =>
      rw [sc_zero]
      simp only [term_End.l0, show ¬ (((0 : Nat) : Int) > 0) by omega, if_false]
      exact Ev.now _
    | succ p =>
      rw [sc_bad (by omega) (by omega)]
      have h1 : ((p + 1 : Nat) : Int) > 0 := by omega
      have h2 : ¬ ((i : Int) < 0) := by omega
      have h3 : (i : Int) ≥ (l.length : Int) := by omega
      simp only [term_End.l0, h1, h2, h3, if_true, if_false]
      exact Ev.now _
  | succ d ih =>
    intro i p hd hp hi0
    cases p with
    | zero =>
      apply Ev.succ
      rw [sc_zero]
      simp only [term_End.l0, show ¬ (((0 : Nat) : Int) > 0) by omega, if_false]
      exact Ev.now _
    | succ p =>
      have h1 : ((p + 1 : Nat) : Int) > 0 := by omega
      have h2 : ¬ ((i : Int) < 0) := by omega
      apply Ev.succ
      by_cases hi : i < l.length
      · have h3 : ¬ ((i : Int) ≥ (l.length : Int)) := by omega
        have h4 : (0 : Int) ≤ (i : Int) := by omega
        have h5 : (i : Int) < (l.length : Int) := by omega
        simp only [term_End.l0, h1, h2, h3, h4, h5, if_true, if_false]
        have hA := arity_prog (opOf l i)
        refine Ev.bind hA ?_
        by_cases hneg : ar (opOf l i) < 0
        · rw [sc_bad (by omega) (fun h => by have : aOf l i = ar (opOf l i) := rfl; omega)]
          simp only [hneg, if_true]
          exact Ev.now _
        · have hle := ar_le (opOf l i)
          have ha : aOf l i = ar (opOf l i) := rfl
          simp only [hneg, if_false]
          refine Ev.bind hA ?_
          rw [sc_step ⟨hi, by omega⟩]
          have e1 : wrap64 ((i : Int) + 1) = ((i + 1 : Nat) : Int) := wrap_succ (by omega)
          have e2 : wrap64 (((p + 1 : Nat) : Int) + wrap64 (ar (opOf l i) - 1)) = ((p + (aOf l i).toNat : Nat) : Int) := by
            rw [wrap_in (n := ar (opOf l i) - 1) (by omega) (by omega), wrap_in (by omega) (by omega)]
            omega
          rw [e1, e2]
          exact ih _ _ (by omega) (by omega) (by omega)
      · have h3 : (i : Int) ≥ (l.length : Int) := by omega
        rw [sc_bad (by omega) (by omega)]
        simp only [term_End.l0, h1, h2, h3, if_true, if_false]
        exact Ev.now _
/-- the place behind, of whatever place -/
def EI (l : List (S47)) (i : Int) : Int := if i < 0 then -1 else toI (E (aOf l) l.length i.toNat)
theorem EI_nat (l : List (S47)) (i : Nat) : EI l i = toI (E (aOf l) l.length i) := by
  unfold EI; rw [if_neg (by omega), Int.toNat_natCast]
theorem end_prog_f (l : List (S47)) (hl : l.length ≤ 1000) (i : Int) : Ev (fun k => term_End.f k l i) (EI l i) := by
  simp only [term_End.f]
  by_cases h0 : i < 0
  · apply Ev.succ
    simp only [term_End.l0, h0, show (1 : Int) > 0 from by decide, if_true]
    unfold EI; rw [if_pos h0]
    exact Ev.now _
  · obtain ⟨i, rfl⟩ := Int.eq_ofNat_of_zero_le (show 0 ≤ i by omega)
    rw [EI_nat]
    by_cases hb : i < l.length
    · exact end_prog l hl (l.length - i) i 1 (Nat.le_refl _) (by omega) (by omega)
    · apply Ev.succ
      have h3 : (i : Int) ≥ (l.length : Int) := by omega
      simp only [term_End.l0, h0, h3, show (1 : Int) > 0 from by decide, if_true, if_false]
      rw [E, sc_bad (by omega) (by omega)]
      exact Ev.now _
theorem end_ref (l : List (S47)) (hl : l.length ≤ 1000) : ∀ (d i : Nat), l.length - i ≤ d → Ev (fun k => semblanceref05_End.f k l i) (toI (E (aOf l) l.length i)) := by
  intro d
  induction d with
  | zero =>
    intro i hd
    rw [E, sc_bad (by omega) (by omega)]
    have h1 : ¬ ((i : Int) < 0) := by omega
    have h2 : (i : Int) ≥ (l.length : Int) := by omega
    apply Ev.succ
    simp only [semblanceref05_End.f, h1, h2, if_true, if_false]
    apply Ev.succ
    simp only [semblanceref05_End.j0, if_true]
    exact Ev.now _
  | succ d ih =>
    intro i hd
    by_cases hi : i < l.length
    · have h1 : ¬ ((i : Int) < 0) := by omega
      have h2 : ¬ ((i : Int) ≥ (l.length : Int)) := by omega
      have h3 : (0 : Int) ≤ (i : Int) := by omega
      have h4 : (i : Int) < (l.length : Int) := by omega
      have hle := ar_le (opOf l i)
      have ha : aOf l i = ar (opOf l i) := rfl
      have hop : (rd_T47 l (i : Int)).f0 = opOf l i := rfl
      apply Ev.succ
      simp only [semblanceref05_End.f, h1, h2, h3, h4, if_true, if_false, arity_ref, Option.bind_some, hop]
      apply Ev.succ
      by_cases hneg : ar (opOf l i) < 0
      · rw [E, sc_bad (by omega) (by omega)]
        simp only [semblanceref05_End.j0, hneg, decide_true, if_true]
        exact Ev.now _
      · simp only [semblanceref05_End.j0, hneg, decide_false, if_false, Bool.false_eq_true]
        rw [E_eq ⟨hi, by omega⟩, wrap_succ (by omega)]
        -- the loop
        have loop : ∀ (q c n : Nat), (aOf l i).toNat - c = q → c ≤ (aOf l i).toNat → i < n → Ev (fun k => semblanceref05_End.l0 k l i n c) (toI (sc (aOf l) l.length n q)) := by
          intro q
          induction q with
          | zero =>
            intro c n hq hc hn
            have h5 : ¬ ((c : Int) < ar (opOf l i)) := by omega
            apply Ev.succ
            simp only [semblanceref05_End.l0, h3, h4, if_true, arity_ref, Option.bind_some, hop, h5, if_false]
            rw [sc_zero]
            exact Ev.now _
          | succ q ihq =>
            intro c n hq hc hn
            have h5 : (c : Int) < ar (opOf l i) := by omega
            apply Ev.succ
            simp only [semblanceref05_End.l0, h3, h4, if_true, arity_ref, Option.bind_some, hop, h5]
            refine Ev.bind (ih n (by omega)) ?_
            rw [sc_succ]
            cases he : E (aOf l) l.length n with
            | none =>
              have h6 : (toI none) < 0 := by decide
              simp only [h6, if_true]
              exact Ev.now _
            | some f =>
              have h6 : ¬ ((toI (some f)) < 0) := by show ¬ ((f : Int) < 0); omega
              simp only [h6, if_false, Option.bind_some]
              have := E_lt he
              rw [wrap_succ (by omega)]
              exact ihq (c + 1) f (by omega) (by omega) (by omega)
        exact loop _ 0 (i + 1) rfl (by omega) (by omega)
    · rw [E, sc_bad (by omega) (by omega)]
      have h1 : ¬ ((i : Int) < 0) := by omega
      have h2 : (i : Int) ≥ (l.length : Int) := by omega
      apply Ev.succ
      simp only [semblanceref05_End.f, h1, h2, if_true, if_false]
      apply Ev.succ
      simp only [semblanceref05_End.j0, if_true]
      exact Ev.now _
theorem end_ref_f (l : List (S47)) (hl : l.length ≤ 1000) (i : Int) : Ev (fun k => semblanceref05_End.f k l i) (EI l i) := by
  by_cases h0 : i < 0
  · apply Ev.succ
    simp only [semblanceref05_End.f, h0, if_true]
    apply Ev.succ
    simp only [semblanceref05_End.j0, if_true]
    unfold EI; rw [if_pos h0]
    exact Ev.now _
  · obtain ⟨i, rfl⟩ := Int.eq_ofNat_of_zero_le (show 0 ≤ i by omega)
    rw [EI_nat]
    exact end_ref l hl _ i (Nat.le_refl _)

/-! ### where those below begin -/
def blI (l : List (S47)) (i : Nat) : List Int := (bl (aOf l) l.length i).map Nat.cast
theorem below_prog (l : List (S47)) (hl : l.length ≤ 1000) (i e : Nat) (he : E (aOf l) l.length i = some e) : ∀ (q n f : Nat) (acc : List Int), acc.length + q = (aOf l i).toNat → sc (aOf l) l.length n q = some f →
    Ev (fun k => term_Below.l0 k l i acc n) (acc ++ (starts (aOf l) l.length q n).map Nat.cast) := by
  have hi := E_lt he
  have h3 : (0 : Int) ≤ (i : Int) := by omega
  have h4 : (i : Int) < (l.length : Int) := by omega
  have hA := arity_prog (opOf l i)
  have ha : aOf l i = ar (opOf l i) := rfl
  have hle := ar_le (opOf l i)
  intro q
  induction q with
  | zero =>
    intro n f acc hq hs
    have h5 : ¬ ((acc.length : Int) < ar (opOf l i)) := by omega
    apply Ev.succ
    simp only [term_Below.l0, h3, h4, if_true]
    refine Ev.bind hA ?_
    simp only [h5, if_false]
    rw [starts, List.map_nil, List.append_nil]
    exact Ev.now _
  | succ q ih =>
    intro n f acc hq hs
    have h5 : (acc.length : Int) < ar (opOf l i) := by omega
    have h6 : acc.length < 17592186044416 := by omega
    rw [sc_succ] at hs
    obtain ⟨g, hg, hs⟩ := Option.bind_eq_some_iff.mp hs
    apply Ev.succ
    simp only [term_Below.l0, h3, h4, if_true]
    refine Ev.bind hA ?_
    simp only [h5, h6, if_true]
    refine Ev.bind (end_prog_f l hl n) ?_
    rw [EI_nat, hg]
    have := ih g f (acc ++ [(n : Int)]) (by simp; omega) hs
    rw [starts, hg, Option.getD_some, List.map_cons]
    rw [List.append_assoc] at this
    exact this
theorem below_prog_f (l : List (S47)) (hl : l.length ≤ 1000) (i e : Nat) (he : E (aOf l) l.length i = some e) : Ev (fun k => term_Below.f k l i) (blI l i) := by
  have hi := E_lt he
  simp only [term_Below.f]
  refine Ev.bind (end_prog_f l hl i) ?_
  rw [EI_nat, he]
  have h1 : ¬ (toI (some e) < 0) := by show ¬ ((e : Int) < 0); omega
  simp only [h1, if_false]
  rw [wrap_succ (by omega)]
  have h2 := he
  rw [E_eq ⟨by omega, hi.2.2⟩] at h2
  exact below_prog l hl i e he _ (i + 1) e [] (by simp) h2
theorem below_prog_none (l : List (S47)) (hl : l.length ≤ 1000) (i : Int) (he : EI l i < 0) : Ev (fun k => term_Below.f k l i) [] := by
  simp only [term_Below.f]
  refine Ev.bind (end_prog_f l hl i) ?_
  simp only [he, if_true]
  exact Ev.now _
theorem below_ref (l : List (S47)) (hl : l.length ≤ 1000) (i e : Nat) (he : E (aOf l) l.length i = some e) : ∀ (q n f : Nat) (acc : List Int), acc.length + q = (aOf l i).toNat → sc (aOf l) l.length n q = some f →
    Ev (fun k => semblanceref05_Below.l0 k l i acc n acc.length) (acc ++ (starts (aOf l) l.length q n).map Nat.cast) := by
  have hi := E_lt he
  have h3 : (0 : Int) ≤ (i : Int) := by omega
  have h4 : (i : Int) < (l.length : Int) := by omega
  have hop : (rd_T47 l (i : Int)).f0 = opOf l i := rfl
  have ha : aOf l i = ar (opOf l i) := rfl
  have hle := ar_le (opOf l i)
  intro q
  induction q with
  | zero =>
    intro n f acc hq hs
    have h5 : ¬ ((acc.length : Int) < ar (opOf l i)) := by omega
    apply Ev.succ
    simp only [semblanceref05_Below.l0, h3, h4, if_true, arity_ref, Option.bind_some, hop, h5, if_false]
    rw [starts, List.map_nil, List.append_nil]
    exact Ev.now _
  | succ q ih =>
    intro n f acc hq hs
    have h5 : (acc.length : Int) < ar (opOf l i) := by omega
    have h6 : acc.length < 17592186044416 := by omega
    rw [sc_succ] at hs
    obtain ⟨g, hg, hs⟩ := Option.bind_eq_some_iff.mp hs
    apply Ev.succ
    simp only [semblanceref05_Below.l0, h3, h4, if_true, arity_ref, Option.bind_some, hop, h5, h6]
    refine Ev.bind (end_ref_f l hl n) ?_
    rw [EI_nat, hg]
    have := ih g f (acc ++ [(n : Int)]) (by simp; omega) hs
    rw [starts, hg, Option.getD_some, List.map_cons]
    rw [List.append_assoc, List.length_append, List.length_singleton] at this
    rw [wrap_succ (by omega)]
    exact this
theorem below_ref_f (l : List (S47)) (hl : l.length ≤ 1000) (i e : Nat) (he : E (aOf l) l.length i = some e) : Ev (fun k => semblanceref05_Below.f k l i) (blI l i) := by
  have hi := E_lt he
  simp only [semblanceref05_Below.f]
  rw [wrap_succ (by omega)]
  have h2 := he
  rw [E_eq ⟨by omega, hi.2.2⟩] at h2
  exact below_ref l hl i e he _ (i + 1) e [] (by simp) h2

end Go.Proofs.Ytoeioigpkfgppaa.XR
