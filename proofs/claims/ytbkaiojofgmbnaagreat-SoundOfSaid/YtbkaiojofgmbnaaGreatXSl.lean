import Derived.Test.YtbkaiojofgmbnaaGreatXBytes
import Derived.Test.YtbkaiojofgmbnaaGreatXFind
import Derived.Test.YtbkaiojofgmbnaaGreatXFuel
import Derived.Test.YtbkaiojofgmbnaaGreatXNamesPlain
import Derived.Test.YtbkaiojofgmbnaaGreatXShapePlain
import Derived.Test.YtbkaiojofgmbnaaGreatXShort
import Derived.Test.YtbkaiojofgmbnaaGreatXSo
import Derived.Test.YtbkaiojofgmbnaaGreatXSp10
import Derived.Test.YtbkaiojofgmbnaaGreatXSp11
import Derived.Test.YtbkaiojofgmbnaaGreatXSp12
import Derived.Test.YtbkaiojofgmbnaaGreatXSp13
import Derived.Test.YtbkaiojofgmbnaaGreatXSp3
import Derived.Test.YtbkaiojofgmbnaaGreatXSp4
import Derived.Test.YtbkaiojofgmbnaaGreatXSp5
import Derived.Test.YtbkaiojofgmbnaaGreatXSp6
import Derived.Test.YtbkaiojofgmbnaaGreatXSp7
import Derived.Test.YtbkaiojofgmbnaaGreatXSp8
import Derived.Test.YtbkaiojofgmbnaaGreatXSp9
import Derived.Test.YtbkaiojofgmbnaaGreatXTermPlain
namespace Go.Proofs.YtbkaiojofgmbnaaGreat.XS
open Go.RowKit Go.Proofs.YtbkaiojofgmbnaaGreat.XRead Go.Proofs.YtbkaiojofgmbnaaGreat.XS Go.Proofs.YtbkaiojofgmbnaaGreatW.PrintWords Go.Proofs.YtbkaiojofgmbnaaGreatW.PrintLast Go.Proofs.YtbkaiojofgmbnaaGreatW.PrintMore
set_option linter.unusedVariables false
set_option linter.unusedSimpArgs false
section
open Go.Proofs.YtbkaiojofgmbnaaGreat.TermPlain Go.Proofs.YtbkaiojofgmbnaaGreat.XFuel
/-- how many expressions are below a term -/
def ar (op : Int) : Int := if op < 1 then -1 else if op > 20 then -1 else if op = 3 ∨ op = 12 then 1 else if op ≤ 2 ∨ (9 ≤ op ∧ op ≤ 11) then 0 else 2
theorem ar_le (op : Int) : ar op ≤ 2 ∧ -1 ≤ ar op := by unfold ar; split <;> (try split) <;> (try split) <;> (try split) <;> omega
theorem arity_prog (op : Int) : Ev (fun k => term_Arity.f k op) (ar op) := by
  have j1 : ∀ b : Bool, Ev (fun k => term_Arity.j1 k op b) (if b = true then 1 else if op ≤ 2 then 0 else if op ≥ 9 then (if op ≤ 11 then 0 else 2) else 2) := by
    intro b
    apply Ev.succ
    simp only [term_Arity.j1]
    split
    · exact Ev.now _
    · split
      · exact Ev.now _
      · split
        · split <;> exact Ev.now _
        · exact Ev.now _
  by_cases h1 : op < 1
  · simp only [term_Arity.f, h1, if_true]
    apply Ev.succ
    simp only [term_Arity.j0, if_true]
    unfold ar; rw [if_pos h1]
    exact Ev.now _
  by_cases h2 : op > 20
  · simp only [term_Arity.f, h1, h2, if_false, decide_true]
    apply Ev.succ
    simp only [term_Arity.j0, if_true]
    unfold ar; rw [if_neg h1, if_pos h2]
    exact Ev.now _
  · simp only [term_Arity.f, h1, h2, if_false, decide_false]
    apply Ev.succ
    simp only [term_Arity.j0, if_false, Bool.false_eq_true]
    unfold ar; rw [if_neg h1, if_neg h2]
    by_cases h3 : op = 3
    · simp only [h3, if_true]
      have := j1 true
      simp only [if_true, h3] at this
      simp
      exact this
    · simp only [h3, if_false]
      refine Ev.eq (j1 (op == 12)) ?_
      by_cases h12 : op = 12
      · simp [h12]
      · have hb : (op == 12) = false := by simp [h12]
        rw [hb]
        simp only [Bool.false_eq_true, if_false, h12, false_or]
        split
        · rw [if_pos (by omega)]
        · split
          · split
            · rw [if_pos (by omega)]
            · rw [if_neg (by omega)]
          · rw [if_neg (by omega)]
theorem arity_ref (op : Int) : semblanceref05_Arity.f op = some (ar op) := by
  unfold semblanceref05_Arity.f
  by_cases h1 : op < 1
  · rw [if_pos h1]; unfold ar; rw [if_pos h1]
  by_cases h2 : op > 20
  · rw [if_neg h1, if_pos h2]; unfold ar; rw [if_neg h1, if_pos h2]
  · rw [if_neg h1, if_neg h2, Option.bind_some, if_pos (by omega), if_pos (by simp; omega)]
    have key : ∀ n : Fin 21, 1 ≤ n.val → rd ([0, 0, 0, 1, 2, 2, 2, 2, 2, 0, 0, 0, 1, 2, 2, 2, 2, 2, 2, 2, 2] : List Int) ((n.val : Nat) : Int) = ar ((n.val : Nat) : Int) := by decide
    have hn : ((op.toNat : Nat) : Int) = op := by omega
    have := key ⟨op.toNat, by omega⟩ (by show 1 ≤ op.toNat; omega)
    simp only [hn] at this
    rw [this]

/-- what a term does, by its place; how many are below -/
def opOf (l : List (S78)) (i : Nat) : Int := (rd_T78 l i).f0
def aOf (l : List (S78)) (i : Nat) : Int := ar (opOf l i)
def toI : Option Nat → Int
  | none => -1
  | some e => e
theorem end_prog (l : List (S78)) (hl : l.length ≤ 1000) : ∀ (d i p : Nat), l.length - i ≤ d → p + 2 * l.length ≤ 1000000 + 2 * i → i ≤ 2000 → Ev (fun k => term_End.l0 k l i p) (toI (sc (aOf l) l.length i p)) := by
  intro d
  induction d with
  | zero =>
    intro i p hd hp hi0
    apply Ev.succ
    cases p with
    | zero =>
      rw [sc_zero]
      simp only [term_End.l0, show ¬ (((0 : Nat) : Int) > 0) by omega, if_false]
      exact Ev.now _
    | succ p =>
      rw [sc_bad (by omega) (by omega)]
      have h1 : ((p + 1 : Nat) : Int) > 0 := by omega
      have h2 : ¬ ((i : Int) < 0) := by omega
      have h3 : (i : Int) ≥ (l.length : Int) := by omega
      simp only [term_End.l0, h1, h2, h3, if_true, if_false]
      exact Ev.now _
  | succ d ih =>
    intro i p hd hp hi0
    cases p with
    | zero =>
      apply Ev.succ
      rw [sc_zero]
      simp only [term_End.l0, show ¬ (((0 : Nat) : Int) > 0) by omega, if_false]
      exact Ev.now _
    | succ p =>
      have h1 : ((p + 1 : Nat) : Int) > 0 := by omega
      have h2 : ¬ ((i : Int) < 0) := by omega
      apply Ev.succ
      by_cases hi : i < l.length
      · have h3 : ¬ ((i : Int) ≥ (l.length : Int)) := by omega
        have h4 : (0 : Int) ≤ (i : Int) := by omega
        have h5 : (i : Int) < (l.length : Int) := by omega
        simp only [term_End.l0, h1, h2, h3, h4, h5, if_true, if_false]
        have hA := arity_prog (opOf l i)
        refine Ev.bind hA ?_
        by_cases hneg : ar (opOf l i) < 0
        · rw [sc_bad (by omega) (fun h => by have : aOf l i = ar (opOf l i) := rfl; omega)]
          simp only [hneg, if_true]
          exact Ev.now _
        · have hle := ar_le (opOf l i)
          have ha : aOf l i = ar (opOf l i) := rfl
          simp only [hneg, if_false]
          refine Ev.bind hA ?_
          rw [sc_step ⟨hi, by omega⟩]
          have e1 : wrap64 ((i : Int) + 1) = ((i + 1 : Nat) : Int) := wrap_succ (by omega)
          have e2 : wrap64 (((p + 1 : Nat) : Int) + wrap64 (ar (opOf l i) - 1)) = ((p + (aOf l i).toNat : Nat) : Int) := by
            rw [wrap_in (n := ar (opOf l i) - 1) (by omega) (by omega), wrap_in (by omega) (by omega)]
            omega
          rw [e1, e2]
          exact ih _ _ (by omega) (by omega) (by omega)
      · have h3 : (i : Int) ≥ (l.length : Int) := by omega
        rw [sc_bad (by omega) (by omega)]
        simp only [term_End.l0, h1, h2, h3, if_true, if_false]
        exact Ev.now _
/-- the place behind, of whatever place -/
def EI (l : List (S78)) (i : Int) : Int := if i < 0 then -1 else toI (E (aOf l) l.length i.toNat)
theorem EI_nat (l : List (S78)) (i : Nat) : EI l i = toI (E (aOf l) l.length i) := by
  unfold EI; rw [if_neg (by omega), Int.toNat_natCast]
theorem end_prog_f (l : List (S78)) (hl : l.length ≤ 1000) (i : Int) : Ev (fun k => term_End.f k l i) (EI l i) := by
  simp only [term_End.f]
  by_cases h0 : i < 0
  · apply Ev.succ
    simp only [term_End.l0, h0, show (1 : Int) > 0 from by decide, if_true]
    unfold EI; rw [if_pos h0]
    exact Ev.now _
  · obtain ⟨i, rfl⟩ := Int.eq_ofNat_of_zero_le (show 0 ≤ i by omega)
    rw [EI_nat]
    by_cases hb : i < l.length
    · exact end_prog l hl (l.length - i) i 1 (Nat.le_refl _) (by omega) (by omega)
    · apply Ev.succ
      have h3 : (i : Int) ≥ (l.length : Int) := by omega
      simp only [term_End.l0, h0, h3, show (1 : Int) > 0 from by decide, if_true, if_false]
      rw [E, sc_bad (by omega) (by omega)]
      exact Ev.now _
theorem end_ref (l : List (S78)) (hl : l.length ≤ 1000) : ∀ (d i : Nat), l.length - i ≤ d → Ev (fun k => semblanceref05_End.f k l i) (toI (E (aOf l) l.length i)) := by
  intro d
  induction d with
  | zero =>
    intro i hd
    rw [E, sc_bad (by omega) (by omega)]
    have h1 : ¬ ((i : Int) < 0) := by omega
    have h2 : (i : Int) ≥ (l.length : Int) := by omega
    apply Ev.succ
    simp only [semblanceref05_End.f, h1, h2, if_true, if_false]
    apply Ev.succ
    simp only [semblanceref05_End.j0, if_true]
    exact Ev.now _
  | succ d ih =>
    intro i hd
    by_cases hi : i < l.length
    · have h1 : ¬ ((i : Int) < 0) := by omega
      have h2 : ¬ ((i : Int) ≥ (l.length : Int)) := by omega
      have h3 : (0 : Int) ≤ (i : Int) := by omega
      have h4 : (i : Int) < (l.length : Int) := by omega
      have hle := ar_le (opOf l i)
      have ha : aOf l i = ar (opOf l i) := rfl
      have hop : (rd_T78 l (i : Int)).f0 = opOf l i := rfl
      apply Ev.succ
      simp only [semblanceref05_End.f, h1, h2, h3, h4, if_true, if_false, arity_ref, Option.bind_some, hop]
      apply Ev.succ
      by_cases hneg : ar (opOf l i) < 0
      · rw [E, sc_bad (by omega) (by omega)]
        simp only [semblanceref05_End.j0, hneg, decide_true, if_true]
        exact Ev.now _
      · simp only [semblanceref05_End.j0, hneg, decide_false, if_false, Bool.false_eq_true]
        rw [E_eq ⟨hi, by omega⟩, wrap_succ (by omega)]
        -- the loop
        have loop : ∀ (q c n : Nat), (aOf l i).toNat - c = q → c ≤ (aOf l i).toNat → i < n → Ev (fun k => semblanceref05_End.l0 k l i n c) (toI (sc (aOf l) l.length n q)) := by
          intro q
          induction q with
          | zero =>
            intro c n hq hc hn
            have h5 : ¬ ((c : Int) < ar (opOf l i)) := by omega
            apply Ev.succ
            simp only [semblanceref05_End.l0, h3, h4, if_true, arity_ref, Option.bind_some, hop, h5, if_false]
            rw [sc_zero]
            exact Ev.now _
          | succ q ihq =>
            intro c n hq hc hn
            have h5 : (c : Int) < ar (opOf l i) := by omega
            apply Ev.succ
            simp only [semblanceref05_End.l0, h3, h4, if_true, arity_ref, Option.bind_some, hop, h5]
            refine Ev.bind (ih n (by omega)) ?_
            rw [sc_succ]
            cases he : E (aOf l) l.length n with
            | none =>
              have h6 : (toI none) < 0 := by decide
              simp only [h6, if_true]
              exact Ev.now _
            | some f =>
              have h6 : ¬ ((toI (some f)) < 0) := by show ¬ ((f : Int) < 0); omega
              simp only [h6, if_false, Option.bind_some]
              have := E_lt he
              rw [wrap_succ (by omega)]
              exact ihq (c + 1) f (by omega) (by omega) (by omega)
        exact loop _ 0 (i + 1) rfl (by omega) (by omega)
    · rw [E, sc_bad (by omega) (by omega)]
      have h1 : ¬ ((i : Int) < 0) := by omega
      have h2 : (i : Int) ≥ (l.length : Int) := by omega
      apply Ev.succ
      simp only [semblanceref05_End.f, h1, h2, if_true, if_false]
      apply Ev.succ
      simp only [semblanceref05_End.j0, if_true]
      exact Ev.now _
theorem end_ref_f (l : List (S78)) (hl : l.length ≤ 1000) (i : Int) : Ev (fun k => semblanceref05_End.f k l i) (EI l i) := by
  by_cases h0 : i < 0
  · apply Ev.succ
    simp only [semblanceref05_End.f, h0, if_true]
    apply Ev.succ
    simp only [semblanceref05_End.j0, if_true]
    unfold EI; rw [if_pos h0]
    exact Ev.now _
  · obtain ⟨i, rfl⟩ := Int.eq_ofNat_of_zero_le (show 0 ≤ i by omega)
    rw [EI_nat]
    exact end_ref l hl _ i (Nat.le_refl _)

/-! ### where those below begin -/
def blI (l : List (S78)) (i : Nat) : List Int := (bl (aOf l) l.length i).map Nat.cast
theorem below_prog (l : List (S78)) (hl : l.length ≤ 1000) (i e : Nat) (he : E (aOf l) l.length i = some e) : ∀ (q n f : Nat) (acc : List Int), acc.length + q = (aOf l i).toNat → sc (aOf l) l.length n q = some f →
    Ev (fun k => term_Below.l0 k l i acc n) (acc ++ (starts (aOf l) l.length q n).map Nat.cast) := by
  have hi := E_lt he
  have h3 : (0 : Int) ≤ (i : Int) := by omega
  have h4 : (i : Int) < (l.length : Int) := by omega
  have hA := arity_prog (opOf l i)
  have ha : aOf l i = ar (opOf l i) := rfl
  have hle := ar_le (opOf l i)
  intro q
  induction q with
  | zero =>
    intro n f acc hq hs
    have h5 : ¬ ((acc.length : Int) < ar (opOf l i)) := by omega
    apply Ev.succ
    simp only [term_Below.l0, h3, h4, if_true]
    refine Ev.bind hA ?_
    simp only [h5, if_false]
    rw [starts, List.map_nil, List.append_nil]
    exact Ev.now _
  | succ q ih =>
    intro n f acc hq hs
    have h5 : (acc.length : Int) < ar (opOf l i) := by omega
    have h6 : acc.length < 17592186044416 := by omega
    rw [sc_succ] at hs
    obtain ⟨g, hg, hs⟩ := Option.bind_eq_some_iff.mp hs
    apply Ev.succ
    simp only [term_Below.l0, h3, h4, if_true]
    refine Ev.bind hA ?_
    simp only [h5, h6, if_true]
    refine Ev.bind (end_prog_f l hl n) ?_
    rw [EI_nat, hg]
    have := ih g f (acc ++ [(n : Int)]) (by simp; omega) hs
    rw [starts, hg, Option.getD_some, List.map_cons]
    rw [List.append_assoc] at this
    exact this
theorem below_prog_f (l : List (S78)) (hl : l.length ≤ 1000) (i e : Nat) (he : E (aOf l) l.length i = some e) : Ev (fun k => term_Below.f k l i) (blI l i) := by
  have hi := E_lt he
  simp only [term_Below.f]
  refine Ev.bind (end_prog_f l hl i) ?_
  rw [EI_nat, he]
  have h1 : ¬ (toI (some e) < 0) := by show ¬ ((e : Int) < 0); omega
  simp only [h1, if_false]
  rw [wrap_succ (by omega)]
  have h2 := he
  rw [E_eq ⟨by omega, hi.2.2⟩] at h2
  exact below_prog l hl i e he _ (i + 1) e [] (by simp) h2
theorem below_prog_none (l : List (S78)) (hl : l.length ≤ 1000) (i : Int) (he : EI l i < 0) : Ev (fun k => term_Below.f k l i) [] := by
  simp only [term_Below.f]
  refine Ev.bind (end_prog_f l hl i) ?_
  simp only [he, if_true]
  exact Ev.now _
theorem below_ref (l : List (S78)) (hl : l.length ≤ 1000) (i e : Nat) (he : E (aOf l) l.length i = some e) : ∀ (q n f : Nat) (acc : List Int), acc.length + q = (aOf l i).toNat → sc (aOf l) l.length n q = some f →
    Ev (fun k => semblanceref05_Below.l0 k l i acc n acc.length) (acc ++ (starts (aOf l) l.length q n).map Nat.cast) := by
  have hi := E_lt he
  have h3 : (0 : Int) ≤ (i : Int) := by omega
  have h4 : (i : Int) < (l.length : Int) := by omega
  have hop : (rd_T78 l (i : Int)).f0 = opOf l i := rfl
  have ha : aOf l i = ar (opOf l i) := rfl
  have hle := ar_le (opOf l i)
  intro q
  induction q with
  | zero =>
    intro n f acc hq hs
    have h5 : ¬ ((acc.length : Int) < ar (opOf l i)) := by omega
    apply Ev.succ
    simp only [semblanceref05_Below.l0, h3, h4, if_true, arity_ref, Option.bind_some, hop, h5, if_false]
    rw [starts, List.map_nil, List.append_nil]
    exact Ev.now _
  | succ q ih =>
    intro n f acc hq hs
    have h5 : (acc.length : Int) < ar (opOf l i) := by omega
    have h6 : acc.length < 17592186044416 := by omega
    rw [sc_succ] at hs
    obtain ⟨g, hg, hs⟩ := Option.bind_eq_some_iff.mp hs
    apply Ev.succ
    simp only [semblanceref05_Below.l0, h3, h4, if_true, arity_ref, Option.bind_some, hop, h5, h6]
    refine Ev.bind (end_ref_f l hl n) ?_
    rw [EI_nat, hg]
    have := ih g f (acc ++ [(n : Int)]) (by simp; omega) hs
    rw [starts, hg, Option.getD_some, List.map_cons]
    rw [List.append_assoc, List.length_append, List.length_singleton] at this
    rw [wrap_succ (by omega)]
    exact this
theorem below_ref_f (l : List (S78)) (hl : l.length ≤ 1000) (i e : Nat) (he : E (aOf l) l.length i = some e) : Ev (fun k => semblanceref05_Below.f k l i) (blI l i) := by
  have hi := E_lt he
  simp only [semblanceref05_Below.f]
  rw [wrap_succ (by omega)]
  have h2 := he
  rw [E_eq ⟨by omega, hi.2.2⟩] at h2
  exact below_ref l hl i e he _ (i + 1) e [] (by simp) h2
end
section
open Go.Proofs.YtbkaiojofgmbnaaGreat.XFuel
/-! ### names: what counts as one -/
theorem place_loop (xs : List ByteArray) (s : ByteArray) (hx : xs.length ≤ 1000) : ∀ (d n : Nat), xs.length - n = d → n ≤ xs.length →
    ∃ r, Ev (fun k => semblanceref02_Place.l0 k xs s n) r ∧ (0 ≤ r ↔ ∃ x ∈ xs.drop n, x.toList = s.toList) := by
  intro d
  induction d with
  | zero =>
    intro n hd hn
    refine ⟨-1, ?_, ?_⟩
    · apply Ev.succ
      simp only [semblanceref02_Place.l0, show ¬ ((n : Int) < (xs.length : Int)) by omega, if_false]
      exact Ev.now _
    · rw [List.drop_of_length_le (by omega)]
      constructor
      · intro h; exact absurd h (by decide)
      · rintro ⟨x, hx, _⟩; cases hx
  | succ d ih =>
    intro n hd hn
    have h1 : (n : Int) < (xs.length : Int) := by omega
    have h2 : (0 : Int) ≤ (n : Int) := by omega
    have hg : n < xs.length := by omega
    have hr : rdOf ByteArray.empty xs (n : Int) = xs[n] := by simp [rdOf, hg]
    by_cases h : xs[n].toList = s.toList
    · refine ⟨n, ?_, ?_⟩
      · apply Ev.succ
        simp only [semblanceref02_Place.l0, h1, h2, hr, h, if_true]
        exact Ev.now _
      · rw [List.drop_eq_getElem_cons hg]
        exact ⟨fun _ => ⟨_, List.mem_cons_self, h⟩, fun _ => h2⟩
    · obtain ⟨r, he, hv⟩ := ih (n + 1) (by omega) (by omega)
      refine ⟨r, ?_, ?_⟩
      · apply Ev.succ
        simp only [semblanceref02_Place.l0, h1, h2, hr, h, if_true, if_false]
        rw [wrap_succ (by omega)]
        exact he
      · rw [hv, List.drop_eq_getElem_cons hg]
        constructor
        · rintro ⟨x, hx, e⟩; exact ⟨x, List.mem_cons_of_mem _ hx, e⟩
        · rintro ⟨x, hx, e⟩
          rcases List.mem_cons.1 hx with rfl | hx
          · exact absurd e h
          · exact ⟨x, hx, e⟩
def kws : List (List UInt8) := [[99, 104, 97, 114, 116], [101, 118, 101, 110, 116], [118, 97, 114], [108, 101, 97, 102], [111, 114], [97, 110, 100], [101, 110, 116, 101, 114], [101, 120, 105, 116], [111, 110], [97, 117, 116, 111], [97, 110, 121], [105, 110], [109, 105, 110], [109, 97, 120], [110, 111, 116], [116, 114, 117, 101], [102, 97, 108, 115, 101]]
theorem place_kws (s : ByteArray) : ∃ l, semblanceref02_Keywords.f = some l ∧ ∃ r, Ev (fun k => semblanceref02_Place.f k l s) r ∧ (0 ≤ r ↔ s.toList ∈ kws) := by
  obtain ⟨l, hl⟩ : ∃ l, semblanceref02_Keywords.f = some l := ⟨_, rfl⟩
  refine ⟨l, hl, ?_⟩
  have hlv : l.map ByteArray.toList = kws ∧ l.length ≤ 1000 := by
    unfold semblanceref02_Keywords.f at hl
    obtain rfl := Option.some.inj hl
    exact ⟨by decide +kernel, by decide⟩
  obtain ⟨r, he, hv⟩ := place_loop l s hlv.2 _ 0 rfl (Nat.zero_le _)
  refine ⟨r, he, hv.trans ?_⟩
  rw [List.drop_zero]
  have hk : ∀ (xs : List ByteArray), (∃ x ∈ xs, x.toList = s.toList) ↔ s.toList ∈ xs.map ByteArray.toList := by
    intro xs; simp [List.mem_map]
  rw [hk, hlv.1]
theorem keyword_ev (s : ByteArray) : Ev (fun k => names_Keyword.f k s) (decide (s.toList ∈ kws)) := by
  generalize hl : s.toList = t
  have j0 : ∀ b : Bool, Ev (fun k => names_Keyword.j0 k s b) (b || decide (t ∈ kws.drop 10)) := by
    intro b
    apply Ev.succ
    cases b with
    | true => simp only [names_Keyword.j0, if_true, Bool.true_or]; exact Ev.now _
    | false =>
      simp only [names_Keyword.j0, Bool.false_eq_true, if_false, hl, Bool.false_or]
      refine Ev.const ?_
      simp only [kws, List.drop_succ_cons, List.drop_zero, List.mem_cons, List.not_mem_nil, or_false]
      repeat' first
        | rfl
        | (split; · next h => simp [h])
        | (next h => simp [*])
      all_goals simp [*]
  simp only [names_Keyword.f, hl]
  by_cases h : t ∈ kws.take 10
  · have hm : t ∈ kws := List.mem_of_mem_take h
    rw [decide_eq_true hm]
    simp only [kws, List.take_succ_cons, List.take_zero, List.mem_cons, List.not_mem_nil, or_false] at h
    rcases h with h | h | h | h | h | h | h | h | h | h <;> subst h <;> (refine Ev.eq (j0 true) (by simp))
  · have hm : decide (t ∈ kws) = decide (t ∈ kws.drop 10) := by
      apply decide_eq_decide.2
      conv => lhs; rw [← List.take_append_drop 10 kws]
      rw [List.mem_append]
      exact ⟨fun h1 => h1.resolve_left h, Or.inr⟩
    rw [hm]
    simp only [kws, List.take_succ_cons, List.take_zero, List.mem_cons, List.not_mem_nil, or_false, not_or] at h
    obtain ⟨h1, h2, h3, h4, h5, h6, h7, h8, h9, h10⟩ := h
    have e10 : (t == ([97, 117, 116, 111] : List UInt8)) = false := by simp [h10]
    simp only [h1, h2, h3, h4, h5, h6, h7, h8, h9, if_false, e10]
    exact Ev.eq (j0 false) (by rw [Bool.false_or])
theorem isref_loop (s : ByteArray) (hs : s.size ≤ 12) : ∀ (d n : Nat), s.size - n = d → n ≤ s.size →
    Ev (fun k => semblanceref02_Is.l0 k s n) (((List.range s.size).drop n).all fun i => names_Is.ok i (bt s i).toNat) := by
  intro d
  induction d with
  | zero =>
    intro n hd hn
    rw [List.drop_of_length_le (by simp; omega)]
    apply Ev.succ
    simp only [semblanceref02_Is.l0, show ¬ ((n : Int) < (s.size : Int)) by omega, if_false]
    exact Ev.now _
  | succ d ih =>
    intro n hd hn
    have h1 : (n : Int) < (s.size : Int) := by omega
    have h2 : (0 : Int) ≤ (n : Int) := by omega
    have hb := bt_range s n
    have hg : n < (List.range s.size).length := by simp; omega
    have hn1 := ih (n + 1) (by omega) (by omega)
    rw [List.drop_eq_getElem_cons hg, List.getElem_range, List.all_cons]
    have hw : wrap64 (bt s n) = bt s n := wrap_in (by omega) (by omega)
    obtain ⟨c, hc⟩ : ∃ c, bt s n = c := ⟨_, rfl⟩
    rw [hc] at hb hw ⊢
    have j2 : ∀ b : Bool, b = (decide (97 ≤ c.toNat) && decide (c.toNat ≤ 122)) → Ev (fun k => semblanceref02_Is.j2 k s n c b) (names_Is.ok n c.toNat && ((List.range s.size).drop (n + 1)).all fun i => names_Is.ok i (bt s i).toNat) := by
      intro b hbv
      apply Ev.succ
      cases b with
      | true =>
        have : names_Is.ok n c.toNat = true := by unfold names_Is.ok; rw [← hbv, Bool.true_or]
        simp only [semblanceref02_Is.j2, if_true, this, Bool.true_and]
        rw [wrap_succ (by omega)]
        exact hn1
      | false =>
        have ho : names_Is.ok n c.toNat = (n != 0 && ((decide (48 ≤ c.toNat) && decide (c.toNat ≤ 57)) || c.toNat == 95)) := by unfold names_Is.ok; rw [← hbv, Bool.false_or]
        simp only [semblanceref02_Is.j2, Bool.false_eq_true, if_false, ho]
        by_cases h0 : n = 0
        · have h0' : (n : Int) = 0 := by omega
          simp only [h0', if_true]
          simp [h0]
          exact Ev.now _
        · have h0' : ¬ ((n : Int) = 0) := by omega
          have hne : (n != 0) = true := by simp [h0]
          simp only [h0', if_false, hne, Bool.true_and]
          by_cases h95 : c = 95
          · have : (c.toNat == 95) = true := by simp [h95]
            simp only [h95, if_true]
            simp only [← h95, this, Bool.or_true, Bool.true_and]
            rw [wrap_succ (by omega)]
            exact hn1
          · have e95 : (c.toNat == 95) = false := by simp; omega
            simp only [h95, if_false, e95, Bool.or_false]
            by_cases h48 : c < 48
            · have : decide (48 ≤ c.toNat) = false := by simp; omega
              simp only [h48, if_true, this, Bool.false_and]
              exact Ev.now _
            · have e48 : decide (48 ≤ c.toNat) = true := by simp; omega
              simp only [h48, if_false, e48, Bool.true_and]
              by_cases h57 : c > 57
              · have : decide (c.toNat ≤ 57) = false := by simp; omega
                simp only [h57, if_true, this, Bool.false_and]
                exact Ev.now _
              · have : decide (c.toNat ≤ 57) = true := by simp; omega
                simp only [h57, if_false, this, Bool.true_and]
                rw [wrap_succ (by omega)]
                exact hn1
    apply Ev.succ
    simp only [semblanceref02_Is.l0, h1, h2, hc, hw, if_true]
    by_cases h97 : c ≥ 97
    · simp only [h97, if_true]
      refine j2 _ ?_
      rw [show decide (97 ≤ c.toNat) = true by simp; omega, Bool.true_and]
      exact decide_eq_decide.2 (by omega)
    · simp only [h97, if_false]
      refine j2 _ ?_
      rw [show decide (97 ≤ c.toNat) = false by simp; omega, Bool.false_and]
/-- a name, as the program finds it and as the reference does -/
def isN (s : ByteArray) : Bool := if s.size = 0 then false else if 12 < s.size then false else if s.toList ∈ kws then false else names_Is.body s
theorem is_prog (s : ByteArray) : Ev (fun k => names_Is.f k s) (isN s) := by
  unfold isN
  simp only [names_Is.f]
  by_cases h0 : s.size = 0
  · simp only [h0, if_true]; exact Ev.now _
  · by_cases h1 : 12 < s.size
    · simp only [h0, h1, if_true, if_false]; exact Ev.now _
    · simp only [h0, h1, if_false]
      refine Ev.bind (keyword_ev s) ?_
      by_cases hk : s.toList ∈ kws
      · simp only [hk, decide_true, if_true]; exact Ev.now _
      · simp only [hk, decide_false, Bool.false_eq_true, if_false]; exact Ev.now _
theorem is_ref (s : ByteArray) : Ev (fun k => semblanceref02_Is.f k s) (isN s) := by
  unfold isN
  have j0 : ∀ b : Bool, s.size ≤ 12 → Ev (fun k => semblanceref02_Is.j0 k s b) (if b = true then false else names_Is.body s) := by
    intro b hs
    apply Ev.succ
    cases b with
    | true => simp only [semblanceref02_Is.j0, if_true]; exact Ev.now _
    | false =>
      simp only [semblanceref02_Is.j0, Bool.false_eq_true, if_false]
      have := isref_loop s hs _ 0 rfl (Nat.zero_le _)
      rw [List.drop_zero] at this
      exact this
  simp only [semblanceref02_Is.f]
  by_cases h0 : s.size = 0
  · have h0' : (s.size : Int) < 1 := by omega
    simp only [h0', if_true]
    rw [if_pos h0]
    exact Ev.eq (j0 true (by omega)) rfl
  · have h0' : ¬ ((s.size : Int) < 1) := by omega
    rw [if_neg h0]
    by_cases h1 : 12 < s.size
    · have h1' : (s.size : Int) > 12 := by omega
      simp only [h0', h1', if_true, if_false]
      rw [if_pos h1]
      apply Ev.succ
      simp only [semblanceref02_Is.j0, if_true]
      exact Ev.now _
    · have h1' : ¬ ((s.size : Int) > 12) := by omega
      simp only [h0', h1', if_false]
      rw [if_neg h1]
      obtain ⟨l, hl, r, hr, hv⟩ := place_kws s
      simp only [hl, Option.bind_some]
      refine Ev.bind hr (Ev.eq (j0 _ (by omega)) ?_)
      by_cases hk : s.toList ∈ kws
      · rw [if_pos hk, if_pos (decide_eq_true (hv.2 hk))]
      · rw [if_neg hk, if_neg (by rw [decide_eq_true_eq]; exact fun h => hk (hv.1 h))]
end
section
open Go.Proofs.YtbkaiojofgmbnaaGreat.TermPlain Go.Proofs.YtbkaiojofgmbnaaGreat.XFuel
/-! ### what a fold reckons -/
def mkV (l : List (S78)) (MK : Int → List Int → Int) (i : Nat) (vs : List Int) : Int := MK (opOf l i) vs
def vI (l : List (S78)) (MK : Int → List Int → Int) : Nat → Int := val (aOf l) l.length (mkV l MK)
theorem whole_prog (l : List (S78)) : Ev (fun k => term_whole.f k l) (decide (l.length ≤ 40 ∧ E (aOf l) l.length 0 = some l.length)) := by
  simp only [term_whole.f]
  by_cases h0 : (l.length : Int) > 0
  · by_cases h1 : (l.length : Int) ≤ 40
    · simp only [h0, h1, if_true]
      refine Ev.bind (end_prog_f l (by omega) ((0 : Nat) : Int)) (Ev.const ?_)
      rw [EI_nat]
      congr 1
      rw [Bool.eq_iff_iff, beq_iff_eq, decide_eq_true_eq]
      cases he : E (aOf l) l.length 0 with
      | none => simp [toI] <;> omega
      | some e => simp [toI] <;> omega
    · simp only [h0, h1, if_true, if_false]
      refine Ev.const ?_
      rw [decide_eq_false (by omega)]
  · simp only [h0, if_false]
    refine Ev.const ?_
    rw [decide_eq_false]
    intro h
    have := E_lt h.2
    omega
theorem whole_ref (l : List (S78)) : Ev (fun k => semblanceref05_Whole.f k l) (decide (l.length ≤ 40 ∧ E (aOf l) l.length 0 = some l.length)) := by
  simp only [semblanceref05_Whole.f]
  by_cases h1 : (l.length : Int) ≤ 40
  · simp only [h1, if_true]
    refine Ev.bind (end_ref_f l (by omega) ((0 : Nat) : Int)) (Ev.const ?_)
    rw [EI_nat]
    congr 1
    rw [Bool.eq_iff_iff, beq_iff_eq, decide_eq_true_eq]
    cases he : E (aOf l) l.length 0 with
    | none => simp [toI] <;> omega
    | some e => simp [toI] <;> omega
  · simp only [h1, if_false]
    refine Ev.const ?_
    rw [decide_eq_false (by omega)]
theorem fold_go (l : List (S78)) (hl : l.length ≤ 40) (hw : E (aOf l) l.length 0 = some l.length) {mk : Nat → Int → List Int → Option Int} {MK : Int → List Int → Int} (hmk : ∀ op vs, Ev (fun k => mk k op vs) (MK op vs)) :
    ∀ (n : Nat) (come : List Int), n ≤ l.length → come.length = l.length → (∀ j : Nat, n ≤ j → j < l.length → rd come j = vI l MK j) →
    ∃ c, Ev (fun k => term_fold.go k (mk k) l n come) c ∧ c.length = l.length ∧ ∀ j : Nat, j < l.length → rd c j = vI l MK j := by
  intro n
  induction n with
  | zero => intro come _ hc hv; exact ⟨come, Ev.now _, hc, fun j hj => hv j (Nat.zero_le _) hj⟩
  | succ n ih =>
    intro come hn hc hv
    obtain ⟨e, he⟩ := all_end hw n (by omega)
    have hlen : (blI l n).length ≤ 2 := by
      unfold blI bl
      rw [List.length_map, starts_length]
      have : aOf l n = ar (opOf l n) := rfl
      have := ar_le (opOf l n)
      omega
    have hin : ∀ j ∈ bl (aOf l) l.length n, n < j ∧ j < l.length := fun j hj => ⟨(bl_end he hj).1, (bl_end he hj).2.1⟩
    have hvals : term_fold.vals come (blI l n) = some ((bl (aOf l) l.length n).map (vI l MK)) := by
      unfold term_fold.vals
      rw [if_pos (by omega), if_pos]
      · unfold blI
        rw [List.map_map]
        congr 1
        apply List.map_congr_left
        intro j hj
        exact hv j (by have := (hin j hj).1; omega) (hin j hj).2
      · rw [List.all_eq_true]
        intro x hx
        obtain ⟨j, hj, rfl⟩ := List.mem_map.1 hx
        have := (hin j hj).2
        simp only [Bool.and_eq_true, decide_eq_true_eq]
        omega
    have hval : vI l MK n = MK (opOf l n) ((bl (aOf l) l.length n).map (vI l MK)) := val_eq (by omega)
    obtain ⟨c, hc1, hc2⟩ := ih (come.set n (vI l MK n)) (by omega) (by rw [List.length_set, hc]) (by
      intro j hj1 hj2
      by_cases h : j = n
      · subst h
        simp [rd, show j < come.length by omega]
      · have := hv j (by omega) hj2
        rw [← this]
        simp [rd, List.getElem?_set, show ¬ n = j by omega])
    refine ⟨c, ?_, hc2⟩
    simp only [term_fold.go]
    refine Ev.bind (below_prog_f l (by omega) n e he) ?_
    simp only [hvals, Option.bind_some]
    refine Ev.bind (hmk _ _) ?_
    have hop : (rd_T78 l (n : Int)).f0 = opOf l n := rfl
    rw [hop, ← hval]
    exact hc1
/-- a fold of a whole expression is what it comes to; of another, naught -/
theorem fold_prog (l : List (S78)) {mk : Nat → Int → List Int → Option Int} {MK : Int → List Int → Int} (hmk : ∀ op vs, Ev (fun k => mk k op vs) (MK op vs)) :
    Ev (fun k => term_fold.f k (mk k) l) (if l.length ≤ 40 ∧ E (aOf l) l.length 0 = some l.length then vI l MK 0 else 0) := by
  simp only [term_fold.f]
  refine Ev.bind (whole_prog l) ?_
  by_cases h : l.length ≤ 40 ∧ E (aOf l) l.length 0 = some l.length
  · have h1 := E_lt h.2
    rw [if_pos h]
    simp only [decide_eq_true h, if_true]
    simp only [show 1 ≤ l.length ∧ l.length ≤ 40 from ⟨by omega, h.1⟩, and_self, if_true]
    obtain ⟨c, hc1, _, hc2⟩ := fold_go l h.1 h.2 hmk l.length (List.replicate l.length 0) (Nat.le_refl _) (by simp) (fun j h1 h2 => by omega)
    refine Ev.bind hc1 (Ev.const ?_)
    exact congrArg some (hc2 0 (by omega))
  · rw [if_neg h]
    simp only [decide_eq_false h, Bool.false_eq_true, if_false]
    exact Ev.now _

/-! ### depth -/
def mx (a b : Int) : Int := if a < b then b else a
theorem mx_zero (l : List Int) : ∀ x : Int, mx (l.foldl mx x) 0 = l.foldl mx (mx 0 x) := by
  induction l with
  | nil => intro x; simp only [List.foldl_nil, mx]; repeat' split
           all_goals omega
  | cons y l ih =>
    intro x
    rw [List.foldl_cons, List.foldl_cons, ih]
    congr 1
    simp only [mx]
    repeat' split
    all_goals omega
def MKd (_op : Int) (vs : List Int) : Int := wrap64 (vs.foldl mx 0 + 1)
theorem mk_depth (op : Int) (vs : List Int) : Ev (fun k => term_Depth.mk k op vs) (MKd op vs) := by
  show Ev (fun _ => (Max_int.f (vs ++ [0])).bind fun m => some (wrap64 (1 + m))) _
  refine Ev.const ?_
  unfold MKd
  cases vs with
  | nil => rfl
  | cons x l =>
    show (some (List.foldl mx x (l ++ [0]))).bind _ = _
    rw [List.foldl_append, List.foldl_cons, List.foldl_nil, mx_zero, List.foldl_cons, Option.bind_some, Int.add_comm]
theorem depth_ref (l : List (S78)) (hl : l.length ≤ 40) (hw : E (aOf l) l.length 0 = some l.length) : ∀ (d i : Nat), l.length - i ≤ d → i < l.length → Ev (fun k => semblanceref05_Depth.f k l i) (vI l MKd i) := by
  intro d
  induction d with
  | zero => intro i hd hi; omega
  | succ d ih =>
    intro i hd hi
    obtain ⟨e, he⟩ := all_end hw i hi
    have hin : ∀ j ∈ bl (aOf l) l.length i, i < j ∧ j < l.length := fun j hj => ⟨(bl_end he hj).1, (bl_end he hj).2.1⟩
    have hval : vI l MKd i = wrap64 (((bl (aOf l) l.length i).map (vI l MKd)).foldl mx 0 + 1) := val_eq hi
    have hlen : (bl (aOf l) l.length i).length ≤ 2 := by
      unfold bl
      rw [starts_length]
      have : aOf l i = ar (opOf l i) := rfl
      have := ar_le (opOf l i)
      omega
    apply Ev.succ
    simp only [semblanceref05_Depth.f]
    refine Ev.bind (below_ref_f l (by omega) i e he) ?_
    rw [hval]
    generalize hB : bl (aOf l) l.length i = B at hin hlen
    have hb : blI l i = B.map Nat.cast := by unfold blI; rw [hB]
    rw [hb]
    clear hval hb
    have loop : ∀ (q n : Nat) (m : Int), B.length - n = q → n ≤ B.length → Ev (fun k => semblanceref05_Depth.l0 k l m (B.map Nat.cast) n) (wrap64 (((B.drop n).map (vI l MKd)).foldl mx m + 1)) := by
      intro q
      induction q with
      | zero =>
        intro n m hq hn
        apply Ev.succ
        have h1 : ¬ ((n : Int) < ((B.map Nat.cast : List Int).length : Int)) := by simp; omega
        simp only [semblanceref05_Depth.l0, h1, if_false]
        rw [List.drop_of_length_le (by omega)]
        exact Ev.now _
      | succ q ihq =>
        intro n m hq hn
        have hg : n < B.length := by omega
        have h1 : (n : Int) < ((B.map Nat.cast : List Int).length : Int) := by simp; omega
        have h2 : (0 : Int) ≤ (n : Int) := by omega
        have hr : rd (B.map Nat.cast) (n : Int) = (B[n] : Nat) := by simp [rd, hg]
        have hj := hin B[n] (List.getElem_mem hg)
        apply Ev.succ
        simp only [semblanceref05_Depth.l0, h1, h2, if_true, hr]
        refine Ev.bind (ih B[n] (by omega) hj.2) ?_
        rw [List.drop_eq_getElem_cons hg, List.map_cons, List.foldl_cons, wrap_succ (by omega)]
        by_cases hc : vI l MKd B[n] > m
        · simp only [hc, if_true]
          have : mx m (vI l MKd B[n]) = vI l MKd B[n] := if_pos hc
          rw [this]
          exact ihq (n + 1) _ (by omega) (by omega)
        · simp only [hc, if_false]
          have : mx m (vI l MKd B[n]) = m := if_neg hc
          rw [this]
          exact ihq (n + 1) _ (by omega) (by omega)
    exact loop _ 0 0 rfl (Nat.zero_le _)

/-! ### type -/
def takes (op : Int) : Int := if op ≤ 8 then 1 else if op ≤ 12 then 2 else if op ≥ 19 then 2 else 1
def MKt (op : Int) (vs : List Int) : Int := if vs.any (fun x => x != takes op) = true then 0 else if op ≤ 8 then 1 else 2
theorem mk_type (op : Int) (vs : List Int) : Ev (fun k => term_typed.f k op vs) (MKt op vs) := by
  have j0 : ∀ (b : Bool) (c d : Int), Ev (fun k => term_typed.j0 k vs c d b) (if vs.any (fun x => x != if b = true then 2 else c) = true then 0 else d) := by
    intro b c d
    apply Ev.succ
    cases b with
    | true =>
      simp only [term_typed.j0, if_true, term_all.f, Option.bind_some]
      refine Ev.const ?_
      cases vs.any (fun x => x != 2) <;> rfl
    | false =>
      simp only [term_typed.j0, Bool.false_eq_true, if_false, term_all.f, Option.bind_some]
      refine Ev.const ?_
      cases vs.any (fun x => x != c) <;> rfl
  simp only [term_typed.f]
  unfold MKt takes
  by_cases h8 : op ≤ 8
  · simp only [h8, if_true, term_all.f, Option.bind_some]
    refine Ev.const ?_
    cases vs.any (fun x => x != 1) <;> rfl
  · by_cases h12 : op ≤ 12
    · simp only [h8, h12, if_true, if_false]
      exact Ev.eq (j0 true 1 2) (by simp only [if_true])
    · simp only [h8, h12, if_false]
      refine Ev.eq (j0 (decide (op ≥ 19)) 1 2) ?_
      simp only [decide_eq_true_eq]
theorem type_ref (l : List (S78)) (hl : l.length ≤ 40) (hw : E (aOf l) l.length 0 = some l.length) : ∀ (d i : Nat), l.length - i ≤ d → i < l.length → Ev (fun k => semblanceref05_Type.f k l i) (vI l MKt i) := by
  intro d
  induction d with
  | zero => intro i hd hi; omega
  | succ d ih =>
    intro i hd hi
    obtain ⟨e, he⟩ := all_end hw i hi
    have h1 : (0 : Int) ≤ (i : Int) := by omega
    have h2 : (i : Int) < (l.length : Int) := by omega
    have hop : (rd_T78 l (i : Int)).f0 = opOf l i := rfl
    have hin : ∀ j ∈ bl (aOf l) l.length i, i < j ∧ j < l.length := fun j hj => ⟨(bl_end he hj).1, (bl_end he hj).2.1⟩
    have hval : vI l MKt i = MKt (opOf l i) ((bl (aOf l) l.length i).map (vI l MKt)) := val_eq hi
    have hem : opOf l i ≤ 11 → 9 ≤ opOf l i → bl (aOf l) l.length i = [] := by
      intro h3 h4
      have : aOf l i = 0 := by
        show ar (opOf l i) = 0
        unfold ar
        rw [if_neg (by omega), if_neg (by omega), if_neg (by omega), if_pos (by omega)]
      unfold bl
      rw [this]
      rfl
    have hlen : (bl (aOf l) l.length i).length ≤ 2 := by
      unfold bl
      rw [starts_length]
      have : aOf l i = ar (opOf l i) := rfl
      have := ar_le (opOf l i)
      omega
    apply Ev.succ
    simp only [semblanceref05_Type.f, h1, h2, if_true, hop]
    refine Ev.bind (below_ref_f l (by omega) i e he) ?_
    rw [hval]
    generalize opOf l i = op at *
    generalize hB : bl (aOf l) l.length i = B at hin hlen hem
    have hb : blI l i = B.map Nat.cast := by unfold blI; rw [hB]
    rw [hb]
    clear hval hb
    have loop : ∀ (t : Int) (q n : Nat), B.length - n = q → n ≤ B.length → Ev (fun k => semblanceref05_Type.l0 k l op (B.map Nat.cast) t n) (if ((B.drop n).map (vI l MKt)).any (fun x => x != t) = true then 0 else if op ≤ 8 then 1 else 2) := by
      intro t q
      induction q with
      | zero =>
        intro n hq hn
        apply Ev.succ
        have h1 : ¬ ((n : Int) < ((B.map Nat.cast : List Int).length : Int)) := by simp; omega
        simp only [semblanceref05_Type.l0, h1, if_false]
        rw [List.drop_of_length_le (by omega)]
        simp only [List.map_nil, List.any_nil, Bool.false_eq_true, if_false]
        refine Ev.const ?_
        split <;> rfl
      | succ q ihq =>
        intro n hq hn
        have hg : n < B.length := by omega
        have h1 : (n : Int) < ((B.map Nat.cast : List Int).length : Int) := by simp; omega
        have h2 : (0 : Int) ≤ (n : Int) := by omega
        have hr : rd (B.map Nat.cast) (n : Int) = (B[n] : Nat) := by simp [rd, hg]
        have hj := hin B[n] (List.getElem_mem hg)
        apply Ev.succ
        simp only [semblanceref05_Type.l0, h1, h2, if_true, hr]
        refine Ev.bind (ih B[n] (by omega) hj.2) ?_
        rw [List.drop_eq_getElem_cons hg, List.map_cons, List.any_cons, wrap_succ (by omega)]
        by_cases hc : vI l MKt B[n] = t
        · have hb : (vI l MKt B[n] != t) = false := by simp [hc]
          simp only [hc, if_true]
          simp only [bne_self_eq_false, Bool.false_or]
          exact ihq (n + 1) (by omega) (by omega)
        · have hb : (vI l MKt B[n] != t) = true := by simp [hc]
          simp only [hc, if_false, hb, Bool.true_or, if_true]
          exact Ev.now _
    have j1 : ∀ t : Int, Ev (fun k => semblanceref05_Type.j1 k l op (B.map Nat.cast) t) (if (B.map (vI l MKt)).any (fun x => x != t) = true then 0 else if op ≤ 8 then 1 else 2) := by
      intro t
      apply Ev.succ
      simp only [semblanceref05_Type.j1]
      exact loop t _ 0 rfl (Nat.zero_le _)
    have j0 : ∀ b : Bool, Ev (fun k => semblanceref05_Type.j0 k l op (B.map Nat.cast) 1 b) (if (B.map (vI l MKt)).any (fun x => x != if b = true then 2 else 1) = true then 0 else if op ≤ 8 then 1 else 2) := by
      intro b
      apply Ev.succ
      cases b with
      | true => simp only [semblanceref05_Type.j0, if_true]; exact j1 2
      | false => simp only [semblanceref05_Type.j0, Bool.false_eq_true, if_false]; exact j1 1
    have hM : ∀ op vs, MKt op vs = if vs.any (fun x => x != takes op) = true then 0 else if op ≤ 8 then 1 else 2 := fun _ _ => rfl
    rw [hM op (B.map (vI l MKt))]
    unfold takes
    by_cases h12 : op = 12
    · have h8 : ¬ (op ≤ 8) := by omega
      have h2 : (if op ≤ 8 then (1 : Int) else if op ≤ 12 then 2 else if op ≥ 19 then 2 else 1) = 2 := by rw [if_neg h8, if_pos (by omega)]
      rw [h2]
      have := j0 true
      simp only [if_true] at this
      simp only [h12, if_true] at this ⊢
      exact this
    · simp only [h12, if_false]
      by_cases h9 : 9 ≤ op ∧ op ≤ 11
      · have hB0 := hem h9.2 h9.1
        rw [hB0] at j0 ⊢
        exact j0 _
      · refine Ev.eq (j0 _) ?_
        have : (if decide (op ≥ 19) = true then (2 : Int) else 1) = (if op ≤ 8 then 1 else if op ≤ 12 then 2 else if op ≥ 19 then 2 else 1) := by
          simp only [decide_eq_true_eq]
          repeat' split
          all_goals omega
        rw [this]
end
section
open Go.Proofs.YtbkaiojofgmbnaaGreat.TermPlain Go.Proofs.YtbkaiojofgmbnaaGreat.XFuel
/-! ### the check -/
def mayB (op a : Int) (s : ByteArray) : Bool := if op = 1 then (decide (0 ≤ a) && decide (a ≤ 1000000) && decide (s.size = 0)) else a == 0 && (if op = 2 ∨ op = 11 then isN s else decide (s.size = 0))
theorem toList_nil (s : ByteArray) : (s.toList == ([] : List UInt8)) = decide (s.size = 0) := by
  rw [Bool.eq_iff_iff, beq_iff_eq, decide_eq_true_eq]
  have := Go.Proofs.YtbkaiojofgmbnaaGreat.XBytes.tl_length s
  constructor
  · intro h; rw [h] at this; simpa using this.symm
  · intro h; rw [h] at this; exact List.eq_nil_of_length_eq_zero this
theorem may_prog (op a : Int) (s : ByteArray) : Ev (fun k => term_may.f k op a s) (mayB op a s) := by
  simp only [term_may.f, toList_nil]
  unfold mayB
  by_cases h1 : op = 1
  · simp only [h1, if_true]
    refine Ev.const ?_
    by_cases ha : a ≥ 0
    · by_cases hb : a ≤ 1000000
      · simp [ha, hb]
      · simp [ha, hb]
    · simp [ha]
  · by_cases h2 : op = 2
    · subst h2
      simp only [show ¬ ((2 : Int) = 1) by decide, if_true, if_false, true_or]
      by_cases ha : a = 0
      · simp only [ha, if_true]
        refine Ev.bind (is_prog s) (Ev.const ?_)
        simp
      · simp only [ha, if_false]
        refine Ev.const ?_
        simp [ha]
    · by_cases h11 : op = 11
      · subst h11
        simp only [show ¬ ((11 : Int) = 1) by decide, show ¬ ((11 : Int) = 2) by decide, if_true, if_false, or_true]
        by_cases ha : a = 0
        · simp only [ha, if_true]
          refine Ev.bind (is_prog s) (Ev.const ?_)
          simp
        · simp only [ha, if_false]
          refine Ev.const ?_
          simp [ha]
      · simp only [h1, h2, h11, if_false, or_self]
        exact Ev.now _
theorem may_ref (op a : Int) (s : ByteArray) (ho : 1 ≤ op ∧ op ≤ 20) : Ev (fun k => semblanceref05_May.f k op a s) (mayB op a s) := by
  have j0 : ∀ b : Bool, Ev (fun k => semblanceref05_May.j0 k b op a s) (if b = true then false else if op = 2 ∨ op = 11 then isN s else decide (s.size = 0)) := by
    intro b
    apply Ev.succ
    cases b with
    | true => simp only [semblanceref05_May.j0, if_true]; exact Ev.now _
    | false =>
      simp only [semblanceref05_May.j0, Bool.false_eq_true, if_false]
      by_cases h2 : op = 2
      · simp only [h2, if_true, true_or]
        exact Ev.bind (is_ref s) (Ev.now _)
      · by_cases h11 : op = 11
        · simp only [h2, h11, if_true, if_false, or_true]
          exact Ev.bind (is_ref s) (Ev.now _)
        · simp only [h2, h11, if_false, or_self]
          refine Ev.const ?_
          congr 1
          rw [Bool.eq_iff_iff, beq_iff_eq, decide_eq_true_eq]
          omega
  simp only [semblanceref05_May.f, show ¬ op < 1 by omega, show ¬ op > 20 by omega, if_false]
  unfold mayB
  by_cases h1 : op = 1
  · rw [if_pos h1]
    have h3 : ¬ (op = 2 ∨ op = 11) := by omega
    simp only [h1, if_true]
    rw [← h1]
    by_cases ha : a < 0
    · simp only [ha, if_true]
      refine Ev.eq (j0 true) ?_
      simp; omega
    · simp only [ha, if_false]
      refine Ev.eq (j0 _) ?_
      rw [if_neg h3]
      by_cases hb : a > 1000000
      · simp only [hb, decide_true, if_true]
        rw [show decide (a ≤ 1000000) = false by simp; omega, Bool.and_false, Bool.false_and]
      · simp only [hb, decide_false, Bool.false_eq_true, if_false]
        rw [show decide (a ≤ 1000000) = true by simp; omega, show decide (0 ≤ a) = true by simp; omega, Bool.true_and, Bool.true_and]
  · rw [if_neg h1]
    simp only [h1, if_false]
    by_cases ha : a = 0
    · simp only [ha, if_true, show ¬ ((0 : Int) < 0) by decide, if_false]
      rw [← ha]
      refine Ev.eq (j0 _) ?_
      simp [ha]
    · simp only [ha, if_false]
      refine Ev.eq (j0 true) ?_
      simp [ha]
def chk (l : List (S78)) : Int := if 40 < l.length then 8 else if E (aOf l) l.length 0 = some l.length then (if l.any (fun x => !mayB x.f0 x.f1 x.f2) = true then 1 else if 12 < vI l MKd 0 then 6 else 0) else 1
theorem mapM_ev {α β : Type} {f : Nat → α → Option β} {g : α → β} (hmono : ∀ x k, LeO (f k x) (f (k + 1) x)) : ∀ (l : List α), (∀ x ∈ l, Ev (fun k => f k x) (g x)) → Ev (fun k => l.mapM (f k)) (l.map g) := by
  intro l h
  have key : ∃ K, ∀ k, K ≤ k → ∀ x ∈ l, f k x = some (g x) := by
    clear hmono
    induction l with
    | nil => exact ⟨0, fun _ _ _ hx => by cases hx⟩
    | cons y l ih =>
      obtain ⟨K, hK⟩ := ih (fun x hx => h x (List.mem_cons_of_mem _ hx))
      obtain ⟨L, hL⟩ := h y List.mem_cons_self
      refine ⟨max K L, fun k hk x hx => ?_⟩
      rcases List.mem_cons.1 hx with rfl | hx
      · exact hL k (by omega)
      · exact hK k (by omega) x hx
  obtain ⟨K, hK⟩ := key
  exact ⟨K, fun k hk => Go.Proofs.YtbkaiojofgmbnaaGreat.XFind.mapM_of (hK k hk)⟩
theorem check_prog (l : List (S78)) : Ev (fun k => term_Check.f k l) (chk l) := by
  unfold chk
  simp only [term_Check.f]
  by_cases h40 : 40 < l.length
  · simp only [h40, if_true]; exact Ev.now _
  · simp only [h40, if_false]
    refine Ev.bind (whole_prog l) ?_
    by_cases hw : E (aOf l) l.length 0 = some l.length
    · have hd : decide (l.length ≤ 40 ∧ E (aOf l) l.length 0 = some l.length) = true := decide_eq_true ⟨by omega, hw⟩
      rw [if_pos hw]
      simp only [hd, if_true]
      refine Ev.bind (mapM_ev (f := fun k x => term_may.f k x.f0 x.f1 x.f2) (g := fun x => mayB x.f0 x.f1 x.f2) (fun x k => term_may.mono _ _ _ k) l (fun x _ => may_prog _ _ _)) ?_
      have ha : (l.map fun x => mayB x.f0 x.f1 x.f2).any (fun b => !b) = l.any fun x => !mayB x.f0 x.f1 x.f2 := by rw [List.any_map]; rfl
      rw [ha]
      by_cases hm : l.any (fun x => !mayB x.f0 x.f1 x.f2) = true
      · simp only [hm, if_true]; exact Ev.now _
      · simp only [hm, if_false]
        refine Ev.bind (Ev.eq (fold_prog l mk_depth) (if_pos ⟨by omega, hw⟩)) ?_
        refine Ev.const ?_
        split <;> rfl
    · have hd : decide (l.length ≤ 40 ∧ E (aOf l) l.length 0 = some l.length) = false := decide_eq_false (fun h => hw h.2)
      rw [if_neg hw]
      simp only [hd, Bool.false_eq_true, if_false]
      exact Ev.now _
theorem check_loop (l : List (S78)) (hl : l.length ≤ 40) (hw : E (aOf l) l.length 0 = some l.length) : ∀ (d n : Nat), l.length - n = d → n ≤ l.length →
    Ev (fun k => semblanceref05_Check.l0 k l n) (if (l.drop n).any (fun x => !mayB x.f0 x.f1 x.f2) = true then 1 else if 12 < vI l MKd 0 then 6 else 0) := by
  have h0 := E_lt hw
  intro d
  induction d with
  | zero =>
    intro n hd hn
    apply Ev.succ
    simp only [semblanceref05_Check.l0, show ¬ ((n : Int) < (l.length : Int)) by omega, if_false]
    rw [List.drop_of_length_le (by omega)]
    simp only [List.any_nil, Bool.false_eq_true, if_false]
    refine Ev.bind (depth_ref l hl hw _ 0 (Nat.le_refl _) (by omega)) (Ev.const ?_)
    by_cases h : vI l MKd 0 > 12
    · rw [if_pos h, if_pos (by omega)]
    · rw [if_neg h, if_neg (by omega)]
  | succ d ih =>
    intro n hd hn
    have h1 : (n : Int) < (l.length : Int) := by omega
    have h2 : (0 : Int) ≤ (n : Int) := by omega
    have hg : n < l.length := by omega
    have hr : rd_T78 l (n : Int) = l[n] := by simp [rd_T78, hg]
    obtain ⟨e, he⟩ := all_end hw n hg
    have ho : 1 ≤ (l[n]).f0 ∧ (l[n]).f0 ≤ 20 := by
      have h3 : 0 ≤ aOf l n := (E_lt he).2.2
      have h4 : aOf l n = ar (l[n]).f0 := by show ar (rd_T78 l (n : Int)).f0 = _; rw [hr]
      rw [h4] at h3
      unfold ar at h3
      constructor
      · apply Classical.byContradiction
        intro hc
        rw [if_pos (by omega)] at h3
        exact absurd h3 (by decide)
      · apply Classical.byContradiction
        intro hc
        rw [if_neg (by omega), if_pos (by omega)] at h3
        exact absurd h3 (by decide)
    apply Ev.succ
    simp only [semblanceref05_Check.l0, h1, h2, hr, if_true]
    refine Ev.bind (may_ref _ _ _ ho) ?_
    rw [List.drop_eq_getElem_cons hg, List.any_cons]
    cases hm : mayB (l[n]).f0 (l[n]).f1 (l[n]).f2 with
    | true =>
      simp only [if_true, Bool.not_true, Bool.false_or]
      rw [wrap_succ (by omega)]
      exact ih (n + 1) (by omega) (by omega)
    | false =>
      simp only [Bool.false_eq_true, if_false, Bool.not_false, Bool.true_or, if_true]
      exact Ev.now _
theorem check_ref (l : List (S78)) : Ev (fun k => semblanceref05_Check.f k l) (chk l) := by
  unfold chk
  simp only [semblanceref05_Check.f]
  by_cases h40 : 40 < l.length
  · have h40' : (l.length : Int) > 40 := by omega
    simp only [h40, h40', if_true]; exact Ev.now _
  · have h40' : ¬ ((l.length : Int) > 40) := by omega
    simp only [h40, h40', if_false]
    refine Ev.bind (whole_ref l) ?_
    by_cases hw : E (aOf l) l.length 0 = some l.length
    · have hd : decide (l.length ≤ 40 ∧ E (aOf l) l.length 0 = some l.length) = true := decide_eq_true ⟨by omega, hw⟩
      rw [if_pos hw]
      simp only [hd, if_true]
      have := check_loop l (by omega) hw _ 0 rfl (Nat.zero_le _)
      rw [List.drop_zero] at this
      exact this
    · have hd : decide (l.length ≤ 40 ∧ E (aOf l) l.length 0 = some l.length) = false := decide_eq_false (fun h => hw h.2)
      rw [if_neg hw]
      simp only [hd, Bool.false_eq_true, if_false]
      exact Ev.now _
end
section
open Go.Proofs.YtbkaiojofgmbnaaGreat.XFuel Go.Proofs.YtbkaiojofgmbnaaGreat.XFind Go.Proofs.YtbkaiojofgmbnaaGreat.XBytes Go.Proofs.YtbkaiojofgmbnaaGreat.TermPlain
/-! ### whether a text is a name, a term stands right: there is an answer of everything -/
theorem place_any (l : List ByteArray) (s : ByteArray) (hl : l.length ≤ 1000) : ∃ r, Ev (fun k => semblanceref02_Place.f k l s) r := by
  have key : ∀ (d n : Nat), l.length - n = d → n ≤ l.length → ∃ r, Ev (fun k => semblanceref02_Place.l0 k l s n) r := by
    intro d
    induction d with
    | zero =>
      intro n hd hn
      have h1 : ¬ ((n : Int) < (l.length : Int)) := by omega
      exact ⟨_, Ev.succ (by simp only [semblanceref02_Place.l0, h1, if_false]; exact Ev.now _)⟩
    | succ d ih =>
      intro n hd hn
      have h1 : (n : Int) < (l.length : Int) := by omega
      have h2 : (0 : Int) ≤ (n : Int) := by omega
      by_cases h : (rdOf ByteArray.empty l (n : Int)).toList = s.toList
      · exact ⟨_, Ev.succ (by simp only [semblanceref02_Place.l0, h1, h2, h, if_true]; exact Ev.now _)⟩
      · obtain ⟨r, hr⟩ := ih (n + 1) (by omega) (by omega)
        exact ⟨r, Ev.succ (by simp only [semblanceref02_Place.l0, h1, h2, h, if_true, if_false, wrap_succ (show n < 9223372036854775807 by omega)]; exact hr)⟩
  exact key _ 0 rfl (Nat.zero_le _)
def WholeT (l : List (S78)) : Prop := l.length ≤ 40 ∧ E (aOf l) l.length 0 = some l.length
theorem chk_whole {l : List (S78)} (h : chk l = 0) : WholeT l := by
  unfold chk at h
  split at h
  · omega
  · split at h
    · exact ⟨by omega, by assumption⟩
    · omega
theorem tcheck_any (l : List (S78)) : ∃ c, Ev (fun k => semblanceref05_Check.f k l) c ∧ (c = 0 → WholeT l) := ⟨chk l, check_ref l, chk_whole⟩
theorem isN_le {s : ByteArray} (h : isN s = true) : s.size ≤ 12 := by
  unfold isN at h
  split at h
  · omega
  · split at h
    · cases h
    · omega
theorem is_any (s : ByteArray) : ∃ b, Ev (fun k => semblanceref02_Is.f k s) b ∧ (b = true → s.size ≤ 12) := ⟨isN s, is_ref s, isN_le⟩
theorem type_both (l : List (S78)) (h : WholeT l) : ∃ t, Ev (fun k => term_Type.f k l) t ∧ Ev (fun k => semblanceref05_Type.f k l 0) t :=
  ⟨vI l MKt 0, Ev.eq (fold_prog l mk_type) (if_pos h), type_ref l h.1 h.2 _ 0 (Nat.le_refl _) (by have := E_lt h.2; omega)⟩
end
section
open Go.Proofs.YtbkaiojofgmbnaaGreat.XFuel Go.Proofs.YtbkaiojofgmbnaaGreat.XFind Go.Proofs.YtbkaiojofgmbnaaGreat.XNamesPlain Go.Proofs.YtbkaiojofgmbnaaGreat.XBytes
theorem wrap_next {n : Nat} (h : n < 1000000) : wrap64 ((n : Int) + 1) = ((n + 1 : Nat) : Int) := by unfold wrap64; omega
/-- is a name among the variables', the states', the events' names? -/
theorem hasVar_loop (a0 : ByteArray) (l1 : List ByteArray) (l2 : List (S50)) (l3 : List (S46)) (s : ByteArray) (hl : l2.length ≤ 100000) : ∀ (d n : Nat), l2.length - n = d → n ≤ l2.length →
    Ev (fun k => semblanceref14_HasVar.l0 k s n a0 l1 l2 l3) ((l2.drop n).any fun x => x.f0.toList == s.toList) := by
  intro d
  induction d with
  | zero =>
    intro n hd hn
    have h1 : ¬ ((n : Int) < (l2.length : Int)) := by omega
    rw [List.drop_of_length_le (by omega)]
    apply Ev.succ
    simp only [semblanceref14_HasVar.l0, h1, if_false]
    exact Ev.now _
  | succ d ih =>
    intro n hd hn
    have h1 : (n : Int) < (l2.length : Int) := by omega
    have h2 : (0 : Int) ≤ (n : Int) := by omega
    have hg : n < l2.length := by omega
    have hr : rd_T50 l2 (n : Int) = l2[n] := by simp [rd_T50, hg]
    rw [List.drop_eq_getElem_cons hg, List.any_cons]
    apply Ev.succ
    by_cases h : l2[n].f0.toList = s.toList
    · simp only [semblanceref14_HasVar.l0, h1, h2, hr, h, if_true, beq_self_eq_true, Bool.true_or]
      exact Ev.now _
    · simp only [semblanceref14_HasVar.l0, h1, h2, hr, h, if_true, if_false, beq_eq_false_iff_ne.2 h, Bool.false_or, wrap_next (show n < 1000000 by omega)]
      exact ih (n + 1) (by omega) (by omega)
theorem hasVar_ev (a0 : ByteArray) (l1 : List ByteArray) (l2 : List (S50)) (l3 : List (S46)) (s : ByteArray) (hl : l2.length ≤ 100000) : Ev (fun k => semblanceref14_HasVar.f k a0 l1 l2 l3 s) (l2.any fun x => x.f0.toList == s.toList) :=
  hasVar_loop a0 l1 l2 l3 s hl _ 0 rfl (Nat.zero_le _)
theorem hasState_loop (a0 : ByteArray) (l1 : List ByteArray) (l2 : List (S50)) (l3 : List (S46)) (s : ByteArray) (hl : l3.length ≤ 100000) : ∀ (d n : Nat), l3.length - n = d → n ≤ l3.length →
    Ev (fun k => semblanceref14_HasState.l0 k s n a0 l1 l2 l3) ((l3.drop n).any fun x => x.f0.toList == s.toList) := by
  intro d
  induction d with
  | zero =>
    intro n hd hn
    have h1 : ¬ ((n : Int) < (l3.length : Int)) := by omega
    rw [List.drop_of_length_le (by omega)]
    apply Ev.succ
    simp only [semblanceref14_HasState.l0, h1, if_false]
    exact Ev.now _
  | succ d ih =>
    intro n hd hn
    have h1 : (n : Int) < (l3.length : Int) := by omega
    have h2 : (0 : Int) ≤ (n : Int) := by omega
    have hg : n < l3.length := by omega
    have hr : rd_T46 l3 (n : Int) = l3[n] := by simp [rd_T46, hg]
    rw [List.drop_eq_getElem_cons hg, List.any_cons]
    apply Ev.succ
    by_cases h : l3[n].f0.toList = s.toList
    · simp only [semblanceref14_HasState.l0, h1, h2, hr, h, if_true, beq_self_eq_true, Bool.true_or]
      exact Ev.now _
    · simp only [semblanceref14_HasState.l0, h1, h2, hr, h, if_true, if_false, beq_eq_false_iff_ne.2 h, Bool.false_or, wrap_next (show n < 1000000 by omega)]
      exact ih (n + 1) (by omega) (by omega)
theorem hasState_ev (a0 : ByteArray) (l1 : List ByteArray) (l2 : List (S50)) (l3 : List (S46)) (s : ByteArray) (hl : l3.length ≤ 100000) : Ev (fun k => semblanceref14_HasState.f k a0 l1 l2 l3 s) (l3.any fun x => x.f0.toList == s.toList) :=
  hasState_loop a0 l1 l2 l3 s hl _ 0 rfl (Nat.zero_le _)
theorem hasEvent_loop (a0 : ByteArray) (l1 : List ByteArray) (l2 : List (S50)) (l3 : List (S46)) (s : ByteArray) (hl : l1.length ≤ 100000) : ∀ (d n : Nat), l1.length - n = d → n ≤ l1.length →
    Ev (fun k => semblanceref14_HasEvent.l0 k s n a0 l1 l2 l3) ((l1.drop n).any fun x => x.toList == s.toList) := by
  intro d
  induction d with
  | zero =>
    intro n hd hn
    have h1 : ¬ ((n : Int) < (l1.length : Int)) := by omega
    rw [List.drop_of_length_le (by omega)]
    apply Ev.succ
    simp only [semblanceref14_HasEvent.l0, h1, if_false]
    exact Ev.now _
  | succ d ih =>
    intro n hd hn
    have h1 : (n : Int) < (l1.length : Int) := by omega
    have h2 : (0 : Int) ≤ (n : Int) := by omega
    have hg : n < l1.length := by omega
    have hr : rdOf ByteArray.empty l1 (n : Int) = l1[n] := by simp [rdOf, hg]
    rw [List.drop_eq_getElem_cons hg, List.any_cons]
    apply Ev.succ
    by_cases h : l1[n].toList = s.toList
    · simp only [semblanceref14_HasEvent.l0, h1, h2, hr, h, if_true, beq_self_eq_true, Bool.true_or]
      exact Ev.now _
    · simp only [semblanceref14_HasEvent.l0, h1, h2, hr, h, if_true, if_false, beq_eq_false_iff_ne.2 h, Bool.false_or, wrap_next (show n < 1000000 by omega)]
      exact ih (n + 1) (by omega) (by omega)
theorem hasEvent_ev (a0 : ByteArray) (l1 : List ByteArray) (l2 : List (S50)) (l3 : List (S46)) (s : ByteArray) (hl : l1.length ≤ 100000) : Ev (fun k => semblanceref14_HasEvent.f k a0 l1 l2 l3 s) (l1.any fun x => x.toList == s.toList) :=
  hasEvent_loop a0 l1 l2 l3 s hl _ 0 rfl (Nat.zero_le _)
/-- how heavy terms are, acts: there is an answer -/
theorem terms_loop (l : List (S78)) (hl : l.length ≤ 45) : ∀ (d n : Nat), l.length - n = d → n ≤ l.length → ∃ r, Ev (fun k => semblanceref12_terms.l0 k l n) r := by
  intro d
  induction d with
  | zero =>
    intro n hd hn
    have h1 : ¬ ((n : Int) < (l.length : Int)) := by omega
    exact ⟨_, Ev.succ (by simp only [semblanceref12_terms.l0, h1, if_false]; exact Ev.now _)⟩
  | succ d ih =>
    intro n hd hn
    have h1 : (n : Int) < (l.length : Int) := by omega
    have h2 : (0 : Int) ≤ (n : Int) := by omega
    by_cases h : (((rd_T78 l (n : Int)).f2.size : Nat) : Int) > 100
    · exact ⟨_, Ev.succ (by simp only [semblanceref12_terms.l0, h1, h2, h, if_true]; exact Ev.now _)⟩
    · obtain ⟨r, hr⟩ := ih (n + 1) (by omega) (by omega)
      exact ⟨r, Ev.succ (by simp only [semblanceref12_terms.l0, h1, h2, h, if_true, if_false, wrap_next (show n < 1000000 by omega)]; exact hr)⟩
theorem terms_ev (l : List (S78)) : ∃ r, Ev (fun k => semblanceref12_terms.f k l) r := by
  by_cases h : (l.length : Int) > 45
  · exact ⟨_, by unfold semblanceref12_terms.f; simp only [h, if_true]; exact Ev.now _⟩
  · obtain ⟨r, hr⟩ := terms_loop l (by omega) _ 0 rfl (Nat.zero_le _)
    exact ⟨r, by unfold semblanceref12_terms.f; simp only [h, if_false]; exact hr⟩
theorem weigh_loop (l : List (S76)) (hl : l.length ≤ 1000) : ∀ (d n : Nat) (a : Int), l.length - n = d → n ≤ l.length → ∃ r, Ev (fun k => semblanceref12_weigh.l0 k l a n) r := by
  intro d
  induction d with
  | zero =>
    intro n a hd hn
    have h1 : ¬ ((n : Int) < (l.length : Int)) := by omega
    exact ⟨_, Ev.succ (by simp only [semblanceref12_weigh.l0, h1, if_false]; exact Ev.now _)⟩
  | succ d ih =>
    intro n a hd hn
    have h1 : (n : Int) < (l.length : Int) := by omega
    have h2 : (0 : Int) ≤ (n : Int) := by omega
    obtain ⟨t, ht⟩ := terms_ev (rd_T76 l (n : Int)).f2
    by_cases h : (((rd_T76 l (n : Int)).f0.size : Nat) : Int) > 100
    · obtain ⟨r, hr⟩ := ih (n + 1) (wrap64 (wrap64 (wrap64 (a + 1) + t) + 1000)) (by omega) (by omega)
      exact ⟨r, Ev.succ (by simp only [semblanceref12_weigh.l0, h1, h2, if_true, wrap_next (show n < 1000000 by omega)]; exact Ev.bind ht (by simp only [h, if_true]; exact hr))⟩
    · obtain ⟨r, hr⟩ := ih (n + 1) (wrap64 (wrap64 (a + 1) + t)) (by omega) (by omega)
      exact ⟨r, Ev.succ (by simp only [semblanceref12_weigh.l0, h1, h2, if_true, wrap_next (show n < 1000000 by omega)]; exact Ev.bind ht (by simp only [h, if_false]; exact hr))⟩
theorem weigh_ev (l : List (S76)) (hl : l.length ≤ 1000) : ∃ r, Ev (fun k => semblanceref12_weigh.f k l) r := by
  unfold semblanceref12_weigh.f
  exact weigh_loop l hl _ 0 0 rfl (Nat.zero_le _)
theorem light_ts (l : List (S54)) : ∀ all, ∃ r, Ev (fun k => semblanceref12_Light.ts k l all) r := by
  induction l with
  | nil => intro all; exact ⟨_, Ev.now _⟩
  | cons y l ih =>
    intro all
    by_cases h : semblanceref12_Light.t y = true
    · exact ⟨_, by simp only [semblanceref12_Light.ts, h, if_true]; exact Ev.now _⟩
    · have h10 : y.f2.length ≤ 10 := by
        unfold semblanceref12_Light.t at h
        simp only [Bool.or_eq_true, decide_eq_true_eq, not_or] at h
        omega
      obtain ⟨a, ha⟩ := weigh_ev y.f2 (by omega)
      obtain ⟨b, hb⟩ := terms_ev y.f1
      obtain ⟨r, hr⟩ := ih (wrap64 (wrap64 (wrap64 (all + 1) + a) + b))
      exact ⟨r, by simp only [semblanceref12_Light.ts, h, if_false]; exact Ev.bind ha (Ev.bind hb hr)⟩
theorem light_ss (l : List (S46)) : ∀ all, ∃ r, Ev (fun k => semblanceref12_Light.ss k l all) r := by
  induction l with
  | nil => intro all; exact ⟨_, Ev.now _⟩
  | cons x l ih =>
    intro all
    by_cases h0 : all ≤ 160
    · by_cases h : semblanceref12_Light.s x = true
      · exact ⟨_, by simp only [semblanceref12_Light.ss, h0, h, if_true]; exact Ev.now _⟩
      · have h10 : x.f3.length ≤ 10 ∧ x.f4.length ≤ 10 := by
          unfold semblanceref12_Light.s at h
          simp only [Bool.or_eq_true, decide_eq_true_eq, not_or] at h
          omega
        obtain ⟨a, ha⟩ := weigh_ev x.f3 (by omega)
        obtain ⟨b, hb⟩ := weigh_ev x.f4 (by omega)
        obtain ⟨p, hp⟩ := light_ts x.f5 (wrap64 (wrap64 (all + a) + b))
        cases p with
        | none => exact ⟨_, by simp only [semblanceref12_Light.ss, h0, h, if_true, if_false]; exact Ev.bind ha (Ev.bind hb (Ev.bind hp (Ev.now _)))⟩
        | some all' =>
          obtain ⟨r, hr⟩ := ih all'
          exact ⟨r, by simp only [semblanceref12_Light.ss, h0, h, if_true, if_false]; exact Ev.bind ha (Ev.bind hb (Ev.bind hp hr))⟩
    · exact ⟨_, by simp only [semblanceref12_Light.ss, h0, if_false]; exact Ev.now _⟩
theorem long_j1 (l : List ByteArray) (n : Int) : ∃ b, Ev (fun k => semblanceref11_Long.j1 k l n false) b ∧ (b = false → l.length ≤ 30) := by
  by_cases h : (l.length : Int) > 30
  · exact ⟨true, Ev.succ (by simp only [semblanceref11_Long.j1, h, Bool.false_eq_true, if_false, if_true]; exact Ev.now _), fun e => by cases e⟩
  · obtain ⟨r, hr⟩ := place_any l ⟨#[]⟩ (by omega)
    exact ⟨_, Ev.succ (by simp only [semblanceref11_Long.j1, h, Bool.false_eq_true, if_false]; exact Ev.bind hr (Ev.now _)), fun _ => by omega⟩
theorem long_loop (l : List ByteArray) : ∀ (d n : Nat), 100 - n = d → n ≤ l.length → n ≤ 100 → ∃ b, Ev (fun k => semblanceref11_Long.l0 k l n) b ∧ (b = false → l.length ≤ 30) := by
  intro d
  induction d with
  | zero =>
    intro n hd hn h100
    obtain ⟨b, hb, hf⟩ := long_j1 l n
    have h2 : decide ((n : Int) < 100) = false := decide_eq_false (by omega)
    refine ⟨b, Ev.succ ?_, hf⟩
    by_cases h1 : (n : Int) < (l.length : Int)
    · simp only [semblanceref11_Long.l0, h1, h2, if_true]; exact hb
    · simp only [semblanceref11_Long.l0, h1, if_false]; exact hb
  | succ d ih =>
    intro n hd hn h100
    by_cases h1 : (n : Int) < (l.length : Int)
    · have h2 : decide ((n : Int) < 100) = true := decide_eq_true (by omega)
      have h3 : (0 : Int) ≤ (n : Int) := by omega
      by_cases h : (((rdOf ByteArray.empty l (n : Int)).size : Nat) : Int) > 100
      · exact ⟨true, Ev.succ (Ev.succ (by simp only [semblanceref11_Long.l0, semblanceref11_Long.j1, h1, h2, h3, h, if_true]; exact Ev.now _)), fun e => by cases e⟩
      · obtain ⟨b, hb, hf⟩ := ih (n + 1) (by omega) (by omega) (by omega)
        exact ⟨b, Ev.succ (Ev.succ (by simp only [semblanceref11_Long.l0, semblanceref11_Long.j1, h1, h2, h3, h, if_true, if_false, wrap_next (show n < 1000000 by omega)]; exact hb)), hf⟩
    · obtain ⟨b, hb, hf⟩ := long_j1 l n
      exact ⟨b, Ev.succ (by simp only [semblanceref11_Long.l0, h1, if_false]; exact hb), hf⟩
/-- whether a chart is light is answered of every chart; a light one is small -/
theorem light_ev (a0 : ByteArray) (l1 : List ByteArray) (l2 : List (S50)) (l3 : List (S46)) : ∃ b, Ev (fun k => semblanceref12_Light.f k a0 l1 l2 l3) b ∧ (b = true → l1.length ≤ 30 ∧ l2.length ≤ 10 ∧ l3.length ≤ 65) := by
  obtain ⟨t, ht, hf⟩ := long_loop l1 _ 0 rfl (Nat.zero_le _) (by omega)
  unfold semblanceref12_Light.f
  by_cases h : (decide ((a0.size : Int) > 100) || (t || (decide ((l2.length : Int) > 10) || decide ((l3.length : Int) > 65)))) = true
  · exact ⟨false, Ev.bind ht (by simp only [h, if_true]; exact Ev.now _), fun e => by cases e⟩
  · have hs : l1.length ≤ 30 ∧ l2.length ≤ 10 ∧ l3.length ≤ 65 := by
      simp only [Bool.or_eq_true, decide_eq_true_eq, not_or] at h
      exact ⟨hf (by simpa using h.2.1), by omega, by omega⟩
    by_cases h2 : (l2.any fun x => decide ((x.f0.size : Int) > 100)) = true
    · exact ⟨false, Ev.bind ht (by simp only [h, h2, if_false, if_true]; exact Ev.now _), fun e => by cases e⟩
    · obtain ⟨r, hr⟩ := light_ss l3 0
      exact ⟨r, Ev.bind ht (by simp only [h, h2, if_false]; exact hr), fun _ => hs⟩
/-! ### what is noted at all places -/
theorem brk_some {α : Type} {h : Nat → Option (List α)} {g : Nat → List α} : ∀ {n : Nat}, (∀ i, i < n → h i = some (g i)) → brk_all n h = some (rules_all n g)
  | 0, _ => rfl
  | n + 1, hh => by
    show (brk_all n h).bind _ = _
    rw [brk_some (fun i hi => hh i (by omega)), Option.bind_some, hh n (by omega), Option.bind_some, rules_all_succ]
theorem rules_all_list {α : Type} (xs : List Int) (f : Int → α) : rules_all xs.length (fun j => [f (rd xs (j : Int))]) = xs.map f := by
  have h1 : ∀ (l : List Nat) (g : Nat → α), l.flatMap (fun j => [g j]) = l.map g := fun l g => by
    induction l with
    | nil => rfl
    | cons x l ih => rw [List.flatMap_cons, ih]; rfl
  unfold rules_all
  rw [h1]
  apply List.ext_getElem
  · simp
  · intro i h2 h3
    simp only [List.length_map] at h3
    simp [rd, h3]
theorem twn_all {α : Type} (l : List (List UInt8)) (f : Int → α) : ∀ n, (twn l n).map f = rules_all n (fun i => if l.getD i [] ∈ l.take i then [f (i : Int)] else [])
  | 0 => rfl
  | n + 1 => by
    rw [twn_succ, List.map_append, twn_all l f n, rules_all_succ]
    congr 1
    split <;> rfl
/-- twins of a list, as flaws: place by place -/
theorem twins_of (rule : Int) (l : List ByteArray) (hl : l.length ≤ 1000000) (hs : ∀ s ∈ l, s.size ≤ 1000000) : rules_twins.of rule l = some (rules_all l.length (fun i => if (l.map bts).getD i [] ∈ (l.map bts).take i then [(⟨rule, (i : Int), 0⟩ : S65)] else [])) := by
  unfold rules_twins.of names_Twins.f
  rw [if_pos hl, if_pos (List.all_eq_true.2 fun s h => decide_eq_true (hs s h))]
  refine congrArg some ((rules_all_list (twinsF l) (fun i => (⟨rule, i, 0⟩ : S65))).trans ?_)
  unfold twinsF
  rw [twn_all]
theorem tlb (x : ByteArray) : x.toList = bts x := tl_eq x
/-- whether a text stood there already -/
theorem dup_iff (l : List ByteArray) (i : Nat) (hi : i < l.length) : ((List.range i).any fun m => ((rdOf ByteArray.empty l (m : Int)).toList == (rdOf ByteArray.empty l (i : Int)).toList)) = decide ((l.map bts).getD i [] ∈ (l.map bts).take i) := by
  rw [Bool.eq_iff_iff, List.any_eq_true, decide_eq_true_eq]
  have hg : ∀ m : Nat, m < l.length → (rdOf ByteArray.empty l (m : Int)).toList = (l.map bts).getD m [] := fun m hm => by
    simp [rdOf, hm, tlb]
  constructor
  · rintro ⟨m, hm, h⟩
    have hm := List.mem_range.1 hm
    have h := beq_iff_eq.1 h
    rw [hg m (by omega), hg i hi] at h
    rw [← h, List.getD, List.getElem?_eq_getElem (by simp; omega), Option.getD_some]
    exact List.mem_iff_getElem.2 ⟨m, by simp; omega, by simp⟩
  · intro h
    obtain ⟨m, hm, h⟩ := List.mem_iff_getElem.1 h
    simp only [List.length_take, List.length_map] at hm
    refine ⟨m, List.mem_range.2 (by omega), beq_iff_eq.2 ?_⟩
    rw [hg m (by omega), hg i hi, ← h]
    simp [List.getD, List.getElem?_eq_getElem (show m < l.length by omega)]
end
section

namespace Sh
open Go.Proofs.YtbkaiojofgmbnaaGreat.ShapePlain Go.Proofs.YtbkaiojofgmbnaaGreat.XFuel
/-- a state's parent, a state's kind, by its place -/
def Pf (l : List (S46)) (i : Nat) : Int := (rd_T46 l i).f2
def Kf (l : List (S46)) (i : Nat) : Int := (rd_T46 l i).f1

/-! ### who is above: the reference -/
theorem above_ref (l : List (S46)) (hl : l.length ≤ 1000) : ∀ (i : Nat) (acc : List Int), i < l.length → valid (Pf l) (Kf l) (i + 1) → acc.length + i ≤ 2000 →
    Ev (fun k => semblanceref10_Above.l0 k l i acc) (acc ++ anc (Pf l) i) := by
  intro i
  induction i using Nat.strongRecOn with
  | _ i ih =>
    intro acc hi hv ha
    have h1 : (0 : Int) ≤ (i : Int) := by omega
    have h2 : (i : Int) < (l.length : Int) := by omega
    apply Ev.succ
    by_cases h0 : i = 0
    · subst h0
      have h3 : ¬ ((rd_T46 l ((0 : Nat) : Int)).f2 ≥ 0) := by have : Pf l 0 = -1 := hv.1; unfold Pf at this; omega
      simp only [semblanceref10_Above.l0, h1, h2, h3, if_true, if_false]
      rw [valid_root hv, List.append_nil]
      exact Ev.now _
    · have g := hv.2.2 i (by omega) (by omega)
      have g1 : 0 ≤ (rd_T46 l (i : Int)).f2 := g.1
      have g2 : (rd_T46 l (i : Int)).f2 < i := g.2.1
      have h3 : (rd_T46 l (i : Int)).f2 ≥ 0 := g1
      have h4 : acc.length < 17592186044416 := by omega
      simp only [semblanceref10_Above.l0, h1, h2, h3, h4, if_true]
      have e : (rd_T46 l (i : Int)).f2 = (((Pf l i).toNat : Nat) : Int) := by
        have : Pf l i = (rd_T46 l (i : Int)).f2 := rfl
        rw [this]; omega
      have hlt : (Pf l i).toNat < i := by have := e; omega
      rw [e]
      have hv' : valid (Pf l) (Kf l) ((Pf l i).toNat + 1) := ⟨hv.1, hv.2.1, fun j hj1 hj2 => hv.2.2 j hj1 (by omega)⟩
      have := ih (Pf l i).toNat hlt (acc ++ [(((Pf l i).toNat : Nat) : Int)]) (by omega) hv' (by simp; omega)
      rw [valid_anc hv (by omega) (by omega), chain]
      simpa using this
theorem above_ref_f (l : List (S46)) (hl : l.length ≤ 1000) (i : Nat) (hi : i < l.length) (hv : valid (Pf l) (Kf l) (i + 1)) : Ev (fun k => semblanceref10_Above.f k l i) (anc (Pf l) i) := by
  have := above_ref l hl i [] hi hv (by simp; omega)
  simpa [semblanceref10_Above.f] using this
theorem in_ref (x : Int) (xs : List Int) (hx : xs.length ≤ 100000) : ∀ (d n : Nat), xs.length - n = d → n ≤ xs.length → Ev (fun k => semblanceref10_In.l0 k xs x n) (decide (x ∈ xs.drop n)) := by
  intro d
  induction d with
  | zero =>
    intro n hd hn
    have h1 : ¬ ((n : Int) < (xs.length : Int)) := by omega
    apply Ev.succ
    simp only [semblanceref10_In.l0, h1, if_false]
    rw [List.drop_of_length_le (by omega)]
    exact Ev.now _
  | succ d ih =>
    intro n hd hn
    have h1 : (n : Int) < (xs.length : Int) := by omega
    have h2 : (0 : Int) ≤ (n : Int) := by omega
    have h3 : n < xs.length := by omega
    apply Ev.succ
    rw [List.drop_eq_getElem_cons h3]
    have hr : rd xs (n : Int) = xs[n] := by simp [rd, h3]
    by_cases hc : xs[n] = x
    · have hc' : rd xs (n : Int) = x := by rw [hr]; exact hc
      simp only [semblanceref10_In.l0, h1, h2, hc', if_true]
      rw [decide_eq_true (by rw [← hc]; exact List.mem_cons_self)]
      exact Ev.now _
    · have hc' : ¬ (rd xs (n : Int) = x) := by rw [hr]; exact hc
      simp only [semblanceref10_In.l0, h1, h2, hc', if_true, if_false]
      rw [wrap_succ (by omega)]
      have hne : ¬ (x = xs[n]) := fun e => hc e.symm
      refine Ev.eq (ih (n + 1) (by omega) (by omega)) ?_
      rw [decide_eq_decide, List.mem_cons]
      exact ⟨.inr, fun h => h.resolve_left hne⟩
theorem in_ref_f (x : Int) (xs : List Int) (hx : xs.length ≤ 100000) : Ev (fun k => semblanceref10_In.f k xs x) (decide (x ∈ xs)) := in_ref x xs hx xs.length 0 (by omega) (by omega)

/-! ### which states may stand so: the reference -/
theorem may_loop (l : List (S46)) (hl : l.length ≤ 1000) : ∀ (d i : Nat), l.length - i = d → 1 ≤ i → i ≤ l.length → valid (Pf l) (Kf l) i →
    ∃ b, Ev (fun k => semblanceref10_may.l0 k l i) b ∧ (b = true ↔ valid (Pf l) (Kf l) l.length) := by
  intro d
  induction d with
  | zero =>
    intro i hd h1 hi hv
    have h2 : ¬ ((i : Int) < (l.length : Int)) := by omega
    refine ⟨true, ?_, ?_⟩
    · apply Ev.succ
      simp only [semblanceref10_may.l0, h2, if_false]
      exact Ev.now _
    · obtain rfl : i = l.length := by omega
      simp [hv]
  | succ d ih =>
    intro i hd h1 hi hv
    have a1 : (i : Int) < (l.length : Int) := by omega
    have a2 : (0 : Int) ≤ (i : Int) := by omega
    have a3 : ¬ ((i : Int) = 0) := by omega
    have e1 : ((i - 1 : Nat) : Int) = (i : Int) - 1 := by omega
    have hab := above_ref_f l hl (i - 1) (by omega) (by rw [show i - 1 + 1 = i by omega]; exact hv)
    have hin := in_ref_f (rd_T46 l (i : Int)).f2 (anc (Pf l) (i - 1)) (by have := anc_length (P := Pf l) (i - 1); omega)
    have w1 : wrap64 ((i : Int) - 1) = (((i - 1 : Nat) : Nat) : Int) := by rw [wrap_in (by omega) (by omega)]; omega
    have w2 : wrap64 ((i : Int) + 1) = ((i + 1 : Nat) : Int) := wrap_succ (by omega)
    have hbad : ¬ good (Pf l) (Kf l) i → ¬ valid (Pf l) (Kf l) l.length := fun hg hv2 => hg (hv2.2.2 i h1 (by omega))
    have hfalse : Ev (fun k => semblanceref10_may.l0 k l i) false → ¬ good (Pf l) (Kf l) i → ∃ b, Ev (fun k => semblanceref10_may.l0 k l i) b ∧ (b = true ↔ valid (Pf l) (Kf l) l.length) := fun h hg => ⟨false, h, by simp [hbad hg]⟩
    have more : good (Pf l) (Kf l) i → ∃ b, Ev (fun k => semblanceref10_may.l0 k l ((i + 1 : Nat) : Int)) b ∧ (b = true ↔ valid (Pf l) (Kf l) l.length) := by
      intro g
      refine ih (i + 1) (by omega) (by omega) (by omega) ⟨hv.1, hv.2.1, fun j hj1 hj2 => ?_⟩
      by_cases e : j = i
      · rw [e]; exact g
      · exact hv.2.2 j hj1 (by omega)
    have hK : Kf l i = (rd_T46 l (i : Int)).f1 := rfl
    have hP : Pf l i = (rd_T46 l (i : Int)).f2 := rfl
    by_cases k1 : (rd_T46 l (i : Int)).f1 < 1
    · refine hfalse ?_ (fun g => by have := g.2.2.2.2.1; omega)
      apply Ev.succ
      simp only [semblanceref10_may.l0, a1, a2, k1, if_true]
      apply Ev.succ
      simp only [semblanceref10_may.j2, if_true]
      exact Ev.now _
    by_cases k3 : (rd_T46 l (i : Int)).f1 > 3
    · refine hfalse ?_ (fun g => by have := g.2.2.2.2.2; omega)
      apply Ev.succ
      simp only [semblanceref10_may.l0, a1, a2, k1, k3, if_true, if_false, decide_true]
      apply Ev.succ
      simp only [semblanceref10_may.j2, if_true]
      exact Ev.now _
    by_cases p0 : (rd_T46 l (i : Int)).f2 < 0
    · refine hfalse ?_ (fun g => by have := g.1; omega)
      apply Ev.succ
      simp only [semblanceref10_may.l0, a1, a2, k1, k3, if_true, if_false, decide_false]
      apply Ev.succ
      simp only [semblanceref10_may.j2, a1, a2, a3, p0, if_true, if_false, Bool.false_eq_true]
      exact Ev.now _
    by_cases p1 : (rd_T46 l (i : Int)).f2 ≥ i
    · refine hfalse ?_ (fun g => by have := g.2.1; omega)
      apply Ev.succ
      simp only [semblanceref10_may.l0, a1, a2, k1, k3, if_true, if_false, decide_false]
      apply Ev.succ
      simp only [semblanceref10_may.j2, a1, a2, a3, p0, p1, if_true, if_false, Bool.false_eq_true]
      exact Ev.now _
    have p2 : 0 ≤ (rd_T46 l (i : Int)).f2 := by omega
    have p3 : (rd_T46 l (i : Int)).f2 < (l.length : Int) := by omega
    have eK : Kf l (Pf l i).toNat = (rd_T46 l (rd_T46 l (i : Int)).f2).f1 := by
      unfold Kf; rw [hP, Int.toNat_of_nonneg p2]
    by_cases k0 : (rd_T46 l (rd_T46 l (i : Int)).f2).f1 = 1
    · refine hfalse ?_ (fun g => by have := g.2.2.1; omega)
      apply Ev.succ
      simp only [semblanceref10_may.l0, a1, a2, k1, k3, if_true, if_false, decide_false]
      apply Ev.succ
      simp only [semblanceref10_may.j2, a1, a2, a3, p0, p1, p2, p3, k0, if_true, if_false, Bool.false_eq_true]
      exact Ev.now _
    have gd : (Pf l i = (i : Int) - 1 ∨ Pf l i ∈ anc (Pf l) (i - 1)) → good (Pf l) (Kf l) i := fun h => ⟨p2, Int.not_le.1 p1, by rw [eK]; exact k0, h, Int.not_lt.1 k1, Int.not_lt.1 k3⟩
    by_cases pe : (rd_T46 l (i : Int)).f2 = (((i - 1 : Nat) : Nat) : Int)
    · obtain ⟨b, hb, hbv⟩ := more (gd (.inl (hP.trans (pe.trans e1))))
      refine ⟨b, ?_, hbv⟩
      apply Ev.succ
      simp only [semblanceref10_may.l0, a1, a2, k1, k3, if_true, if_false, decide_false]
      apply Ev.succ
      simp only [semblanceref10_may.j2, a1, a2, a3, p0, p1, p2, p3, k0, w1, pe, w2, if_true, if_false, Bool.false_eq_true]
      simp only [pe] at p0 p1 p2 p3 k0
      simp only [p0, p1, p2, p3, k0, if_true, if_false]
      exact hb
    · by_cases hm : (rd_T46 l (i : Int)).f2 ∈ anc (Pf l) (i - 1)
      · obtain ⟨b, hb, hbv⟩ := more (gd (.inr hm))
        refine ⟨b, ?_, hbv⟩
        apply Ev.succ
        simp only [semblanceref10_may.l0, a1, a2, k1, k3, if_true, if_false, decide_false]
        apply Ev.succ
        simp only [semblanceref10_may.j2, a1, a2, a3, p0, p1, p2, p3, k0, w1, pe, w2, if_true, if_false, Bool.false_eq_true]
        refine Ev.bind hab (Ev.bind hin ?_)
        simp only [hm, decide_true, if_true]
        exact hb
      · refine hfalse ?_ (fun g => by
          rcases g.2.2.2.1 with h | h
          · exact pe (hP.symm.trans (h.trans e1.symm))
          · exact hm h)
        apply Ev.succ
        simp only [semblanceref10_may.l0, a1, a2, k1, k3, if_true, if_false, decide_false]
        apply Ev.succ
        simp only [semblanceref10_may.j2, a1, a2, a3, p0, p1, p2, p3, k0, w1, pe, w2, if_true, if_false, Bool.false_eq_true]
        refine Ev.bind hab (Ev.bind hin ?_)
        simp only [hm, decide_false, if_false, Bool.false_eq_true]
        exact Ev.now _
theorem may_ref (l : List (S46)) (hl : l.length ≤ 1000) : ∃ b, Ev (fun k => semblanceref10_may.f k l) b ∧ (b = true ↔ 1 ≤ l.length ∧ valid (Pf l) (Kf l) l.length) := by
  by_cases h0 : (l.length : Int) < 1
  · refine ⟨false, ?_, by simp; omega⟩
    simp only [semblanceref10_may.f, h0, if_true]
    apply Ev.succ
    simp only [semblanceref10_may.j0, if_true]
    exact Ev.now _
  · have h1 : (0 : Int) < (l.length : Int) := by omega
    have hP : Pf l 0 = (rd_T46 l 0).f2 := rfl
    have hK : Kf l 0 = (rd_T46 l 0).f1 := rfl
    by_cases hp : (rd_T46 l 0).f2 = -1
    · have hp' : ((rd_T46 l 0).f2 != -1) = false := by simp [hp]
      by_cases k1 : (rd_T46 l 0).f1 < 1
      · refine ⟨false, ?_, by simp; intro _ hv; have := hv.2.1; omega⟩
        simp only [semblanceref10_may.f, h0, h1, hp', if_true, if_false]
        apply Ev.succ
        simp only [semblanceref10_may.j0, if_false, Bool.false_eq_true]
        apply Ev.succ
        simp only [semblanceref10_may.l0, h1, k1, if_true, Int.le_refl]
        apply Ev.succ
        simp only [semblanceref10_may.j2, if_true]
        exact Ev.now _
      by_cases k3 : (rd_T46 l 0).f1 > 3
      · refine ⟨false, ?_, by simp; intro _ hv; have := hv.2.1; omega⟩
        simp only [semblanceref10_may.f, h0, h1, hp', if_true, if_false]
        apply Ev.succ
        simp only [semblanceref10_may.j0, if_false, Bool.false_eq_true]
        apply Ev.succ
        simp only [semblanceref10_may.l0, h1, k1, k3, if_true, if_false, decide_true, Int.le_refl]
        apply Ev.succ
        simp only [semblanceref10_may.j2, if_true]
        exact Ev.now _
      · obtain ⟨b, hb, hbv⟩ := may_loop l hl (l.length - 1) 1 rfl (Nat.le_refl _) (by omega) ⟨by rw [hP]; exact hp, by omega, fun j h1 h2 => by omega⟩
        refine ⟨b, ?_, by rw [hbv]; simp; omega⟩
        simp only [semblanceref10_may.f, h0, h1, hp', if_true, if_false]
        apply Ev.succ
        simp only [semblanceref10_may.j0, if_false, Bool.false_eq_true]
        apply Ev.succ
        simp only [semblanceref10_may.l0, h1, k1, k3, if_true, if_false, decide_false, Int.le_refl]
        apply Ev.succ
        simp only [semblanceref10_may.j2, if_true, if_false, Bool.false_eq_true]
        rw [show wrap64 (0 + 1) = ((1 : Nat) : Int) from wrap_succ (n := 0) (by omega)]
        exact hb
    · have hp' : ((rd_T46 l 0).f2 != -1) = true := by simp [hp]
      refine ⟨false, ?_, by simp; intro _ hv; exact hp hv.1⟩
      simp only [semblanceref10_may.f, h0, h1, hp', if_true, if_false]
      apply Ev.succ
      simp only [semblanceref10_may.j0, if_true]
      exact Ev.now _
/-- is some state too deep? -/
def deepFrom (l : List (S46)) (i : Nat) : Prop := ∃ j, i ≤ j ∧ j < l.length ∧ 11 < (anc (Pf l) j).length
theorem check_loop (l : List (S46)) (hl : l.length ≤ 1000) (hv : valid (Pf l) (Kf l) l.length) : ∀ (d i : Nat), l.length - i = d → i ≤ l.length →
    ∃ c, Ev (fun k => semblanceref10_Check.l0 k l i) c ∧ (c = 6 ∧ deepFrom l i ∨ c = 0 ∧ ¬ deepFrom l i) := by
  intro d
  induction d with
  | zero =>
    intro i hd hi
    have h2 : ¬ ((i : Int) < (l.length : Int)) := by omega
    refine ⟨0, ?_, .inr ⟨rfl, fun ⟨j, h1, h2, _⟩ => by omega⟩⟩
    apply Ev.succ
    simp only [semblanceref10_Check.l0, h2, if_false]
    exact Ev.now _
  | succ d ih =>
    intro i hd hi
    have a1 : (i : Int) < (l.length : Int) := by omega
    have hab := above_ref_f l hl i (by omega) ⟨hv.1, hv.2.1, fun j hj1 hj2 => hv.2.2 j hj1 (by omega)⟩
    by_cases hdp : 11 < (anc (Pf l) i).length
    · have hdp' : ((anc (Pf l) i).length : Int) > 11 := by omega
      refine ⟨6, ?_, .inl ⟨rfl, i, Nat.le_refl _, by omega, hdp⟩⟩
      apply Ev.succ
      simp only [semblanceref10_Check.l0, a1, if_true]
      refine Ev.bind (hab) ?_
      simp only [hdp', if_true]
      exact Ev.now _
    · have hdp' : ¬ (((anc (Pf l) i).length : Int) > 11) := by omega
      obtain ⟨c, hc, hcv⟩ := ih (i + 1) (by omega) (by omega)
      have hiff : deepFrom l i ↔ deepFrom l (i + 1) := ⟨fun ⟨j, h1, h2, h3⟩ => ⟨j, by by_cases e : j = i; (subst e; exact absurd h3 hdp); omega, h2, h3⟩, fun ⟨j, h1, h2, h3⟩ => ⟨j, by omega, h2, h3⟩⟩
      refine ⟨c, ?_, by rw [hiff]; exact hcv⟩
      apply Ev.succ
      simp only [semblanceref10_Check.l0, a1, if_true]
      refine Ev.bind (hab) ?_
      simp only [hdp', if_false]
      rw [wrap_succ (by omega)]
      exact hc
/-- what both tell of states -/
def checked (l : List (S46)) (c : Int) : Prop :=
  (60 < l.length ∧ c = 8) ∨ (l.length ≤ 60 ∧ ¬ (1 ≤ l.length ∧ valid (Pf l) (Kf l) l.length) ∧ c = 1) ∨ (l.length ≤ 60 ∧ (1 ≤ l.length ∧ valid (Pf l) (Kf l) l.length) ∧ deepFrom l 0 ∧ c = 6) ∨ (l.length ≤ 60 ∧ (1 ≤ l.length ∧ valid (Pf l) (Kf l) l.length) ∧ ¬ deepFrom l 0 ∧ c = 0)
theorem checked_one {l : List (S46)} {c d : Int} (h : checked l c) (k : checked l d) : c = d := by
  unfold checked at h k
  rcases h with h | h | h | h <;> rcases k with k | k | k | k <;> first | (exfalso; omega) | (exfalso; exact h.2.1 k.2.1) | (exfalso; exact k.2.1 h.2.1) | (exfalso; exact h.2.2.1 k.2.2.1) | (exfalso; exact k.2.2.1 h.2.2.1) | omega
theorem check_ref (l : List (S46)) (hl : l.length ≤ 1000) : ∃ c, Ev (fun k => semblanceref10_Check.f k l) c ∧ checked l c := by
  by_cases h60 : (l.length : Int) > 60
  · refine ⟨8, ?_, .inl ⟨by omega, rfl⟩⟩
    simp only [semblanceref10_Check.f, h60, if_true]
    exact Ev.now _
  · obtain ⟨b, hb, hbv⟩ := may_ref l hl
    cases b with
    | false =>
      refine ⟨1, ?_, .inr (.inl ⟨by omega, fun h => absurd (hbv.2 h) (by simp), rfl⟩)⟩
      simp only [semblanceref10_Check.f, h60, if_false]
      refine Ev.bind (hb) ?_
      simp only [if_false, Bool.false_eq_true]
      exact Ev.now _
    | true =>
      have hv := hbv.1 rfl
      obtain ⟨c, hc, hcv⟩ := check_loop l hl hv.2 l.length 0 (by omega) (by omega)
      refine ⟨c, ?_, ?_⟩
      · simp only [semblanceref10_Check.f, h60, if_false]
        refine Ev.bind (hb) ?_
        simp only [if_true]
        exact hc
      · rcases hcv with ⟨rfl, h⟩ | ⟨rfl, h⟩
        · exact .inr (.inr (.inl ⟨by omega, hv, h, rfl⟩))
        · exact .inr (.inr (.inr ⟨by omega, hv, h, rfl⟩))

/-! ### the same of the program -/
theorem pop_chain (P : Nat → Int) (i : Nat) (a : Int) : shape_Check.pop ((chain P i).reverse) a = ((chain P i).dropWhile (fun x => x != a)).reverse := by
  unfold shape_Check.pop; rw [List.reverse_reverse]
theorem step_chain (l : List (S46)) (i : Nat) (h1 : 1 ≤ i) (hi : i < l.length) (hv : valid (Pf l) (Kf l) i) :
    shape_Check.step l ((chain (Pf l) (i - 1)).reverse) i = if good (Pf l) (Kf l) i then some ((chain (Pf l) i).reverse) else none := by
  have hP : (rd_T46 l (i : Int)).f2 = Pf l i := rfl
  have hK : (rd_T46 l (i : Int)).f1 = Kf l i := rfl
  unfold shape_Check.step
  rw [pop_chain, hP, hK]
  have hi0 : (0 : Int) < (i : Int) := by omega
  by_cases hm : Pf l i ∈ chain (Pf l) (i - 1)
  · rw [chain_drop _ _ hm, if_neg (by simp [chain])]
    have hb := chain_le hm
    have eK : (rd_T46 l (Pf l i)).f1 = Kf l (Pf l i).toNat := by unfold Kf; rw [Int.toNat_of_nonneg hb.1]
    rw [eK]
    have hgm := (good_mem (P := Pf l) (i := i) h1).2 hm
    by_cases hk0 : Kf l (Pf l i).toNat = 1
    · rw [if_pos hk0, if_neg (fun g => g.2.2.1 hk0)]
    · rw [if_neg hk0]
      by_cases hk : 1 ≤ Kf l i ∧ Kf l i ≤ 3
      · rw [if_pos hk, if_pos ⟨hb.1, by omega, hk0, hgm, hk.1, hk.2⟩]
        congr 1
        have : anc (Pf l) i = chain (Pf l) (Pf l i).toNat := anc_chain ⟨hb.1, by omega⟩
        rw [show chain (Pf l) i = (i : Int) :: anc (Pf l) i from rfl, this, List.reverse_cons]
      · rw [if_neg hk, if_neg (fun g => hk g.2.2.2.2)]
  · rw [chain_drop_not hm, List.reverse_nil, if_pos rfl, if_pos (.inl hi0), if_neg (fun g => hm ((good_mem h1).1 g.2.2.2.1))]
theorem run_chain (l : List (S46)) : ∀ (n i : Nat) (deep : Int), 1 ≤ i → i + n = l.length → valid (Pf l) (Kf l) i → (12 < deep ↔ ∃ j, j < i ∧ 11 < (anc (Pf l) j).length) →
    match shape_Check.run l n ((chain (Pf l) (i - 1)).reverse) deep with
    | none => ¬ valid (Pf l) (Kf l) l.length
    | some d => valid (Pf l) (Kf l) l.length ∧ (12 < d ↔ deepFrom l 0) := by
  intro n
  induction n with
  | zero =>
    intro i deep h1 hi hv hd
    obtain rfl : i = l.length := by omega
    simp only [shape_Check.run]
    exact ⟨hv, by rw [hd]; exact ⟨fun ⟨j, a, b⟩ => ⟨j, Nat.zero_le _, a, b⟩, fun ⟨j, _, a, b⟩ => ⟨j, a, b⟩⟩⟩
  | succ n ih =>
    intro i deep h1 hi hv hd
    simp only [shape_Check.run]
    rw [show (l.length : Int) - ((n : Int) + 1) = (i : Int) by omega, step_chain l i h1 (by omega) hv]
    by_cases hg : good (Pf l) (Kf l) i
    · rw [if_pos hg]
      have hv' : valid (Pf l) (Kf l) (i + 1) := ⟨hv.1, hv.2.1, fun j hj1 hj2 => by
        by_cases e : j = i
        · subst e; exact hg
        · exact hv.2.2 j hj1 (by omega)⟩
      have := ih (i + 1) (max deep (((chain (Pf l) i).reverse).length : Int)) (by omega) (by omega) hv' (by
        have hlen : (((chain (Pf l) i).reverse).length : Int) = ((anc (Pf l) i).length : Int) + 1 := by simp [chain]
        rw [hlen]
        constructor
        · intro h
          by_cases hd2 : 12 < deep
          · obtain ⟨j, a, b⟩ := hd.1 hd2; exact ⟨j, by omega, b⟩
          · exact ⟨i, by omega, by omega⟩
        · rintro ⟨j, a, b⟩
          by_cases e : j = i
          · subst e; omega
          · have := hd.2 ⟨j, by omega, b⟩; omega)
      exact this
    · rw [if_neg hg]
      exact fun hv2 => hg (hv2.2.2 i h1 (by omega))
theorem check_prog (l : List (S46)) : ∃ c, shape_Check.f l = some c ∧ checked l c := by
  refine ⟨_, rfl, ?_⟩
  by_cases h60 : 60 < l.length
  · rw [if_pos h60]; exact .inl ⟨h60, rfl⟩
  rw [if_neg h60]
  by_cases h0 : l.length = 0
  · rw [if_pos h0]; exact .inr (.inl ⟨by omega, by omega, rfl⟩)
  rw [if_neg h0]
  obtain ⟨m, hm⟩ : ∃ m, l.length = m + 1 := ⟨l.length - 1, by omega⟩
  have hP : (rd_T46 l 0).f2 = Pf l 0 := rfl
  have hK : (rd_T46 l 0).f1 = Kf l 0 := rfl
  have hrun : shape_Check.run l l.length [] 0 = match shape_Check.step l [] 0 with | none => none | some q => shape_Check.run l m q (max 0 q.length) := by
    rw [hm]; simp only [shape_Check.run]
    rw [show ((l.length : Int) - ((m : Int) + 1)) = 0 by omega]
    first | done | (cases shape_Check.step l [] 0 <;> rfl)
  have hstep : shape_Check.step l [] 0 = if Pf l 0 ≠ -1 then none else if 1 ≤ Kf l 0 ∧ Kf l 0 ≤ 3 then some [0] else none := by
    unfold shape_Check.step
    rw [shape_Check.pop_nil, if_pos rfl, hP, hK]
    simp
  rw [hrun, hstep]
  by_cases hp : Pf l 0 = -1
  · rw [if_neg (by simp [hp])]
    by_cases hk : 1 ≤ Kf l 0 ∧ Kf l 0 ≤ 3
    · rw [if_pos hk]
      have hv1 : valid (Pf l) (Kf l) 1 := ⟨hp, hk, fun j h1 h2 => by omega⟩
      have hc : ((chain (Pf l) (1 - 1)).reverse) = [0] := by simp [chain, valid_root hv1]
      have := run_chain l m 1 (max 0 ([(0 : Int)].length)) (Nat.le_refl _) (by omega) hv1 (by
        constructor
        · intro h; simp at h; omega
        · rintro ⟨j, a, b⟩
          obtain rfl : j = 0 := by omega
          rw [valid_root hv1] at b; simp at b)
      rw [hc] at this
      show checked l (match shape_Check.run l m [0] (max 0 ([(0 : Int)].length)) with | none => 1 | some d => if 12 < d then 6 else 0)
      cases hr : shape_Check.run l m [0] (max 0 ([(0 : Int)].length)) with
      | none => rw [hr] at this; exact .inr (.inl ⟨by omega, fun h => this h.2, rfl⟩)
      | some d =>
        rw [hr] at this
        by_cases hd : 12 < d
        · exact .inr (.inr (.inl ⟨by omega, ⟨by omega, this.1⟩, this.2.1 hd, by simp [hd]⟩))
        · exact .inr (.inr (.inr ⟨by omega, ⟨by omega, this.1⟩, fun h => hd (this.2.2 h), by simp [hd]⟩))
    · rw [if_neg hk]
      exact .inr (.inl ⟨by omega, fun h => hk h.2.2.1, rfl⟩)
  · rw [if_pos (by simpa using hp)]
    exact .inr (.inl ⟨by omega, fun h => hp h.2.1, rfl⟩)
/-- states that stand right, none too deep -/
def Okay (l : List (S46)) : Prop := l.length ≤ 60 ∧ valid (Pf l) (Kf l) l.length
theorem check_zero {l : List (S46)} {c : Int} (h : checked l c) (e : c = 0) : Okay l ∧ 1 ≤ l.length := by
  rcases h with h | h | h | h
  · omega
  · omega
  · omega
  · exact ⟨⟨h.1, h.2.1.2⟩, h.2.1.1⟩
theorem there_any (l : List (S46)) (c : Int) (hc : shape_Check.f l = some c) (p : List Int) (hp : p.length ≤ 100) : shape_there.f l p = some (decide (c = 0) && !(p.any (shape_there.off l.length))) := by
  unfold shape_there.f
  rw [if_pos (by omega), hc]
  simp
theorem there_one (l : List (S46)) (c : Int) (hc : shape_Check.f l = some c) (i : Int) : shape_there.f l [i] = some (decide (c = 0 ∧ 0 ≤ i ∧ i < l.length)) := by
  rw [there_any l c hc _ (by simp)]
  congr 1
  simp only [List.any_cons, List.any_nil, Bool.or_false, shape_there.off]
  rw [Bool.eq_iff_iff]
  simp
theorem there_two (l : List (S46)) (c : Int) (hc : shape_Check.f l = some c) (i k : Int) : shape_there.f l [i, k] = some (decide (c = 0 ∧ (0 ≤ i ∧ i < l.length) ∧ 0 ≤ k ∧ k < l.length)) := by
  rw [there_any l c hc _ (by simp)]
  congr 1
  simp only [List.any_cons, List.any_nil, Bool.or_false, shape_there.off]
  rw [Bool.eq_iff_iff]
  simp
theorem there_in (l : List (S46)) (hc : shape_Check.f l = some 0) (i : Nat) (hi : i < l.length) : shape_there.f l [(i : Int)] = some true := by
  rw [there_one l 0 hc]; congr 1; simp; omega
theorem there_both (l : List (S46)) (hc : shape_Check.f l = some 0) (i j : Nat) (hi : i < l.length) (hj : j < l.length) : shape_there.f l [(i : Int), (j : Int)] = some true := by
  rw [there_two l 0 hc]; congr 1; simp; omega
theorem Pf_nat (l : List (S46)) (i : Nat) (h : 0 ≤ Pf l i) : (rd_T46 l (i : Int)).f2 = (((Pf l i).toNat : Nat) : Int) := by
  have : Pf l i = (rd_T46 l (i : Int)).f2 := rfl
  rw [this] at h ⊢
  omega

/-! ### kids -/
def kd (l : List (S46)) (a : Int) : Nat → Nat → List Int
  | 0, _ => []
  | d + 1, n => if Pf l n = a then (n : Int) :: kd l a d (n + 1) else kd l a d (n + 1)
theorem kids_ref (l : List (S46)) (hl : l.length ≤ 1000) (a : Int) : ∀ (d n : Nat) (acc : List Int), l.length - n = d → acc.length ≤ n → n ≤ l.length → Ev (fun k => semblanceref10_Kids.l0 k l a acc n) (acc ++ kd l a d n) := by
  intro d
  induction d with
  | zero =>
    intro n acc hd ha hn
    have h1 : ¬ ((n : Int) < (l.length : Int)) := by omega
    apply Ev.succ
    simp only [semblanceref10_Kids.l0, h1, if_false, kd, List.append_nil]
    exact Ev.now _
  | succ d ih =>
    intro n acc hd ha hn
    have h1 : (n : Int) < (l.length : Int) := by omega
    have h2 : (0 : Int) ≤ (n : Int) := by omega
    have h3 : acc.length < 17592186044416 := by omega
    have w : wrap64 ((n : Int) + 1) = ((n + 1 : Nat) : Int) := wrap_succ (by omega)
    have hP : (rd_T46 l (n : Int)).f2 = Pf l n := rfl
    apply Ev.succ
    by_cases hc : Pf l n = a
    · simp only [semblanceref10_Kids.l0, h1, h2, h3, hP, hc, if_true, w, kd]
      refine Ev.eq (ih (n + 1) (acc ++ [(n : Int)]) (by omega) (by simp; omega) (by omega)) (by simp)
    · simp only [semblanceref10_Kids.l0, h1, h2, h3, hP, hc, if_true, if_false, w, kd]
      exact ih (n + 1) acc (by omega) (by omega) (by omega)
theorem kids_prog (l : List (S46)) (hl : l.length ≤ 1000) (a : Int) : ∀ (d n : Nat) (acc : List Int), l.length - n = d → acc.length ≤ n → n ≤ l.length → Ev (fun k => shape_Kids.l0 k a acc l l.length n) (acc ++ kd l a d n) := by
  intro d
  induction d with
  | zero =>
    intro n acc hd ha hn
    have h1 : ¬ ((n : Int) < (l.length : Int)) := by omega
    apply Ev.succ
    simp only [shape_Kids.l0, h1, if_false, kd, List.append_nil]
    exact Ev.now _
  | succ d ih =>
    intro n acc hd ha hn
    have h1 : (n : Int) < (l.length : Int) := by omega
    have h2 : (0 : Int) ≤ (n : Int) := by omega
    have h3 : acc.length < 17592186044416 := by omega
    have w : wrap64 ((n : Int) + 1) = ((n + 1 : Nat) : Int) := wrap_succ (by omega)
    have hP : (rd_T46 l (n : Int)).f2 = Pf l n := rfl
    apply Ev.succ
    by_cases hc : Pf l n = a
    · simp only [shape_Kids.l0, h1, h2, h3, hP, hc, if_true, w, kd]
      refine Ev.eq (ih (n + 1) (acc ++ [(n : Int)]) (by omega) (by simp; omega) (by omega)) (by simp)
    · simp only [shape_Kids.l0, h1, h2, h3, hP, hc, if_true, if_false, w, kd]
      exact ih (n + 1) acc (by omega) (by omega) (by omega)
theorem kids_f (l : List (S46)) (hk : Okay l) (hc : shape_Check.f l = some 0) (i : Nat) (hi : i < l.length) : Ev (fun k => shape_Kids.f k l i) (kd l i l.length 0) := by
  have hl := hk.1
  simp only [shape_Kids.f, there_in l hc i hi, Option.bind_some, if_true]
  exact Ev.eq (kids_prog l (by omega) i l.length 0 [] (by omega) (by simp) (by omega)) (by simp)
theorem kids_ref_f (l : List (S46)) (hl : l.length ≤ 1000) (i : Int) : Ev (fun k => semblanceref10_Kids.f k l i) (kd l i l.length 0) := by
  simp only [semblanceref10_Kids.f]
  exact Ev.eq (kids_ref l hl i l.length 0 [] (by omega) (by simp) (by omega)) (by simp)
end Sh
end
section
open Go.Proofs.YtbkaiojofgmbnaaGreat.XFuel Go.Proofs.YtbkaiojofgmbnaaGreat.TermPlain
/-! ### all of a list -/
theorem ev_all {α β : Type} (l : List α) {f : Nat → α → Option β} {g : α → β} (h : ∀ x ∈ l, Ev (fun k => f k x) (g x)) : ∃ K, ∀ k, K ≤ k → ∀ x ∈ l, f k x = some (g x) := by
  induction l with
  | nil => exact ⟨0, fun _ _ _ hx => by cases hx⟩
  | cons y l ih =>
    obtain ⟨K, hK⟩ := ih (fun x hx => h x (List.mem_cons_of_mem _ hx))
    obtain ⟨L, hL⟩ := h y List.mem_cons_self
    refine ⟨max K L, fun k hk x hx => ?_⟩
    rcases List.mem_cons.1 hx with rfl | hx
    · exact hL k (by omega)
    · exact hK k (by omega) x hx
theorem ev_pick {α β : Type} {f : Nat → α → Option β} {P : α → β → Prop} (d : β) (l : List α) (h : ∀ x ∈ l, ∃ b, Ev (fun k => f k x) b ∧ P x b) : ∃ g : α → β, ∀ x ∈ l, Ev (fun k => f k x) (g x) ∧ P x (g x) := by
  classical
  refine ⟨fun x => if hx : x ∈ l then Classical.choose (h x hx) else d, fun x hx => ?_⟩
  simp only [dif_pos hx]
  exact Classical.choose_spec (h x hx)
theorem allO_of {α : Type} {l : List α} {f : α → Option Bool} {g : α → Bool} (h : ∀ x ∈ l, f x = some (g x)) : allO l f = some (l.all g) := by
  have h1 : (l.all fun x => (f x).isSome) = true := List.all_eq_true.2 fun x hx => by rw [h x hx]; rfl
  have h2 : (l.all fun x => (f x).getD false) = l.all g := by
    rw [Bool.eq_iff_iff, List.all_eq_true, List.all_eq_true]
    exact ⟨fun H x hx => by have := H x hx; rw [h x hx] at this; exact this, fun H x hx => by rw [h x hx]; exact H x hx⟩
  unfold allO
  rw [if_pos h1, h2]
theorem allO_ev {α : Type} {l : List α} {f : Nat → α → Option Bool} {g : α → Bool} (h : ∀ x ∈ l, Ev (fun k => f k x) (g x)) : Ev (fun k => allO l (f k)) (l.all g) := by
  obtain ⟨K, hK⟩ := ev_all l h
  exact ⟨K, fun k hk => allO_of (hK k hk)⟩
theorem allO_any {α : Type} {l : List α} {f : Nat → α → Option Bool} {P : α → Prop} (h : ∀ x ∈ l, ∃ b, Ev (fun k => f k x) b ∧ (b = true → P x)) : ∃ b, Ev (fun k => allO l (f k)) b ∧ (b = true → ∀ x ∈ l, P x) := by
  obtain ⟨g, hg⟩ := ev_pick false l h
  exact ⟨_, allO_ev (fun x hx => (hg x hx).1), fun H x hx => (hg x hx).2 (List.all_eq_true.1 H x hx)⟩
/-! ### what may be in a chart -/
def ActOk (x : S76) : Prop := x.f1 = false → WholeT x.f2
def TrOk (y : S54) : Prop := (0 < y.f1.length → WholeT y.f1) ∧ y.f2.length ≤ 8 ∧ ∀ x ∈ y.f2, ActOk x
def StOk (x : S46) : Prop := x.f0.size ≤ 12 ∧ (x.f3.length ≤ 8 ∧ ∀ a ∈ x.f3, ActOk a) ∧ (x.f4.length ≤ 8 ∧ ∀ a ∈ x.f4, ActOk a) ∧ x.f5.length ≤ 16 ∧ ∀ y ∈ x.f5, TrOk y
def VarOk (x : S50) : Prop := x.f0.size ≤ 12 ∧ (-1000 ≤ x.f1 ∧ x.f1 ≤ 1000) ∧ (-1000 ≤ x.f2 ∧ x.f2 ≤ 1000) ∧ (-1000 ≤ x.f3 ∧ x.f3 ≤ 1000)
structure Fit (l1 : List ByteArray) (l2 : List (S50)) (l3 : List (S46)) : Prop where
  e : l1.length ≤ 8 ∧ ∀ s ∈ l1, s.size ≤ 12
  v : l2.length ≤ 4 ∧ ∀ x ∈ l2, VarOk x
  ok : Sh.Okay l3
  chk : Sh.checked l3 0
  s : ∀ x ∈ l3, StOk x
theorem act_any (a0 : ByteArray) (b : Bool) (l : List (S78)) : ∃ c, Ev (fun k => semblanceref08_One.f k a0 b l) c ∧ (c = 0 → b = false → WholeT l) := by
  obtain ⟨t, ht, _⟩ := is_any a0
  by_cases h : t = true
  · by_cases hb : b = true
    · by_cases hl : (l.length : Int) > 0
      · exact ⟨1, by unfold semblanceref08_One.f; exact Ev.bind ht (by simp only [h, hb, hl, if_true]; exact Ev.now _), fun h => absurd h (by decide)⟩
      · exact ⟨0, by unfold semblanceref08_One.f; exact Ev.bind ht (by simp only [h, hb, hl, if_true, if_false]; exact Ev.now _), fun _ h => by rw [hb] at h; cases h⟩
    · obtain ⟨c, hc, hw⟩ := tcheck_any l
      exact ⟨c, by unfold semblanceref08_One.f; exact Ev.bind ht (by simp only [h, hb, if_true, if_false]; exact Ev.bind hc (Ev.now _)), fun e _ => hw e⟩
  · exact ⟨1, by unfold semblanceref08_One.f; exact Ev.bind ht (by simp only [h, if_false]; exact Ev.now _), fun h => absurd h (by decide)⟩
theorem acts_any (l : List (S76)) : ∃ c, Ev (fun k => semblanceref08_Check.f k l) c ∧ (c = 0 → l.length ≤ 8 ∧ ∀ x ∈ l, ActOk x) := by
  by_cases h8 : (l.length : Int) > 8
  · exact ⟨8, by simp only [semblanceref08_Check.f, h8, if_true]; exact Ev.now _, fun h => absurd h (by decide)⟩
  · have loop : ∀ (d n : Nat), l.length - n = d → n ≤ l.length → ∃ c, Ev (fun k => semblanceref08_Check.l0 k l n) c ∧ (c = 0 → ∀ x ∈ l.drop n, ActOk x) := by
      intro d
      induction d with
      | zero =>
        intro n hd hn
        have h1 : ¬ ((n : Int) < (l.length : Int)) := by omega
        exact ⟨0, Ev.succ (by simp only [semblanceref08_Check.l0, h1, if_false]; exact Ev.now _), fun _ x hx => by rw [List.drop_of_length_le (by omega)] at hx; cases hx⟩
      | succ d ih =>
        intro n hd hn
        have h1 : (n : Int) < (l.length : Int) := by omega
        have h2 : (0 : Int) ≤ (n : Int) := by omega
        have hg : n < l.length := by omega
        have hr : rd_T76 l (n : Int) = l[n] := by simp [rd_T76, hg]
        obtain ⟨t, ht, hw⟩ := act_any l[n].f0 l[n].f1 l[n].f2
        by_cases h : t = 0
        · obtain ⟨c, hc, hx⟩ := ih (n + 1) (by omega) (by omega)
          refine ⟨c, Ev.succ (by simp only [semblanceref08_Check.l0, h1, h2, hr, if_true]; exact Ev.bind ht (by simp only [h, if_true, wrap_next (show n < 1000000 by omega)]; exact hc)), fun e x hm => ?_⟩
          rw [List.drop_eq_getElem_cons hg] at hm
          rcases List.mem_cons.1 hm with rfl | hm
          · exact hw h
          · exact hx e x hm
        · exact ⟨t, Ev.succ (by simp only [semblanceref08_Check.l0, h1, h2, hr, if_true]; exact Ev.bind ht (by simp only [h, if_false]; exact Ev.now _)), fun e => absurd e h⟩
    obtain ⟨c, hc, hx⟩ := loop _ 0 rfl (Nat.zero_le _)
    exact ⟨c, by simp only [semblanceref08_Check.f, h8, if_false]; exact hc, fun e => ⟨by omega, fun x hm => hx e x (by rw [List.drop_zero]; exact hm)⟩⟩
theorem tr_any (y : S54) : ∃ c, Ev (fun k => semblanceref09_Check.f k y.f0 y.f1 y.f2 y.f3) c ∧ (c = 0 → TrOk y) := by
  obtain ⟨t, ht, hw⟩ := tcheck_any y.f1
  obtain ⟨a, ha, hx⟩ := acts_any y.f2
  have j0 : ∀ b : Bool, ∃ c, Ev (fun k => semblanceref09_Check.j0 k b y.f0 y.f1 y.f2 y.f3) c ∧ (c = 0 → TrOk y) := by
    intro b
    by_cases hb : b = true
    · exact ⟨1, Ev.succ (by simp only [semblanceref09_Check.j0, hb, if_true]; exact Ev.now _), fun h => absurd h (by decide)⟩
    · by_cases hl : (y.f1.length : Int) > 0
      · by_cases h0 : t = 0
        · have e0 : (t != 0) = false := by rw [h0]; rfl
          exact ⟨a, Ev.succ (by simp only [semblanceref09_Check.j0, hb, hl, if_true, if_false]; exact Ev.bind ht (Ev.succ (by simp only [semblanceref09_Check.j1, e0, Bool.false_eq_true, if_false]; exact Ev.bind ha (Ev.now _)))), fun e => ⟨fun _ => hw h0, (hx e).1, (hx e).2⟩⟩
        · have e0 : (t != 0) = true := bne_iff_ne.2 h0
          exact ⟨t, Ev.succ (by simp only [semblanceref09_Check.j0, hb, hl, if_true, if_false]; exact Ev.bind ht (Ev.succ (by simp only [semblanceref09_Check.j1, e0, if_true]; exact Ev.bind ht (Ev.now _)))), fun e => absurd e h0⟩
      · exact ⟨a, Ev.succ (by simp only [semblanceref09_Check.j0, hb, hl, if_false]; exact Ev.succ (by simp only [semblanceref09_Check.j1, Bool.false_eq_true, if_false]; exact Ev.bind ha (Ev.now _))), fun e => ⟨fun h => absurd h (by omega), (hx e).1, (hx e).2⟩⟩
  obtain ⟨p, hp, _⟩ := is_any y.f0
  obtain ⟨q, hq, _⟩ := is_any y.f3
  have tail : ∃ c, Ev (fun k => if (y.f3.size : Int) > 0 then ((semblanceref02_Is.f k y.f3).bind fun t => semblanceref09_Check.j0 k (!t) y.f0 y.f1 y.f2 y.f3) else semblanceref09_Check.j0 k false y.f0 y.f1 y.f2 y.f3) c ∧ (c = 0 → TrOk y) := by
    by_cases h3 : (y.f3.size : Int) > 0
    · obtain ⟨c, hc, h⟩ := j0 (!q)
      exact ⟨c, by simp only [h3, if_true]; exact Ev.bind hq hc, h⟩
    · obtain ⟨c, hc, h⟩ := j0 false
      exact ⟨c, by simp only [h3, if_false]; exact hc, h⟩
  obtain ⟨u, hu, hou⟩ := tail
  by_cases h0 : (y.f0.size : Int) > 0
  · by_cases hp1 : p = true
    · exact ⟨u, by simp only [semblanceref09_Check.f, h0, if_true]; exact Ev.bind hp (by simp only [hp1, if_true]; exact hu), hou⟩
    · obtain ⟨c, hc, h⟩ := j0 true
      exact ⟨c, by simp only [semblanceref09_Check.f, h0, if_true]; exact Ev.bind hp (by simp only [hp1, if_false]; exact hc), h⟩
  · exact ⟨u, by simp only [semblanceref09_Check.f, h0, if_false]; exact hu, hou⟩
theorem var_any (x : S50) : ∃ b, Ev (fun k => semblanceref12_May.v k x) b ∧ (b = true → VarOk x) := by
  obtain ⟨t, ht, h12⟩ := is_any x.f0
  refine ⟨_, Ev.bind ht (Ev.now _), fun h => ?_⟩
  simp only [sml, Bool.and_eq_true, decide_eq_true_eq] at h
  exact ⟨h12 h.1, by omega, by omega, by omega⟩
theorem state_any (x : S46) : ∃ b, Ev (fun k => semblanceref12_May.s k x) b ∧ (b = true → StOk x) := by
  obtain ⟨t, ht, h12⟩ := is_any x.f0
  obtain ⟨a, ha, hxa⟩ := acts_any x.f3
  obtain ⟨b, hb, hxb⟩ := acts_any x.f4
  obtain ⟨q, hq, hxq⟩ := allO_any (l := x.f5) (f := fun k y => semblanceref12_May.y k y) (P := TrOk) (fun y _ => by
    obtain ⟨c, hc, h⟩ := tr_any y
    exact ⟨_, Ev.bind hc (Ev.now _), fun e => h (beq_iff_eq.1 e)⟩)
  refine ⟨_, Ev.bind ht (Ev.bind ha (Ev.bind hb (Ev.bind hq (Ev.now _)))), fun h => ?_⟩
  simp only [Bool.and_eq_true, beq_iff_eq, decide_eq_true_eq] at h
  obtain ⟨⟨h1, h2, h3, h4⟩, h5⟩ := h
  exact ⟨h12 h1, hxa h2, hxb h3, by omega, hxq h5⟩
/-- whether a chart may be is answered of every small one; what may be fits -/
theorem may_ev (a0 : ByteArray) (l1 : List ByteArray) (l2 : List (S50)) (l3 : List (S46)) (h3 : l3.length ≤ 1000) : ∃ b, Ev (fun k => semblanceref12_May.f k a0 l1 l2 l3) b ∧ (b = true → Fit l1 l2 l3) := by
  obtain ⟨t, ht, _⟩ := is_any a0
  obtain ⟨c, hc, hcc⟩ := Sh.check_ref l3 h3
  obtain ⟨e, he, hxe⟩ := allO_any (l := l1) (f := fun k s => semblanceref02_Is.f k s) (P := fun s => s.size ≤ 12) (fun s _ => is_any s)
  obtain ⟨v, hv, hxv⟩ := allO_any (l := l2) (f := fun k x => semblanceref12_May.v k x) (P := VarOk) (fun x _ => var_any x)
  obtain ⟨s, hs, hxs⟩ := allO_any (l := l3) (f := fun k x => semblanceref12_May.s k x) (P := StOk) (fun x _ => state_any x)
  refine ⟨_, Ev.bind ht (Ev.bind hc (Ev.bind he (Ev.bind hv (Ev.bind hs (Ev.now _))))), fun h => ?_⟩
  simp only [Bool.and_eq_true, beq_iff_eq, decide_eq_true_eq] at h
  obtain ⟨⟨_, h1, h2, h3⟩, h4, h5, h6⟩ := h
  exact ⟨⟨by omega, hxe h4⟩, ⟨by omega, hxv h5⟩, (Sh.check_zero hcc h3).1, h3 ▸ hcc, hxs h6⟩
end
section
open Go.Proofs.YtbkaiojofgmbnaaGreat.XFuel Go.Proofs.YtbkaiojofgmbnaaGreat.XFind Go.Proofs.YtbkaiojofgmbnaaGreat.XNamesPlain Go.Proofs.YtbkaiojofgmbnaaGreat.XBytes Go.Proofs.YtbkaiojofgmbnaaGreat.TermPlain
/-! ### both sides, place by place -/
theorem names_ev (l : List (S78)) (kind : Int) (hl : l.length ≤ 100) : Ev (fun k => term_Names.f k l kind) ((l.filter fun x => decide (x.f0 = kind)).map fun x => x.f2) := by
  have key : ∀ (d n : Nat) (acc : List ByteArray), l.length - n = d → n ≤ l.length → acc.length ≤ n → Ev (fun k => term_Names.l0 k kind acc l l.length n) (acc ++ ((l.drop n).filter fun x => decide (x.f0 = kind)).map fun x => x.f2) := by
    intro d
    induction d with
    | zero =>
      intro n acc hd hn ha
      have h1 : ¬ ((n : Int) < (l.length : Int)) := by omega
      apply Ev.succ
      rw [List.drop_of_length_le (by omega), List.filter_nil, List.map_nil, List.append_nil]
      simp only [term_Names.l0, h1, if_false]
      exact Ev.now _
    | succ d ih =>
      intro n acc hd hn ha
      have h1 : (n : Int) < (l.length : Int) := by omega
      have h2 : (0 : Int) ≤ (n : Int) := by omega
      have h3 : acc.length < 8796093022208 := by omega
      have hg : n < l.length := by omega
      have hr : rd_T78 l (n : Int) = l[n] := by simp [rd_T78, hg]
      apply Ev.succ
      rw [List.drop_eq_getElem_cons hg, List.filter_cons]
      by_cases hk : l[n].f0 = kind
      · have hd : decide (l[n].f0 = kind) = true := decide_eq_true hk
        simp only [term_Names.l0, h1, h2, h3, hr, hk, if_true, wrap_next (show n < 1000000 by omega), decide_true]
        exact Ev.eq (ih (n + 1) (acc ++ [l[n].f2]) (by omega) (by omega) (by simp; omega)) (by simp)
      · have hd : decide (l[n].f0 = kind) = false := decide_eq_false hk
        simp only [term_Names.l0, h1, h2, hr, hk, if_true, if_false, wrap_next (show n < 1000000 by omega), decide_false, Bool.false_eq_true]
        exact ih (n + 1) acc (by omega) (by omega) (by omega)
  exact Ev.eq (key _ 0 [] rfl (Nat.zero_le _) (Nat.le_refl _)) (by simp)
theorem at_any (l : List ByteArray) (s : ByteArray) : decide (rules_at l s < 0) = !(l.any fun x => x.toList == s.toList) := by
  have h : decide (0 ≤ rules_at l s) = l.any fun x => x.toList == s.toList := idxF_any _ _
  rw [← h, Bool.eq_iff_iff]
  simp
theorem all_and2 {α : Type} (l : List α) (p q : α → Bool) : (l.all fun x => p x && q x) = (l.all p && l.all q) := by
  induction l with
  | nil => rfl
  | cons x l ih => simp only [List.all_cons, ih]; cases p x <;> cases q x <;> simp
theorem any_or2 {α : Type} (l : List α) (p q : α → Bool) : (l.any fun x => p x || q x) = (l.any p || l.any q) := by
  induction l with
  | nil => rfl
  | cons x l ih => simp only [List.any_cons, ih]; cases p x <;> cases q x <;> simp
section Both
variable {a0 : ByteArray} {l1 : List ByteArray} {l2 : List (S50)} {l3 : List (S46)} (F : Fit l1 l2 l3) (rule : Int)
theorem Fit.l3_le {l1 : List ByteArray} {l2 : List (S50)} {l3 : List (S46)} (F : Fit l1 l2 l3) : l3.length ≤ 60 := F.ok.1
include F
theorem expr_both (l : List (S78)) (h : WholeT l) (kind : Int) : ∃ v, Ev (fun k => rules_foreign.f k (rules_bk0 a0 l1 l2 l3 rule) l kind) v ∧ Ev (fun k => semblanceref14_expr.f k a0 l1 l2 l3 l kind) (!v) := by
  obtain ⟨t, h1, h2⟩ := type_both l h
  have hl := h.1
  have hl2 := F.v.1
  have hl3 := F.l3_le
  let V : S78 → Bool := fun x => l2.any fun y => y.f0.toList == x.f2.toList
  let S : S78 → Bool := fun x => l3.any fun y => y.f0.toList == x.f2.toList
  let O : S78 → Bool := fun x => if x.f0 = 2 then V x else if x.f0 = 11 then S x else true
  have hO : Ev (fun k => allO l (semblanceref14_expr.ok k a0 l1 l2 l3)) (l.all O) := allO_ev fun x _ => by
    show Ev _ (if x.f0 = 2 then V x else if x.f0 = 11 then S x else true)
    by_cases c2 : x.f0 = 2
    · simp only [semblanceref14_expr.ok, c2, if_true]; exact hasVar_ev a0 l1 l2 l3 x.f2 (by omega)
    · by_cases c11 : x.f0 = 11
      · rw [if_neg c2, if_pos c11]
        simp only [semblanceref14_expr.ok, c2, c11, if_true, if_false]; exact hasState_ev a0 l1 l2 l3 x.f2 (by omega)
      · rw [if_neg c2, if_neg c11]
        simp only [semblanceref14_expr.ok, c2, c11, if_false]; exact Ev.now _
  have e2 : rules_none.f ((l.filter fun x => decide (x.f0 = 2)).map fun x => x.f2) (l2.map fun x => x.f0) = !(l.all fun x => !decide (x.f0 = 2) || V x) := by
    unfold rules_none.f
    simp only [at_any, List.any_map, List.any_filter, List.not_all_eq_any_not]
    congr 1
    funext x
    simp [V, Function.comp_def]
  have e11 : rules_none.f ((l.filter fun x => decide (x.f0 = 11)).map fun x => x.f2) (l3.map fun x => x.f0) = !(l.all fun x => !decide (x.f0 = 11) || S x) := by
    unfold rules_none.f
    simp only [at_any, List.any_map, List.any_filter, List.not_all_eq_any_not]
    congr 1
    funext x
    simp [S, Function.comp_def]
  have eO : l.all O = ((l.all fun x => !decide (x.f0 = 2) || V x) && (l.all fun x => !decide (x.f0 = 11) || S x)) := by
    rw [← all_and2]
    congr 1
    funext x
    show (if x.f0 = 2 then V x else if x.f0 = 11 then S x else true) = _
    by_cases c2 : x.f0 = 2
    · rw [if_pos c2]; simp [c2]
    · by_cases c11 : x.f0 = 11
      · rw [if_neg c2, if_pos c11]; simp [c11]
      · rw [if_neg c2, if_neg c11]; simp [c2, c11]
  generalize hA : (l.all fun x => !decide (x.f0 = 2) || V x) = A at e2 eO
  generalize hB : (l.all fun x => !decide (x.f0 = 11) || S x) = B at e11 eO
  have n2 := names_ev l 2 (by omega)
  have n11 := names_ev l 11 (by omega)
  refine ⟨if t = kind then (!A || !B) else true, ?_, ?_⟩
  · unfold rules_foreign.f
    refine Ev.bind h1 ?_
    by_cases ht : t = kind
    · simp only [ht, if_true]
      refine Ev.bind n2 ?_
      show Ev (fun k => if rules_none.f _ (l2.map fun x => x.f0) = true then _ else (_ : Option (List ByteArray)).bind fun ms => some (rules_none.f ms (l3.map fun x => x.f0))) _
      rw [e2]
      cases A with
      | false => simp only [Bool.not_false, if_true, Bool.true_or]; exact Ev.now _
      | true =>
        simp only [Bool.not_true, Bool.false_eq_true, if_false, Bool.false_or]
        refine Ev.bind n11 ?_
        rw [e11]
        exact Ev.now _
    · simp only [ht, if_false]; exact Ev.now _
  · unfold semblanceref14_expr.f
    refine Ev.bind hO ?_
    rw [eO]
    cases hAB : (A && B) with
    | true =>
      simp only [if_true]
      refine Ev.bind h2 (Ev.const ?_)
      have hA : A = true := by cases A <;> simp_all
      have hB : B = true := by cases B <;> simp_all
      rw [hA, hB]
      by_cases ht : t = kind
      · simp [ht]
      · simp [ht]
    | false =>
      simp only [Bool.false_eq_true, if_false]
      refine Ev.const ?_
      have : (!A || !B) = true := by cases A <;> cases B <;> simp_all
      rw [this]
      simp
theorem one_both (x : S76) (h : ActOk x) : ∃ v, Ev (fun k => rules_acts.one k (rules_bk0 a0 l1 l2 l3 rule) x) v ∧ ∀ any, Ev (fun k => semblanceref14_acts.ok k a0 l1 l2 l3 any x) (!(v || (x.f1 && !any))) := by
  have hl2 := F.v.1
  have hv := hasVar_ev a0 l1 l2 l3 x.f0 (by omega)
  have e : decide (rules_at (l2.map fun y => y.f0) x.f0 < 0) = !(l2.any fun y => y.f0.toList == x.f0.toList) := by
    rw [at_any, List.any_map]; rfl
  generalize (l2.any fun y => y.f0.toList == x.f0.toList) = V at hv e
  have hat : (rules_at (rules_bk0 a0 l1 l2 l3 rule).lV x.f0 < 0) ↔ V = false := by
    show (rules_at (l2.map fun y => y.f0) x.f0 < 0) ↔ _
    cases V <;> simpa using e
  cases V with
  | false =>
    have h0 := hat.2 rfl
    refine ⟨true, ?_, fun any => ?_⟩
    · simp only [rules_acts.one, h0, if_true]; exact Ev.now _
    · unfold semblanceref14_acts.ok
      refine Ev.bind hv ?_
      simp only [Bool.false_eq_true, if_false, Bool.true_or, Bool.not_true]
      exact Ev.now _
  | true =>
    have h0 : ¬ _ := fun hh => Bool.noConfusion (hat.1 hh)
    by_cases hf : x.f1 = true
    · refine ⟨false, ?_, fun any => ?_⟩
      · simp only [rules_acts.one, h0, hf, if_true, if_false]; exact Ev.now _
      · unfold semblanceref14_acts.ok
        refine Ev.bind hv ?_
        simp only [hf, if_true, Bool.false_or, Bool.true_and, Bool.not_not]
        exact Ev.now _
    · have hf0 : x.f1 = false := Bool.eq_false_iff.2 hf
      obtain ⟨v, h1, h2⟩ := expr_both (a0 := a0) F rule x.f2 (h hf0) 1
      refine ⟨v, ?_, fun any => ?_⟩
      · simp only [rules_acts.one, h0, hf, if_false]; exact h1
      · unfold semblanceref14_acts.ok
        refine Ev.bind hv ?_
        simp only [hf0, Bool.false_eq_true, if_true, if_false, Bool.false_and, Bool.or_false]
        exact h2
theorem acts_both (l : List (S76)) (h : ∀ x ∈ l, ActOk x) : ∃ v, Ev (fun k => rules_acts.f k (rules_bk0 a0 l1 l2 l3 rule) l) v ∧ Ev (fun k => semblanceref14_acts.f k a0 l1 l2 l3 l true) (!v) ∧ Ev (fun k => semblanceref14_acts.f k a0 l1 l2 l3 l false) (!(v || l.any fun x => x.f1)) := by
  obtain ⟨g, hg⟩ := ev_pick (f := fun k x => rules_acts.one k (rules_bk0 a0 l1 l2 l3 rule) x) (P := fun x v => ∀ any, Ev (fun k => semblanceref14_acts.ok k a0 l1 l2 l3 any x) (!(v || (x.f1 && !any)))) false l (fun x hx => one_both F rule x (h x hx))
  refine ⟨l.any g, ?_, ?_, ?_⟩
  · obtain ⟨K, hK⟩ := ev_all l (f := fun k x => rules_acts.one k (rules_bk0 a0 l1 l2 l3 rule) x) (fun x hx => (hg x hx).1)
    refine ⟨K, fun k hk => ?_⟩
    have h1 : (l.all fun x => (rules_acts.one k (rules_bk0 a0 l1 l2 l3 rule) x).isSome) = true := List.all_eq_true.2 fun x hx => by rw [hK k hk x hx]; rfl
    show rules_acts.f k (rules_bk0 a0 l1 l2 l3 rule) l = _
    unfold rules_acts.f
    rw [if_pos h1]
    congr 1
    rw [Bool.eq_iff_iff, List.any_eq_true, List.any_eq_true]
    exact ⟨fun ⟨x, hx, H⟩ => ⟨x, hx, by rw [hK k hk x hx] at H; exact H⟩, fun ⟨x, hx, H⟩ => ⟨x, hx, by rw [hK k hk x hx]; exact H⟩⟩
  · refine Ev.eq (allO_ev (fun x hx => (hg x hx).2 true)) ?_
    simp only [Bool.not_true, Bool.and_false, Bool.or_false]
    rw [List.not_any_eq_all_not]
  · refine Ev.eq (allO_ev (fun x hx => (hg x hx).2 false)) ?_
    simp only [Bool.not_false, Bool.and_true]
    rw [← any_or2, List.not_any_eq_all_not]
theorem tr_both (y : S54) (h : TrOk y) (hr : 6 ≤ rule ∧ rule ≤ 9) : ∃ v, Ev (fun k => rules_bad.f k (rules_bk0 a0 l1 l2 l3 rule) y) v ∧ Ev (fun k => semblanceref14_trans.f k a0 l1 l2 l3 rule y.f0 y.f1 y.f2 y.f3) (!v) := by
  have hl1 := F.e.1
  have hl3 := F.l3_le
  have hbr : (rules_bk0 a0 l1 l2 l3 rule).rule = rule := rfl
  have hb1 : (rules_bk0 a0 l1 l2 l3 rule).l1 = l1 := rfl
  have hbS : (rules_bk0 a0 l1 l2 l3 rule).lS = l3.map fun y => y.f0 := rfl
  by_cases c6 : rule = 6
  · by_cases hn : y.f0.toList = ([] : List UInt8)
    · refine ⟨false, ?_, ?_⟩
      · simp only [rules_bad.f, hbr, c6, hn, if_true]; exact Ev.now _
      · simp only [semblanceref14_trans.f, c6, hn, if_true]; exact Ev.now _
    · refine ⟨decide (rules_at l1 y.f0 < 0), ?_, ?_⟩
      · simp only [rules_bad.f, hbr, hb1, c6, hn, if_true, if_false]; exact Ev.now _
      · simp only [semblanceref14_trans.f, c6, hn, if_true, if_false]
        rw [at_any, Bool.not_not]
        exact Ev.bind (hasEvent_ev a0 l1 l2 l3 y.f0 (by omega)) (Ev.now _)
  · by_cases c7 : rule = 7
    · by_cases hn : y.f3.toList = ([] : List UInt8)
      · refine ⟨false, ?_, ?_⟩
        · simp only [rules_bad.f, hbr, c6, c7, hn, if_true, if_false, show ¬ ((7 : Int) = 6) by decide]; exact Ev.now _
        · simp only [semblanceref14_trans.f, c7, hn, if_true, if_false, show ¬ ((7 : Int) = 6) by decide]; exact Ev.now _
      · refine ⟨decide (rules_at (l3.map fun y => y.f0) y.f3 < 0), ?_, ?_⟩
        · simp only [rules_bad.f, hbr, hbS, c7, hn, if_true, if_false, show ¬ ((7 : Int) = 6) by decide]; exact Ev.now _
        · simp only [semblanceref14_trans.f, c7, hn, if_true, if_false, show ¬ ((7 : Int) = 6) by decide]
          rw [at_any, Bool.not_not, List.any_map]
          exact Ev.bind (hasState_ev a0 l1 l2 l3 y.f3 (by omega)) (Ev.now _)
    · by_cases c8 : rule = 8
      · by_cases hn : (y.f1.length : Int) > 0
        · have hn0 : ¬ ((y.f1.length : Int) = 0) := by omega
          obtain ⟨v, h1, h2⟩ := expr_both (a0 := a0) F rule y.f1 (h.1 (by omega)) 2
          refine ⟨v, ?_, ?_⟩
          · simp only [rules_bad.f, hbr, c6, c7, hn, if_true, if_false, if_pos c8]; exact h1
          · simp only [semblanceref14_trans.f, c6, c7, hn0, if_false, if_pos c8]; exact Ev.bind h2 (Ev.now _)
        · have hn0 : ((y.f1.length : Int) = 0) := by omega
          refine ⟨false, ?_, ?_⟩
          · simp only [rules_bad.f, hbr, c6, c7, hn, if_false, if_pos c8]; exact Ev.now _
          · simp only [semblanceref14_trans.f, c6, c7, hn0, if_true, if_false, if_pos c8]; exact Ev.now _
      · have c9 : rule = 9 := by omega
        obtain ⟨v, h1, h2, _⟩ := acts_both (a0 := a0) F rule y.f2 h.2.2
        refine ⟨v, ?_, ?_⟩
        · simp only [rules_bad.f, hbr, c6, c7, c8, if_false, if_pos c9]; exact h1
        · simp only [semblanceref14_trans.f, c6, c7, c8, if_false]; exact Ev.bind h2 (Ev.now _)
end Both
/-! ### rule by rule -/
theorem rules_all_len {α : Type} {g : Nat → List α} {c : Nat} : ∀ {n : Nat}, (∀ i, i < n → (g i).length ≤ c) → (rules_all n g).length ≤ n * c
  | 0, _ => by simp [rules_all]
  | n + 1, h => by
    have h1 := rules_all_len (n := n) (fun i hi => h i (by omega))
    have h2 := h n (by omega)
    rw [rules_all_succ, List.length_append, Nat.succ_mul]
    omega
theorem brk_ev {α : Type} {n : Nat} {h : Nat → Nat → Option (List α)} {g : Nat → List α} (hh : ∀ i, i < n → Ev (fun k => h k i) (g i)) : Ev (fun k => brk_all n (h k)) (rules_all n g) := by
  obtain ⟨K, hK⟩ := ev_all (List.range n) (f := fun k i => h k i) (g := g) (fun i hi => hh i (List.mem_range.1 hi))
  exact ⟨K, fun k hk => brk_some (fun i hi => hK k hk i (List.mem_range.2 hi))⟩
theorem any_same {α : Type} {l : List α} {p q : α → Bool} (h : ∀ x ∈ l, p x = q x) : l.any p = l.any q := by
  rw [Bool.eq_iff_iff, List.any_eq_true, List.any_eq_true]
  exact ⟨fun ⟨x, hx, H⟩ => ⟨x, hx, by rw [← h x hx]; exact H⟩, fun ⟨x, hx, H⟩ => ⟨x, hx, by rw [h x hx]; exact H⟩⟩
/-- a flaw where there is one -/
def mark (rule i j : Int) (b : Bool) : List (S65) := if b = true then [⟨rule, i, j⟩] else []
theorem mark_len (rule i j : Int) (b : Bool) : (mark rule i j b).length ≤ 1 := by cases b <;> simp [mark]
section All
variable {a0 : ByteArray} {l1 : List ByteArray} {l2 : List (S50)} {l3 : List (S46)} (F : Fit l1 l2 l3) (rule : Int)
/-- both tell the same flaws of a rule -/
def Tell (a0 : ByteArray) (l1 : List ByteArray) (l2 : List (S50)) (l3 : List (S46)) (rule : Int) (fl : List (S65)) : Prop :=
  Ev (fun k => rules_Broken.g k a0 l1 l2 l3 rule) fl ∧ Ev (fun k => brk_all (semblanceref14_Broken.n l1 l2 l3 rule) (semblanceref14_Broken.at_ k a0 l1 l2 l3 rule)) fl ∧ fl.length ≤ 100000
theorem at_item {a0 : ByteArray} {l1 : List ByteArray} {l2 : List (S50)} {l3 : List (S46)} {rule : Int} {i : Nat} {b : Bool} (h5 : rule ≤ 5) (h : Ev (fun k => semblanceref14_item.f k a0 l1 l2 l3 rule (i : Int)) (!b)) : Ev (fun k => semblanceref14_Broken.at_ k a0 l1 l2 l3 rule i) (mark rule i 0 b) := by
  unfold semblanceref14_Broken.at_
  simp only [h5, if_true]
  refine Ev.bind h (Ev.const ?_)
  cases b <;> rfl
theorem twins_mark (rule : Int) (l : List ByteArray) (hl : l.length ≤ 1000000) (hs : ∀ s ∈ l, s.size ≤ 1000000) : rules_twins.of rule l = some (rules_all l.length (fun i => mark rule i 0 (decide ((l.map bts).getD i [] ∈ (l.map bts).take i)))) := by
  rw [twins_of rule l hl hs]
  congr 1
  refine rules_all_congr (fun i _ => ?_)
  unfold mark
  simp only [decide_eq_true_eq]
theorem rd_names {α : Type} (l : List α) (d : α) (f : α → ByteArray) (i : Nat) (hi : i < l.length) : rdOf ByteArray.empty (l.map f) (i : Int) = f (rdOf d l (i : Int)) := by
  simp [rdOf, hi]
include F
theorem tell1 : ∃ fl, Tell a0 l1 l2 l3 1 fl := by
  have h1 := F.e.1
  refine ⟨rules_all l1.length (fun i => mark 1 i 0 (decide ((l1.map bts).getD i [] ∈ (l1.map bts).take i))), Ev.const ?_, ?_, ?_⟩
  · show rules_twins.of 1 l1 = _
    exact twins_mark 1 l1 (by omega) (fun s hs => by have := F.e.2 s hs; omega)
  · show Ev (fun k => brk_all l1.length (semblanceref14_Broken.at_ k a0 l1 l2 l3 1)) _
    refine brk_ev (fun i hi => at_item (by decide) ⟨0, fun k _ => ?_⟩)
    show semblanceref14_item.f k a0 l1 l2 l3 1 (i : Int) = _
    rw [← dup_iff l1 i hi]
    have g1 : (i : Int) < (l1.length : Int) := by omega
    have g0 : (0 : Int) ≤ (i : Int) := by omega
    simp only [semblanceref14_item.f, g1, g0, if_true, Int.toNat_natCast]
  · have := rules_all_len (n := l1.length) (g := fun i => mark 1 i 0 (decide ((l1.map bts).getD i [] ∈ (l1.map bts).take i))) (c := 1) (fun i _ => mark_len _ _ _ _)
    omega
theorem tell2 : ∃ fl, Tell a0 l1 l2 l3 2 fl := by
  have h2 := F.v.1
  have hn : semblanceref14_Broken.n l1 l2 l3 2 = l2.length := by simp [semblanceref14_Broken.n]
  refine ⟨rules_all l2.length (fun i => mark 2 i 0 (decide (((l2.map fun x => x.f0).map bts).getD i [] ∈ ((l2.map fun x => x.f0).map bts).take i))), Ev.const ?_, ?_, ?_⟩
  · show rules_twins.of 2 (l2.map fun x => x.f0) = _
    rw [twins_mark 2 _ (by simp; omega) (fun s hs => by
      obtain ⟨x, hx, rfl⟩ := List.mem_map.1 hs
      have := (F.v.2 x hx).1
      omega), List.length_map]
  · rw [hn]
    refine brk_ev (fun i hi => at_item (by decide) ⟨0, fun k _ => ?_⟩)
    show semblanceref14_item.f k a0 l1 l2 l3 2 (i : Int) = _
    rw [← dup_iff _ i (by simpa using hi)]
    have e : ∀ m ∈ List.range i, ((rdOf ByteArray.empty (l2.map fun x => x.f0) (m : Int)).toList == (rdOf ByteArray.empty (l2.map fun x => x.f0) (i : Int)).toList) = (((rd_T50 l2 (m : Int)).f0).toList == ((rd_T50 l2 (i : Int)).f0).toList) := fun m hm => by
      have hm := List.mem_range.1 hm
      simp [rdOf, rd_T50, hi, show m < l2.length by omega]
    rw [any_same e]
    have g1 : (i : Int) < (l2.length : Int) := by omega
    have g0 : (0 : Int) ≤ (i : Int) := by omega
    simp only [semblanceref14_item.f, g1, g0, if_true, Int.toNat_natCast, if_false, show ¬ ((2 : Int) = 1) by decide]
  · have := rules_all_len (n := l2.length) (g := fun i => mark 2 i 0 (decide (((l2.map fun x => x.f0).map bts).getD i [] ∈ ((l2.map fun x => x.f0).map bts).take i))) (c := 1) (fun i _ => mark_len _ _ _ _)
    omega
theorem tell4 : ∃ fl, Tell a0 l1 l2 l3 4 fl := by
  have h2 := F.l3_le
  have hn : semblanceref14_Broken.n l1 l2 l3 4 = l3.length := by simp [semblanceref14_Broken.n]
  refine ⟨rules_all l3.length (fun i => mark 4 i 0 (decide (((l3.map fun x => x.f0).map bts).getD i [] ∈ ((l3.map fun x => x.f0).map bts).take i))), Ev.const ?_, ?_, ?_⟩
  · show rules_twins.of 4 (l3.map fun x => x.f0) = _
    rw [twins_mark 4 _ (by simp; omega) (fun s hs => by
      obtain ⟨x, hx, rfl⟩ := List.mem_map.1 hs
      have := (F.s x hx).1
      omega), List.length_map]
  · rw [hn]
    refine brk_ev (fun i hi => at_item (by decide) ⟨0, fun k _ => ?_⟩)
    show semblanceref14_item.f k a0 l1 l2 l3 4 (i : Int) = _
    rw [← dup_iff _ i (by simpa using hi)]
    have e : ∀ m ∈ List.range i, ((rdOf ByteArray.empty (l3.map fun x => x.f0) (m : Int)).toList == (rdOf ByteArray.empty (l3.map fun x => x.f0) (i : Int)).toList) = (((rd_T46 l3 (m : Int)).f0).toList == ((rd_T46 l3 (i : Int)).f0).toList) := fun m hm => by
      have hm := List.mem_range.1 hm
      simp [rdOf, rd_T46, hi, show m < l3.length by omega]
    rw [any_same e]
    have g1 : (i : Int) < (l3.length : Int) := by omega
    have g0 : (0 : Int) ≤ (i : Int) := by omega
    simp only [semblanceref14_item.f, g1, g0, if_true, Int.toNat_natCast, if_false, show ¬ ((4 : Int) = 1) by decide, show ¬ ((4 : Int) = 2) by decide, show ¬ ((4 : Int) = 3) by decide]
  · have := rules_all_len (n := l3.length) (g := fun i => mark 4 i 0 (decide (((l3.map fun x => x.f0).map bts).getD i [] ∈ ((l3.map fun x => x.f0).map bts).take i))) (c := 1) (fun i _ => mark_len _ _ _ _)
    omega
theorem tell3 : ∃ fl, Tell a0 l1 l2 l3 3 fl := by
  have h2 := F.v.1
  have hn : semblanceref14_Broken.n l1 l2 l3 3 = l2.length := by simp [semblanceref14_Broken.n]
  refine ⟨rules_all l2.length (fun i => mark 3 i 0 (rules_range (rd_T50 l2 (i : Int)))), Ev.const rfl, ?_, ?_⟩
  · rw [hn]
    refine brk_ev (fun i hi => at_item (by decide) ⟨0, fun k _ => ?_⟩)
    show semblanceref14_item.f k a0 l1 l2 l3 3 (i : Int) = _
    have hr : rd_T50 l2 (i : Int) = l2[i] := by simp [rd_T50, hi]
    obtain ⟨_, r1, r2, r3⟩ := F.v.2 l2[i] (List.getElem_mem hi)
    have w : wrap64 (l2[i].f2 - l2[i].f1) = l2[i].f2 - l2[i].f1 := wrap_in (by omega) (by omega)
    have h1 : (i : Int) < (l2.length : Int) := by omega
    have h0 : (0 : Int) ≤ (i : Int) := by omega
    simp only [semblanceref14_item.f, h1, h0, hr, if_true, show ¬ ((3 : Int) = 1) by decide, show ¬ ((3 : Int) = 2) by decide, if_false, rules_range, w]
    congr 1
    rw [Bool.eq_iff_iff]
    simp
    omega
  · have := rules_all_len (n := l2.length) (g := fun i => mark 3 i 0 (rules_range (rd_T50 l2 (i : Int)))) (c := 1) (fun i _ => mark_len _ _ _ _)
    omega
theorem tell5 : ∃ fl, Tell a0 l1 l2 l3 5 fl := by
  have h2 := F.l3_le
  have hn : semblanceref14_Broken.n l1 l2 l3 5 = l3.length := by simp [semblanceref14_Broken.n]
  obtain ⟨c, hc, hcc⟩ := Sh.check_prog l3
  have c0 : c = 0 := Sh.checked_one hcc F.chk
  subst c0
  have hk : ∀ i, i < l3.length → 1 ≤ (rd_T46 l3 (i : Int)).f1 ∧ (rd_T46 l3 (i : Int)).f1 ≤ 3 := fun i hi => by
    show 1 ≤ Sh.Kf l3 i ∧ Sh.Kf l3 i ≤ 3
    by_cases e : i = 0
    · subst e; exact F.ok.2.2.1
    · exact (F.ok.2.2.2 i (by omega) hi).2.2.2.2
  refine ⟨rules_all l3.length (fun i => mark 5 i 0 (rules_kid (rd_T46 l3 (i : Int)) ((Sh.kd l3 i l3.length 0).length : Int))), ?_, ?_, ?_⟩
  · obtain ⟨K, hK⟩ := ev_all (List.range l3.length) (f := fun k (i : Nat) => shape_Kids.f k l3 (i : Int)) (g := fun i => Sh.kd l3 i l3.length 0) (fun i hi => Sh.kids_f l3 F.ok hc i (List.mem_range.1 hi))
    refine ⟨K, fun k hk => ?_⟩
    have h1 : ((List.range l3.length).all fun i => (shape_Kids.f k l3 (i : Int)).isSome) = true := List.all_eq_true.2 fun i hi => by rw [hK k hk i hi]; rfl
    show rules_kids.f k (rules_bk0 a0 l1 l2 l3 5) = _
    unfold rules_kids.f
    rw [if_pos (show ((List.range (rules_bk0 a0 l1 l2 l3 5).l3.length).all fun i => (shape_Kids.f k (rules_bk0 a0 l1 l2 l3 5).l3 (i : Int)).isSome) = true from h1)]
    congr 1
    refine rules_all_congr (fun i hi => ?_)
    have hKi := hK k hk i (List.mem_range.2 hi)
    show (if rules_kid (rd_T46 l3 (i : Int)) (((shape_Kids.f k l3 (i : Int)).getD []).length : Int) = true then _ else _) = _
    rw [hKi]
    rfl
  · rw [hn]
    refine brk_ev (fun i hi => at_item (by decide) ?_)
    have h1 : (i : Int) < (l3.length : Int) := by omega
    have h0 : (0 : Int) ≤ (i : Int) := by omega
    simp only [semblanceref14_item.f, h1, h0, if_true, show ¬ ((5 : Int) = 1) by decide, show ¬ ((5 : Int) = 2) by decide, show ¬ ((5 : Int) = 3) by decide, show ¬ ((5 : Int) = 4) by decide, if_false]
    refine Ev.bind (Sh.kids_ref_f l3 (by omega) (i : Int)) (Ev.const ?_)
    obtain ⟨k1, k3⟩ := hk i hi
    congr 1
    generalize ((Sh.kd l3 (i : Int) l3.length 0).length : Int) = n
    unfold rules_kid
    generalize (rd_T46 l3 (i : Int)).f1 = K at k1 k3
    have : K = 1 ∨ K = 2 ∨ K = 3 := by omega
    rcases this with rfl | rfl | rfl
    · simp
    · rw [show wrap64 (2 - 1) = 1 by unfold wrap64; omega]; rw [Bool.eq_iff_iff]; simp
    · rw [show wrap64 (3 - 1) = 2 by unfold wrap64; omega]; rw [Bool.eq_iff_iff]; simp
  · have := rules_all_len (n := l3.length) (g := fun i => mark 5 i 0 (rules_kid (rd_T46 l3 (i : Int)) ((Sh.kd l3 i l3.length 0).length : Int))) (c := 1) (fun i _ => mark_len _ _ _ _)
    omega
omit F in
theorem rd_mem {i : Nat} (hi : i < l3.length) : (rd_T46 l3 (i : Int)) ∈ l3 := by
  have hr : rd_T46 l3 (i : Int) = l3[i] := by simp [rd_T46, hi]
  rw [hr]
  exact List.getElem_mem hi
omit F in
theorem rdt_mem (l : List (S54)) {i : Nat} (hi : i < l.length) : (rd_T54 l (i : Int)) ∈ l := by
  have hr : rd_T54 l (i : Int) = l[i] := by simp [rd_T54, hi]
  rw [hr]
  exact List.getElem_mem hi
theorem tells (hr : 6 ≤ rule ∧ rule ≤ 9) : ∃ fl, Tell a0 l1 l2 l3 rule fl := by
  have h2 := F.l3_le
  have hn : semblanceref14_Broken.n l1 l2 l3 rule = l3.length := by
    unfold semblanceref14_Broken.n
    rw [if_neg (by omega), if_neg]
    simp only [Bool.or_eq_true, beq_iff_eq]
    omega
  obtain ⟨g, hg⟩ := ev_pick (f := fun k y => rules_bad.f k (rules_bk0 a0 l1 l2 l3 rule) y) (P := fun y v => Ev (fun k => semblanceref14_trans.f k a0 l1 l2 l3 rule y.f0 y.f1 y.f2 y.f3) (!v)) false (l3.flatMap fun x => x.f5) (fun y hy => by
    obtain ⟨x, hx, hy⟩ := List.mem_flatMap.1 hy
    exact tr_both F rule y ((F.s x hx).2.2.2.2 y hy) hr)
  have hin : ∀ i, i < l3.length → ∀ m, m < (rd_T46 l3 (i : Int)).f5.length → rd_T54 (rd_T46 l3 (i : Int)).f5 (m : Int) ∈ l3.flatMap fun x => x.f5 := fun i hi m hm =>
    List.mem_flatMap.2 ⟨_, rd_mem hi, rdt_mem _ hm⟩
  refine ⟨rules_all l3.length (fun i => rules_all (rd_T46 l3 (i : Int)).f5.length (fun m => mark rule i m (g (rd_T54 (rd_T46 l3 (i : Int)).f5 (m : Int))))), ?_, ?_, ?_⟩
  · obtain ⟨K, hK⟩ := ev_all (l3.flatMap fun x => x.f5) (f := fun k y => rules_bad.f k (rules_bk0 a0 l1 l2 l3 rule) y) (g := g) (fun y hy => (hg y hy).1)
    refine ⟨K, fun k hk => ?_⟩
    have hK2 := fun i hi m hm => hK k hk _ (hin i hi m hm)
    show rules_Broken.g k a0 l1 l2 l3 rule = _
    unfold rules_Broken.g
    rw [if_neg (by omega), if_neg (by omega), if_neg (by omega), if_neg (by omega), if_neg (by omega), if_neg (by omega)]
    unfold rules_transitions.f
    rw [if_pos (List.all_eq_true.2 fun i hi => List.all_eq_true.2 fun m hm => by rw [show (rules_bk0 a0 l1 l2 l3 rule).l3 = l3 from rfl, hK2 i (List.mem_range.1 hi) m (List.mem_range.1 hm)]; rfl)]
    congr 1
    refine rules_all_congr (fun i hi => rules_all_congr (fun m hm => ?_))
    unfold rules_transitions.one
    rw [show (rules_bk0 a0 l1 l2 l3 rule).l3 = l3 from rfl, hK2 i hi m hm]
    rfl
  · rw [hn]
    refine brk_ev (fun i hi => ?_)
    unfold semblanceref14_Broken.at_
    simp only [show ¬ rule ≤ 5 by omega, show ¬ rule = 10 by omega, if_false]
    refine brk_ev (fun m hm => ?_)
    unfold semblanceref14_Broken.one
    refine Ev.bind (hg _ (hin i hi m hm)).2 (Ev.const ?_)
    cases g (rd_T54 (rd_T46 l3 (i : Int)).f5 (m : Int)) <;> rfl
  · have := rules_all_len (n := l3.length) (g := fun i => rules_all (rd_T46 l3 (i : Int)).f5.length (fun m => mark rule i m (g (rd_T54 (rd_T46 l3 (i : Int)).f5 (m : Int))))) (c := 16) (fun i hi => by
      have h1 := rules_all_len (n := (rd_T46 l3 (i : Int)).f5.length) (g := fun m => mark rule i m (g (rd_T54 (rd_T46 l3 (i : Int)).f5 (m : Int)))) (c := 1) (fun m _ => mark_len _ _ _ _)
      have h3 := (F.s _ (rd_mem hi)).2.2.2.1
      omega)
    omega
theorem tell10 : ∃ fl, Tell a0 l1 l2 l3 10 fl := by
  have h2 := F.l3_le
  have hn : semblanceref14_Broken.n l1 l2 l3 10 = l3.length := by simp [semblanceref14_Broken.n]
  have both : ∀ l : List (S76), (∀ x ∈ l, ActOk x) → ∃ v, Ev (fun k => rules_edge k (rules_bk0 a0 l1 l2 l3 10) l) v ∧ Ev (fun k => semblanceref14_acts.f k a0 l1 l2 l3 l false) (!v) := fun l h => by
    obtain ⟨v, h1, _, h3⟩ := acts_both (a0 := a0) F 10 l h
    exact ⟨_, by unfold rules_edge; exact Ev.bind h1 (Ev.now _), h3⟩
  obtain ⟨g, hg⟩ := ev_pick (f := fun k (x : S46) => rules_edge k (rules_bk0 a0 l1 l2 l3 10) x.f3) (P := fun x v => Ev (fun k => semblanceref14_acts.f k a0 l1 l2 l3 x.f3 false) (!v)) false l3 (fun x hx => both x.f3 (F.s x hx).2.1.2)
  obtain ⟨q, hq⟩ := ev_pick (f := fun k (x : S46) => rules_edge k (rules_bk0 a0 l1 l2 l3 10) x.f4) (P := fun x v => Ev (fun k => semblanceref14_acts.f k a0 l1 l2 l3 x.f4 false) (!v)) false l3 (fun x hx => both x.f4 (F.s x hx).2.2.1.2)
  refine ⟨rules_all l3.length (fun i => mark 10 i 0 (g (rd_T46 l3 (i : Int))) ++ mark 10 i 1 (q (rd_T46 l3 (i : Int)))), ?_, ?_, ?_⟩
  · obtain ⟨K, hK⟩ := ev_all l3 (f := fun k (x : S46) => rules_edge k (rules_bk0 a0 l1 l2 l3 10) x.f3) (g := g) (fun y hy => (hg y hy).1)
    obtain ⟨L, hL⟩ := ev_all l3 (f := fun k (x : S46) => rules_edge k (rules_bk0 a0 l1 l2 l3 10) x.f4) (g := q) (fun y hy => (hq y hy).1)
    refine ⟨max K L, fun k hk => ?_⟩
    have hK2 : ∀ i, i < l3.length → rules_edge k (rules_bk0 a0 l1 l2 l3 10) (rd_T46 l3 (i : Int)).f3 = some (g (rd_T46 l3 (i : Int))) := fun i hi => hK k (by omega) _ (rd_mem hi)
    have hL2 : ∀ i, i < l3.length → rules_edge k (rules_bk0 a0 l1 l2 l3 10) (rd_T46 l3 (i : Int)).f4 = some (q (rd_T46 l3 (i : Int))) := fun i hi => hL k (by omega) _ (rd_mem hi)
    show rules_edges.f k (rules_bk0 a0 l1 l2 l3 10) = _
    unfold rules_edges.f
    rw [if_pos (List.all_eq_true.2 fun i hi => by
      have h1 := hK2 i (List.mem_range.1 hi)
      have h2 := hL2 i (List.mem_range.1 hi)
      show (Option.isSome _ && Option.isSome _) = true
      rw [show (rules_bk0 a0 l1 l2 l3 10).l3 = l3 from rfl, h1, h2]; rfl)]
    congr 1
    refine rules_all_congr (fun i hi => ?_)
    show rules_all 2 _ = _
    rw [rules_all_succ, rules_all_succ]
    show ([] ++ rules_edges.one k (rules_bk0 a0 l1 l2 l3 10) i (rd_T46 l3 (i : Int)) 0) ++ rules_edges.one k (rules_bk0 a0 l1 l2 l3 10) i (rd_T46 l3 (i : Int)) 1 = _
    unfold rules_edges.one
    simp only [if_true, show ¬ (1 = 0) by decide, if_false]
    rw [hK2 i hi, hL2 i hi]
    rfl
  · rw [hn]
    refine brk_ev (fun i hi => ?_)
    unfold semblanceref14_Broken.at_
    simp only [show ¬ (10 : Int) ≤ 5 by decide, if_false, if_true]
    refine Ev.bind (hg _ (rd_mem hi)).2 (Ev.bind (hq _ (rd_mem hi)).2 (Ev.const ?_))
    cases g (rd_T46 l3 (i : Int)) <;> cases q (rd_T46 l3 (i : Int)) <;> rfl
  · have := rules_all_len (n := l3.length) (g := fun i => mark 10 i 0 (g (rd_T46 l3 (i : Int))) ++ mark 10 i 1 (q (rd_T46 l3 (i : Int)))) (c := 2) (fun i _ => by
      rw [List.length_append]
      have := mark_len 10 i 0 (g (rd_T46 l3 (i : Int)))
      have := mark_len 10 i 1 (q (rd_T46 l3 (i : Int)))
      omega)
    omega
omit F in
theorem tell_none (h1 : rule < 1 ∨ 10 < rule) : Ev (fun k => rules_Broken.g k a0 l1 l2 l3 rule) [] := by
  have hb : ∀ k y, rules_bad.f k (rules_bk0 a0 l1 l2 l3 rule) y = some false := fun k y => by
    have e : (rules_bk0 a0 l1 l2 l3 rule).rule = rule := rfl
    unfold rules_bad.f
    rw [e, if_neg (by omega), if_neg (by omega), if_neg (by omega), if_neg (by omega)]
  refine ⟨0, fun k _ => ?_⟩
  show rules_Broken.g k a0 l1 l2 l3 rule = _
  unfold rules_Broken.g
  rw [if_neg (by omega), if_neg (by omega), if_neg (by omega), if_neg (by omega), if_neg (by omega), if_neg (by omega)]
  unfold rules_transitions.f
  rw [if_pos (List.all_eq_true.2 fun i hi => List.all_eq_true.2 fun m hm => by rw [hb]; rfl)]
  congr 1
  have h0 : (rules_all l3.length (rules_transitions.at_ k (rules_bk0 a0 l1 l2 l3 rule))).length ≤ l3.length * 0 := rules_all_len (fun i hi => by
    have h0 : (rules_all (rd_T46 l3 (i : Int)).f5.length (rules_transitions.one k (rules_bk0 a0 l1 l2 l3 rule) i (rd_T46 l3 (i : Int)).f5)).length ≤ (rd_T46 l3 (i : Int)).f5.length * 0 := rules_all_len (fun m hm => by
      unfold rules_transitions.one
      rw [hb]
      exact Nat.le_refl 0)
    rw [Nat.mul_zero] at h0
    exact h0)
  rw [Nat.mul_zero] at h0
  exact List.length_eq_zero_iff.1 (Nat.le_zero.1 h0)
/-- what both tell -/
theorem tell_all (hr : 1 ≤ rule ∧ rule ≤ 10) : ∃ fl, Tell a0 l1 l2 l3 rule fl := by
  have h : rule = 1 ∨ rule = 2 ∨ rule = 3 ∨ rule = 4 ∨ rule = 5 ∨ rule = 10 ∨ (6 ≤ rule ∧ rule ≤ 9) := by omega
  rcases h with rfl | rfl | rfl | rfl | rfl | rfl | h
  · exact tell1 F
  · exact tell2 F
  · exact tell3 F
  · exact tell4 F
  · exact tell5 F
  · exact tell10 F
  · exact tells F rule h
theorem broken_of {fl : List (S65)} (h : Ev (fun k => rules_Broken.g k a0 l1 l2 l3 rule) fl) (hl : fl.length ≤ 100000) : Ev (fun k => rules_Broken.f k a0 l1 l2 l3 rule) fl := by
  have h1 := F.e.1
  have h2 := F.v.1
  have h3 := F.l3_le
  unfold rules_Broken.f
  simp only [show l1.length ≤ 100000 ∧ l2.length ≤ 100000 ∧ l3.length ≤ 100000 by omega, and_self, if_true]
  exact Ev.bind h (Ev.const (if_pos (by omega)))
theorem broken_all (hr : 1 ≤ rule ∧ rule ≤ 10) : ∃ fl, Ev (fun k => rules_Broken.f k a0 l1 l2 l3 rule) fl ∧ Ev (fun k => semblanceref14_Broken.f k a0 l1 l2 l3 rule) fl ∧ fl.length ≤ 100000 := by
  obtain ⟨fl, h1, h2, h3⟩ := tell_all (a0 := a0) F rule hr
  refine ⟨fl, broken_of F rule h1 h3, ?_, h3⟩
  unfold semblanceref14_Broken.f
  exact Ev.bind h2 (Ev.const (if_pos (by omega)))
theorem broken_none (hr : rule < 1 ∨ 10 < rule) : Ev (fun k => rules_Broken.f k a0 l1 l2 l3 rule) [] := broken_of F rule (tell_none rule hr) (by simp)
end All
theorem flaws_same2 (l : List (S65)) (hl : l.length ≤ 2000000) : Ev (fun k => semblanceref14_Same.f k l l) true := by
  have key : ∀ (d n : Nat), l.length - n = d → n ≤ l.length → Ev (fun k => semblanceref14_Same.l0 k l l n) true := by
    intro d
    induction d with
    | zero =>
      intro n hd hn
      have h1 : ¬ ((n : Int) < (l.length : Int)) := by omega
      apply Ev.succ
      simp only [semblanceref14_Same.l0, h1, if_false]
      exact Ev.now _
    | succ d ih =>
      intro n hd hn
      have h1 : (n : Int) < (l.length : Int) := by omega
      have h2 : (0 : Int) ≤ (n : Int) := by omega
      apply Ev.succ
      simp only [semblanceref14_Same.l0, h1, h2, if_true, beq_self_eq_true, Bool.not_true, Bool.or_false, Bool.false_eq_true, if_false, wrap_succ (show n < 9223372036854775807 by omega)]
      exact ih (n + 1) (by omega) (by omega)
  unfold semblanceref14_Same.f
  simp only [if_true]
  exact key _ 0 rfl (Nat.zero_le _)
theorem flaws_same (l : List (S65)) (hl : l.length ≤ 100000) : Ev (fun k => semblanceref14_Same.f k l l) true := flaws_same2 l (by omega)
end
section
open Go.Proofs.YtbkaiojofgmbnaaGreat.XFuel Go.Proofs.YtbkaiojofgmbnaaGreat.XFind Go.Proofs.YtbkaiojofgmbnaaGreat.TermPlain Go.Proofs.YtbkaiojofgmbnaaGreat.XShort
/-! ### what may be told: both answer alike -/
def actC (s : ByteArray) (b : Bool) (l : List (S78)) : Int := if isN s = true then (if b = true then (if (l.length : Int) > 0 then 1 else 0) else chk l) else 1
def firstN : List Int → Int
  | [] => 0
  | x :: l => if x = 0 then firstN l else x
def actsC (l : List (S76)) : Int := if (l.length : Int) > 8 then 8 else firstN (l.map fun x => actC x.f0 x.f1 x.f2)
def nmd (s : ByteArray) : Bool := if s.toList = ([] : List UInt8) then true else isN s
def trC (y : S54) : Int := if nmd y.f0 = true then (if nmd y.f3 = true then (if (y.f1.length : Int) > 0 then (if chk y.f1 = 0 then actsC y.f2 else chk y.f1) else actsC y.f2) else 1) else 1
def varC (x : S50) : Bool := isN x.f0 && (sml x.f1 && (sml x.f2 && sml x.f3))
def stC (x : S46) : Bool := (isN x.f0 && ((actsC x.f3 == 0) && ((actsC x.f4 == 0) && decide ((x.f5.length : Int) ≤ 16)))) && x.f5.all fun y => trC y == 0
theorem act_prog (s : ByteArray) (b : Bool) (l : List (S78)) : Ev (fun k => act_may.f k s b l) (actC s b l) := by
  have j : ∀ x : Bool, Ev (fun k => act_may.j0 k x s b l) (if x = true then 1 else if b = true then 0 else chk l) := fun x => by
    apply Ev.succ
    cases x with
    | true => simp only [act_may.j0, if_true]; exact Ev.now _
    | false =>
      cases b with
      | true => simp only [act_may.j0, if_true, if_false, Bool.false_eq_true]; exact Ev.now _
      | false => simp only [act_may.j0, if_false, Bool.false_eq_true]; exact Ev.bind (check_prog l) (Ev.now _)
  unfold act_may.f actC
  refine Ev.bind (is_prog s) ?_
  cases isN s with
  | false => exact j true
  | true =>
    cases b with
    | false => simp only [if_true, if_false, Bool.false_eq_true]; exact j false
    | true =>
      simp only [if_true]
      by_cases h : (l.length : Int) > 0
      · have hd : decide ((l.length : Int) > 0) = true := decide_eq_true h
        rw [hd, if_pos h]; exact j true
      · have hd : decide ((l.length : Int) > 0) = false := decide_eq_false h
        rw [hd, if_neg h]; exact j false
theorem act_ref (s : ByteArray) (b : Bool) (l : List (S78)) : Ev (fun k => semblanceref08_One.f k s b l) (actC s b l) := by
  unfold semblanceref08_One.f actC
  refine Ev.bind (is_ref s) ?_
  cases isN s with
  | false => simp only [if_false, Bool.false_eq_true]; exact Ev.now _
  | true =>
    cases b with
    | false => simp only [if_true, if_false, Bool.false_eq_true]; exact Ev.bind (check_ref l) (Ev.now _)
    | true =>
      simp only [if_true]
      by_cases h : (l.length : Int) > 0
      · simp only [h, if_true]; exact Ev.now _
      · simp only [h, if_false]; exact Ev.now _
theorem acts_prog (l : List (S76)) : Ev (fun k => act_Check.f k l) (actsC l) := by
  unfold act_Check.f actsC
  by_cases h8 : (l.length : Int) > 8
  · simp only [h8, if_true]; exact Ev.now _
  simp only [h8, if_false]
  have key : ∀ (d n : Nat), l.length - n = d → n ≤ l.length → Ev (fun k => act_Check.l0 k l l.length n) (firstN ((l.drop n).map fun x => actC x.f0 x.f1 x.f2)) := by
    intro d
    induction d with
    | zero =>
      intro n hd hn
      have h1 : ¬ ((n : Int) < (l.length : Int)) := by omega
      apply Ev.succ
      rw [List.drop_of_length_le (by omega)]
      simp only [act_Check.l0, h1, if_false]
      exact Ev.now _
    | succ d ih =>
      intro n hd hn
      have h1 : (n : Int) < (l.length : Int) := by omega
      have h2 : (0 : Int) ≤ (n : Int) := by omega
      have hg : n < l.length := by omega
      have hr : rd_T76 l (n : Int) = l[n] := by simp [rd_T76, hg]
      apply Ev.succ
      rw [List.drop_eq_getElem_cons hg, List.map_cons, firstN]
      simp only [act_Check.l0, h1, h2, hr, if_true, wrap_next (show n < 1000000 by omega)]
      refine Ev.bind (act_prog _ _ _) ?_
      by_cases h : actC l[n].f0 l[n].f1 l[n].f2 = 0
      · simp only [h, if_true]; exact ih (n + 1) (by omega) (by omega)
      · simp only [h, if_false]; exact Ev.now _
  exact key _ 0 rfl (Nat.zero_le _)
theorem acts_ref (l : List (S76)) : Ev (fun k => semblanceref08_Check.f k l) (actsC l) := by
  unfold semblanceref08_Check.f actsC
  by_cases h8 : (l.length : Int) > 8
  · simp only [h8, if_true]; exact Ev.now _
  simp only [h8, if_false]
  have key : ∀ (d n : Nat), l.length - n = d → n ≤ l.length → Ev (fun k => semblanceref08_Check.l0 k l n) (firstN ((l.drop n).map fun x => actC x.f0 x.f1 x.f2)) := by
    intro d
    induction d with
    | zero =>
      intro n hd hn
      have h1 : ¬ ((n : Int) < (l.length : Int)) := by omega
      apply Ev.succ
      rw [List.drop_of_length_le (by omega)]
      simp only [semblanceref08_Check.l0, h1, if_false]
      exact Ev.now _
    | succ d ih =>
      intro n hd hn
      have h1 : (n : Int) < (l.length : Int) := by omega
      have h2 : (0 : Int) ≤ (n : Int) := by omega
      have hg : n < l.length := by omega
      have hr : rd_T76 l (n : Int) = l[n] := by simp [rd_T76, hg]
      apply Ev.succ
      rw [List.drop_eq_getElem_cons hg, List.map_cons, firstN]
      simp only [semblanceref08_Check.l0, h1, h2, hr, if_true, wrap_next (show n < 1000000 by omega)]
      refine Ev.bind (act_ref _ _ _) ?_
      by_cases h : actC l[n].f0 l[n].f1 l[n].f2 = 0
      · simp only [h, if_true]; exact ih (n + 1) (by omega) (by omega)
      · simp only [h, if_false]; exact Ev.now _
  exact key _ 0 rfl (Nat.zero_le _)
theorem nmd_prog (s : ByteArray) : Ev (fun k => trans_named.f k s) (nmd s) := by
  unfold trans_named.f nmd
  by_cases h : s.toList = ([] : List UInt8)
  · simp only [h, if_true]; exact Ev.now _
  · simp only [h, if_false]; exact Ev.bind (is_prog s) (Ev.now _)
theorem tr_prog (y : S54) : Ev (fun k => trans_Check.f k y.f0 y.f1 y.f2 y.f3) (trC y) := by
  have j : ∀ x : Bool, Ev (fun k => trans_Check.j0 k x y.f0 y.f1 y.f2 y.f3) (if x = true then 1 else if (y.f1.length : Int) > 0 then (if chk y.f1 = 0 then actsC y.f2 else chk y.f1) else actsC y.f2) := fun x => by
    apply Ev.succ
    cases x with
    | true => simp only [trans_Check.j0, if_true]; exact Ev.now _
    | false =>
      simp only [trans_Check.j0, if_false, Bool.false_eq_true]
      by_cases h : (y.f1.length : Int) > 0
      · simp only [h, if_true]
        refine Ev.bind (check_prog y.f1) ?_
        by_cases hc : chk y.f1 = 0
        · simp only [hc, if_true]; exact Ev.bind (acts_prog y.f2) (Ev.now _)
        · simp only [hc, if_false]; exact Ev.now _
      · simp only [h, if_false]; exact Ev.bind (acts_prog y.f2) (Ev.now _)
  unfold trans_Check.f trC
  refine Ev.bind (nmd_prog y.f0) ?_
  cases nmd y.f0 with
  | false => exact j true
  | true =>
    simp only [if_true]
    refine Ev.bind (nmd_prog y.f3) ?_
    cases nmd y.f3 with
    | false => exact j true
    | true => exact j false
theorem nmd_ref (s : ByteArray) : ((s.size : Int) > 0 ∧ nmd s = isN s) ∨ (¬ (s.size : Int) > 0 ∧ nmd s = true) := by
  have h : (s.toList = ([] : List UInt8)) ↔ s.size = 0 := by
    have := toList_nil s
    constructor
    · intro e; rw [e] at this; simpa using this.symm
    · intro e; rw [decide_eq_true e] at this; exact beq_iff_eq.1 this
  unfold nmd
  by_cases h0 : s.size = 0
  · exact .inr ⟨by omega, if_pos (h.2 h0)⟩
  · exact .inl ⟨by omega, if_neg (fun e => h0 (h.1 e))⟩
theorem tr_ref (y : S54) : Ev (fun k => semblanceref09_Check.f k y.f0 y.f1 y.f2 y.f3) (trC y) := by
  have j1 : ∀ x : Bool, Ev (fun k => semblanceref09_Check.j1 k x y.f0 y.f1 y.f2 y.f3) (if x = true then chk y.f1 else actsC y.f2) := fun x => by
    apply Ev.succ
    cases x with
    | true => simp only [semblanceref09_Check.j1, if_true]; exact Ev.bind (check_ref y.f1) (Ev.now _)
    | false => simp only [semblanceref09_Check.j1, if_false, Bool.false_eq_true]; exact Ev.bind (acts_ref y.f2) (Ev.now _)
  have j : ∀ x : Bool, Ev (fun k => semblanceref09_Check.j0 k x y.f0 y.f1 y.f2 y.f3) (if x = true then 1 else if (y.f1.length : Int) > 0 then (if chk y.f1 = 0 then actsC y.f2 else chk y.f1) else actsC y.f2) := fun x => by
    apply Ev.succ
    cases x with
    | true => simp only [semblanceref09_Check.j0, if_true]; exact Ev.now _
    | false =>
      simp only [semblanceref09_Check.j0, if_false, Bool.false_eq_true]
      by_cases h : (y.f1.length : Int) > 0
      · simp only [h, if_true]
        refine Ev.bind (check_ref y.f1) (Ev.eq (j1 _) ?_)
        by_cases hc : chk y.f1 = 0
        · simp [hc]
        · simp [hc]
      · simp only [h, if_false]; exact j1 false
  have t3 : Ev (fun k => if (y.f3.size : Int) > 0 then ((semblanceref02_Is.f k y.f3).bind fun t => semblanceref09_Check.j0 k (!t) y.f0 y.f1 y.f2 y.f3) else semblanceref09_Check.j0 k false y.f0 y.f1 y.f2 y.f3) (if nmd y.f3 = true then (if (y.f1.length : Int) > 0 then (if chk y.f1 = 0 then actsC y.f2 else chk y.f1) else actsC y.f2) else 1) := by
    rcases nmd_ref y.f3 with ⟨h, e⟩ | ⟨h, e⟩
    · simp only [h, if_true, e]
      refine Ev.bind (is_ref y.f3) ?_
      cases isN y.f3 with
      | false => exact j true
      | true => exact j false
    · simp only [h, if_false, e, if_true]; exact j false
  unfold semblanceref09_Check.f trC
  rcases nmd_ref y.f0 with ⟨h, e⟩ | ⟨h, e⟩
  · simp only [h, if_true, e]
    refine Ev.bind (is_ref y.f0) ?_
    cases isN y.f0 with
    | false => simp only [if_false, Bool.false_eq_true]; exact j true
    | true => simp only [if_true]; exact t3
  · simp only [h, if_false, e, if_true]; exact t3
theorem sml_prog (n : Int) : print_small.f n = some (sml n) := by
  unfold print_small.f sml
  by_cases h : n ≥ -1000
  · rw [if_pos h, decide_eq_true h, Bool.true_and]
  · rw [if_neg h, decide_eq_false h, Bool.false_and]
theorem var_prog (x : S50) : Ev (fun k => print_badVar.f k x.f0 x.f1 x.f2 x.f3) (!varC x) := by
  unfold print_badVar.f varC
  refine Ev.bind (is_prog x.f0) ?_
  simp only [sml_prog, Option.bind_some]
  cases isN x.f0 <;> cases sml x.f1 <;> cases sml x.f2 <;> exact Ev.now _
theorem anyO_ev {α : Type} {l : List α} {f : Nat → α → Option Bool} {g : α → Bool} (h : ∀ x ∈ l, Ev (fun k => f k x) (g x)) : Ev (fun k => anyO l (f k)) (l.any g) := by
  obtain ⟨K, hK⟩ := ev_all l h
  refine ⟨K, fun k hk => ?_⟩
  show anyO l (f k) = _
  unfold anyO
  rw [if_pos (List.all_eq_true.2 fun x hx => by rw [hK k hk x hx]; rfl)]
  congr 1
  rw [Bool.eq_iff_iff, List.any_eq_true, List.any_eq_true]
  exact ⟨fun ⟨x, hx, H⟩ => ⟨x, hx, by rw [hK k hk x hx] at H; exact H⟩, fun ⟨x, hx, H⟩ => ⟨x, hx, by rw [hK k hk x hx]; exact H⟩⟩
theorem any_not {α : Type} (l : List α) (p : α → Bool) : (l.any fun x => !p x) = !(l.all p) := by rw [List.not_all_eq_any_not]
theorem st_prog (x : S46) : Ev (fun k => print_badState.f k x.f0 x.f1 x.f2 x.f3 x.f4 x.f5) (!stC x) := by
  unfold print_badState.f stC
  refine Ev.bind (is_prog x.f0) ?_
  cases isN x.f0 with
  | false => exact Ev.now _
  | true =>
    simp only [if_true]
    refine Ev.bind (acts_prog x.f3) ?_
    by_cases h3 : actsC x.f3 = 0
    · simp only [h3, if_true]
      refine Ev.bind (acts_prog x.f4) ?_
      by_cases h4 : actsC x.f4 = 0
      · simp only [h4, if_true]
        by_cases h5 : (x.f5.length : Int) > 16
        · have h6 : decide ((x.f5.length : Int) ≤ 16) = false := decide_eq_false (by omega)
          simp only [h5, if_true, h6]; exact Ev.now _
        · have h6 : decide ((x.f5.length : Int) ≤ 16) = true := decide_eq_true (by omega)
          simp only [h5, if_false, h6]
          unfold api_Trans_79.f
          refine Ev.bind (anyO_ev (g := fun y => !(trC y == 0)) fun y _ => ?_) ?_
          · show Ev (fun k => (trans_Check.f k y.f0 y.f1 y.f2 y.f3).bind fun t => some (t != 0)) _
            exact Ev.bind (tr_prog y) (Ev.now _)
          · rw [any_not]
            exact Ev.now _
      · have h6 : (actsC x.f4 == 0) = false := beq_eq_false_iff_ne.2 h4
        simp only [h4, if_false, h6, Bool.false_and, Bool.and_false]; exact Ev.now _
    · have h6 : (actsC x.f3 == 0) = false := beq_eq_false_iff_ne.2 h3
      simp only [h3, if_false, h6, Bool.false_and, Bool.and_false]; exact Ev.now _
end
section
open Go.Proofs.YtbkaiojofgmbnaaGreat.XFuel Go.Proofs.YtbkaiojofgmbnaaGreat.XFind Go.Proofs.YtbkaiojofgmbnaaGreat.TermPlain Go.Proofs.YtbkaiojofgmbnaaGreat.XShort
/-! ### whether a chart may be told, and all its flaws -/
def mayC (a0 : ByteArray) (l1 : List ByteArray) (l2 : List (S50)) (l3 : List (S46)) (c : Int) : Bool := (isN a0 && (decide ((l1.length : Int) ≤ 8) && (decide ((l2.length : Int) ≤ 4) && (c == 0)))) && (l1.all isN && (l2.all varC && l3.all stC))
section May
variable (a0 : ByteArray) (l1 : List ByteArray) (l2 : List (S50)) (l3 : List (S46))
theorem may_val (h3 : l3.length ≤ 1000) : ∃ c, shape_Check.f l3 = some c ∧ Ev (fun k => semblanceref12_May.f k a0 l1 l2 l3) (mayC a0 l1 l2 l3 c) := by
  obtain ⟨c, hc, hcc⟩ := Sh.check_ref l3 h3
  obtain ⟨d, hd, hdd⟩ := Sh.check_prog l3
  obtain rfl := Sh.checked_one hcc hdd
  refine ⟨c, hd, Ev.bind (is_ref a0) (Ev.bind hc (Ev.bind (allO_ev (g := isN) fun s _ => is_ref s) (Ev.bind (allO_ev (g := varC) fun x _ => ?_) (Ev.bind (allO_ev (g := stC) fun x _ => ?_) (Ev.now _)))))⟩
  · exact Ev.bind (is_ref x.f0) (Ev.now _)
  · exact Ev.bind (is_ref x.f0) (Ev.bind (acts_ref x.f3) (Ev.bind (acts_ref x.f4) (Ev.bind (allO_ev (g := fun y => trC y == 0) fun y _ => Ev.bind (tr_ref y) (Ev.now _)) (Ev.now _))))
theorem print_ev {c : Int} (hc : shape_Check.f l3 = some c) : Ev (fun k => print_Check.f k a0 l1 l2 l3) (if mayC a0 l1 l2 l3 c = true then 0 else 1) := by
  have j : ∀ x : Bool, Ev (fun k => print_Check.j0 k x a0 l1 l2 l3) (if x = true then 1 else if (l1.all isN && (l2.all varC && l3.all stC)) = true then 0 else 1) := fun x => by
    apply Ev.succ
    cases x with
    | true => simp only [print_Check.j0, if_true]; exact Ev.now _
    | false =>
      simp only [print_Check.j0, if_false, Bool.false_eq_true]
      refine Ev.bind (?_ : Ev (fun k => slices_ContainsFunc_string_string.f k l1 0) (!(l1.all isN))) ?_
      · unfold slices_ContainsFunc_string_string.f
        rw [← any_not]
        exact anyO_ev fun s _ => Ev.bind (is_prog s) (Ev.now _)
      cases l1.all isN with
      | false => exact Ev.now _
      | true =>
        simp only [Bool.not_true, Bool.false_eq_true, if_false, Bool.true_and]
        refine Ev.bind (?_ : Ev (fun k => api_Var_47.f k l2 0) (!(l2.all varC))) ?_
        · unfold api_Var_47.f
          rw [← any_not]
          exact anyO_ev fun x _ => var_prog x
        cases l2.all varC with
        | false => exact Ev.now _
        | true =>
          simp only [Bool.not_true, Bool.false_eq_true, if_false, Bool.true_and]
          refine Ev.bind (?_ : Ev (fun k => api_State_49.f k l3 0) (!(l3.all stC))) ?_
          · unfold api_State_49.f
            rw [← any_not]
            exact anyO_ev fun x _ => st_prog x
          cases l3.all stC <;> exact Ev.now _
  unfold print_Check.f mayC
  refine Ev.bind (is_prog a0) ?_
  cases isN a0 with
  | false => exact j true
  | true =>
    simp only [if_true, Bool.true_and]
    by_cases h1 : (l1.length : Int) > 8
    · have h2 : decide ((l1.length : Int) > 8) = true := decide_eq_true h1
      have h3 : decide ((l1.length : Int) ≤ 8) = false := decide_eq_false (by omega)
      simp only [h1, if_true, decide_true, h3, Bool.false_and, Bool.false_eq_true, if_false]
      exact j true
    · have h3 : decide ((l1.length : Int) ≤ 8) = true := decide_eq_true (by omega)
      simp only [h1, if_false, h3, Bool.true_and]
      by_cases h4 : (l2.length : Int) > 4
      · have h5 : decide ((l2.length : Int) ≤ 4) = false := decide_eq_false (by omega)
        simp only [h4, if_true, decide_true, h5, Bool.false_and, Bool.false_eq_true, if_false]
        exact j true
      · have h5 : decide ((l2.length : Int) ≤ 4) = true := decide_eq_true (by omega)
        simp only [h4, if_false, h5, Bool.true_and, hc, Option.bind_some]
        refine Ev.eq (j (c != 0)) ?_
        by_cases h6 : c = 0
        · subst h6; simp
        · have h7 : (c != 0) = true := bne_iff_ne.2 h6
          have h8 : (c == 0) = false := beq_eq_false_iff_ne.2 h6
          simp [h7, h8]
theorem flaws_of (F : Fit l1 l2 l3) : ∃ FL : Int → List (S65), ∀ r, 1 ≤ r ∧ r ≤ 10 → Ev (fun k => rules_Broken.f k a0 l1 l2 l3 r) (FL r) ∧ Ev (fun k => semblanceref14_Broken.f k a0 l1 l2 l3 r) (FL r) ∧ (FL r).length ≤ 100000 := by
  classical
  refine ⟨fun r => if h : 1 ≤ r ∧ r ≤ 10 then Classical.choose (broken_all (a0 := a0) F r h) else [], fun r h => ?_⟩
  simp only [dif_pos h]
  exact Classical.choose_spec (broken_all (a0 := a0) F r h)
def catF (FL : Int → List (S65)) : Nat → Int → List (S65)
  | 0, _ => []
  | d + 1, x => FL x ++ catF FL d (x + 1)
def empF (FL : Int → List (S65)) : Nat → Bool
  | 0 => true
  | d + 1 => (FL ((d + 1 : Nat) : Int)).isEmpty && empF FL d
theorem cat_nil (FL : Int → List (S65)) : ∀ (d : Nat) (x : Int), catF FL d x = [] ↔ ∀ j : Nat, j < d → FL (x + j) = []
  | 0, x => ⟨fun _ j h => absurd h (by omega), fun _ => rfl⟩
  | d + 1, x => by
    rw [catF, List.append_eq_nil_iff, cat_nil FL d (x + 1)]
    constructor
    · rintro ⟨h1, h2⟩ j hj
      cases j with
      | zero => rw [show x + ((0 : Nat) : Int) = x by omega]; exact h1
      | succ j => rw [show x + ((j + 1 : Nat) : Int) = x + 1 + j by omega]; exact h2 j (by omega)
    · intro h
      exact ⟨by have := h 0 (by omega); rwa [show x + ((0 : Nat) : Int) = x by omega] at this, fun j hj => by have := h (j + 1) (by omega); rwa [show x + ((j + 1 : Nat) : Int) = x + 1 + j by omega] at this⟩
theorem emp_iff (FL : Int → List (S65)) : ∀ d : Nat, empF FL d = true ↔ ∀ j : Nat, j < d → FL (1 + j) = []
  | 0 => ⟨fun _ j h => absurd h (by omega), fun _ => rfl⟩
  | d + 1 => by
    rw [empF, Bool.and_eq_true, emp_iff FL d, List.isEmpty_iff]
    constructor
    · rintro ⟨h1, h2⟩ j hj
      by_cases e : j = d
      · subst e; rw [show (1 : Int) + (j : Int) = ((j + 1 : Nat) : Int) by omega]; exact h1
      · exact h2 j (by omega)
    · intro h
      exact ⟨by have := h d (by omega); rwa [show (1 : Int) + (d : Int) = ((d + 1 : Nat) : Int) by omega] at this, fun j hj => h j (by omega)⟩
theorem cat_emp (FL : Int → List (S65)) (d : Nat) : (((catF FL d 1).length : Int) == 0) = empF FL d := by
  rw [Bool.eq_iff_iff, beq_iff_eq, emp_iff, ← cat_nil FL d 1]
  constructor
  · intro h; exact List.length_eq_zero_iff.1 (by omega)
  · intro h; rw [h]; rfl
section All
variable {FL : Int → List (S65)} (hF : ∀ r, 1 ≤ r ∧ r ≤ 10 → Ev (fun k => rules_Broken.f k a0 l1 l2 l3 r) (FL r) ∧ Ev (fun k => semblanceref14_Broken.f k a0 l1 l2 l3 r) (FL r) ∧ (FL r).length ≤ 100000)
include hF
theorem cat_len : ∀ (d : Nat) (x : Int), 1 ≤ x → x + d ≤ 11 → (catF FL d x).length ≤ 100000 * d
  | 0, x, _, _ => by simp [catF]
  | d + 1, x, h1, h2 => by
    have := cat_len d (x + 1) (by omega) (by omega)
    have := (hF x ⟨h1, by omega⟩).2.2
    rw [catF, List.length_append]
    omega
theorem of_prog : ∀ (d : Nat) (x : Int) (acc : List (S65)), x + d = 11 → 1 ≤ x → acc.length + 100000 * d ≤ 2000000 → Ev (fun k => sound_Of.l0 k acc x a0 l1 l2 l3) (acc ++ catF FL d x, 0) := by
  intro d
  induction d with
  | zero =>
    intro x acc hd h1 hl
    have h : ¬ x < 11 := by omega
    apply Ev.succ
    simp only [sound_Of.l0, h, if_false, catF, List.append_nil]
    exact Ev.now _
  | succ d ih =>
    intro x acc hd h1 hl
    have h : x < 11 := by omega
    obtain ⟨p1, _, p3⟩ := hF x ⟨h1, by omega⟩
    have h2 : acc.length + (FL x).length < 5864062014805 := by omega
    have w : wrap64 (x + 1) = x + 1 := wrap_in (by omega) (by omega)
    apply Ev.succ
    simp only [sound_Of.l0, h, if_true, w]
    refine Ev.bind p1 ?_
    simp only [h2, if_true]
    exact Ev.eq (ih (x + 1) (acc ++ FL x) (by omega) (by omega) (by rw [List.length_append]; omega)) (by rw [catF, List.append_assoc])
theorem of_ref : ∀ (d : Nat) (x : Int) (acc : List (S65)), x + d = 11 → 1 ≤ x → acc.length + 100000 * d ≤ 2000000 → Ev (fun k => semblanceref15_Of.l0 k acc x a0 l1 l2 l3) (acc ++ catF FL d x) := by
  intro d
  induction d with
  | zero =>
    intro x acc hd h1 hl
    have h : ¬ x ≤ 10 := by omega
    apply Ev.succ
    simp only [semblanceref15_Of.l0, h, if_false, catF, List.append_nil]
    exact Ev.now _
  | succ d ih =>
    intro x acc hd h1 hl
    have h : x ≤ 10 := by omega
    obtain ⟨_, p2, p3⟩ := hF x ⟨h1, by omega⟩
    have h2 : acc.length + (FL x).length < 5864062014805 := by omega
    have w : wrap64 (x + 1) = x + 1 := wrap_in (by omega) (by omega)
    apply Ev.succ
    simp only [semblanceref15_Of.l0, h, if_true, w]
    refine Ev.bind p2 ?_
    simp only [h2, if_true]
    exact Ev.eq (ih (x + 1) (acc ++ FL x) (by omega) (by omega) (by rw [List.length_append]; omega)) (by rw [catF, List.append_assoc])
theorem is15_ref : ∀ (d : Nat), d ≤ 10 → Ev (fun k => semblanceref15_Is.l0 k (d : Int) a0 l1 l2 l3) (empF FL d) := by
  intro d
  induction d with
  | zero =>
    intro _
    have h : ¬ ((0 : Nat) : Int) ≥ 1 := by omega
    apply Ev.succ
    simp only [semblanceref15_Is.l0, h, if_false]
    exact Ev.now _
  | succ d ih =>
    intro hd
    have h : ((d + 1 : Nat) : Int) ≥ 1 := by omega
    obtain ⟨_, p2, _⟩ := hF ((d + 1 : Nat) : Int) ⟨by omega, by omega⟩
    have w : wrap64 (((d + 1 : Nat) : Int) - 1) = (d : Int) := by rw [show ((d + 1 : Nat) : Int) - 1 = (d : Int) by omega]; exact wrap_in (by omega) (by omega)
    apply Ev.succ
    simp only [semblanceref15_Is.l0, h, if_true, w]
    refine Ev.bind p2 ?_
    rw [empF]
    cases hl : FL ((d + 1 : Nat) : Int) with
    | nil =>
      simp only [List.length_nil, List.isEmpty_nil, Bool.true_and]
      have h3 : ¬ (((0 : Nat) : Int) > 0) := by decide
      simp only [h3, if_false]
      exact ih (by omega)
    | cons y ys =>
      have h3 : ((y :: ys).length : Int) > 0 := by simp
      simp only [h3, if_true]
      exact Ev.now _
end All
/-- a chart that may be told: its flaws, on both sides -/
theorem sound_all (h65 : l3.length ≤ 1000) : (Ev (fun k => semblanceref12_May.f k a0 l1 l2 l3) false ∧ Ev (fun k => sound_Of.f k a0 l1 l2 l3) ([], 1) ∧ Ev (fun k => sound_Is.f k a0 l1 l2 l3) false ∧ Ev (fun k => semblanceref15_Is.f k a0 l1 l2 l3) false) ∨
    (Fit l1 l2 l3 ∧ Ev (fun k => semblanceref12_May.f k a0 l1 l2 l3) true ∧ ∃ fl, fl.length ≤ 2000000 ∧ Ev (fun k => sound_Of.f k a0 l1 l2 l3) (fl, 0) ∧ Ev (fun k => semblanceref15_Of.f k a0 l1 l2 l3) fl ∧ Ev (fun k => sound_Is.f k a0 l1 l2 l3) ((fl.length : Int) == 0) ∧ Ev (fun k => semblanceref15_Is.f k a0 l1 l2 l3) ((fl.length : Int) == 0)) := by
  obtain ⟨c, hc, hm⟩ := may_val a0 l1 l2 l3 h65
  have hp := print_ev a0 l1 l2 l3 hc
  obtain ⟨b, hb, hF⟩ := may_ev a0 l1 l2 l3 h65
  obtain rfl := Ev.unique hb hm
  cases hM : mayC a0 l1 l2 l3 c with
  | false =>
    rw [hM] at hm hp
    have hof : Ev (fun k => sound_Of.f k a0 l1 l2 l3) ([], 1) := by
      unfold sound_Of.f
      exact Ev.bind hp (Ev.now _)
    refine .inl ⟨hm, hof, ?_, ?_⟩
    · unfold sound_Is.f
      exact Ev.bind hof (Ev.now _)
    · unfold semblanceref15_Is.f
      exact Ev.bind hm (Ev.now _)
  | true =>
    rw [hM] at hm hp
    have F := hF hM
    obtain ⟨FL, hFL⟩ := flaws_of a0 l1 l2 l3 F
    have hof : Ev (fun k => sound_Of.f k a0 l1 l2 l3) (catF FL 10 1, 0) := by
      unfold sound_Of.f
      exact Ev.bind hp (Ev.eq (of_prog a0 l1 l2 l3 hFL 10 1 [] (by omega) (by omega) (by simp)) (by rw [List.nil_append]))
    refine .inr ⟨F, hm, catF FL 10 1, by have := cat_len a0 l1 l2 l3 hFL 10 1 (by omega) (by omega); omega, hof, ?_, ?_, ?_⟩
    · unfold semblanceref15_Of.f
      exact Ev.eq (of_ref a0 l1 l2 l3 hFL 10 1 [] (by omega) (by omega) (by simp)) (by rw [List.nil_append])
    · unfold sound_Is.f
      exact Ev.bind hof (Ev.now _)
    · unfold semblanceref15_Is.f
      rw [cat_emp]
      exact Ev.bind hm (is15_ref a0 l1 l2 l3 hFL 10 (by omega))
end May
end
end Go.Proofs.YtbkaiojofgmbnaaGreat.XS
