import Derived.Test.YtoeioigpkfgppaaXBytes
import Derived.Test.YtoeioigpkfgppaaXFind
import Derived.Test.YtoeioigpkfgppaaXFuel
import Derived.Test.YtoeioigpkfgppaaXNamesPlain
import Derived.Test.YtoeioigpkfgppaaXTermPlain
import Derived.Test.YtoeioigpkfgppaaXVleval
import Derived.Test.YtoeioigpkfgppaaXVo
import Derived.Test.YtoeioigpkfgppaaXVp5
import Derived.Test.YtoeioigpkfgppaaXVp6
import Derived.Test.YtoeioigpkfgppaaXVp9
namespace Go.Proofs.Ytoeioigpkfgppaa.XV
open Go.RowKit Go.Proofs.Ytoeioigpkfgppaa.XRead Go.Proofs.Ytoeioigpkfgppaa.XV Go.Proofs.YtoeioigpkfgppaaW.PrintWords Go.Proofs.YtoeioigpkfgppaaW.PrintLast Go.Proofs.YtoeioigpkfgppaaW.PrintMore
open Go.Proofs.Ytoeioigpkfgppaa.TermPlain Go.Proofs.Ytoeioigpkfgppaa.XFuel Go.Proofs.Ytoeioigpkfgppaa.XFind
set_option linter.unusedVariables false
set_option linter.unusedSimpArgs false
/-! ### an expression's value, by the tree -/
def mkA (e : EnvT) (l : List (S47)) (i : Nat) (vs : List Int) : Int := TA e (opOf l i) (rd_T47 l i).f1 (rd_T47 l i).f2 (vs.getD 0 0) (vs.getD 1 0)
def vA (e : EnvT) (l : List (S47)) : Nat → Int := val (aOf l) l.length (mkA e l)
/-- an expression that comes to something -/
structure OKE (e : EnvT) (l : List (S47)) : Prop where
  len : l.length ≤ 40
  whole : E (aOf l) l.length 0 = some l.length
  vs : e.vs.length ≤ 4
  ins : e.ins.length ≤ 100000
  num : ∀ i : Nat, i < l.length → opOf l i = 1 → In6 (rd_T47 l i).f1
  var : ∀ i : Nat, i < l.length → opOf l i = 2 → 0 ≤ plc e (rd_T47 l i).f2
theorem MKt_def (op : Int) (vs : List Int) : MKt op vs = if vs.any (fun x => x != takes op) = true then 0 else if op ≤ 8 then 1 else 2 := rfl
section
variable {e : EnvT} {l : List (S47)}
theorem OKE.op (H : OKE e l) {i : Nat} (hi : i < l.length) : 1 ≤ opOf l i ∧ opOf l i ≤ 20 := by
  obtain ⟨f, hf⟩ := all_end H.whole i hi
  have h3 : 0 ≤ aOf l i := (E_lt hf).2.2
  have h4 : aOf l i = ar (opOf l i) := rfl
  rw [h4] at h3
  unfold ar at h3
  constructor
  · apply Classical.byContradiction
    intro hc
    rw [if_pos (by omega)] at h3
    exact absurd h3 (by decide)
  · apply Classical.byContradiction
    intro hc
    rw [if_neg (by omega), if_pos (by omega)] at h3
    exact absurd h3 (by decide)
theorem OKE.below (H : OKE e l) {i : Nat} (hi : i < l.length) : (∀ j ∈ bl (aOf l) l.length i, i < j ∧ j < l.length) ∧ ((bl (aOf l) l.length i).length : Int) = ar (opOf l i) := by
  obtain ⟨f, hf⟩ := all_end H.whole i hi
  refine ⟨fun j hj => ⟨(bl_end hf hj).1, (bl_end hf hj).2.1⟩, ?_⟩
  have h3 : 0 ≤ aOf l i := (E_lt hf).2.2
  have h4 : aOf l i = ar (opOf l i) := rfl
  unfold bl
  rw [starts_length]
  omega
theorem vA_eq {i : Nat} (hi : i < l.length) : vA e l i = TA e (opOf l i) (rd_T47 l i).f1 (rd_T47 l i).f2 (((bl (aOf l) l.length i).map (vA e l)).getD 0 0) (((bl (aOf l) l.length i).map (vA e l)).getD 1 0) := val_eq hi
theorem getD_in {L : List Nat} {f : Nat → Int} (h : ∀ j ∈ L, In6 (f j)) (n : Nat) : In6 ((L.map f).getD n 0) := by
  by_cases hn : n < L.length
  · simp only [List.getD, List.getElem?_map, List.getElem?_eq_getElem hn, Option.map_some, Option.getD_some]
    exact h _ (List.getElem_mem hn)
  · simp only [List.getD, List.getElem?_map, List.getElem?_eq_none (by omega : L.length ≤ n), Option.map_none, Option.getD_none]
    unfold In6; omega
theorem vA_in (H : OKE e l) : ∀ (d i : Nat), l.length - i ≤ d → i < l.length → In6 (vA e l i) := by
  intro d
  induction d with
  | zero => intro i hd hi; omega
  | succ d ih =>
    intro i hd hi
    have hB := (H.below hi).1
    rw [vA_eq hi]
    have hall : ∀ j ∈ bl (aOf l) l.length i, In6 (vA e l j) := fun j hj => ih j (by have := hB j hj; omega) (hB j hj).2
    exact TA_in e _ (H.op hi) (H.num i hi) (getD_in hall 0) (getD_in hall 1)
theorem at_ref (H : OKE e l) : ∀ (d i : Nat), l.length - i ≤ d → i < l.length → Ev (fun k => semblanceref07_At.f k l i e.vs e.c1 e.c2 e.c3 e.c4 e.ins) (vA e l i) := by
  intro d
  induction d with
  | zero => intro i hd hi; omega
  | succ d ih =>
    intro i hd hi
    have h1 : (0 : Int) ≤ (i : Int) := by omega
    have h2 : (i : Int) < (l.length : Int) := by omega
    have hop : (rd_T47 l (i : Int)).f0 = opOf l i := rfl
    obtain ⟨hB, hlen⟩ := H.below hi
    obtain ⟨f, hf⟩ := all_end H.whole i hi
    have ho := H.op hi
    have hle := ar_le (opOf l i)
    apply Ev.succ
    simp only [semblanceref07_At.f, h1, h2, if_true]
    refine Ev.bind (below_ref_f l (by have := H.len; omega) i f hf) ?_
    rw [vA_eq hi]
    have hval : ∀ j ∈ bl (aOf l) l.length i, Ev (fun k => semblanceref07_At.f k l (j : Nat) e.vs e.c1 e.c2 e.c3 e.c4 e.ins) (vA e l j) := fun j hj => ih j (by have := hB j hj; omega) (hB j hj).2
    have hin : ∀ j ∈ bl (aOf l) l.length i, In6 (vA e l j) := fun j hj => vA_in H _ j (Nat.le_refl _) (hB j hj).2
    have hz : In6 0 := by unfold In6; omega
    have hj1 : ∀ x y, In6 x → In6 y → Ev (fun k => semblanceref07_At.j1 k x y e.vs e.c1 e.c2 e.c3 e.c4 e.ins (rd_T47 l (i : Int)).f0 (rd_T47 l (i : Int)).f1 (rd_T47 l (i : Int)).f2) (TA e (opOf l i) (rd_T47 l i).f1 (rd_T47 l i).f2 x y) := fun x y hx hy => by
      rw [hop]
      exact j1_ref e _ ho hx hy H.vs H.ins (H.var i hi)
    unfold blI
    generalize bl (aOf l) l.length i = B at hB hlen hval hin
    match B with
    | [] =>
      have g0 : ¬ (((([] : List Nat).map Nat.cast : List Int).length : Int) > 0) := by simp
      have g1 : ¬ (((([] : List Nat).map Nat.cast : List Int).length : Int) > 1) := by simp
      simp only [g0, if_false]
      apply Ev.succ
      simp only [semblanceref07_At.j0, g1, if_false]
      exact hj1 0 0 hz hz
    | [b] =>
      have g0 : ((([b].map Nat.cast : List Int).length : Int) > 0) := by simp
      have g0' : (0 : Int) < ((([b].map Nat.cast : List Int).length : Int)) := by simp
      have g1 : ¬ ((([b].map Nat.cast : List Int).length : Int) > 1) := by simp
      have hr : rd ([b].map Nat.cast : List Int) 0 = (b : Int) := by simp [rd]
      simp only [g0, g0', if_true, hr]
      refine Ev.bind (hval b (by simp)) ?_
      apply Ev.succ
      simp only [semblanceref07_At.j0, g1, if_false]
      exact hj1 _ 0 (hin b (by simp)) hz
    | [b, c] =>
      have g0 : ((([b, c].map Nat.cast : List Int).length : Int) > 0) := by simp
      have g0' : (0 : Int) < ((([b, c].map Nat.cast : List Int).length : Int)) := by simp
      have g1 : ((([b, c].map Nat.cast : List Int).length : Int) > 1) := by simp
      have g1' : (1 : Int) < ((([b, c].map Nat.cast : List Int).length : Int)) := by simp
      have hr : rd ([b, c].map Nat.cast : List Int) 0 = (b : Int) := by simp [rd]
      have hr1 : rd ([b, c].map Nat.cast : List Int) 1 = (c : Int) := by simp [rd]
      simp only [g0, g0', if_true, hr]
      refine Ev.bind (hval b (by simp)) ?_
      apply Ev.succ
      simp only [semblanceref07_At.j0, g1, g1', if_true, hr1]
      refine Ev.bind (hval c (by simp)) ?_
      exact hj1 _ _ (hin b (by simp)) (hin c (by simp))
    | _ :: _ :: _ :: _ => simp at hlen; omega

/-! ### types -/
theorem starts_add : ∀ (c n m q : Nat), sc (aOf l) l.length n c = some m → starts (aOf l) l.length (c + q) n = starts (aOf l) l.length c n ++ starts (aOf l) l.length q m
  | 0, n, m, q, h => by
    rw [sc_zero] at h; cases h
    rw [Nat.zero_add]; rfl
  | c + 1, n, m, q, h => by
    rw [sc_succ] at h
    obtain ⟨g, hg, h⟩ := Option.bind_eq_some_iff.mp h
    rw [show c + 1 + q = (c + q) + 1 by omega, starts, starts, hg, Option.getD_some, starts_add c g m q h]
    rfl
/-- at every place so many lack, and they are known -/
theorem down (hw : E (aOf l) l.length 0 = some l.length) (hT : vI l MKt 0 ≠ 0) : ∀ i, i ≤ l.length → ∃ p, sc (aOf l) l.length i p = some l.length ∧ ∀ j ∈ starts (aOf l) l.length p i, vI l MKt j ≠ 0 := by
  intro i
  induction i with
  | zero =>
    intro _
    refine ⟨1, hw, fun j hj => ?_⟩
    simp [starts] at hj
    subst hj; exact hT
  | succ i ih =>
    intro hi
    obtain ⟨p, hp, hj⟩ := ih (by omega)
    cases p with
    | zero => rw [sc_zero] at hp; cases hp; omega
    | succ p =>
      by_cases hg : i < l.length ∧ 0 ≤ aOf l i
      · have hp2 := hp
        rw [sc_step hg] at hp
        refine ⟨_, hp, ?_⟩
        rw [sc_succ] at hp2
        obtain ⟨f, hf, _⟩ := Option.bind_eq_some_iff.mp hp2
        have hf2 := hf
        rw [E_eq hg] at hf2
        rw [Nat.add_comm p, starts_add _ _ _ _ hf2]
        rw [starts, hf, Option.getD_some] at hj
        have h0 := hj i (by simp)
        intro j hm
        rcases List.mem_append.1 hm with hm | hm
        · have hv : vI l MKt i = MKt (opOf l i) ((bl (aOf l) l.length i).map (vI l MKt)) := val_eq hg.1
          rw [hv] at h0
          rw [MKt_def] at h0
          by_cases hany : (((bl (aOf l) l.length i).map (vI l MKt)).any (fun x => x != takes (opOf l i))) = true
          · rw [if_pos hany] at h0; exact absurd rfl h0
          · have : vI l MKt j = takes (opOf l i) := by
              apply Classical.byContradiction
              intro hne
              apply hany
              rw [List.any_eq_true]
              exact ⟨_, List.mem_map.2 ⟨j, hm, rfl⟩, by simp [hne]⟩
            rw [this]
            unfold takes
            repeat' split
            all_goals decide
        · exact hj j (List.mem_cons_of_mem _ hm)
      · rw [sc_bad (by omega) hg] at hp; cases hp
theorem typed (hw : E (aOf l) l.length 0 = some l.length) (hT : vI l MKt 0 ≠ 0) {i : Nat} (hi : i < l.length) : vI l MKt i ≠ 0 ∧ ∀ j ∈ bl (aOf l) l.length i, vI l MKt j = takes (opOf l i) := by
  obtain ⟨p, hp, hj⟩ := down hw hT i (by omega)
  cases p with
  | zero => rw [sc_zero] at hp; cases hp; omega
  | succ p =>
    have h0 := hj i (by rw [starts]; simp)
    refine ⟨h0, fun j hm => ?_⟩
    have hv : vI l MKt i = MKt (opOf l i) ((bl (aOf l) l.length i).map (vI l MKt)) := val_eq hi
    rw [hv] at h0
    rw [MKt_def] at h0
    by_cases hany : (((bl (aOf l) l.length i).map (vI l MKt)).any (fun x => x != takes (opOf l i))) = true
    · rw [if_pos hany] at h0; exact absurd rfl h0
    · apply Classical.byContradiction
      intro hne
      apply hany
      rw [List.any_eq_true]
      exact ⟨_, List.mem_map.2 ⟨j, hm, rfl⟩, by simp [hne]⟩
theorem bool_val (H : OKE e l) {i : Nat} (hi : i < l.length) (h2 : vI l MKt i = 2) : vA e l i = 0 ∨ vA e l i = 1 := by
  have hv : vI l MKt i = MKt (opOf l i) ((bl (aOf l) l.length i).map (vI l MKt)) := val_eq hi
  rw [hv] at h2
  rw [MKt_def] at h2
  have ho : ¬ opOf l i ≤ 8 := by
    intro h8
    rw [if_pos h8] at h2
    split at h2 <;> exact absurd h2 (by decide)
  have hop := H.op hi
  rw [vA_eq hi]
  generalize opOf l i = op at *
  have hb := b01_is
  have : op = 9 ∨ op = 10 ∨ op = 11 ∨ op = 12 ∨ op = 13 ∨ op = 14 ∨ op = 15 ∨ op = 16 ∨ op = 17 ∨ op = 18 ∨ op = 19 ∨ op = 20 := by omega
  rcases this with rfl | rfl | rfl | rfl | rfl | rfl | rfl | rfl | rfl | rfl | rfl | rfl <;> simp only [TA, Int.reduceEq, if_true, if_false]
  · right; trivial
  · left; trivial
  all_goals exact hb _

/-! ### the stack -/
theorem pop_app (s : List Int) (x : Int) : eval_At.pop (s ++ [x]) = some (s, x) := by unfold eval_At.pop; simp
theorem step_ev (H : OKE e l) (hT : vI l MKt 0 ≠ 0) {i : Nat} (hi : i < l.length) (R : List Int) :
    Ev (fun k => eval_At.step k e.vs e.c1 e.c2 e.c3 e.c4 e.ins (R ++ ((bl (aOf l) l.length i).map (vA e l)).reverse) l[i]) (R ++ [vA e l i]) := by
  have hr : rd_T47 l (i : Int) = l[i] := by simp [rd_T47, hi]
  have hop : (l[i]).f0 = opOf l i := by rw [← hr]; rfl
  obtain ⟨hB, hlen⟩ := H.below hi
  have ho := H.op hi
  have hty := (typed H.whole hT hi).2
  have hin : ∀ j ∈ bl (aOf l) l.length i, In6 (vA e l j) := fun j hj => vA_in H _ j (Nat.le_refl _) (hB j hj).2
  have hbv : ∀ j ∈ bl (aOf l) l.length i, takes (opOf l i) = 2 → vA e l j = 0 ∨ vA e l j = 1 := fun j hj h2 => bool_val H (hB j hj).2 ((hty j hj).trans h2)
  have hvA := vA_eq (e := e) hi
  have hnum := H.num i hi
  have hvar := H.var i hi
  rw [hr] at hvA hnum hvar
  rw [hvA]
  have hA := arity_prog (opOf l i)
  simp only [eval_At.step, hop]
  generalize opOf l i = op at *
  clear hvA hop hr
  generalize bl (aOf l) l.length i = B at *
  by_cases q3 : op = 3
  · subst q3
    obtain ⟨b, rfl⟩ : ∃ b, B = [b] := by
      match B, hlen with
      | [b], _ => exact ⟨b, rfl⟩
      | [], h => exact absurd h (by decide)
      | _ :: _ :: _, h => exact absurd h (by rw [show ar 3 = 1 by decide]; simp; omega)
    have hx := hin b (by simp)
    refine Ev.const ?_
    simp only [if_true, List.map_cons, List.map_nil, List.reverse_cons, List.reverse_nil, List.nil_append, pop_app, Option.bind_some, TA, Int.reduceEq, if_false, List.getD_cons_zero]
    have h0 : In6 0 := by unfold In6; omega
    unfold In6 at hx
    simp only [val_Minus.f, near_prog, Option.bind_some, near_in h0, near_in hx]
    rw [wrap_in (by omega) (by omega), near_in (by omega)]
    simp
  by_cases q12 : op = 12
  · subst q12
    obtain ⟨b, rfl⟩ : ∃ b, B = [b] := by
      match B, hlen with
      | [b], _ => exact ⟨b, rfl⟩
      | [], h => exact absurd h (by decide)
      | _ :: _ :: _, h => exact absurd h (by rw [show ar 12 = 1 by decide]; simp; omega)
    refine Ev.const ?_
    simp only [if_true, List.map_cons, List.map_nil, List.reverse_cons, List.reverse_nil, List.nil_append, pop_app, Option.bind_some, TA, Int.reduceEq, if_false, List.getD_cons_zero]
    rcases hbv b (by simp) (by decide) with h | h <;> rw [h, wrap_in (by omega) (by omega)] <;> rfl
  simp only [q3, q12, if_false]
  refine Ev.bind hA ?_
  by_cases q0 : ar op = 0
  · simp only [q0, if_true]
    have hB0 : B = [] := List.eq_nil_of_length_eq_zero (by omega)
    subst hB0
    have hl : op = 1 ∨ op = 2 ∨ op = 9 ∨ op = 10 ∨ op = 11 := by
      unfold ar at q0
      rw [if_neg (by omega), if_neg (by omega), if_neg (by omega)] at q0
      split at q0
      · omega
      · exact absurd q0 (by decide)
    refine Ev.bind (leaf_prog e _ 0 0 hl H.vs H.ins hvar) ?_
    simp only [List.map_nil, List.reverse_nil, List.append_nil, List.getD_nil]
    exact Ev.now _
  · have h2 : 4 ≤ op ∧ op ≤ 8 ∨ 13 ≤ op ∧ op ≤ 20 := by
      unfold ar at q0
      rw [if_neg (by omega), if_neg (by omega), if_neg (by omega)] at q0
      split at q0
      · exact absurd rfl q0
      · omega
    have har : ar op = 2 := by
      unfold ar
      rw [if_neg (by omega), if_neg (by omega), if_neg (by omega), if_neg (by omega)]
    obtain ⟨b, c, rfl⟩ : ∃ b c, B = [b, c] := by
      rw [har] at hlen
      match B, hlen with
      | [b, c], _ => exact ⟨b, c, rfl⟩
      | [], h => exact absurd h (by decide)
      | [_], h => exact absurd h (by simp)
      | _ :: _ :: _ :: _, h => exact absurd h (by simp; omega)
    simp only [q0, if_false, List.map_cons, List.map_nil, List.reverse_cons, List.reverse_nil, List.nil_append, ← List.append_assoc, pop_app, Option.bind_some, List.getD_cons_zero, List.getD_cons_succ]
    refine Ev.bind (two_prog e _ _ h2 (hin b (by simp)) (hin c (by simp)) (fun h19 => ?_)) (Ev.now _)
    have ht : takes op = 2 := by
      unfold takes
      rw [if_neg (by omega), if_neg (by omega), if_pos h19]
    exact ⟨hbv b (by simp) ht, hbv c (by simp) ht⟩
theorem fold_ev (H : OKE e l) (hT : vI l MKt 0 ≠ 0) : ∀ n, n ≤ l.length → ∀ p, sc (aOf l) l.length (l.length - n) p = some l.length →
    Ev (fun k => eval_At.fold k e.vs e.c1 e.c2 e.c3 e.c4 e.ins l n) (((starts (aOf l) l.length p (l.length - n)).map (vA e l)).reverse) := by
  intro n
  induction n with
  | zero =>
    intro _ p hp
    have h0 : p = 0 := by
      apply Classical.byContradiction
      intro hne
      have := (sc_le _ _ _ _ (Nat.le_refl _) hp).2 hne
      omega
    subst h0
    simp only [eval_At.fold, List.take_zero, List.foldlM_nil]
    exact Ev.now _
  | succ n ih =>
    intro hn p hp
    obtain ⟨i, hi⟩ : ∃ i, i = l.length - (n + 1) := ⟨_, rfl⟩
    have hil : i < l.length := by omega
    rw [← hi] at hp ⊢
    cases p with
    | zero => rw [sc_zero] at hp; cases hp; omega
    | succ q =>
      by_cases hg : i < l.length ∧ 0 ≤ aOf l i
      · have hp2 := hp
        rw [sc_step hg, Nat.add_comm q] at hp
        rw [sc_succ] at hp2
        obtain ⟨f, hf, _⟩ := Option.bind_eq_some_iff.mp hp2
        have hf2 := hf
        rw [E_eq hg] at hf2
        have h1 := ih (by omega) _ (by rw [show l.length - n = i + 1 by omega]; exact hp)
        rw [show l.length - n = i + 1 by omega, starts_add _ _ _ _ hf2, List.map_append, List.reverse_append] at h1
        have hst : starts (aOf l) l.length (q + 1) i = i :: starts (aOf l) l.length q f := by rw [starts, hf, Option.getD_some]
        rw [hst, List.map_cons, List.reverse_cons]
        refine Ev.congr (fun k => eval_At.fold_succ k e.vs e.c1 e.c2 e.c3 e.c4 e.ins l n (by omega)) ?_
        refine Ev.bind h1 ?_
        have hx : l[l.length - 1 - n]'(by omega) = l[i] := by congr 1; omega
        simp only [hx]
        exact step_ev H hT hil _
      · rw [sc_bad (by omega) hg] at hp; cases hp
theorem fold_all_ev (H : OKE e l) (hT : vI l MKt 0 ≠ 0) : Ev (fun k => eval_At.fold k e.vs e.c1 e.c2 e.c3 e.c4 e.ins l l.length) [vA e l 0] := by
  have := fold_ev H hT l.length (Nat.le_refl _) 1 (by rw [Nat.sub_self]; exact H.whole)
  rw [Nat.sub_self] at this
  exact this
end

end Go.Proofs.Ytoeioigpkfgppaa.XV
