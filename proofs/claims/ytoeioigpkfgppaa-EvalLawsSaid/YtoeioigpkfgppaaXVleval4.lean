import Derived.Test.YtoeioigpkfgppaaXFind
import Derived.Test.YtoeioigpkfgppaaXFuel
import Derived.Test.YtoeioigpkfgppaaXTermPlain
import Derived.Test.YtoeioigpkfgppaaXVleval3
import Derived.Test.YtoeioigpkfgppaaXVo
import Derived.Test.YtoeioigpkfgppaaXVp9
namespace Go.Proofs.Ytoeioigpkfgppaa.XV
open Go.RowKit Go.Proofs.Ytoeioigpkfgppaa.XRead Go.Proofs.Ytoeioigpkfgppaa.XV Go.Proofs.YtoeioigpkfgppaaW.PrintWords Go.Proofs.YtoeioigpkfgppaaW.PrintLast Go.Proofs.YtoeioigpkfgppaaW.PrintMore
open Go.Proofs.Ytoeioigpkfgppaa.TermPlain Go.Proofs.Ytoeioigpkfgppaa.XFuel Go.Proofs.Ytoeioigpkfgppaa.XFind
set_option linter.unusedVariables false
set_option linter.unusedSimpArgs false
/-! ### expressions put together -/
theorem sc_lift {a a' : Nat → Int} {len b e : Nat} (hag : ∀ j, b ≤ j → j < e → a' (j - b) = a j) (hel : e ≤ len) : ∀ (d i p f : Nat), e - i ≤ d → b ≤ i → i ≤ e → sc a' (e - b) (i - b) p = some f → sc a len i p = some (f + b) := by
  intro d
  induction d with
  | zero =>
    intro i p f hd hb hi h
    cases p with
    | zero => rw [sc_zero] at h ⊢; cases h; rw [Nat.sub_add_cancel hb]
    | succ p => rw [sc_bad (by omega) (by omega)] at h; cases h
  | succ d ih =>
    intro i p f hd hb hi h
    cases p with
    | zero => rw [sc_zero] at h ⊢; cases h; rw [Nat.sub_add_cancel hb]
    | succ p =>
      by_cases hg : i - b < e - b ∧ 0 ≤ a' (i - b)
      · rw [sc_step hg, show i - b + 1 = i + 1 - b by omega] at h
        have he := hag i hb (by omega)
        rw [sc_step ⟨by omega, by rw [← he]; exact hg.2⟩, ← he]
        exact ih (i + 1) _ f (by omega) (by omega) (by omega) h
      · rw [sc_bad (by omega) hg] at h; cases h
/-- a part of a list, that is an expression: its end and what it comes to -/
theorem part_E {l m : List (S47)} {b : Nat} (hm : ∀ j : Nat, j < m.length → rd_T47 l ((b + j : Nat) : Int) = rd_T47 m (j : Nat)) (hb : b + m.length ≤ l.length) (hw : E (aOf m) m.length 0 = some m.length) : E (aOf l) l.length b = some (b + m.length) := by
  have hag : ∀ j, b ≤ j → j < b + m.length → aOf m (j - b) = aOf l j := fun j h1 h2 => by
    have := hm (j - b) (by omega)
    rw [show b + (j - b) = j by omega] at this
    show ar (rd_T47 m ((j - b : Nat) : Int)).f0 = ar (rd_T47 l (j : Int)).f0
    rw [this]
  have := sc_lift (len := l.length) hag hb _ b 1 m.length (Nat.le_refl _) (Nat.le_refl _) (by omega) (by rw [show b + m.length - b = m.length by omega, Nat.sub_self]; exact hw)
  rw [E, this, Nat.add_comm]
theorem part_val {l m : List (S47)} {b : Nat} (hm : ∀ j : Nat, j < m.length → rd_T47 l ((b + j : Nat) : Int) = rd_T47 m (j : Nat)) (hb : b + m.length ≤ l.length) (hw : E (aOf m) m.length 0 = some m.length) {mk mk' : Nat → List Int → Int}
    (hk : ∀ (j : Nat) vs, j < m.length → mk' j vs = mk (b + j) vs) : val (aOf l) l.length mk b = val (aOf m) m.length mk' 0 := by
  have hag : ∀ j, b ≤ j → j < b + m.length → aOf m (j - b) = aOf l j := fun j h1 h2 => by
    have := hm (j - b) (by omega)
    rw [show b + (j - b) = j by omega] at this
    show ar (rd_T47 m ((j - b : Nat) : Int)).f0 = ar (rd_T47 l (j : Int)).f0
    rw [this]
  have h1 := part_E hm hb hw
  have := val_shift (len := l.length) (mk := mk) (mk' := mk') hag (fun j vs h1 h2 => by
    have := hk (j - b) vs (by omega)
    rw [show b + (j - b) = j by omega] at this
    exact this) _ b _ (Nat.le_refl _) (Nat.le_refl _) h1 (Nat.le_refl _)
  rw [show b + m.length - b = m.length by omega, Nat.sub_self] at this
  exact this.symm
theorem part_vI {l m : List (S47)} {b : Nat} (hm : ∀ j : Nat, j < m.length → rd_T47 l ((b + j : Nat) : Int) = rd_T47 m (j : Nat)) (hb : b + m.length ≤ l.length) (hw : E (aOf m) m.length 0 = some m.length) (MK : Int → List Int → Int) : vI l MK b = vI m MK 0 :=
  part_val hm hb hw (fun j vs hj => by show MK (rd_T47 m (j : Nat)).f0 vs = MK (rd_T47 l ((b + j : Nat) : Int)).f0 vs; rw [hm j hj])
theorem part_vA (e : EnvT) {l m : List (S47)} {b : Nat} (hm : ∀ j : Nat, j < m.length → rd_T47 l ((b + j : Nat) : Int) = rd_T47 m (j : Nat)) (hb : b + m.length ≤ l.length) (hw : E (aOf m) m.length 0 = some m.length) : vA e l b = vA e m 0 :=
  part_val hm hb hw (fun j vs hj => by unfold mkA opOf; rw [hm j hj])
/-- an expression that comes to something: its depth at most d, its type t, what it comes to -/
structure GE (e : EnvT) (l : List (S47)) (d t v : Int) : Prop where
  len : l.length ≤ 40
  whole : E (aOf l) l.length 0 = some l.length
  may : ∀ x ∈ l, mayB x.f0 x.f1 x.f2 = true
  deep : 0 ≤ vI l MKd 0 ∧ vI l MKd 0 ≤ d
  type : vI l MKt 0 = t
  val : vA e l 0 = v
  known : ∀ x ∈ l, lacks e x = false
def tm0 (op : Int) : S47 := ⟨op, 0, ⟨#[]⟩⟩
theorem GE.pos {e : EnvT} {l : List (S47)} {d t v : Int} (g : GE e l d t v) : 0 < l.length := (E_lt g.whole).1
theorem GE.un {e : EnvT} {a : List (S47)} {d v : Int} (g : GE e a d 2 v) (hd : d ≤ 100) (hl : a.length + 1 ≤ 40) : GE e (tm0 12 :: a) (d + 1) 2 (b01 (v == 0)) := by
  have hm : ∀ j : Nat, j < a.length → rd_T47 (tm0 12 :: a) ((1 + j : Nat) : Int) = rd_T47 a (j : Nat) := fun j hj => by
    rw [Nat.add_comm]; simp [rd_T47]
  have hlen : (tm0 12 :: a).length = 1 + a.length := by simp; omega
  have hb : 1 + a.length ≤ (tm0 12 :: a).length := by omega
  have hE := part_E hm hb g.whole
  have hop : opOf (tm0 12 :: a) 0 = 12 := rfl
  have har : aOf (tm0 12 :: a) 0 = 1 := by show ar (opOf (tm0 12 :: a) 0) = 1; rw [hop]; decide
  have hg : 0 < (tm0 12 :: a).length ∧ 0 ≤ aOf (tm0 12 :: a) 0 := ⟨by omega, by omega⟩
  have hw : E (aOf (tm0 12 :: a)) (tm0 12 :: a).length 0 = some (tm0 12 :: a).length := by
    rw [E_eq hg, har]
    show sc _ _ 1 1 = _
    rw [show sc (aOf (tm0 12 :: a)) (tm0 12 :: a).length 1 1 = E (aOf (tm0 12 :: a)) (tm0 12 :: a).length 1 from rfl, hE, hlen]
  have hbl : bl (aOf (tm0 12 :: a)) (tm0 12 :: a).length 0 = [1] := by
    unfold bl; rw [har]; rfl
  have hv : ∀ MK, vI (tm0 12 :: a) MK 0 = MK 12 [vI a MK 0] := fun MK => by
    have := TermPlain.val_eq (a := aOf (tm0 12 :: a)) (len := (tm0 12 :: a).length) (mk := mkV (tm0 12 :: a) MK) (i := 0) (by omega)
    rw [hbl] at this
    refine this.trans ?_
    show MK (opOf (tm0 12 :: a) 0) [vI (tm0 12 :: a) MK 1] = _
    rw [hop, part_vI hm hb g.whole]
  refine ⟨by omega, hw, fun x hx => ?_, ?_, ?_, ?_, fun x hx => ?_⟩
  · rcases List.mem_cons.1 hx with rfl | hx
    · decide
    · exact g.may x hx
  · rw [hv]
    unfold MKd
    have := g.deep
    show 0 ≤ wrap64 (mx 0 (vI a MKd 0) + 1) ∧ wrap64 (mx 0 (vI a MKd 0) + 1) ≤ d + 1
    have hx : 0 ≤ mx 0 (vI a MKd 0) ∧ mx 0 (vI a MKd 0) ≤ d := by unfold mx; split <;> omega
    rw [wrap_in (by omega) (by omega)]
    omega
  · rw [hv, g.type]; decide
  · rw [vA_eq (by omega), hbl]
    show TA e 12 0 ⟨#[]⟩ (vA e (tm0 12 :: a) 1) 0 = _
    rw [part_vA e hm hb g.whole, g.val]
    simp only [TA, Int.reduceEq, if_true, if_false]
  · rcases List.mem_cons.1 hx with rfl | hx
    · unfold lacks tm0; simp
    · exact g.known x hx
theorem GE.bin {e : EnvT} {a b : List (S47)} {op d t v v' : Int} (g : GE e a d t v) (g' : GE e b d t v') (ho : op = 15 ∨ op = 18 ∨ op = 19 ∨ op = 20) (ht : takes op = t) (hd : d ≤ 100) (hl : a.length + b.length + 1 ≤ 40) : GE e (tm0 op :: (a ++ b)) (d + 1) 2 (TA e op 0 ⟨#[]⟩ v v') := by
  obtain ⟨l, hl0⟩ : ∃ l, l = tm0 op :: (a ++ b) := ⟨_, rfl⟩
  have hlen : l.length = 1 + a.length + b.length := by rw [hl0]; simp; omega
  have hm : ∀ j : Nat, j < a.length → rd_T47 l ((1 + j : Nat) : Int) = rd_T47 a (j : Nat) := fun j hj => by
    rw [hl0, Nat.add_comm]; simp [rd_T47, List.getElem?_append_left hj]
  have hm' : ∀ j : Nat, j < b.length → rd_T47 l ((1 + a.length + j : Nat) : Int) = rd_T47 b (j : Nat) := fun j hj => by
    rw [hl0]; unfold rd_T47; rw [show (((1 + a.length + j : Nat) : Int)).toNat = (a.length + j) + 1 by omega]; simp [List.getElem?_append_right]
  have hb : 1 + a.length ≤ l.length := by omega
  have hb' : 1 + a.length + b.length ≤ l.length := by omega
  have hE := part_E hm hb g.whole
  have hE' := part_E hm' hb' g'.whole
  have hop : opOf l 0 = op := by rw [hl0]; rfl
  have har2 : ar op = 2 := by rcases ho with rfl | rfl | rfl | rfl <;> decide
  have har : aOf l 0 = 2 := by show ar (opOf l 0) = 2; rw [hop, har2]
  have hg : 0 < l.length ∧ 0 ≤ aOf l 0 := ⟨by omega, by omega⟩
  have hw : E (aOf l) l.length 0 = some l.length := by
    rw [E_eq hg, har]
    show sc _ _ 1 2 = _
    rw [show (2 : Nat) = 1 + 1 from rfl, sc_succ, hE, Option.bind_some]
    show E (aOf l) l.length (1 + a.length) = _
    rw [hE', hlen]
  have hbl : bl (aOf l) l.length 0 = [1, 1 + a.length] := by
    unfold bl; rw [har]
    show starts (aOf l) l.length 2 1 = _
    rw [starts, hE, Option.getD_some]; rfl
  have hv : ∀ MK, vI l MK 0 = MK op [vI a MK 0, vI b MK 0] := fun MK => by
    have := TermPlain.val_eq (a := aOf l) (len := l.length) (mk := mkV l MK) (i := 0) (by omega)
    rw [hbl] at this
    refine this.trans ?_
    show MK (opOf l 0) [vI l MK 1, vI l MK (1 + a.length)] = _
    rw [hop, part_vI hm hb g.whole, part_vI hm' hb' g'.whole]
  have hmem : ∀ x ∈ l, x = tm0 op ∨ x ∈ a ∨ x ∈ b := fun x hx => by rw [hl0] at hx; simpa using hx
  rw [← hl0]
  refine ⟨by omega, hw, fun x hx => ?_, ?_, ?_, ?_, fun x hx => ?_⟩
  · rcases hmem x hx with rfl | hx | hx
    · rcases ho with rfl | rfl | rfl | rfl <;> decide
    · exact g.may x hx
    · exact g'.may x hx
  · rw [hv]
    unfold MKd
    have := g.deep
    have := g'.deep
    show 0 ≤ wrap64 (mx (mx 0 (vI a MKd 0)) (vI b MKd 0) + 1) ∧ wrap64 (mx (mx 0 (vI a MKd 0)) (vI b MKd 0) + 1) ≤ d + 1
    have hx : 0 ≤ mx 0 (vI a MKd 0) ∧ mx 0 (vI a MKd 0) ≤ d := by unfold mx; split <;> omega
    have hy : 0 ≤ mx (mx 0 (vI a MKd 0)) (vI b MKd 0) ∧ mx (mx 0 (vI a MKd 0)) (vI b MKd 0) ≤ d := by
      generalize mx 0 (vI a MKd 0) = z at hx ⊢
      unfold mx; split <;> omega
    rw [wrap_in (by omega) (by omega)]
    omega
  · rw [hv, g.type, g'.type, MKt_def, ← ht]
    rcases ho with rfl | rfl | rfl | rfl <;> decide
  · rw [vA_eq (by omega), hbl, hop]
    have hr0 : rd_T47 l ((0 : Nat) : Int) = tm0 op := by rw [hl0]; rfl
    rw [hr0]
    show TA e op 0 ⟨#[]⟩ (vA e l 1) (vA e l (1 + a.length)) = _
    rw [part_vA e hm hb g.whole, part_vA e hm' hb' g'.whole, g.val, g'.val]
  · rcases hmem x hx with rfl | hx | hx
    · rcases ho with rfl | rfl | rfl | rfl <;> simp [lacks, tm0]
    · exact g.known x hx
    · exact g'.known x hx
theorem GE.chk {e : EnvT} {l : List (S47)} {d t v : Int} (g : GE e l d t v) (hv : e.vs.length ≤ 4) (hd : d ≤ 12) (ht : t ≠ 0) : chk7 e l = 0 := by
  have h1 : XV.chk l = 0 := by
    unfold XV.chk
    rw [if_neg (by have := g.len; omega), if_pos g.whole, if_neg, if_neg (by have := g.deep; omega)]
    rw [Bool.not_eq_true, List.any_eq_false]
    intro x hx
    rw [g.may x hx]; decide
  unfold chk7
  rw [if_neg (by omega), if_pos h1, if_neg (by rw [g.type]; exact ht), if_neg]
  rw [Bool.not_eq_true, List.any_eq_false]
  intro x hx
  rw [g.known x hx]; decide
theorem GE.hld {e : EnvT} {l : List (S47)} {d v : Int} (g : GE e l d 2 v) (hv : e.vs.length ≤ 4) (hd : d ≤ 12) : hld e l = decide (v = 1) := by
  have h0 := g.pos
  have hc := g.chk hv hd (by decide)
  unfold XV.hld
  rw [Bool.eq_iff_iff, decide_eq_true_eq, decide_eq_true_eq, g.type, g.val, hc]
  constructor
  · rintro (h | h)
    · omega
    · exact h.2.2
  · intro h; exact .inr ⟨rfl, rfl, h⟩
/-! ### what holds of what is put together -/
theorem holds_ev (e : EnvT) (ahead : List Int) (a b : List (S47)) (hh : ahead.length ≤ 10) (ha : a.length ≤ 100) (hb : b.length ≤ 100) (hi : e.ins.length ≤ 100000) :
    Ev (fun k => semblancelaw07_holds.f k e.vs e.c1 e.c2 e.c3 e.c4 e.ins ahead a b) (hld e (ahead.map tm0 ++ a ++ b)) := by
  have key : ∀ (d n : Nat) (acc : List (S47)), ahead.length - n = d → n ≤ ahead.length → acc.length ≤ n → Ev (fun k => semblancelaw07_holds.l0 k ahead a b acc n e.vs e.c1 e.c2 e.c3 e.c4 e.ins) (hld e (acc ++ (ahead.drop n).map tm0 ++ a ++ b)) := by
    intro d
    induction d with
    | zero =>
      intro n acc hd hn hacc
      have h1 : ¬ ((n : Int) < (ahead.length : Int)) := by omega
      apply Ev.succ
      simp only [semblancelaw07_holds.l0, h1, if_false, show acc.length + a.length < 4398046511104 by omega, if_true, Option.bind_some, show (acc ++ a).length + b.length < 4398046511104 by simp; omega]
      rw [List.drop_of_length_le (by omega), List.map_nil, List.append_nil]
      exact Ev.bind (holds_prog e _ hi) (Ev.now _)
    | succ d ih =>
      intro n acc hd hn hacc
      have h1 : (n : Int) < (ahead.length : Int) := by omega
      have h2 : (0 : Int) ≤ (n : Int) := by omega
      have hg : n < ahead.length := by omega
      have hr : rd ahead (n : Int) = ahead[n] := by simp [rd, hg]
      apply Ev.succ
      simp only [semblancelaw07_holds.l0, h1, h2, if_true, show acc.length < 4398046511104 by omega, hr]
      rw [wrap_succ (by omega)]
      refine Ev.eq (ih (n + 1) (acc ++ [tm0 ahead[n]]) (by omega) (by omega) (by simp; omega)) ?_
      rw [List.drop_eq_getElem_cons hg, List.map_cons]
      simp
  have := key _ 0 [] rfl (Nat.zero_le _) (Nat.le_refl _)
  rw [List.drop_zero, List.nil_append] at this
  exact this
/-- what the check lets through -/
theorem GE.of {e : EnvT} {l : List (S47)} (hi : e.ins.length ≤ 100000) (h : chk7 e l = 0) (hd : vI l MKd 0 ≤ 9) : GE e l 9 (vI l MKt 0) (vA e l 0) := by
  obtain ⟨H, hT, hc, hl⟩ := chk7_zero hi h
  obtain ⟨h40, hw, hm, _⟩ := chk_zero hc
  refine ⟨h40, hw, hm, ⟨?_, hd⟩, rfl, rfl, fun x hx => by simpa using List.any_eq_false.1 hl x hx⟩
  have hw0 := E_lt hw
  have hall : ∀ (d i : Nat), l.length - i ≤ d → i < l.length → 0 ≤ vI l MKd i ∧ vI l MKd i ≤ l.length - i := by
    intro d
    induction d with
    | zero => intro i hd hi; omega
    | succ d ih =>
      intro i hd hi
      obtain ⟨hB, _⟩ := H.below hi
      have hv : vI l MKd i = MKd (opOf l i) ((bl (aOf l) l.length i).map (vI l MKd)) := TermPlain.val_eq hi
      rw [hv]
      unfold MKd
      have hf : ∀ (L : List Nat) (x : Int), (∀ j ∈ L, i < j ∧ j < l.length) → 0 ≤ x → x + 1 ≤ l.length - i → 0 ≤ (L.map (vI l fun (_op : Int) (vs : List Int) => wrap64 (vs.foldl mx 0 + 1))).foldl mx x ∧ (L.map (vI l fun (_op : Int) (vs : List Int) => wrap64 (vs.foldl mx 0 + 1))).foldl mx x + 1 ≤ l.length - i := by
        intro L
        induction L with
        | nil => intro x _ h1 h2; exact ⟨h1, h2⟩
        | cons j L ihL =>
          intro x hL h1 h2
          rw [List.map_cons, List.foldl_cons]
          have hj := hL j (by simp)
          have h3 : 0 ≤ vI l MKd j ∧ vI l MKd j ≤ l.length - j := ih j (by omega) hj.2
          refine ihL _ (fun q hq => hL q (List.mem_cons_of_mem _ hq)) ?_ ?_
          · show 0 ≤ mx x (vI l MKd j); unfold mx; split <;> omega
          · show mx x (vI l MKd j) + 1 ≤ _; unfold mx; split <;> omega
      have := hf _ 0 hB (by omega) (by omega)
      rw [wrap_in (by omega) (by omega)]
      omega
  exact (hall _ 0 (Nat.le_refl _) (by omega)).1

end Go.Proofs.Ytoeioigpkfgppaa.XV
