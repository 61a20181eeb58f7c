import Derived.Test.YtoeioigpkfgppaaXFuel
import Derived.Test.YtoeioigpkfgppaaXRlrs
import Derived.Test.YtoeioigpkfgppaaXRlrules
import Derived.Test.YtoeioigpkfgppaaXRo
import Derived.Test.YtoeioigpkfgppaaXRp2
import Derived.Test.YtoeioigpkfgppaaXRp3
import Derived.Test.YtoeioigpkfgppaaXRp5
import Derived.Test.YtoeioigpkfgppaaXRp6
namespace Go.Proofs.Ytoeioigpkfgppaa.XR
open Go.RowKit Go.Proofs.Ytoeioigpkfgppaa.XRead Go.Proofs.Ytoeioigpkfgppaa.XR Go.Proofs.YtoeioigpkfgppaaW.PrintWords Go.Proofs.YtoeioigpkfgppaaW.PrintLast Go.Proofs.YtoeioigpkfgppaaW.PrintMore
open Go.Proofs.Ytoeioigpkfgppaa.XFuel Go.Proofs.Ytoeioigpkfgppaa.TermPlain
set_option linter.unusedVariables false
set_option linter.unusedSimpArgs false
/-! ### all of a list -/
theorem ev_all {α β : Type} (l : List α) {f : Nat → α → Option β} {g : α → β} (h : ∀ x ∈ l, Ev (fun k => f k x) (g x)) : ∃ K, ∀ k, K ≤ k → ∀ x ∈ l, f k x = some (g x) := by
  induction l with
  | nil => exact ⟨0, fun _ _ _ hx => by cases hx⟩
  | cons y l ih =>
    obtain ⟨K, hK⟩ := ih (fun x hx => h x (List.mem_cons_of_mem _ hx))
    obtain ⟨L, hL⟩ := h y List.mem_cons_self
    refine ⟨max K L, fun k hk x hx => ?_⟩
    rcases List.mem_cons.1 hx with rfl | hx
    · exact hL k (by omega)
    · exact hK k (by omega) x hx
theorem ev_pick {α β : Type} {f : Nat → α → Option β} {P : α → β → Prop} (d : β) (l : List α) (h : ∀ x ∈ l, ∃ b, Ev (fun k => f k x) b ∧ P x b) : ∃ g : α → β, ∀ x ∈ l, Ev (fun k => f k x) (g x) ∧ P x (g x) := by
  classical
  refine ⟨fun x => if hx : x ∈ l then Classical.choose (h x hx) else d, fun x hx => ?_⟩
  simp only [dif_pos hx]
  exact Classical.choose_spec (h x hx)
theorem allO_of {α : Type} {l : List α} {f : α → Option Bool} {g : α → Bool} (h : ∀ x ∈ l, f x = some (g x)) : allO l f = some (l.all g) := by
  have h1 : (l.all fun x => (f x).isSome) = true := List.all_eq_true.2 fun x hx => by rw [h x hx]; rfl
  have h2 : (l.all fun x => (f x).getD false) = l.all g := by
    rw [Bool.eq_iff_iff, List.all_eq_true, List.all_eq_true]
    exact ⟨fun H x hx => by have := H x hx; rw [h x hx] at this; exact this, fun H x hx => by rw [h x hx]; exact H x hx⟩
  unfold allO
  rw [if_pos h1, h2]
theorem allO_ev {α : Type} {l : List α} {f : Nat → α → Option Bool} {g : α → Bool} (h : ∀ x ∈ l, Ev (fun k => f k x) (g x)) : Ev (fun k => allO l (f k)) (l.all g) := by
  obtain ⟨K, hK⟩ := ev_all l h
  exact ⟨K, fun k hk => allO_of (hK k hk)⟩
theorem allO_any {α : Type} {l : List α} {f : Nat → α → Option Bool} {P : α → Prop} (h : ∀ x ∈ l, ∃ b, Ev (fun k => f k x) b ∧ (b = true → P x)) : ∃ b, Ev (fun k => allO l (f k)) b ∧ (b = true → ∀ x ∈ l, P x) := by
  obtain ⟨g, hg⟩ := ev_pick false l h
  exact ⟨_, allO_ev (fun x hx => (hg x hx).1), fun H x hx => (hg x hx).2 (List.all_eq_true.1 H x hx)⟩
/-! ### what may be in a chart -/
def ActOk (x : S93) : Prop := x.f1 = false → WholeT x.f2
def TrOk (y : S58) : Prop := (0 < y.f1.length → WholeT y.f1) ∧ y.f2.length ≤ 8 ∧ ∀ x ∈ y.f2, ActOk x
def StOk (x : S55) : Prop := x.f0.size ≤ 12 ∧ (x.f3.length ≤ 8 ∧ ∀ a ∈ x.f3, ActOk a) ∧ (x.f4.length ≤ 8 ∧ ∀ a ∈ x.f4, ActOk a) ∧ x.f5.length ≤ 16 ∧ ∀ y ∈ x.f5, TrOk y
def VarOk (x : S51) : Prop := x.f0.size ≤ 12 ∧ (-1000 ≤ x.f1 ∧ x.f1 ≤ 1000) ∧ (-1000 ≤ x.f2 ∧ x.f2 ≤ 1000) ∧ (-1000 ≤ x.f3 ∧ x.f3 ≤ 1000)
structure Fit (l1 : List ByteArray) (l2 : List (S51)) (l3 : List (S55)) : Prop where
  e : l1.length ≤ 8 ∧ ∀ s ∈ l1, s.size ≤ 12
  v : l2.length ≤ 4 ∧ ∀ x ∈ l2, VarOk x
  ok : Sh.Okay l3
  chk : Sh.checked l3 0
  s : ∀ x ∈ l3, StOk x
theorem act_any (a0 : ByteArray) (b : Bool) (l : List (S47)) : ∃ c, Ev (fun k => semblanceref08_One.f k a0 b l) c ∧ (c = 0 → b = false → WholeT l) := by
  obtain ⟨t, ht, _⟩ := is_any a0
  by_cases h : t = true
  · by_cases hb : b = true
    · by_cases hl : (l.length : Int) > 0
      · exact ⟨1, by unfold semblanceref08_One.f; exact Ev.bind ht (by simp only [h, hb, hl, if_true]; exact Ev.now _), fun h => absurd h (by decide)⟩
      · exact ⟨0, by unfold semblanceref08_One.f; exact Ev.bind ht (by simp only [h, hb, hl, if_true, if_false]; exact Ev.now _), fun _ h => by rw [hb] at h; cases h⟩
    · obtain ⟨c, hc, hw⟩ := tcheck_any l
      exact ⟨c, by unfold semblanceref08_One.f; exact Ev.bind ht (by simp only [h, hb, if_true, if_false]; exact Ev.bind hc (Ev.now _)), fun e _ => hw e⟩
  · exact ⟨1, by unfold semblanceref08_One.f; exact Ev.bind ht (by simp only [h, if_false]; exact Ev.now _), fun h => absurd h (by decide)⟩
theorem acts_any (l : List (S93)) : ∃ c, Ev (fun k => semblanceref08_Check.f k l) c ∧ (c = 0 → l.length ≤ 8 ∧ ∀ x ∈ l, ActOk x) := by
  by_cases h8 : (l.length : Int) > 8
  · exact ⟨8, by simp only [semblanceref08_Check.f, h8, if_true]; exact Ev.now _, fun h => absurd h (by decide)⟩
  · have loop : ∀ (d n : Nat), l.length - n = d → n ≤ l.length → ∃ c, Ev (fun k => semblanceref08_Check.l0 k l n) c ∧ (c = 0 → ∀ x ∈ l.drop n, ActOk x) := by
      intro d
      induction d with
      | zero =>
        intro n hd hn
        have h1 : ¬ ((n : Int) < (l.length : Int)) := by omega
        exact ⟨0, Ev.succ (by simp only [semblanceref08_Check.l0, h1, if_false]; exact Ev.now _), fun _ x hx => by rw [List.drop_of_length_le (by omega)] at hx; cases hx⟩
      | succ d ih =>
        intro n hd hn
        have h1 : (n : Int) < (l.length : Int) := by omega
        have h2 : (0 : Int) ≤ (n : Int) := by omega
        have hg : n < l.length := by omega
        have hr : rd_T93 l (n : Int) = l[n] := by simp [rd_T93, hg]
        obtain ⟨t, ht, hw⟩ := act_any l[n].f0 l[n].f1 l[n].f2
        by_cases h : t = 0
        · obtain ⟨c, hc, hx⟩ := ih (n + 1) (by omega) (by omega)
          refine ⟨c, Ev.succ (by simp only [semblanceref08_Check.l0, h1, h2, hr, if_true]; exact Ev.bind ht (by simp only [h, if_true, wrap_next (show n < 1000000 by omega)]; exact hc)), fun e x hm => ?_⟩
          rw [List.drop_eq_getElem_cons hg] at hm
          rcases List.mem_cons.1 hm with rfl | hm
          · exact hw h
          · exact hx e x hm
        · exact ⟨t, Ev.succ (by simp only [semblanceref08_Check.l0, h1, h2, hr, if_true]; exact Ev.bind ht (by simp only [h, if_false]; exact Ev.now _)), fun e => absurd e h⟩
    obtain ⟨c, hc, hx⟩ := loop _ 0 rfl (Nat.zero_le _)
    exact ⟨c, by simp only [semblanceref08_Check.f, h8, if_false]; exact hc, fun e => ⟨by omega, fun x hm => hx e x (by rw [List.drop_zero]; exact hm)⟩⟩
theorem tr_any (y : S58) : ∃ c, Ev (fun k => semblanceref09_Check.f k y.f0 y.f1 y.f2 y.f3) c ∧ (c = 0 → TrOk y) := by
  obtain ⟨t, ht, hw⟩ := tcheck_any y.f1
  obtain ⟨a, ha, hx⟩ := acts_any y.f2
  have j0 : ∀ b : Bool, ∃ c, Ev (fun k => semblanceref09_Check.j0 k b y.f0 y.f1 y.f2 y.f3) c ∧ (c = 0 → TrOk y) := by
    intro b
    by_cases hb : b = true
    · exact ⟨1, Ev.succ (by simp only [semblanceref09_Check.j0, hb, if_true]; exact Ev.now _), fun h => absurd h (by decide)⟩
    · by_cases hl : (y.f1.length : Int) > 0
      · by_cases h0 : t = 0
        · have e0 : (t != 0) = false := by rw [h0]; rfl
          exact ⟨a, Ev.succ (by simp only [semblanceref09_Check.j0, hb, hl, if_true, if_false]; exact Ev.bind ht (Ev.succ (by simp only [semblanceref09_Check.j1, e0, Bool.false_eq_true, if_false]; exact Ev.bind ha (Ev.now _)))), fun e => ⟨fun _ => hw h0, (hx e).1, (hx e).2⟩⟩
        · have e0 : (t != 0) = true := bne_iff_ne.2 h0
          exact ⟨t, Ev.succ (by simp only [semblanceref09_Check.j0, hb, hl, if_true, if_false]; exact Ev.bind ht (Ev.succ (by simp only [semblanceref09_Check.j1, e0, if_true]; exact Ev.bind ht (Ev.now _)))), fun e => absurd e h0⟩
      · exact ⟨a, Ev.succ (by simp only [semblanceref09_Check.j0, hb, hl, if_false]; exact Ev.succ (by simp only [semblanceref09_Check.j1, Bool.false_eq_true, if_false]; exact Ev.bind ha (Ev.now _))), fun e => ⟨fun h => absurd h (by omega), (hx e).1, (hx e).2⟩⟩
  obtain ⟨p, hp, _⟩ := is_any y.f0
  obtain ⟨q, hq, _⟩ := is_any y.f3
  have tail : ∃ c, Ev (fun k => if (y.f3.size : Int) > 0 then ((semblanceref02_Is.f k y.f3).bind fun t => semblanceref09_Check.j0 k (!t) y.f0 y.f1 y.f2 y.f3) else semblanceref09_Check.j0 k false y.f0 y.f1 y.f2 y.f3) c ∧ (c = 0 → TrOk y) := by
    by_cases h3 : (y.f3.size : Int) > 0
    · obtain ⟨c, hc, h⟩ := j0 (!q)
      exact ⟨c, by simp only [h3, if_true]; exact Ev.bind hq hc, h⟩
    · obtain ⟨c, hc, h⟩ := j0 false
      exact ⟨c, by simp only [h3, if_false]; exact hc, h⟩
  obtain ⟨u, hu, hou⟩ := tail
  by_cases h0 : (y.f0.size : Int) > 0
  · by_cases hp1 : p = true
    · exact ⟨u, by simp only [semblanceref09_Check.f, h0, if_true]; exact Ev.bind hp (by simp only [hp1, if_true]; exact hu), hou⟩
    · obtain ⟨c, hc, h⟩ := j0 true
      exact ⟨c, by simp only [semblanceref09_Check.f, h0, if_true]; exact Ev.bind hp (by simp only [hp1, if_false]; exact hc), h⟩
  · exact ⟨u, by simp only [semblanceref09_Check.f, h0, if_false]; exact hu, hou⟩
theorem var_any (x : S51) : ∃ b, Ev (fun k => semblanceref12_May.v k x) b ∧ (b = true → VarOk x) := by
  obtain ⟨t, ht, h12⟩ := is_any x.f0
  refine ⟨_, Ev.bind ht (Ev.now _), fun h => ?_⟩
  simp only [sml, Bool.and_eq_true, decide_eq_true_eq] at h
  exact ⟨h12 h.1, by omega, by omega, by omega⟩
theorem state_any (x : S55) : ∃ b, Ev (fun k => semblanceref12_May.s k x) b ∧ (b = true → StOk x) := by
  obtain ⟨t, ht, h12⟩ := is_any x.f0
  obtain ⟨a, ha, hxa⟩ := acts_any x.f3
  obtain ⟨b, hb, hxb⟩ := acts_any x.f4
  obtain ⟨q, hq, hxq⟩ := allO_any (l := x.f5) (f := fun k y => semblanceref12_May.y k y) (P := TrOk) (fun y _ => by
    obtain ⟨c, hc, h⟩ := tr_any y
    exact ⟨_, Ev.bind hc (Ev.now _), fun e => h (beq_iff_eq.1 e)⟩)
  refine ⟨_, Ev.bind ht (Ev.bind ha (Ev.bind hb (Ev.bind hq (Ev.now _)))), fun h => ?_⟩
  simp only [Bool.and_eq_true, beq_iff_eq, decide_eq_true_eq] at h
  obtain ⟨⟨h1, h2, h3, h4⟩, h5⟩ := h
  exact ⟨h12 h1, hxa h2, hxb h3, by omega, hxq h5⟩
/-- whether a chart may be is answered of every small one; what may be fits -/
theorem may_ev (a0 : ByteArray) (l1 : List ByteArray) (l2 : List (S51)) (l3 : List (S55)) (h3 : l3.length ≤ 1000) : ∃ b, Ev (fun k => semblanceref12_May.f k a0 l1 l2 l3) b ∧ (b = true → Fit l1 l2 l3) := by
  obtain ⟨t, ht, _⟩ := is_any a0
  obtain ⟨c, hc, hcc⟩ := Sh.check_ref l3 h3
  obtain ⟨e, he, hxe⟩ := allO_any (l := l1) (f := fun k s => semblanceref02_Is.f k s) (P := fun s => s.size ≤ 12) (fun s _ => is_any s)
  obtain ⟨v, hv, hxv⟩ := allO_any (l := l2) (f := fun k x => semblanceref12_May.v k x) (P := VarOk) (fun x _ => var_any x)
  obtain ⟨s, hs, hxs⟩ := allO_any (l := l3) (f := fun k x => semblanceref12_May.s k x) (P := StOk) (fun x _ => state_any x)
  refine ⟨_, Ev.bind ht (Ev.bind hc (Ev.bind he (Ev.bind hv (Ev.bind hs (Ev.now _))))), fun h => ?_⟩
  simp only [Bool.and_eq_true, beq_iff_eq, decide_eq_true_eq] at h
  obtain ⟨⟨_, h1, h2, h3⟩, h4, h5, h6⟩ := h
  exact ⟨⟨by omega, hxe h4⟩, ⟨by omega, hxv h5⟩, (Sh.check_zero hcc h3).1, h3 ▸ hcc, hxs h6⟩

end Go.Proofs.Ytoeioigpkfgppaa.XR
