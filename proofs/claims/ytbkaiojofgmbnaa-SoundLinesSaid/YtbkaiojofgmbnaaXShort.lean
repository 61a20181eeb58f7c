/-
  Short words for what a printed walk says over and over.
-/
import Derived.Test.YtbkaiojofgmbnaaXGrow
import Derived.Test.YtbkaiojofgmbnaaWLast
import Derived.Test.YtbkaiojofgmbnaaWTab
import Derived.KernelRfl
namespace Go.Proofs.Ytbkaiojofgmbnaa.XShort
open Go.RowKit Go.Proofs.YtbkaiojofgmbnaaW.PrintWords Go.Proofs.YtbkaiojofgmbnaaW.PrintLast Go.Proofs.YtbkaiojofgmbnaaW.PrintMore Go.Proofs.Ytbkaiojofgmbnaa.XGrow
set_option linter.unusedVariables false
/-! ### rounds -/
class LeC {α : Type} (a b : Option α) : Prop where
  le : LeO a b
theorem mo_ {α : Type} {a b : Option α} (h : LeO a b := by
  repeat' first
  | (with_reducible apply ih0) | (with_reducible apply ih1) | (with_reducible apply ih2) | (with_reducible apply ih3) | (with_reducible apply ih4) | (with_reducible apply ih5) | (with_reducible apply ih6) | (with_reducible apply ih7) | (with_reducible apply ih8) | (with_reducible apply ih9)
  | (with_reducible exact LeO.refl _) | (with_reducible exact LeO.none _) | (with_reducible refine LeO.ite ?_ ?_) | (with_reducible refine LeO.bind ?_ (fun _ => ?_)) | (with_reducible exact LeC.le)
  | exact LeC.le | apply ih0 | apply ih1 | apply ih2 | apply ih3 | apply ih4 | apply ih5 | apply ih6 | exact LeO.none _ | refine LeO.ite ?_ ?_ | refine LeO.bind ?_ (fun _ => ?_)) : LeO a b := h
/-- is one of a list so? All of them must answer. -/
def anyO {α : Type} (l : List α) (f : α → Option Bool) : Option Bool := if (l.all fun x => (f x).isSome) = true then some (l.any fun x => (f x).getD false) else none
theorem anyO_some {α : Type} {l : List α} {f : α → Option Bool} {r : Bool} (h : anyO l f = some r) : (∀ x ∈ l, f x = some ((f x).getD false)) ∧ (l.any fun x => (f x).getD false) = r := by
  unfold anyO at h
  split at h
  case isFalse => cases h
  case isTrue ha =>
    refine ⟨fun x hx => ?_, Option.some.inj h⟩
    obtain ⟨v, hv⟩ := Option.isSome_iff_exists.1 (List.all_eq_true.1 ha x hx)
    rw [hv]; rfl
theorem anyO_mono {α : Type} {l : List α} {f g : α → Option Bool} (h : ∀ x ∈ l, LeO (f x) (g x)) : LeO (anyO l f) (anyO l g) := by
  intro r hr
  obtain ⟨h1, h2⟩ := anyO_some hr
  have h3 : ∀ x ∈ l, g x = f x := fun x hx => by rw [h x hx _ (h1 x hx)]; exact (h1 x hx).symm
  unfold anyO
  rw [if_pos (List.all_eq_true.2 fun x hx => by rw [h3 x hx, h1 x hx]; rfl), ← h2]
  congr 1
  rw [Bool.eq_iff_iff, List.any_eq_true, List.any_eq_true]
  exact ⟨fun ⟨x, hx, H⟩ => ⟨x, hx, by rw [← h3 x hx]; exact H⟩, fun ⟨x, hx, H⟩ => ⟨x, hx, by rw [h3 x hx]; exact H⟩⟩
/-! ### what ends an arm -/
theorem rv_ {p : Prop} (h : p := by first | rfl | (simp [errW_none, errW_some] <;> rfl) | (simp [*, errW_none, errW_some] <;> rfl)) : p := h
theorem rl_ {p : Prop} (h : p := by first | rfl | (simp; done) | (simp [*]; done)) : p := h
theorem km_ {p : Prop} (h : p := by first | omega | exact Nat.le_refl _) : p := h
theorem kn_ {p q : Prop} (h : Aside0 q) (k : q → p := by intro this; first | omega | exact Nat.le_refl _) : p := k h.out
theorem dw_ {p : Prop} (h : p := by repeat (first | exact Drawn0.refl _ | apply Drawn0.step)) : p := h
theorem bw_ {p : Prop} (h : p := by repeat (first | (with_reducible first | exact HB.out | apply below_alloc | apply pw_below_drewN | apply below_drew1 | refine below_set ?_ (Aside0.out (by assumption))) | exact HB.out)) : p := h
/-! ### from world to world -/
theorem hc_ {w W : World} {a : Addr} {v : Value} (hb : Below w.heap.size w W) (h : w.cell? a = some v) : W.cell? a = some v := (hb.cell (World.block_lt_of_cell? w _ h)).trans h
theorem kR_ {α : Type} {d : Kd α} {e : TypeId} {w W : World} {base : Nat} {ok : Nat → Prop} {v : Value} {xs : List α} (h : Aside0 (Kd.R d e w base ok v xs)) [k : Grew w W] : Kd.R d e W base ok v xs := Kd.R_below h.out k.bel
theorem tb_ {w W W2 : World} {g : Nat} {o : Obj} (h : Aside0 (w.heap[g]? = some o)) (hb : Below W.heap.size W W2) [k : Grew w W] : Aside0 (W2.heap[g]? = some o) := ⟨blk_below (grw h.out) hb⟩
theorem ts_ {w w1 W W2 : World} (_ : Aside0 (Below w.heap.size w w1)) (hb : Below W.heap.size W W2) (h : Below w.heap.size w W := by repeat (first | (with_reducible first | exact HB.out | apply below_alloc | apply pw_below_drewN | apply below_drew1 | refine below_set ?_ (Aside0.out (by assumption))) | exact HB.out)) : Aside0 (Below w.heap.size w W2) := ⟨below_step h hb⟩
theorem bu_ {w w1 W W2 : World} (_ : Aside0 (Below w.heap.size w w1)) (hb : Below W.heap.size W W2) (h : Below w.heap.size w W := by repeat (first | (with_reducible first | exact HB.out | apply below_alloc | apply pw_below_drewN | apply below_drew1 | refine below_set ?_ (Aside0.out (by assumption))) | exact HB.out)) : Below w.heap.size w W := h
theorem kc_ {α : Type} {d : Kd α} {w w1 W : World} {A : Option Addr} {n : Nat} {l : List α} (h : Aside0 (Kd.C d w A n l)) (_ : Aside0 (Below w.heap.size w w1)) (hb : Below w.heap.size w W := by repeat (first | (with_reducible first | exact HB.out | apply below_alloc | apply pw_below_drewN | apply below_drew1 | refine below_set ?_ (Aside0.out (by assumption))) | exact HB.out)) : Kd.C d W A n l := Kd.C_below h.out hb
theorem kg_ {α : Type} {d : Kd α} {w W : World} {A : Option Addr} {n : Nat} {l : List α} (h : Kd.C d w A n l) [k : Grew w W] : Kd.C d W A n l := Kd.C_below h k.bel
/-! ### calls and boxes -/
theorem cm_ {P : Program} {f : FuncId} {args : Array Value} {w : World} {v : Value} {Q : Ending → World → Prop} (h : Calls P f args w fun e w' => e = .returned v ∧ Below w.heap.size w w') (k : ∀ w', Below w.heap.size w w' → Q (.returned v) w') : Calls P f args w Q := h.mono fun e w' he => he.1 ▸ k w' he.2
section
variable {P : Program} {ops : Array Oper} {Q : Exit → Act → World → Prop} {a : Act}
theorem gl_ {rest : List Oper} {oi : Oper} {w : World} (N : Option Tmp) {f : FuncId} {fn : Func} {as : Array Operand} {ts : Array TypeId} (hf : P.funcs[f]? = some fn) (args : Array Value)
    (h : Calls P f args w fun e w' => ∃ v, e = .returned v ∧ wpList P ops Q rest (a.put N v) w')
    (hd : oi.dst = N := by rfl) (hg : oi.guard = none := by rfl) (hname : (fn.name == "runtime.NumGoroutine") = false := by kernel_rfl) (hb : fn.body.isSome = true := by rfl)
    (hop : oi.op = .call { callee := .value (.func f), args := as, argTypes := ts } := by rfl)
    (hargs : as.map a.eval = args := by (try simp only [List.map_toArray, List.map_cons, List.map_nil]); first | done | rfl | (simp only [List.length_drop, List.length_take]; rfl)) : wpList P ops Q (oi :: rest) a w := goesL_ N hd hg hf hname hb args hop hargs h
theorem bx_ {rest : List Oper} {o : Oper} {w w1 W : World} (_ : Aside0 (Below w.heap.size w w1)) {N : Tmp} {cs : Array Value} {t : TypeId}
    (h : ∀ g w2, Aside0 (Below w.heap.size w w2) → Aside0 (w2.heap[g]? = some (.cells cs t (0, 0))) → Aside0 (w.heap.size ≤ g) → Aside0 (w.heap.size ≤ g) → wpList P ops Q rest (a.put o.dst (.pointer (some ⟨g, 0, none⟩))) w2)
    (hgd : o.guard = none := by rfl) (hd : o.dst = some N := by rfl)
    (hr : (execOp a.eval o).run P W = .ok (.value (.pointer (some ⟨W.heap.size, 0, none⟩))) (W.alloc (.cells cs t (0, 0))) := by first | (go_simp; done) | (go_simp; rfl))
    (hB : Below w.heap.size w W := by repeat (first | (with_reducible first | exact HB.out | apply below_alloc | apply pw_below_drewN | apply below_drew1 | refine below_set ?_ (Aside0.out (by assumption))) | exact HB.out)) : wpList P ops Q (o :: rest) a W :=
  box_event hgd hd hr fun g hg w2 hbox hb => h g w2 ⟨below_step hB hb⟩ ⟨hbox⟩ ⟨by rw [hg]; exact below_size hB⟩ ⟨by rw [hg]; exact below_size hB⟩
theorem by_ {rest : List Oper} {o : Oper} {w w1 W : World} (_ : Aside0 (Below w.heap.size w w1)) {N : Tmp} {cs : Array Value} {t : TypeId}
    (h : ∀ g, g = W.heap.size → ∀ w2, w2.heap[g]? = some (.cells cs t (0, 0)) → Below W.heap.size W w2 → Below w.heap.size w W → wpList P ops Q rest (a.put o.dst (.pointer (some ⟨g, 0, none⟩))) w2)
    (hgd : o.guard = none := by rfl) (hd : o.dst = some N := by rfl)
    (hr : (execOp a.eval o).run P W = .ok (.value (.pointer (some ⟨W.heap.size, 0, none⟩))) (W.alloc (.cells cs t (0, 0))) := by first | (go_simp; done) | (go_simp; rfl))
    (hB : Below w.heap.size w W := by repeat (first | (with_reducible first | exact HB.out | apply below_alloc | apply pw_below_drewN | apply below_drew1 | refine below_set ?_ (Aside0.out (by assumption))) | exact HB.out)) : wpList P ops Q (o :: rest) a W :=
  box_event hgd hd hr fun g hg w2 hbox hb => h g hg w2 hbox hb hB
theorem gw_ {w W : World} {g : Nat} (e : g = W.heap.size) (h : Below w.heap.size w W) : Aside0 (w.heap.size ≤ g) := ⟨by rw [e]; exact below_size h⟩
theorem nb_ {w W : World} {o : Obj} {g g' : Nat} (h : Aside0 (w.heap[g]? = some o)) (e : g' = W.heap.size) [k : Grew w W] : Aside0 (g ≠ g') := ⟨by rw [e]; exact Nat.ne_of_lt (blk_lt (grw h.out))⟩
theorem nc_ {w W : World} {o : Obj} {g g' : Nat} (h : Aside0 (w.heap[g]? = some o)) (e : g' = W.heap.size) [k : Grew w W] : Aside0 (g' ≠ g) := ⟨by rw [e]; exact Nat.ne_of_gt (blk_lt (grw h.out))⟩
end
/-! ### what an answer says -/
section
variable {α β : Type} {c : Prop} [Decidable c] {x y : Option α} {r : α} {b : Bool}
theorem ic_ (h : (if c then x else y) = some r) : (¬ c ∧ y = some r) ∨ (c ∧ x = some r) := if hc : c then .inr ⟨hc, by rw [if_pos hc] at h; exact h⟩ else .inl ⟨hc, by rw [if_neg hc] at h; exact h⟩
theorem ip_ (h : (if c then x else none) = some r) : c ∧ x = some r := (ic_ h).elim (fun h => by cases h.2) id
theorem is_ (h : (if c then x else none) = some r) : decide c = true ∧ x = some r := ⟨decide_eq_true (ip_ h).1, (ip_ h).2⟩
theorem id_ (h : (if c then x else y) = some r) : (c ∧ x = some r) ∨ (¬ c ∧ y = some r) := (ic_ h).symm
theorem it_ (h : (if c then x else y) = some r) : (decide c = false ∧ y = some r) ∨ (decide c = true ∧ x = some r) := (ic_ h).imp (fun h => ⟨decide_eq_false h.1, h.2⟩) (fun h => ⟨decide_eq_true h.1, h.2⟩)
theorem iu_ (h : (if c then x else y) = some r) : (decide c = true ∧ x = some r) ∨ (decide c = false ∧ y = some r) := (it_ h).symm
theorem ib_ (h : (if b = true then x else y) = some r) : (b = false ∧ y = some r) ∨ (b = true ∧ x = some r) := (ic_ h).imp_left fun h => ⟨Bool.eq_false_iff.2 h.1, h.2⟩
theorem ie_ (h : (if b = true then x else y) = some r) : (b = true ∧ x = some r) ∨ (b = false ∧ y = some r) := (ib_ h).symm
theorem bi_ {o : Option β} {f : β → Option α} (h : o.bind f = some r) : ∃ t, Aside0 (o = some t) ∧ f t = some r := by
  obtain ⟨t, h1, h2⟩ := Option.bind_eq_some_iff.mp h
  exact ⟨t, ⟨h1⟩, h2⟩
end
theorem cw1_ {w : World} {g : Nat} {t : TypeId} {a0 : Value} (h : w.heap[g]? = some (.cells #[a0] t (0, 0))) : w.cell? ⟨g, 0, none⟩ = some a0 ∧ w.frozen? ⟨g, 0, none⟩ = false := ⟨(blk_cell h 0).trans rfl, blk_frozen h 0⟩
theorem cw2_ {w : World} {g : Nat} {t : TypeId} {a0 a1 : Value} (h : w.heap[g]? = some (.cells #[a0, a1] t (0, 0))) : w.cell? ⟨g, 0, none⟩ = some a0 ∧ w.cell? ⟨g, 1, none⟩ = some a1 ∧ w.frozen? ⟨g, 0, none⟩ = false ∧ w.frozen? ⟨g, 1, none⟩ = false := ⟨(blk_cell h 0).trans rfl, (blk_cell h 1).trans rfl, blk_frozen h 0, blk_frozen h 1⟩
theorem cw3_ {w : World} {g : Nat} {t : TypeId} {a0 a1 a2 : Value} (h : w.heap[g]? = some (.cells #[a0, a1, a2] t (0, 0))) : w.cell? ⟨g, 0, none⟩ = some a0 ∧ w.cell? ⟨g, 1, none⟩ = some a1 ∧ w.cell? ⟨g, 2, none⟩ = some a2 ∧ w.frozen? ⟨g, 0, none⟩ = false ∧ w.frozen? ⟨g, 1, none⟩ = false ∧ w.frozen? ⟨g, 2, none⟩ = false := ⟨(blk_cell h 0).trans rfl, (blk_cell h 1).trans rfl, (blk_cell h 2).trans rfl, blk_frozen h 0, blk_frozen h 1, blk_frozen h 2⟩
theorem cw4_ {w : World} {g : Nat} {t : TypeId} {a0 a1 a2 a3 : Value} (h : w.heap[g]? = some (.cells #[a0, a1, a2, a3] t (0, 0))) : w.cell? ⟨g, 0, none⟩ = some a0 ∧ w.cell? ⟨g, 1, none⟩ = some a1 ∧ w.cell? ⟨g, 2, none⟩ = some a2 ∧ w.cell? ⟨g, 3, none⟩ = some a3 ∧ w.frozen? ⟨g, 0, none⟩ = false ∧ w.frozen? ⟨g, 1, none⟩ = false ∧ w.frozen? ⟨g, 2, none⟩ = false ∧ w.frozen? ⟨g, 3, none⟩ = false := ⟨(blk_cell h 0).trans rfl, (blk_cell h 1).trans rfl, (blk_cell h 2).trans rfl, (blk_cell h 3).trans rfl, blk_frozen h 0, blk_frozen h 1, blk_frozen h 2, blk_frozen h 3⟩
theorem cw5_ {w : World} {g : Nat} {t : TypeId} {a0 a1 a2 a3 a4 : Value} (h : w.heap[g]? = some (.cells #[a0, a1, a2, a3, a4] t (0, 0))) : w.cell? ⟨g, 0, none⟩ = some a0 ∧ w.cell? ⟨g, 1, none⟩ = some a1 ∧ w.cell? ⟨g, 2, none⟩ = some a2 ∧ w.cell? ⟨g, 3, none⟩ = some a3 ∧ w.cell? ⟨g, 4, none⟩ = some a4 ∧ w.frozen? ⟨g, 0, none⟩ = false ∧ w.frozen? ⟨g, 1, none⟩ = false ∧ w.frozen? ⟨g, 2, none⟩ = false ∧ w.frozen? ⟨g, 3, none⟩ = false ∧ w.frozen? ⟨g, 4, none⟩ = false := ⟨(blk_cell h 0).trans rfl, (blk_cell h 1).trans rfl, (blk_cell h 2).trans rfl, (blk_cell h 3).trans rfl, (blk_cell h 4).trans rfl, blk_frozen h 0, blk_frozen h 1, blk_frozen h 2, blk_frozen h 3, blk_frozen h 4⟩
theorem cw6_ {w : World} {g : Nat} {t : TypeId} {a0 a1 a2 a3 a4 a5 : Value} (h : w.heap[g]? = some (.cells #[a0, a1, a2, a3, a4, a5] t (0, 0))) : w.cell? ⟨g, 0, none⟩ = some a0 ∧ w.cell? ⟨g, 1, none⟩ = some a1 ∧ w.cell? ⟨g, 2, none⟩ = some a2 ∧ w.cell? ⟨g, 3, none⟩ = some a3 ∧ w.cell? ⟨g, 4, none⟩ = some a4 ∧ w.cell? ⟨g, 5, none⟩ = some a5 ∧ w.frozen? ⟨g, 0, none⟩ = false ∧ w.frozen? ⟨g, 1, none⟩ = false ∧ w.frozen? ⟨g, 2, none⟩ = false ∧ w.frozen? ⟨g, 3, none⟩ = false ∧ w.frozen? ⟨g, 4, none⟩ = false ∧ w.frozen? ⟨g, 5, none⟩ = false := ⟨(blk_cell h 0).trans rfl, (blk_cell h 1).trans rfl, (blk_cell h 2).trans rfl, (blk_cell h 3).trans rfl, (blk_cell h 4).trans rfl, (blk_cell h 5).trans rfl, blk_frozen h 0, blk_frozen h 1, blk_frozen h 2, blk_frozen h 3, blk_frozen h 4, blk_frozen h 5⟩
theorem cw7_ {w : World} {g : Nat} {t : TypeId} {a0 a1 a2 a3 a4 a5 a6 : Value} (h : w.heap[g]? = some (.cells #[a0, a1, a2, a3, a4, a5, a6] t (0, 0))) : w.cell? ⟨g, 0, none⟩ = some a0 ∧ w.cell? ⟨g, 1, none⟩ = some a1 ∧ w.cell? ⟨g, 2, none⟩ = some a2 ∧ w.cell? ⟨g, 3, none⟩ = some a3 ∧ w.cell? ⟨g, 4, none⟩ = some a4 ∧ w.cell? ⟨g, 5, none⟩ = some a5 ∧ w.cell? ⟨g, 6, none⟩ = some a6 ∧ w.frozen? ⟨g, 0, none⟩ = false ∧ w.frozen? ⟨g, 1, none⟩ = false ∧ w.frozen? ⟨g, 2, none⟩ = false ∧ w.frozen? ⟨g, 3, none⟩ = false ∧ w.frozen? ⟨g, 4, none⟩ = false ∧ w.frozen? ⟨g, 5, none⟩ = false ∧ w.frozen? ⟨g, 6, none⟩ = false := ⟨(blk_cell h 0).trans rfl, (blk_cell h 1).trans rfl, (blk_cell h 2).trans rfl, (blk_cell h 3).trans rfl, (blk_cell h 4).trans rfl, (blk_cell h 5).trans rfl, (blk_cell h 6).trans rfl, blk_frozen h 0, blk_frozen h 1, blk_frozen h 2, blk_frozen h 3, blk_frozen h 4, blk_frozen h 5, blk_frozen h 6⟩
theorem cw8_ {w : World} {g : Nat} {t : TypeId} {a0 a1 a2 a3 a4 a5 a6 a7 : Value} (h : w.heap[g]? = some (.cells #[a0, a1, a2, a3, a4, a5, a6, a7] t (0, 0))) : w.cell? ⟨g, 0, none⟩ = some a0 ∧ w.cell? ⟨g, 1, none⟩ = some a1 ∧ w.cell? ⟨g, 2, none⟩ = some a2 ∧ w.cell? ⟨g, 3, none⟩ = some a3 ∧ w.cell? ⟨g, 4, none⟩ = some a4 ∧ w.cell? ⟨g, 5, none⟩ = some a5 ∧ w.cell? ⟨g, 6, none⟩ = some a6 ∧ w.cell? ⟨g, 7, none⟩ = some a7 ∧ w.frozen? ⟨g, 0, none⟩ = false ∧ w.frozen? ⟨g, 1, none⟩ = false ∧ w.frozen? ⟨g, 2, none⟩ = false ∧ w.frozen? ⟨g, 3, none⟩ = false ∧ w.frozen? ⟨g, 4, none⟩ = false ∧ w.frozen? ⟨g, 5, none⟩ = false ∧ w.frozen? ⟨g, 6, none⟩ = false ∧ w.frozen? ⟨g, 7, none⟩ = false := ⟨(blk_cell h 0).trans rfl, (blk_cell h 1).trans rfl, (blk_cell h 2).trans rfl, (blk_cell h 3).trans rfl, (blk_cell h 4).trans rfl, (blk_cell h 5).trans rfl, (blk_cell h 6).trans rfl, (blk_cell h 7).trans rfl, blk_frozen h 0, blk_frozen h 1, blk_frozen h 2, blk_frozen h 3, blk_frozen h 4, blk_frozen h 5, blk_frozen h 6, blk_frozen h 7⟩
end Go.Proofs.Ytbkaiojofgmbnaa.XShort
