/-
  A range over a function whose rounds all go on, the rounds being told by their number.
-/
import Derived.RangeFuncNested
import Derived.RangeFuncBound
import Derived.RangeFuncCalls
import Derived.RangeFuncLeaves
import Derived.RangeFuncBox
namespace Go.Proofs.Ytoeioigpkfgppaa.XRange
open Go Go.RowKit
variable {F : Fence} {n : Nat} {P : Program}
theorem act_gen {c : Code} {Q : Exit → Act → World → Prop} {a : Act} {w : World} (h : ∀ tm, tm = a.tmps → c.wpIn F n P Q { tmps := tm, defers := a.defers } w) : c.wpIn F n P Q a w := h _ rfl
theorem cell_putObj {W : World} {b l : Nat} (o : Obj) (h : b ≠ l) : (W.putObj l o).cell? ⟨b, 0, none⟩ = W.cell? ⟨b, 0, none⟩ := by
  unfold World.cell?
  rw [show (W.putObj l o).heap[(⟨b, 0, none⟩ : Addr).block]? = W.heap[(⟨b, 0, none⟩ : Addr).block]? from World.putObj_heap_other h]
theorem range_all {g : Operand} {ps : Array Tmp} {assign body : Code} {Q : Exit → Act → World → Prop} {a : Act} {w : World}
    (hro : F.round = none) (h1 : 1 ≤ n) {gf : Nat} {lb : Array Value} (hg : a.eval g = .func (.func gf) #[] lb) (hFg : F.fn gf) (eg : ∀ args w, (callFunc gf args).run P w = .ok (.enter gf args) w)
    (N : Nat) (encs : Nat → Array Value) (hps : ∀ k, (encs k).size = ps.size) (Kp : World → World → Prop)
    (hKt : ∀ {A B C : World}, Kp A B → Kp B C → Kp A C) (hKb : ∀ (W : World) (l : Nat) (o o' : Obj), w.heap.size ≤ l → W.heap[l]? = some o → o.isCells = false → Kp W (W.putObj l o'))
    (hseq : ∀ (l : Nat) (J : Nat → World → Prop) (W : World), Below w.heap.size w W → J 0 W →
      (∀ k W1, k < N → J k W1 → YieldAt F (n - 1 - 1) P l (encs k) W1 fun e W' => e = .returned (.bool true) ∧ J (k + 1) W' ∧ Kp W1 W') →
      CallsIn F (n - 1) P gf (#[.func (.yield l) #[] #[]] ++ lb) W fun e W' => (∃ v, e = .returned v) ∧ J N W')
    (I : Nat → World → Prop) (hI : OwnFrom w.heap.size I) (h0 : I 0 w) (I2 : Act → Nat → World → Prop) (hI2 : ∀ a₁, OwnFrom w.heap.size (I2 a₁))
    (hassign : ∀ (l k : Nat) (W : World), k < N → I k W → assign.wpIn (F.inRound l) (n - 1 - 1) P (Exit.then (fun a₁ W₁ => KeepsOthers W W₁ ∧ Kp W W₁ ∧ I2 a₁ k W₁) (fun _ _ _ => False)) { tmps := (ps.zip (encs k)).foldl (fun t (p, v) => t.setIfInBounds p v) a.tmps, defers := [] } W)
    (hbody : ∀ (l k : Nat) (a₁ : Act) (W : World), k < N → I2 a₁ k W → body.wpIn (F.inRound l) (n - 1 - 1) P (fun e _ W' => e = .normal ∧ KeepsOthers W W' ∧ Kp W W' ∧ I (k + 1) W') a₁ W)
    (hdone : ∀ (D : Nat) (W : World), w.heap.size ≤ D → I N W → W.heap[D]? = some (.deferred (some [])) → Q .normal { a with defers := { target := .collected D, args := #[] } :: a.defers } W) :
    (Code.rangeFunc g ps assign body).wpIn F n P Q a w := by
  refine wpIn_rangeFunc ?_
  intro fn hfn
  rw [hro]
  obtain ⟨rc, hrc⟩ : ∃ rc : LoopState → Option Code → Loop, rc = fun st pe => { state := st, pending := pe, fn, tmps := a.tmps, params := ps, assign, body, defers := w.heap.size } := ⟨_, rfl⟩
  obtain ⟨W1, hW1⟩ : ∃ W1, (w.alloc (.deferred (some []))).alloc (.loop (rc .ready none)) = W1 := ⟨_, rfl⟩
  have hs1 : W1.heap.size = w.heap.size + 2 := by rw [← hW1]; simp
  have hL1 : W1.heap[w.heap.size + 1]? = some (.loop (rc .ready none)) := by
    have := World.alloc_heap_new (w.alloc (.deferred (some []))) (.loop (rc .ready none))
    rw [World.size_alloc] at this
    rw [← hW1]; exact this
  have hK1 : W1.heap[w.heap.size]? = some (.deferred (some [])) := by
    rw [← hW1]; exact (Below.heap_alloc _ _ _ (by simp)).trans (World.alloc_heap_new w _)
  have hI1 : I 0 W1 := by rw [← hW1]; exact hI.alloc _ (hI.alloc _ h0)
  have hb1 : Below w.heap.size w W1 := by rw [← hW1]; exact ((Below.refl _ w).alloc (Nat.le_refl _) _).alloc (by simp) _
  refine ⟨w.heap.size + 1, [{ target := .collected w.heap.size, args := #[] }], W1, { target := .fn (.func gf) lb, args := #[.func (.yield (w.heap.size + 1)) #[] #[]] }, W1, gf,
    #[.func (.yield (w.heap.size + 1)) #[] #[]] ++ lb, W1, ?_, ?_, ?_, ?_, fun _ => h1, ?_⟩
  · rw [← hW1, hrc]; exact run_enterLoop_outer _ _ _ _ _
  · simp only [resolve, hg]
    simp [go_sem]
  · intro f' hf'; simp [Target.leads] at hf'; subst hf'; exact hFg
  · simp [invoke, go_sem, eg]
  · refine (hseq (w.heap.size + 1) (fun k W => I k W ∧ W.heap[w.heap.size + 1]? = some (.loop (rc .ready none)) ∧ W.heap[w.heap.size]? = some (.deferred (some []))) W1 hb1 ⟨hI1, hL1, hK1⟩ ?_).mono ?_
    · rintro k W hk ⟨hIk, hL, hK⟩
      refine ⟨fn, _, assign, body, by have := run_yield (P := P) (args := encs k) hL (by rw [hrc]; exact hps k); rw [hrc] at this; exact this, roundIn_of_wpIn hfn ?_⟩
      refine wpIn_mono (hassign (w.heap.size + 1) k W hk hIk) (fun e a' W' h => ?_)
      cases e with
      | normal =>
        obtain ⟨hk1, hp1, hi2⟩ := h
        have hL2 := hk1.same _ _ hL rfl
        have hK2 := hk1.same _ _ hK rfl
        have hlt2 := (Array.getElem?_eq_some_iff.1 hL2).1
        refine ⟨_, run_beginRound hL2 (by rw [hrc]), ?_⟩
        have hL3 : (W'.putObj (w.heap.size + 1) (.loop { rc .ready none with state := .busy })).heap[w.heap.size + 1]? = _ := World.putObj_heap_same hlt2
        have hK3 : (W'.putObj (w.heap.size + 1) (.loop { rc .ready none with state := .busy })).heap[w.heap.size]? = some (.deferred (some [])) := (World.putObj_heap_other (by omega)).trans hK2
        refine wpIn_mono (hbody (w.heap.size + 1) k a' _ hk ((hI2 a').putObj _ hi2 (Nat.le_succ _) hL2 rfl)) (fun e a'' W'' h => ?_)
        obtain ⟨rfl, hk4, hp4, hI4⟩ := h
        have hL4 := hk4.same _ _ hL3 rfl
        have hK4 := hk4.same _ _ hK3 rfl
        have hlt4 := (Array.getElem?_eq_some_iff.1 hL4).1
        refine ⟨_, _, run_endRound none hL4, rfl, ⟨hI.putObj _ hI4 (Nat.le_succ _) hL4 rfl, ?_, (World.putObj_heap_other (by omega)).trans hK4⟩, hKt hp1 (hKt (hKb _ _ _ _ (Nat.le_succ _) hL2 rfl) (hKt hp4 (hKb _ _ _ _ (Nat.le_succ _) hL4 rfl)))⟩
        rw [World.putObj_heap_same hlt4, hrc]
        rfl
      | _ => exact h.elim
    · rintro e W2 ⟨⟨v0, rfl⟩, hIN, hL2, hK2⟩
      have hend := run_endLoop (P := P) hL2 (by rw [hrc]; simp)
      refine ⟨(rc .ready none).pending, _, hend, ?_⟩
      rw [hrc]
      exact hdone _ _ (Nat.le_refl _) (hI.putObj _ hIN (Nat.le_succ _) hL2 rfl) ((World.putObj_heap_other (by omega)).trans hK2)
end Go.Proofs.Ytoeioigpkfgppaa.XRange
