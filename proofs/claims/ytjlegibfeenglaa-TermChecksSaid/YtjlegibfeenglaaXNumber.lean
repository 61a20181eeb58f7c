/-
  Numbering keys in the order in which they are first met: the plain fold, and what a map says of it.
-/
import Derived.Maps.Views
import Derived.Maps.Own
namespace Go.Proofs.Ytjlegibfeenglaa.XNumber
open Go.Maps
set_option linter.unusedVariables false
theorem stay {H : Type} {P : Program} {k : TypeId} {R : Value → Option (DataW H × List MemPlace)} {w w1 : World} {b n : Nat} {D : DataW H} (h : w.ownsMap P k R b n D) (e : w1.heap[b]? = w.heap[b]?) : w1.ownsMap P k R b n D := by
  obtain ⟨es, clock, hb, hr⟩ := h
  exact ⟨es, clock, e.trans hb, hr⟩
theorem lt {H : Type} {P : Program} {k : TypeId} {R : Value → Option (DataW H × List MemPlace)} {w : World} {b n : Nat} {D : DataW H} (h : w.ownsMap P k R b n D) : b < w.heap.size := by
  obtain ⟨es, clock, hb, hr⟩ := h
  exact (Array.getElem?_eq_some_iff.1 hb).1
theorem inj {H : Type} {a b : Int} (h : (DataW.lit (H := H) (.int .i64 a)) = .lit (.int .i64 b)) : a = b := by
  injection h with h
  injection h
section
variable {α : Type} [BEq α] [LawfulBEq α]
/-- one key more: who has been met, and the numbers so far -/
def step (st : List α × List Int) (x : α) : List α × List Int := if x ∈ st.1 then (st.1, st.2 ++ [(st.1.idxOf x : Int)]) else (st.1 ++ [x], st.2 ++ [(st.1.length : Int)])
def run (l : List α) : List α × List Int := l.foldl step ([], [])
def numF (l : List α) : List Int := (run l).2
theorem run_snoc (l : List α) (x : α) : run (l ++ [x]) = step (run l) x := by simp [run, List.foldl_append]
theorem run_len : ∀ (l : List α) (st : List α × List Int), (l.foldl step st).2.length = st.2.length + l.length ∧ (l.foldl step st).1.length ≤ st.1.length + l.length
  | [], st => ⟨rfl, Nat.le_refl _⟩
  | x :: l, st => by
    have h := run_len l (step st x)
    rw [List.foldl_cons]
    have h1 : (step st x).2.length = st.2.length + 1 ∧ (step st x).1.length ≤ st.1.length + 1 := by unfold step; split <;> simp
    rw [List.length_cons]
    omega
theorem numF_length (l : List α) : (numF l).length = l.length := by have := (run_len l ([], [])).1; simpa [numF, run] using this
theorem seen_length (l : List α) : (run l).1.length ≤ l.length := by have := (run_len l ([], [])).2; simpa [run] using this
variable {H : Type}
/-- what the map says of those met -/
def Good (lit : α → Lit) (p : α → Prop) (D : DataW H) (seen : List α) : Prop :=
  Tidy D ∧ size D = seen.length ∧ (∀ x, p x → has D (lit x) = decide (x ∈ seen)) ∧ ∀ x ∈ seen, p x ∧ D.atKey (lit x) (.lit (.int .i64 0)) = .lit (.int .i64 (seen.idxOf x : Nat))
theorem Good.empty (lit : α → Lit) (p : α → Prop) : Good (H := H) lit p (.map []) ([] : List α) :=
  ⟨tidy_empty, rfl, fun x _ => by simp [has_eq], fun x h => by cases h⟩
theorem Good.put {lit : α → Lit} {p : α → Prop} {D : DataW H} {seen : List α} (h : Good lit p D seen) {x : α} (hl : WideAt.IsKeyLit (lit x)) (hp : p x) (hi : ∀ y, p y → lit y = lit x → y = x) (hx : x ∉ seen) :
    Good lit p (D.put (lit x) (.lit (.int .i64 (seen.length : Nat)))) (seen ++ [x]) := by
  obtain ⟨h1, h2, h3, h4⟩ := h
  refine ⟨h1.put hl _, ?_, fun y py => ?_, fun y hy => ?_⟩
  · rw [size_put h1, h3 x hp, if_neg (by simp [hx]), h2, List.length_append, List.length_singleton]
  · by_cases e : y = x
    · subst e
      rw [has_put_same h1.isMap hl]
      simp
    · rw [has_put_other (fun h => e (hi _ py h)), h3 y py]
      simp [e]
  · by_cases e : y = x
    · subst e
      refine ⟨hp, ?_⟩
      rw [atKey_put_same h1.isMap hl, List.idxOf_append, if_neg hx]
      simp
    · have hy' : y ∈ seen := by simpa [e] using hy
      obtain ⟨py, hay⟩ := h4 y hy'
      refine ⟨py, ?_⟩
      rw [atKey_put_other (fun h => e (hi _ py h)), hay, List.idxOf_append, if_pos hy']
end
end Go.Proofs.Ytjlegibfeenglaa.XNumber
