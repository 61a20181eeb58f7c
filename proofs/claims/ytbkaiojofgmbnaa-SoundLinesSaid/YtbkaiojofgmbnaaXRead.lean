/-
  What a row reads as data, told by the print's kinds: a generic reader, kind by kind. Plain lemmas over any program.
-/
import Derived.SizedLaws
import Derived.ChangeSlices
import Derived.ChangeArms
import Derived.WideShapes
import Derived.OpenShut
import Derived.Laws.IdiomArrays
import Derived.Test.YtbkaiojofgmbnaaWWords
namespace Go.Proofs.Ytbkaiojofgmbnaa.XRead
open Go.ChangeShapes Go.WideShapes Go.RowKit Go.Proofs.YtbkaiojofgmbnaaW.PrintWords
set_option linter.unusedVariables false

/-- whatever reads at type T is of kind d, and F holds of it -/
def Opens {α : Type} (P : Program) (T : TypeId) (d : Kd α) (F : α → Prop) : Prop :=
  ∀ {H : Type} (enc : TypeId × Value → H) (W : World) (held : Bool) (fuel : Nat) (cs : List Value) (x : DataW H × List MemPlace),
    DataW.trod enc P W 0 (fun _ => true) held fuel T cs = some x → (x.1.weights P T).all (· ≤ reachBytes) = true → ∃ a : α, d.K W a cs ∧ F a
/-- the same of a struct's fields, from a cell on -/
def OpensFs {α : Type} (P : Program) (fs : List Field) (off : Nat) (d : Kd α) (F : α → Prop) : Prop :=
  ∀ {H : Type} (enc : TypeId × Value → H) (W : World) (held : Bool) (fuel : Nat) (cs : List Value) (xs : List (DataW H × List MemPlace)),
    (fs.mapM fun f => DataW.trod enc P W 0 (fun _ => true) held fuel f.type ((cs.drop f.offset).take (P.cellsOf f.type))) = some xs → cs.length = off + d.sz →
    (DataW.weightsEach P (fs.map (·.type)) (xs.map (·.1))).all (· ≤ reachBytes) = true → ∃ a : α, d.K W a (cs.drop off) ∧ F a
section
variable {P : Program} {T e : TypeId} {α β : Type} {d : Kd α} {F : α → Prop}

theorem opens_int {k : IntKind} (hu : P.underlying T = some (.int k)) : Opens P T (Kd.int k) (fun n => (Lit.int k n).wf = true) := by
  intro H enc W held fuel cs x h hw
  obtain ⟨n, rfl, rfl, hn⟩ := DataW.trod_int hu h
  exact ⟨n, rfl, hn⟩
theorem opens_bool (hu : P.underlying T = some .bool) : Opens P T Kd.bool (fun _ => True) := by
  intro H enc W held fuel cs x h hw
  obtain ⟨n, rfl, rfl⟩ := DataW.trod_bool hu h
  exact ⟨n, rfl, trivial⟩
theorem opens_string (hu : P.underlying T = some .string) : Opens P T Kd.string (fun s => s.size ≤ 140737488351232) := by
  intro H enc W held fuel cs x h hw
  obtain ⟨s, rfl, rfl, hs⟩ := DataW.trod_string hu h
  refine ⟨s, rfl, ?_⟩
  simp [DataW.weights, reachBytes] at hw
  exact of_decide_eq_true hw
theorem list_of {β : Type} {R : Nat → β → Prop} (n : Nat) (h : ∀ i, i < n → ∃ b, R i b) : ∃ l : List β, l.length = n ∧ ∀ i b, l[i]? = some b → R i b := by
  induction n with
  | zero => exact ⟨[], rfl, fun i b h => by simp at h⟩
  | succ n ih =>
    obtain ⟨l, hl, hr⟩ := ih (fun i hi => h i (by omega))
    obtain ⟨b, hb⟩ := h n (by omega)
    refine ⟨l ++ [b], by simp [hl], fun i c hc => ?_⟩
    by_cases hi : i < n
    · rw [List.getElem?_append_left (by omega)] at hc
      exact hr i c hc
    · have hin : i < (l ++ [b]).length := (List.getElem?_eq_some_iff.1 hc).1
      simp [hl] at hin
      obtain rfl : i = n := by omega
      rw [List.getElem?_append_right (by omega)] at hc
      simp [hl] at hc
      subst hc
      exact hb
theorem weightsAll_mem {H : Type} (l : List (DataW H)) (h : (DataW.weightsAll P e l).all (· ≤ reachBytes) = true) : ∀ x ∈ l, (x.weights P e).all (· ≤ reachBytes) = true := by
  induction l with
  | nil => intro x hx; cases hx
  | cons y l ih =>
    intro x hx
    simp only [DataW.weightsAll, List.all_append, Bool.and_eq_true] at h
    rcases List.mem_cons.1 hx with rfl | hx
    · exact h.1
    · exact ih h.2 x hx
theorem opens_slice (B : Nat) (hu : P.underlying T = some (.slice e)) (hc : P.cellsOf e = d.sz) (hb : P.bytesOf e = B) (hB : 0 < B) (ho : Opens P e d F) :
    Opens P T (Kd.slice e d) (fun l => l.length * B ≤ 140737488351232 ∧ ∀ x ∈ l, F x) := by
  intro H enc W held fuel cs x h hw
  rcases DataW.trod_slice hu h with ⟨rfl, rfl⟩ | ⟨a, len, cap, elems, rest, n, _, rfl, rfl, _, hl, hm, hlen, hel, hsp, _⟩
  · exact ⟨[], ⟨none, 0, rfl, Nat.le_refl _, rfl, by simp, fun h => absurd h (by simp)⟩, by simp, fun x hx => by cases hx⟩
  · simp only [DataW.weights, hu, List.all_cons, List.all_append, Bool.and_eq_true, decide_eq_true_eq, hb, List.length_map] at hw
    obtain ⟨hw1, hw2, hw3⟩ := hw
    have hw4 := weightsAll_mem _ hw2
    have each : ∀ i, i < len → ∃ a1 : α, (∃ c, W.cells? 0 (a.add (i * d.sz)) d.sz = some c ∧ d.K W a1 c) ∧ F a1 := by
      intro i hi
      have h1 := hel i hi
      have h2 : elems[i]? = some elems[i] := List.getElem?_eq_getElem (by omega)
      rw [h2, hc] at h1
      cases hcs : W.cells? 0 (a.add (i * d.sz)) d.sz with
      | none => rw [hcs] at h1; cases h1
      | some c =>
        rw [hcs] at h1
        obtain ⟨a1, hK, hF⟩ := ho enc W held n c _ h1 (hw4 _ (List.mem_map.2 ⟨_, List.getElem_mem _, rfl⟩))
        exact ⟨a1, ⟨c, rfl, hK⟩, hF⟩
    obtain ⟨l, hll, hlr⟩ := list_of len each
    subst hll
    refine ⟨l, ⟨some a, cap, rfl, hl, rfl, by unfold maxLen at hm; omega, fun _ => ⟨a, rfl, fun j p hp => ?_⟩⟩, ?_, ?_⟩
    · obtain ⟨⟨c, h1, h2⟩, _⟩ := hlr j p hp
      obtain ⟨_, h4, h5⟩ := World.cells?_some h1
      refine ⟨c, h4, h2, fun i u hu' => ?_⟩
      have hi : i < d.sz := by rw [← h4]; exact (List.getElem?_eq_some_iff.1 hu').1
      rw [← Addr.add_add, h5 i hi, hu']
    · have h6 : (fun _ => true) a.block = true := rfl
      have h7 : l.length * B ≤ (elems.length + rest.length) * B := Nat.mul_le_mul_right _ (by omega)
      have h8 : reachBytes = 140737488351232 := rfl
      omega
    · intro x hx
      obtain ⟨j, hj, rfl⟩ := List.getElem_of_mem hx
      exact (hlr j _ (List.getElem?_eq_getElem hj)).2
theorem opensFs_one {fs : Field} {off : Nat} (h1 : fs.offset = off) (h2 : P.cellsOf fs.type = d.sz) (ho : Opens P fs.type d F) : OpensFs P [fs] off d F := by
  intro H enc W held fuel cs xs h hl hw
  simp only [List.mapM_cons, List.mapM_nil, Option.pure_def, Option.bind_eq_bind] at h
  cases hx : DataW.trod enc P W 0 (fun _ => true) held fuel fs.type ((cs.drop fs.offset).take (P.cellsOf fs.type)) with
  | none => rw [hx] at h; cases h
  | some y =>
    rw [hx] at h
    simp at h
    subst h
    simp only [List.map_cons, List.map_nil, DataW.weightsEach, List.all_append, Bool.and_eq_true] at hw
    obtain ⟨a, hK, hF⟩ := ho enc W held fuel _ y hx hw.1
    refine ⟨a, ?_, hF⟩
    rw [h1, h2, List.take_of_length_le (by simp [hl])] at hK
    exact hK
theorem opensFs_cons {fs : Field} {r : List Field} {off : Nat} {d2 : Kd β} {F2 : β → Prop} (h1 : fs.offset = off) (h2 : P.cellsOf fs.type = d.sz) (ho : Opens P fs.type d F) (hr : OpensFs P r (off + d.sz) d2 F2) :
    OpensFs P (fs :: r) off (Kd.pair d d2) (fun x => F x.1 ∧ F2 x.2) := by
  intro H enc W held fuel cs xs h hl hw
  rw [List.mapM_cons] at h
  simp only [Option.pure_def, Option.bind_eq_bind] at h
  cases hx : DataW.trod enc P W 0 (fun _ => true) held fuel fs.type ((cs.drop fs.offset).take (P.cellsOf fs.type)) with
  | none => rw [hx] at h; cases h
  | some y =>
    rw [hx, Option.bind_some] at h
    cases hy : (r.mapM fun f => DataW.trod enc P W 0 (fun _ => true) held fuel f.type ((cs.drop f.offset).take (P.cellsOf f.type))) with
    | none => rw [hy] at h; cases h
    | some ys =>
      rw [hy] at h
      simp at h
      subst h
      simp only [List.map_cons, DataW.weightsEach, List.all_append, Bool.and_eq_true] at hw
      have hl' : cs.length = off + (d.sz + d2.sz) := hl
      obtain ⟨a, hK, hF⟩ := ho enc W held fuel _ y hx hw.1
      obtain ⟨b, hK2, hF2⟩ := hr enc W held fuel cs ys hy (by omega) hw.2
      refine ⟨(a, b), ⟨_, _, ?_, hK, hK2⟩, hF, hF2⟩
      rw [h1, h2, ← List.drop_drop, List.take_append_drop]
theorem opens_struct {fs : Array Field} {g : β → α} (hu : P.underlying T = some (.struct fs)) (hg : ∀ a, ∃ b, g b = a) (hf : OpensFs P fs.toList 0 d F) (hc : P.cellsOf T = d.sz) : Opens P T (Kd.iso d g) (fun b => F (g b)) := by
  intro H enc W held fuel cs x h hw
  cases fuel with
  | zero => simp [DataW.trod] at h
  | succ n =>
    unfold DataW.trod at h
    rw [hu] at h
    simp only at h
    split at h
    · rename_i hlen
      cases hy : (fs.toList.mapM fun f => DataW.trod enc P W 0 (fun _ => true) held n f.type ((cs.drop f.offset).take (P.cellsOf f.type))) with
      | none => rw [hy] at h; cases h
      | some ys =>
        rw [hy] at h
        simp at h
        subst h
        simp only [DataW.weights, hu] at hw
        obtain ⟨a, hK, hF⟩ := hf enc W held n cs ys hy (by omega) hw
        obtain ⟨b, rfl⟩ := hg a
        exact ⟨b, hK, hF⟩
    · cases h
/-- an array of four whole numbers -/
theorem opens_array4_int {k : IntKind} {γ : Type} {g : γ → Int × Int × Int × Int} (hu : P.underlying T = some (.array 4 e)) (he : P.underlying e = some (.int k)) (hce : P.cellsOf e = 1) (hcT : P.cellsOf T = 4) (hg : ∀ a, ∃ b, g b = a) :
    Opens P T (Kd.iso (Kd.pair (Kd.int k) (Kd.pair (Kd.int k) (Kd.pair (Kd.int k) (Kd.int k)))) g) (fun b => (Lit.int k (g b).1).wf = true ∧ (Lit.int k (g b).2.1).wf = true ∧ (Lit.int k (g b).2.2.1).wf = true ∧ (Lit.int k (g b).2.2.2).wf = true) := by
  intro H enc W held fuel cs x h hw
  obtain ⟨_, _, _, _, hl, _, _⟩ := DataW.trod_array hu h
  rw [hcT] at hl
  match cs, hl with
  | [c0, c1, c2, c3], _ =>
    obtain ⟨y0, y1, y2, y3, n, rfl, h0, h1, h2, h3⟩ := Go.ChangeShapes.trod_array4 hu hce h
    obtain ⟨n0, e0, rfl, w0⟩ := DataW.trod_int he h0
    obtain ⟨n1, e1, rfl, w1⟩ := DataW.trod_int he h1
    obtain ⟨n2, e2, rfl, w2⟩ := DataW.trod_int he h2
    obtain ⟨n3, e3, rfl, w3⟩ := DataW.trod_int he h3
    obtain ⟨b, hb⟩ := hg (n0, n1, n2, n3)
    refine ⟨b, ?_, by dsimp only; rw [hb]; exact ⟨w0, w1, w2, w3⟩⟩
    show (Kd.pair (Kd.int k) (Kd.pair (Kd.int k) (Kd.pair (Kd.int k) (Kd.int k)))).K W (g b) _
    rw [hb]
    injection e0 with e0
    injection e1 with e1
    injection e2 with e2
    injection e3 with e3
    subst e0 e1 e2 e3
    exact ⟨_, _, rfl, rfl, _, _, rfl, rfl, _, _, rfl, rfl, rfl⟩
/-- one argument, out of a row's own hypotheses -/
theorem opens_arg {H : Type} {enc : TypeId × Value → H} {W : World} {v : Value} {dd : DataW H} {ps : List MemPlace} {ts : List TypeId} {ds : List (DataW H)} {j : Nat} (ho : Opens P T d F)
    (h : DataW.Trod enc P W 0 (fun _ => true) true T v dd ps) (hsz : (DataW.weightsEach P ts ds).all (· ≤ reachBytes) = true) (ht : ts[j]? = some T) (hd : ds[j]? = some dd) : ∃ a : α, d.K W a v.cells.toList ∧ F a := by
  obtain ⟨fuel, hf⟩ := h
  refine ho enc W true fuel _ _ hf ?_
  rw [List.all_eq_true]
  intro n hn
  exact List.all_eq_true.1 hsz n (DataW.weights_mem_each ht hd n hn)
end
end Go.Proofs.Ytbkaiojofgmbnaa.XRead
