/-
  The first place of which something holds: plain lemmas on lists.
-/
namespace Go.Proofs.Ytbkaiojofgmbnaa.XFind
/-- the first place of which p holds; -1: none -/
def idxF {α : Type} (p : α → Bool) (l : List α) : Int := match l.findIdx? p with | none => -1 | some i => i
theorem idxF_hit {α : Type} (p : α → Bool) (l : List α) (z : α) (n : Nat) (hn : n < l.length) (hx : p (l.getD n z) = true) (h : ∀ j : Nat, j < n → p (l.getD j z) = false) : idxF p l = n := by
  have : l.findIdx? p = some n := by
    rw [List.findIdx?_eq_some_iff_getElem]
    refine ⟨hn, by simpa [List.getD, hn] using hx, fun j hj => ?_⟩
    have := h j hj
    simpa [List.getD, show j < l.length by omega] using this
  simp [idxF, this]
theorem idxF_miss {α : Type} (p : α → Bool) (l : List α) (z : α) (h : ∀ j : Nat, j < l.length → p (l.getD j z) = false) : idxF p l = -1 := by
  have : l.findIdx? p = none := by
    rw [List.findIdx?_eq_none_iff]
    intro x hx
    obtain ⟨j, hj, rfl⟩ := List.getElem_of_mem hx
    have := h j hj
    simpa [List.getD, hj] using this
  simp [idxF, this]
theorem idxF_any {α : Type} (p : α → Bool) (l : List α) : decide (0 ≤ idxF p l) = l.any p := by
  unfold idxF
  cases h : l.findIdx? p with
  | none =>
    rw [List.findIdx?_eq_none_iff] at h
    have : l.any p = false := by simpa using h
    simp [this]
  | some i =>
    rw [List.findIdx?_eq_some_iff_getElem] at h
    obtain ⟨hi, hp, _⟩ := h
    have : l.any p = true := List.any_eq_true.2 ⟨_, List.getElem_mem hi, hp⟩
    simp [this]
theorem mapM_some {α β : Type} {f : α → Option β} : ∀ {l : List α} {bs : List β}, l.mapM f = some bs → bs.length = l.length ∧ (∀ x ∈ l, ∃ b, f x = some b) ∧ ∀ (q : β → Bool) (d : β), bs.any q = l.any (fun x => q ((f x).getD d))
  | [], bs, h => by
    simp at h
    subst h
    simp
  | x :: l, bs, h => by
    rw [List.mapM_cons] at h
    simp only [Option.pure_def, Option.bind_eq_bind] at h
    cases hx : f x with
    | none => rw [hx] at h; cases h
    | some b =>
      rw [hx, Option.bind_some] at h
      cases hl : l.mapM f with
      | none => rw [hl] at h; cases h
      | some cs =>
        rw [hl, Option.bind_some] at h
        have h' := Option.some.inj h
        subst h'
        obtain ⟨i1, i2, i3⟩ := mapM_some hl
        refine ⟨by simp [i1], fun y hy => ?_, fun q d => ?_⟩
        · rcases List.mem_cons.1 hy with rfl | hy
          · exact ⟨b, hx⟩
          · exact i2 y hy
        · simp only [List.any_cons, hx, Option.getD_some, i3 q d]
theorem mapM_of {α β : Type} {f : α → Option β} {g : α → β} : ∀ {l : List α}, (∀ x ∈ l, f x = some (g x)) → l.mapM f = some (l.map g)
  | [], _ => by simp
  | x :: l, h => by
    rw [List.mapM_cons, h x (by simp), mapM_of (l := l) (fun y hy => h y (by simp [hy]))]
    simp
theorem mapM_le {α β : Type} {f g : α → Option β} (h : ∀ x r, f x = some r → g x = some r) : ∀ {l : List α} {bs : List β}, l.mapM f = some bs → l.mapM g = some bs
  | [], bs, hm => by simpa using hm
  | x :: l, bs, hm => by
    rw [List.mapM_cons] at hm ⊢
    simp only [Option.pure_def, Option.bind_eq_bind] at hm ⊢
    cases hx : f x with
    | none => rw [hx] at hm; cases hm
    | some b =>
      rw [hx, Option.bind_some] at hm
      rw [h x b hx, Option.bind_some]
      cases hl : l.mapM f with
      | none => rw [hl] at hm; cases hm
      | some cs =>
        rw [hl] at hm
        rw [mapM_le h hl]
        exact hm
end Go.Proofs.Ytbkaiojofgmbnaa.XFind
