/-
  How states stand, in plain Lean: parents, ancestors, depths, ends, meetings. No program in sight.
-/
namespace Go.Proofs.YtbkaiojofgmbnaaGreat.ShapePlain
set_option linter.unusedVariables false

/-- the states above one, the nearest first -/
def anc (P : Nat → Int) (i : Nat) : List Int :=
  if h : 0 ≤ P i ∧ (P i).toNat < i then P i :: anc P (P i).toNat else []
termination_by i
decreasing_by exact h.2
/-- a state, and those above it -/
def chain (P : Nat → Int) (i : Nat) : List Int := (i : Int) :: anc P i

section
variable {P K : Nat → Int}
theorem anc_nil {i : Nat} (h : ¬ (0 ≤ P i ∧ (P i).toNat < i)) : anc P i = [] := by rw [anc, dif_neg h]
theorem anc_cons {i : Nat} (h : 0 ≤ P i ∧ (P i).toNat < i) : anc P i = P i :: anc P (P i).toNat := by rw [anc, dif_pos h]
theorem anc_chain {i : Nat} (h : 0 ≤ P i ∧ (P i).toNat < i) : anc P i = chain P (P i).toNat := by
  rw [anc_cons h, chain, Int.toNat_of_nonneg h.1]
theorem anc_lt : ∀ (i : Nat) (x : Int), x ∈ anc P i → 0 ≤ x ∧ x < i := by
  intro i
  induction i using Nat.strongRecOn with
  | _ i ih =>
    intro x hx
    by_cases h : 0 ≤ P i ∧ (P i).toNat < i
    · rw [anc_cons h] at hx
      rcases List.mem_cons.1 hx with rfl | hx
      · omega
      · have := ih _ h.2 x hx; omega
    · rw [anc_nil h] at hx; cases hx
theorem chain_le {i : Nat} {x : Int} (h : x ∈ chain P i) : 0 ≤ x ∧ x ≤ i := by
  rcases List.mem_cons.1 h with rfl | h
  · omega
  · have := anc_lt i x h; omega
theorem anc_length (i : Nat) : (anc P i).length ≤ i := by
  induction i using Nat.strongRecOn with
  | _ i ih =>
    by_cases h : 0 ≤ P i ∧ (P i).toNat < i
    · rw [anc_cons h, List.length_cons]; have := ih _ h.2; omega
    · rw [anc_nil h]; simp
/-- from one of a chain on, it is that one's own -/
theorem chain_drop : ∀ (i : Nat) (x : Int), x ∈ chain P i → (chain P i).dropWhile (fun y => y != x) = chain P x.toNat := by
  intro i
  induction i using Nat.strongRecOn with
  | _ i ih =>
    intro x hx
    by_cases hi : x = i
    · subst hi; simp [chain]
    · have hx' : x ∈ anc P i := by
        rcases List.mem_cons.1 hx with h | h
        · exact absurd h hi
        · exact h
      have hn : ((i : Int) != x) = true := by simp; omega
      rw [chain, List.dropWhile_cons, if_pos hn]
      by_cases h : 0 ≤ P i ∧ (P i).toNat < i
      · rw [anc_chain h] at hx' ⊢
        exact ih _ h.2 x hx'
      · rw [anc_nil h] at hx'; cases hx'
theorem chain_drop_not {i : Nat} {x : Int} (h : x ∉ chain P i) : (chain P i).dropWhile (fun y => y != x) = [] := by
  revert h
  generalize chain P i = l
  intro h
  induction l with
  | nil => rfl
  | cons y l ih =>
    have hy : (y != x) = true := by
      simp only [bne_iff_ne, ne_eq]
      rintro rfl
      exact h (by simp)
    rw [List.dropWhile_cons, if_pos hy]
    exact ih (fun hm => h (by simp [hm]))
theorem chain_sub {i : Nat} {x : Int} (h : x ∈ chain P i) : ∀ y ∈ chain P x.toNat, y ∈ chain P i := by
  intro y hy
  rw [← chain_drop i x h] at hy
  exact (List.dropWhile_sublist _).subset hy

/-- may a state stand where it does, those ahead standing right? -/
def good (P K : Nat → Int) (i : Nat) : Prop := 0 ≤ P i ∧ P i < i ∧ K (P i).toNat ≠ 1 ∧ (P i = (i : Int) - 1 ∨ P i ∈ anc P (i - 1)) ∧ 1 ≤ K i ∧ K i ≤ 3
instance (P K : Nat → Int) (i : Nat) : Decidable (good P K i) := by unfold good; infer_instance
/-- do the first n states stand right? -/
def valid (P K : Nat → Int) (n : Nat) : Prop := P 0 = -1 ∧ (1 ≤ K 0 ∧ K 0 ≤ 3) ∧ ∀ i, 1 ≤ i → i < n → good P K i
theorem good_mem {i : Nat} (hi : 1 ≤ i) : (P i = (i : Int) - 1 ∨ P i ∈ anc P (i - 1)) ↔ P i ∈ chain P (i - 1) := by
  rw [chain, List.mem_cons]
  have : ((i - 1 : Nat) : Int) = (i : Int) - 1 := by omega
  rw [this]
theorem valid_anc {n i : Nat} (h : valid P K n) (h1 : 1 ≤ i) (hi : i < n) : anc P i = chain P (P i).toNat := by
  have g := h.2.2 i h1 hi
  exact anc_chain ⟨g.1, by have := g.2.1; omega⟩
theorem valid_root {n : Nat} (h : valid P K n) : anc P 0 = [] := anc_nil (by have := h.1; omega)
/-- the first state is above all -/
theorem root_mem {n : Nat} (h : valid P K n) : ∀ i, i < n → (0 : Int) ∈ chain P i := by
  intro i
  induction i using Nat.strongRecOn with
  | _ i ih =>
    intro hi
    by_cases h0 : i = 0
    · subst h0; simp [chain]
    · rw [chain, valid_anc h (by omega) hi]
      have g := h.2.2 i (by omega) hi
      exact List.mem_cons_of_mem _ (ih _ (by have := g.2.1; have := g.1; omega) (by have := g.2.1; omega))

/-! ### ends -/
/-- the first place behind i whose parent is ahead of i -/
def endAt (P : Nat → Int) (len i : Nat) : Nat → Nat
  | 0 => i + 1
  | n + 1 => let e := endAt P len i n; if e < len ∧ (i : Int) ≤ P e then e + 1 else e
theorem below_in {n i e : Nat} (h : valid P K n) (hall : ∀ m, i < m → m < e → (i : Int) ≤ P m) (he : e ≤ n) : ∀ k, i < k → k < e → (i : Int) ∈ anc P k := by
  intro k
  induction k using Nat.strongRecOn with
  | _ k ih =>
    intro h1 h2
    have g := h.2.2 k (by omega) (by omega)
    have hp := hall k h1 h2
    rw [valid_anc h (by omega) (by omega)]
    by_cases hpi : P k = i
    · rw [hpi]; simp [chain]
    · exact List.mem_cons_of_mem _ (ih (P k).toNat (by have := g.2.1; omega) (by omega) (by have := g.2.1; omega))
theorem beyond {n i e : Nat} (h : valid P K n) (hie : i < e) (hp : P e < i) : ∀ k, e ≤ k → k < n → ∀ x ∈ chain P k, x < i ∨ (e : Int) ≤ x := by
  intro k
  induction k with
  | zero => intro h1 h2 x hx; omega
  | succ k ih =>
    intro h1 h2 x hx
    rcases List.mem_cons.1 hx with rfl | hx
    · right; omega
    · rw [valid_anc h (by omega) h2] at hx
      have g := h.2.2 (k + 1) (by omega) h2
      by_cases he : e = k + 1
      · subst he
        have := chain_le hx
        have := g.1
        left; omega
      · have hm := (good_mem (P := P) (i := k + 1) (by omega)).1 g.2.2.2.1
        rw [show k + 1 - 1 = k from rfl] at hm
        exact ih (by omega) (by omega) x (chain_sub hm x hx)
theorem not_beyond {n i e : Nat} (h : valid P K n) (hie : i < e) (hp : P e < i) (k : Nat) (hk : e ≤ k) (hkn : k < n) : (i : Int) ∉ chain P k := by
  intro hm
  have := beyond h hie hp k hk hkn _ hm
  omega

/-! ### meeting -/
/-- the deepest one that is each of both, or above it -/
def meet (P : Nat → Int) (i k : Nat) : Int := ((chain P i).find? (fun x => decide (x ∈ chain P k))).getD (-1)
theorem meet_same (i : Nat) : meet P i i = i := by simp [meet, chain]
theorem meet_left {n i k : Nat} (h : valid P K n) (hi : i < n) (hk : k < i) : meet P i k = meet P (P i).toNat k := by
  unfold meet
  have h1 : (i : Int) ∉ chain P k := fun hm => by have := chain_le hm; omega
  rw [show chain P i = (i : Int) :: chain P (P i).toNat by rw [chain, valid_anc h (by omega) hi], List.find?_cons_of_neg (by simpa using h1)]
theorem meet_right {n i k : Nat} (h : valid P K n) (hk : k < n) (hi : i < k) : meet P i k = meet P i (P k).toNat := by
  unfold meet
  have e : (chain P i).find? (fun x => decide (x ∈ chain P k)) = (chain P i).find? (fun x => decide (x ∈ chain P (P k).toNat)) := by
    have hc : ∀ x ∈ chain P i, decide (x ∈ chain P k) = decide (x ∈ chain P (P k).toNat) := by
      intro x hx
      have := chain_le hx
      rw [decide_eq_decide, chain, valid_anc h (by omega) hk, List.mem_cons]
      constructor
      · rintro (h | h)
        · omega
        · exact h
      · exact .inr
    clear h
    revert hc
    generalize chain P i = l
    intro hc
    induction l with
    | nil => rfl
    | cons y l ih =>
      rw [List.find?_cons, List.find?_cons, hc y (by simp), ih (fun x hx => hc x (by simp [hx]))]
  rw [e]
theorem meet_comm {n : Nat} (h : valid P K n) : ∀ (m i k : Nat), i + k ≤ m → i < n → k < n → meet P i k = meet P k i := by
  intro m
  induction m with
  | zero =>
    intro i k h1 h2 h3
    obtain rfl : i = 0 := by omega
    obtain rfl : k = 0 := by omega
    rfl
  | succ m ih =>
    intro i k h1 h2 h3
    rcases Nat.lt_trichotomy i k with hlt | rfl | hlt
    · have g := h.2.2 k (by omega) h3
      rw [meet_right h h3 hlt, meet_left h h3 hlt]
      exact ih _ _ (by have := g.2.1; have := g.1; omega) h2 (by have := g.2.1; have := g.1; omega)
    · rfl
    · have g := h.2.2 i (by omega) h2
      rw [meet_left h h2 hlt, meet_right h h2 hlt]
      exact ih _ _ (by have := g.2.1; have := g.1; omega) (by have := g.2.1; have := g.1; omega) h3
theorem meet_eq_iff {i k : Nat} : meet P i k = i ↔ (i : Int) ∈ chain P k := by
  unfold meet
  by_cases h : (i : Int) ∈ chain P k
  · rw [show chain P i = (i : Int) :: anc P i from rfl, List.find?_cons_of_pos (by simpa using h)]; simp [h]
  · simp only [h, iff_false]
    intro e
    cases hf : (chain P i).find? (fun x => decide (x ∈ chain P k)) with
    | none => rw [hf] at e; simp at e <;> omega
    | some y =>
      rw [hf] at e
      simp at e
      subst e
      have := List.find?_some hf
      exact h (by simpa using this)
theorem meet_mem {n i k : Nat} (h : valid P K n) (hi : i < n) (hk : k < n) : 0 ≤ meet P i k ∧ meet P i k < n := by
  unfold meet
  cases hf : (chain P i).find? (fun x => decide (x ∈ chain P k)) with
  | none =>
    rw [List.find?_eq_none] at hf
    exact absurd (root_mem h k hk) (by have := hf 0 (root_mem h i hi); simpa using this)
  | some y =>
    have := List.mem_of_find?_eq_some hf
    have := chain_le this
    simp; omega
end
end Go.Proofs.YtbkaiojofgmbnaaGreat.ShapePlain
