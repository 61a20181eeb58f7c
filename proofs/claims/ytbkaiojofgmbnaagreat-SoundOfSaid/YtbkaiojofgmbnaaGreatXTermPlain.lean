/-
  Expressions as lists of terms, in plain Lean: where they end, what begins below, and what is reckoned from below. No program in sight.
-/
namespace Go.Proofs.YtbkaiojofgmbnaaGreat.TermPlain
set_option linter.unusedVariables false

/-- goes on from place i till nothing lacks -/
def sc (a : Nat → Int) (len : Nat) (i p : Nat) : Option Nat :=
  if p = 0 then some i else if h : i < len ∧ 0 ≤ a i then sc a len (i + 1) (p - 1 + (a i).toNat) else none
termination_by len - i
decreasing_by have := h.1; omega
/-- the place behind the expression at i -/
def E (a : Nat → Int) (len : Nat) (i : Nat) : Option Nat := sc a len i 1

section
variable {a : Nat → Int} {len : Nat}
theorem sc_zero (i : Nat) : sc a len i 0 = some i := by rw [sc, if_pos rfl]
theorem sc_bad {i p : Nat} (hp : p ≠ 0) (h : ¬ (i < len ∧ 0 ≤ a i)) : sc a len i p = none := by rw [sc, if_neg hp, dif_neg h]
theorem sc_step {i p : Nat} (h : i < len ∧ 0 ≤ a i) : sc a len i (p + 1) = sc a len (i + 1) (p + (a i).toNat) := by
  rw [sc, if_neg (by omega), dif_pos h]; rfl
theorem sc_add : ∀ (d i p q : Nat), len - i ≤ d → sc a len i (p + q) = (sc a len i p).bind (fun e => sc a len e q) := by
  intro d
  induction d with
  | zero =>
    intro i p q hd
    cases p with
    | zero => rw [Nat.zero_add, sc_zero]; rfl
    | succ p => rw [sc_bad (by omega) (by omega), sc_bad (by omega) (by omega)]; rfl
  | succ d ih =>
    intro i p q hd
    cases p with
    | zero => rw [Nat.zero_add, sc_zero]; rfl
    | succ p =>
      by_cases h : i < len ∧ 0 ≤ a i
      · rw [show p + 1 + q = (p + q) + 1 by omega, sc_step h, sc_step h, show p + q + (a i).toNat = (p + (a i).toNat) + q by omega]
        exact ih _ _ _ (by omega)
      · rw [sc_bad (by omega) h, sc_bad (by omega) h]; rfl
theorem sc_le : ∀ (d i p e : Nat), len - i ≤ d → sc a len i p = some e → i ≤ e ∧ (p ≠ 0 → i < e ∧ e ≤ len) := by
  intro d
  induction d with
  | zero =>
    intro i p e hd h
    cases p with
    | zero => rw [sc_zero] at h; cases h; exact ⟨Nat.le_refl _, fun h => absurd rfl h⟩
    | succ p => rw [sc_bad (by omega) (by omega)] at h; cases h
  | succ d ih =>
    intro i p e hd h
    cases p with
    | zero => rw [sc_zero] at h; cases h; exact ⟨Nat.le_refl _, fun h => absurd rfl h⟩
    | succ p =>
      by_cases hi : i < len ∧ 0 ≤ a i
      · rw [sc_step hi] at h
        have := ih _ _ _ (by omega) h
        refine ⟨by omega, fun _ => ⟨by omega, ?_⟩⟩
        by_cases hp : p + (a i).toNat = 0
        · rw [hp, sc_zero] at h; cases h; omega
        · exact (this.2 hp).2
      · rw [sc_bad (by omega) hi] at h; cases h
theorem E_lt {i e : Nat} (h : E a len i = some e) : i < e ∧ e ≤ len ∧ 0 ≤ a i := by
  have := (sc_le _ _ _ _ (Nat.le_refl _) h).2 (by omega)
  refine ⟨this.1, this.2, ?_⟩
  apply Classical.byContradiction
  intro hn
  rw [E, sc_bad (by omega) (by omega)] at h
  cases h
theorem E_eq {i : Nat} (h : i < len ∧ 0 ≤ a i) : E a len i = sc a len (i + 1) (a i).toNat := by
  rw [E, show (1 : Nat) = 0 + 1 from rfl, sc_step h, Nat.zero_add]
theorem sc_succ (i p : Nat) : sc a len i (p + 1) = (E a len i).bind (fun e => sc a len e p) := by
  rw [Nat.add_comm p 1, sc_add _ _ _ _ (Nat.le_refl _)]; rfl

/-- where so many expressions begin, one behind the other -/
def starts (a : Nat → Int) (len : Nat) : Nat → Nat → List Nat
  | 0, _ => []
  | c + 1, n => n :: starts a len c ((E a len n).getD (n + 1))
/-- where those below begin -/
def bl (a : Nat → Int) (len : Nat) (i : Nat) : List Nat := starts a len (a i).toNat (i + 1)
theorem starts_length : ∀ (c n : Nat), (starts a len c n).length = c
  | 0, n => rfl
  | c + 1, n => by rw [starts, List.length_cons, starts_length c]
theorem starts_ge : ∀ (c n j : Nat), j ∈ starts a len c n → n ≤ j
  | 0, n, j, h => by cases h
  | c + 1, n, j, h => by
    rw [starts] at h
    rcases List.mem_cons.1 h with rfl | h
    · exact Nat.le_refl _
    · have := starts_ge c _ j h
      cases he : E a len n with
      | none => rw [he] at this; simp at this; omega
      | some e => rw [he] at this; have := E_lt he; simp at *; omega
theorem bl_gt {i j : Nat} (h : j ∈ bl a len i) : i < j := by have := starts_ge _ _ _ h; omega
/-- if so many end, each does -/
theorem starts_end : ∀ (c n e : Nat), sc a len n c = some e → ∀ j ∈ starts a len c n, ∃ f, E a len j = some f ∧ f ≤ e
  | 0, n, e, h, j, hj => by cases hj
  | c + 1, n, e, h, j, hj => by
    rw [sc_succ] at h
    obtain ⟨f, hf, h⟩ := Option.bind_eq_some_iff.mp h
    rw [starts, hf, Option.getD_some] at hj
    have hfe := (sc_le _ _ _ _ (Nat.le_refl _) h).1
    rcases List.mem_cons.1 hj with rfl | hj
    · exact ⟨f, hf, hfe⟩
    · exact starts_end c f e h j hj
theorem bl_end {i e j : Nat} (h : E a len i = some e) (hj : j ∈ bl a len i) : i < j ∧ j < len ∧ ∃ f, E a len j = some f ∧ f ≤ e := by
  have h0 := E_lt h
  rw [E_eq ⟨by omega, h0.2.2⟩] at h
  obtain ⟨f, hf, hfe⟩ := starts_end _ _ _ h j hj
  have := E_lt hf
  exact ⟨bl_gt hj, by omega, f, hf, hfe⟩
/-- in a whole expression each term begins one -/
theorem all_end (h : E a len 0 = some len) : ∀ i, i < len → ∃ e, E a len i = some e := by
  have key : ∀ i, i ≤ len → ∃ p, sc a len i p = some len := by
    intro i
    induction i with
    | zero => intro _; exact ⟨1, h⟩
    | succ i ih =>
      intro hi
      obtain ⟨p, hp⟩ := ih (by omega)
      cases p with
      | zero => rw [sc_zero] at hp; cases hp; omega
      | succ p =>
        by_cases hg : i < len ∧ 0 ≤ a i
        · rw [sc_step hg] at hp; exact ⟨_, hp⟩
        · rw [sc_bad (by omega) hg] at hp; cases hp
  intro i hi
  obtain ⟨p, hp⟩ := key i (by omega)
  cases p with
  | zero => rw [sc_zero] at hp; cases hp; omega
  | succ p =>
    rw [sc_succ] at hp
    obtain ⟨f, hf, _⟩ := Option.bind_eq_some_iff.mp hp
    exact ⟨f, hf⟩

/-- what is reckoned of a term and of what those below it come to -/
def val (a : Nat → Int) (len : Nat) (mk : Nat → List Int → Int) (i : Nat) : Int :=
  if h : i < len then mk i ((bl a len i).attach.map fun j => val a len mk j.1) else 0
termination_by len - i
decreasing_by have := bl_gt j.2; omega
theorem val_eq {mk : Nat → List Int → Int} {i : Nat} (h : i < len) : val a len mk i = mk i ((bl a len i).map (val a len mk)) := by
  rw [val, dif_pos h]
  congr 1
  rw [List.attach_map_val (l := bl a len i) (f := val a len mk)]

/-! ### a part by itself -/
theorem sc_shift {b : Nat} {a' : Nat → Int} : ∀ (d i p e : Nat), len - i ≤ d → b ≤ i → sc a len i p = some e → (∀ j, b ≤ j → j < e → a' (j - b) = a j) → sc a' (e - b) (i - b) p = some (e - b) := by
  intro d
  induction d with
  | zero =>
    intro i p e hd hb h ha
    cases p with
    | zero => rw [sc_zero] at h; cases h; rw [sc_zero]
    | succ p => rw [sc_bad (by omega) (by omega)] at h; cases h
  | succ d ih =>
    intro i p e hd hb h ha
    cases p with
    | zero => rw [sc_zero] at h; cases h; rw [sc_zero]
    | succ p =>
      have hle := (sc_le _ _ _ _ (Nat.le_refl _) h).2 (by omega)
      by_cases hi : i < len ∧ 0 ≤ a i
      · have he := ha i hb hle.1
        rw [sc_step hi] at h
        have := ih (i + 1) _ e (by omega) (by omega) h ha
        rw [sc_step ⟨by omega, by rw [he]; exact hi.2⟩, he]
        rw [show i + 1 - b = i - b + 1 by omega] at this
        exact this
      · rw [sc_bad (by omega) hi] at h; cases h
theorem E_shift {b e : Nat} {a' : Nat → Int} (h0 : ∀ j, b ≤ j → j < e → a' (j - b) = a j) {i f : Nat} (hb : b ≤ i) (h : E a len i = some f) (hf : f ≤ e) : E a' (e - b) (i - b) = some (f - b) := by
  have h1 := sc_shift _ i 1 f (Nat.le_refl _) hb h (fun j h1 h2 => h0 j h1 (by omega))
  have h2 := E_lt h
  -- more room behind changes nothing
  have more : ∀ (d i p e1 : Nat), (f - b) - i ≤ d → sc a' (f - b) i p = some e1 → sc a' (e - b) i p = some e1 := by
    intro d
    induction d with
    | zero =>
      intro i p e1 hd hs
      cases p with
      | zero => rw [sc_zero] at hs ⊢; exact hs
      | succ p => rw [sc_bad (by omega) (by omega)] at hs; cases hs
    | succ d ih =>
      intro i p e1 hd hs
      cases p with
      | zero => rw [sc_zero] at hs ⊢; exact hs
      | succ p =>
        by_cases hi : i < f - b ∧ 0 ≤ a' i
        · rw [sc_step hi] at hs
          rw [sc_step ⟨by omega, hi.2⟩]
          exact ih _ _ _ (by omega) hs
        · rw [sc_bad (by omega) hi] at hs; cases hs
  exact more _ _ _ _ (Nat.le_refl _) h1
theorem starts_shift {b e : Nat} {a' : Nat → Int} (h0 : ∀ j, b ≤ j → j < e → a' (j - b) = a j) : ∀ (c n f : Nat), b ≤ n → sc a len n c = some f → f ≤ e → starts a' (e - b) c (n - b) = (starts a len c n).map (· - b)
  | 0, n, f, hb, h, hf => rfl
  | c + 1, n, f, hb, h, hf => by
    rw [sc_succ] at h
    obtain ⟨g, hg, h⟩ := Option.bind_eq_some_iff.mp h
    have hgf := (sc_le _ _ _ _ (Nat.le_refl _) h).1
    have hng := E_lt hg
    have e1 := E_shift h0 hb hg (by omega)
    rw [starts, starts, e1, hg, Option.getD_some, Option.getD_some, List.map_cons, starts_shift h0 c g f (by omega) h hf]
theorem val_shift {b e : Nat} {a' : Nat → Int} {mk mk' : Nat → List Int → Int} (h0 : ∀ j, b ≤ j → j < e → a' (j - b) = a j) (hm : ∀ j l, b ≤ j → j < e → mk' (j - b) l = mk j l) : ∀ (d i f : Nat), len - i ≤ d → b ≤ i → E a len i = some f → f ≤ e → val a' (e - b) mk' (i - b) = val a len mk i := by
  intro d
  induction d with
  | zero => intro i f hd hb h hf; have := E_lt h; omega
  | succ d ih =>
    intro i f hd hb h hf
    have h1 := E_lt h
    have hbl : bl a' (e - b) (i - b) = (bl a len i).map (· - b) := by
      have h2 := h
      rw [E_eq ⟨by omega, h1.2.2⟩] at h2
      unfold bl
      rw [h0 i hb (by omega), show i - b + 1 = i + 1 - b by omega]
      exact starts_shift h0 _ _ _ (by omega) h2 hf
    rw [val_eq (by omega), val_eq (by omega), hbl, hm i _ hb (by omega), List.map_map]
    congr 1
    apply List.map_congr_left
    intro j hj
    obtain ⟨j1, j2, g, hg, hgf⟩ := bl_end h hj
    exact ih j g (by omega) (by omega) hg (by omega)
end
end Go.Proofs.YtbkaiojofgmbnaaGreat.TermPlain
