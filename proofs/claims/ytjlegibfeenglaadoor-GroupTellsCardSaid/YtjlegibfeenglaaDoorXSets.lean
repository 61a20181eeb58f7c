/-
  Plain facts of sets of the numbers 0 to 63, as numbers' bits.
-/
import Derived.Laws.BitsAllLaws
import Derived.Laws.Bits64b
import Derived.Lib.TrailingZeros
namespace Go.Proofs.YtjlegibfeenglaaDoor

/-- who is in a set, from the lowest on -/
def bl (x : Nat) : List Nat := (List.range 64).filter fun i => x.testBit i

theorem bl_zero : bl 0 = [] := by decide
theorem bl_len (x : Nat) : (bl x).length ≤ 64 := by
  have := List.length_filter_le (fun i => x.testBit i) (List.range 64)
  simpa [bl] using this
theorem bl_lt {x i : Nat} (h : i ∈ bl x) : i < 64 := by
  have := (List.mem_filter.1 h).1; simpa using this
theorem bl_mem {x i : Nat} : i ∈ bl x ↔ i < 64 ∧ x.testBit i = true := by simp [bl]

theorem low_facts (x : Nat) (h0 : x ≠ 0) (h : x < 2 ^ 64) : Lib.ctz 64 x < 64 ∧ x.testBit (Lib.ctz 64 x) = true ∧ (∀ i, i < Lib.ctz 64 x → x.testBit i = false) ∧ (∀ i, (x &&& (x - 1)).testBit i = (x.testBit i && decide (i ≠ Lib.ctz 64 x))) := by
  obtain ⟨m, hm, hk⟩ := Lib.ctzFrom_spec 64 x (by omega) h
  have e : Lib.ctz 64 x = Lib.ctzFrom 64 x := by simp [Lib.ctz, h0]
  rw [e]
  generalize Lib.ctzFrom 64 x = k at hm hk
  have ht : ∀ i, x.testBit i = (decide (k ≤ i) && (2 * m + 1).testBit (i - k)) := fun i => by
    rw [hm, Nat.mul_comm, Nat.testBit_mul_two_pow]
  have hx1 : x - 1 = 2 ^ k * (2 * m) + (2 ^ k - 1) := by
    have : 0 < 2 ^ k := Nat.two_pow_pos k
    rw [hm, Nat.mul_add, Nat.mul_one]; omega
  have ht1 : ∀ i, (x - 1).testBit i = if i < k then (2 ^ k - 1).testBit i else (2 * m).testBit (i - k) := fun i => by
    rw [hx1, Nat.testBit_two_pow_mul_add _ (Nat.sub_lt (Nat.two_pow_pos k) (by decide))]
  refine ⟨hk, ?_, ?_, ?_⟩
  · rw [ht]; simp
  · intro i hi; rw [ht]; simp; omega
  · intro i
    rw [Nat.testBit_and, ht, ht1]
    by_cases hik : i < k
    · have : ¬ k ≤ i := by omega
      simp [this]
    · rw [if_neg hik]
      by_cases he : i = k
      · subst he; simp
      · obtain ⟨j, rfl⟩ : ∃ j, i = k + (j + 1) := ⟨i - k - 1, by omega⟩
        have e3 : k + (j + 1) - k = j + 1 := by omega
        rw [e3, Nat.testBit_succ, Nat.testBit_succ]
        have d1 : (2 * m + 1) / 2 = m := by omega
        have d2 : 2 * m / 2 = m := by omega
        rw [d1, d2]
        simp

theorem filter_drop (n k : Nat) (p : Nat → Bool) (hk : k < n) (hp : p k = true) (hlow : ∀ i, i < k → p i = false) :
    (List.range n).filter p = k :: (List.range n).filter (fun i => p i && decide (i ≠ k)) := by
  obtain ⟨d, rfl⟩ : ∃ d, n = k + (1 + d) := ⟨n - k - 1, by omega⟩
  rw [List.range_add, List.range_add]
  simp only [List.map_append, List.filter_append, List.map_map]
  have z1 : (List.range k).filter p = [] := by
    rw [List.filter_eq_nil_iff]; intro i hi; rw [hlow i (by simpa using hi)]; simp
  have z2 : (List.range k).filter (fun i => p i && decide (i ≠ k)) = [] := by
    rw [List.filter_eq_nil_iff]; intro i hi; rw [hlow i (by simpa using hi)]; simp
  rw [z1, z2]
  have s1 : ((List.range 1).map (k + ·)).filter p = [k] := by simp [hp]
  have s2 : ((List.range 1).map (k + ·)).filter (fun i => p i && decide (i ≠ k)) = [] := by simp
  rw [s1, s2]
  simp only [List.nil_append, List.singleton_append, List.cons.injEq, true_and]
  apply List.filter_congr
  intro i hi
  obtain ⟨j, _, rfl⟩ := List.mem_map.1 hi
  simp

theorem bl_step (x : Nat) (h0 : x ≠ 0) (h : x < 2 ^ 64) : bl x = Lib.ctz 64 x :: bl (x &&& (x - 1)) := by
  obtain ⟨hk, h1, h2, h3⟩ := low_facts x h0 h
  unfold bl
  rw [filter_drop 64 _ (fun i => x.testBit i) hk h1 h2]
  congr 1
  apply List.filter_congr
  intro i _
  rw [h3]

theorem and_pred_lt (x : Nat) (h0 : x ≠ 0) : x &&& (x - 1) < x := by
  have := @Nat.and_le_right x (x - 1); omega

end Go.Proofs.YtjlegibfeenglaaDoor
