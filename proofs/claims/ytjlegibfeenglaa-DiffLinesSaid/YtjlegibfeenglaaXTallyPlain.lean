/-
  Counting modulo 2^64: plain lemmas.
-/
import Derived.Test.YtjlegibfeenglaaXFuel
namespace Go.Proofs.Ytjlegibfeenglaa.XTallyPlain
open Go.RowKit Go.Proofs.YtjlegibfeenglaaW.PrintWords
set_option linter.unusedVariables false
def sum (x y : Int) : Int := IntKind.u64.wrap (x + y)
theorem sum_eq (x y : Int) : sum x y = (x + y) % 18446744073709551616 := by
  unfold sum IntKind.wrap
  simp [IntKind.signed, IntKind.bits]
def total (xs : List Int) : Int := xs.foldl sum 0
theorem fold_sum : ∀ (xs : List Int) (s : Int), xs.foldl sum (s % 18446744073709551616) = (s + xs.sum) % 18446744073709551616
  | [], s => by simp
  | x :: xs, s => by
    rw [List.foldl_cons, sum_eq, List.sum_cons]
    have h := fold_sum xs (s % 18446744073709551616 + x)
    rw [h]
    omega
theorem total_eq (xs : List Int) : total xs = xs.sum % 18446744073709551616 := by
  have h := fold_sum xs 0
  simpa [total] using h
theorem sum_set : ∀ (xs : List Int) (i : Nat) (v : Int), i < xs.length → (xs.set i v).sum = xs.sum + v - rd xs (i : Int)
  | [], i, v, h => absurd h (by simp)
  | x :: xs, 0, v, h => by simp [rd]; omega
  | x :: xs, i + 1, v, h => by
    have ih := sum_set xs i v (by simpa using h)
    have hr : rd (x :: xs) ((i + 1 : Nat) : Int) = rd xs (i : Int) := by simp [rd]
    rw [List.set_cons_succ, List.sum_cons, List.sum_cons, ih, hr]
    omega
/-- one ask: where, how much -/
def step (xs : List Int) (a : Int × Int) : List Int := if 0 ≤ a.1 ∧ a.1 < (xs.length : Int) then xs.set a.1.toNat (sum (rd xs a.1) a.2) else xs
def add (n : Nat) (s : Int) (a : Int × Int) : Int := if 0 ≤ a.1 ∧ a.1 < (n : Int) then sum s a.2 else s
theorem step_length (xs : List Int) (a : Int × Int) : (step xs a).length = xs.length := by unfold step; split <;> simp
theorem steps_length : ∀ (l : List (Int × Int)) (xs : List Int), (l.foldl step xs).length = xs.length
  | [], xs => rfl
  | a :: l, xs => by rw [List.foldl_cons, steps_length l, step_length]
theorem total_step (xs : List Int) (a : Int × Int) : total (step xs a) = add xs.length (total xs) a := by
  unfold step add
  split
  · rename_i h
    obtain ⟨i, hi⟩ : ∃ i : Nat, a.1 = i := ⟨a.1.toNat, by omega⟩
    rw [hi, Int.toNat_natCast, total_eq, total_eq, sum_set _ _ _ (by omega), sum_eq, sum_eq]
    omega
  · rfl
theorem total_steps : ∀ (l : List (Int × Int)) (xs : List Int) (s : Int), total xs = s → total (l.foldl step xs) = l.foldl (add xs.length) s
  | [], xs, s, h => h
  | a :: l, xs, s, h => by
    rw [List.foldl_cons, List.foldl_cons, total_steps l (step xs a) (add xs.length s a) (by rw [total_step, h]), step_length]
theorem rd_set (xs : List Int) (i : Nat) (j : Int) (v : Int) (hj : 0 ≤ j) (hi : i < xs.length) : rd (xs.set i v) j = if j = i then v else rd xs j := by
  obtain ⟨k, rfl⟩ : ∃ k : Nat, j = k := ⟨j.toNat, by omega⟩
  simp only [rd, Int.toNat_natCast, List.getD, List.getElem?_set]
  by_cases h : i = k
  · subst h; simp [hi]
  · have : ¬ ((k : Int) = (i : Int)) := by omega
    simp [h, this]
theorem step_comm (xs : List Int) (a b : Int × Int) : step (step xs a) b = step (step xs b) a := by
  obtain ⟨ai, ak⟩ := a
  obtain ⟨bi, bk⟩ := b
  by_cases ha : 0 ≤ ai ∧ ai < (xs.length : Int)
  · by_cases hb : 0 ≤ bi ∧ bi < (xs.length : Int)
    · obtain ⟨i, rfl⟩ : ∃ i : Nat, ai = i := ⟨ai.toNat, by omega⟩
      obtain ⟨j, rfl⟩ : ∃ j : Nat, bi = j := ⟨bi.toNat, by omega⟩
      simp only [step, ha, hb, and_self, if_true, List.length_set, Int.toNat_natCast]
      rw [rd_set _ _ _ _ (by omega) (by omega), rd_set _ _ _ _ (by omega) (by omega)]
      by_cases e : i = j
      · subst e
        simp only [if_true, List.set_set]
        congr 1
        rw [sum_eq, sum_eq, sum_eq, sum_eq]
        omega
      · have e1 : ¬ ((j : Int) = (i : Int)) := by omega
        have e2 : ¬ ((i : Int) = (j : Int)) := by omega
        rw [if_neg e1, if_neg e2, List.set_comm _ _ e]
    · simp only [step, ha, hb, and_self, if_true, if_false, List.length_set]
  · by_cases hb : 0 ≤ bi ∧ bi < (xs.length : Int)
    · simp only [step, ha, hb, and_self, if_true, if_false, List.length_set]
    · simp only [step, ha, hb, if_false]
theorem steps_reverse (l : List (Int × Int)) (xs : List Int) : l.reverse.foldl step xs = l.foldl step xs :=
  (List.reverse_perm l).foldl_eq' (fun x _ y _ z => step_comm z x y) xs
end Go.Proofs.Ytjlegibfeenglaa.XTallyPlain
