/-
  Strings in order: sorting, leaving out what stands twice: plain lemmas.
-/
import Derived.Lib.SlicesCompact
import Derived.Sort.Walk0
import Derived.Maps.Own
import Derived.Maps.Views
namespace Go.Proofs.Ytbkaiojofgmbnaa.XNamesPlain
open Go.Sort Go.Lib
set_option linter.unusedVariables false
def bts (x : ByteArray) : List UInt8 := x.data.toList
def mk (l : List UInt8) : ByteArray := ⟨l.toArray⟩
theorem mk_bts (x : ByteArray) : mk (bts x) = x := by cases x; simp [mk, bts]
theorem bts_mk (l : List UInt8) : bts (mk l) = l := by simp [mk, bts]
def sorted (l : List (List UInt8)) : List (List UInt8) := l.mergeSort fun x y => decide (x ≤ y)
def unionL (l : List (List UInt8)) : List (List UInt8) := compact (sorted l)
def unionF (a b : List ByteArray) : List ByteArray := (unionL ((a ++ b).map bts)).map mk
theorem sorted_le (l : List (List UInt8)) : (sorted l).Pairwise (fun x y => x ≤ y) := by
  have h := List.pairwise_mergeSort (le := fun x y : List UInt8 => decide (x ≤ y)) (fun a b c h1 h2 => by
    simp only [decide_eq_true_eq] at h1 h2 ⊢
    exact List.le_trans h1 h2) (fun a b => by
    simp only [Bool.or_eq_true, decide_eq_true_eq]
    exact List.le_total a b) l
  exact h.imp (fun h => by simpa using h)
theorem mem_sorted (l : List (List UInt8)) (x : List UInt8) : x ∈ sorted l ↔ x ∈ l := List.mem_mergeSort
theorem sorted_length (l : List (List UInt8)) : (sorted l).length = l.length := List.length_mergeSort _
theorem lt_of_le_ne {x y : List UInt8} (h : x ≤ y) (hne : x ≠ y) : x < y := by
  rcases Classical.em (x < y) with hl | hl
  · exact hl
  · exact absurd (List.le_antisymm h (List.not_lt.1 hl)) hne
/-- the places up to m, without what stands twice: in order, the same members, and its last is the last of those places -/
theorem compact_upto (d : Array (List UInt8)) (hs : d.toList.Pairwise (fun x y => x ≤ y)) : ∀ m, m ≤ d.size →
    (compactUpTo d m).Pairwise (fun x y => x < y) ∧ (∀ x, x ∈ compactUpTo d m ↔ x ∈ d.toList.take m) ∧ (∀ y ∈ compactUpTo d m, 0 < m → y ≤ d[m - 1]!) := by
  intro m
  induction m with
  | zero => intro _; simp [compactUpTo]
  | succ m ih =>
    intro hm
    obtain ⟨i1, i2, i3⟩ := ih (by omega)
    have hdm : d[m]! = d[m]'(by omega) := getElem!_pos d m (by omega)
    have htk : d.toList.take (m + 1) = d.toList.take m ++ [d[m]!] := by
      rw [List.take_succ_eq_append_getElem (by simp; omega), hdm]
      simp
    have hle : 0 < m → d[m - 1]! ≤ d[m]! := by
      intro h0
      rw [hdm, getElem!_pos d (m - 1) (by omega)]
      have := List.pairwise_iff_getElem.1 hs (m - 1) m (by simp; omega) (by simp; omega) (by omega)
      simpa using this
    rw [compactUpTo_succ, htk]
    by_cases hk : keeps d m = true
    · rw [if_pos hk]
      refine ⟨?_, ?_, ?_⟩
      · rw [List.pairwise_append]
        refine ⟨i1, by simp, fun x hx y hy => ?_⟩
        rw [List.mem_singleton.1 hy]
        have h0 : 0 < m := by
          rcases Nat.eq_zero_or_pos m with h | h
          · subst h; simp [compactUpTo] at hx
          · exact h
        have hne : d[m - 1]! ≠ d[m]! := by
          simp only [keeps, decide_eq_true_eq] at hk
          rcases hk with h | h
          · omega
          · exact fun e => h e.symm
        have h1 := i3 x hx h0
        have h2 := lt_of_le_ne (hle h0) hne
        exact List.lt_of_le_of_lt h1 h2
      · intro x
        rw [List.mem_append, List.mem_append, i2]
      · intro y hy _
        rw [List.mem_append] at hy
        simp only [Nat.add_sub_cancel]
        rcases hy with h | h
        · have h0 : 0 < m := by
            rcases Nat.eq_zero_or_pos m with h' | h'
            · subst h'; simp [compactUpTo] at h
            · exact h'
          exact List.le_trans (i3 y h h0) (hle h0)
        · rw [List.mem_singleton.1 h]; exact List.le_refl _
    · rw [if_neg hk, List.append_nil]
      have h0 : m ≠ 0 ∧ d[m]! = d[m - 1]! := by
        simp only [keeps, decide_eq_true_eq, not_or, ne_eq, Classical.not_not] at hk
        exact hk
      refine ⟨i1, ?_, ?_⟩
      · intro x
        rw [i2, List.mem_append, List.mem_singleton]
        constructor
        · exact fun h => .inl h
        · rintro (h | h)
          · exact h
          · rw [h, h0.2]
            have hlt : m - 1 < (d.toList.take m).length := by rw [List.length_take]; simp; omega
            have : d[m - 1]! = (d.toList.take m)[m - 1]'hlt := by rw [getElem!_pos d (m - 1) (by omega)]; simp
            rw [this]
            exact List.getElem_mem _
      · intro y hy _
        simp only [Nat.add_sub_cancel]
        rw [h0.2]
        exact i3 y hy (by omega)
theorem compact_strict (l : List (List UInt8)) (hs : l.Pairwise (fun x y => x ≤ y)) : (compact l).Pairwise (fun x y => x < y) ∧ ∀ x, x ∈ compact l ↔ x ∈ l := by
  have h := compact_upto l.toArray (by simpa using hs) l.length (by simp)
  refine ⟨h.1, fun x => ?_⟩
  have := h.2.1 x
  simpa [compact] using this
theorem unionL_strict (l : List (List UInt8)) : (unionL l).Pairwise (fun x y => x < y) := (compact_strict _ (sorted_le l)).1
theorem mem_unionL (l : List (List UInt8)) (x : List UInt8) : x ∈ unionL l ↔ x ∈ l := ((compact_strict _ (sorted_le l)).2 x).trans (mem_sorted l x)
/-- two lists in strict order with the same members are one -/
theorem strict_ext : ∀ (a b : List (List UInt8)), a.Pairwise (fun x y => x < y) → b.Pairwise (fun x y => x < y) → (∀ x, x ∈ a ↔ x ∈ b) → a = b
  | [], [], _, _, _ => rfl
  | [], y :: b, _, _, h => absurd ((h y).2 (by simp)) (by simp)
  | x :: a, [], _, _, h => absurd ((h x).1 (by simp)) (by simp)
  | x :: a, y :: b, ha, hb, h => by
    rw [List.pairwise_cons] at ha hb
    have hxy : x = y := by
      have h1 := (h x).1 (by simp)
      have h2 := (h y).2 (by simp)
      rcases List.mem_cons.1 h1 with e | h1
      · exact e
      · rcases List.mem_cons.1 h2 with e | h2
        · exact e.symm
        · have l1 := hb.1 x h1
          have l2 := ha.1 y h2
          exact absurd (List.lt_trans l1 l2) (List.lt_irrefl _)
    subst hxy
    congr 1
    refine strict_ext a b ha.2 hb.2 (fun z => ?_)
    constructor
    · intro hz
      rcases List.mem_cons.1 ((h z).1 (by simp [hz])) with e | h'
      · subst e; exact absurd (ha.1 z hz) (List.lt_irrefl _)
      · exact h'
    · intro hz
      rcases List.mem_cons.1 ((h z).2 (by simp [hz])) with e | h'
      · subst e; exact absurd (hb.1 z hz) (List.lt_irrefl _)
      · exact h'
theorem unionL_length (l : List (List UInt8)) : (unionL l).length ≤ l.length := by
  have h : (compact (sorted l)).length ≤ (sorted l).length := by
    unfold compact compactUpTo
    rw [List.length_map]
    exact Nat.le_trans (List.length_filter_le _ _) (by simp)
  rw [sorted_length] at h
  exact h
/-- of the first n places those whose text stands ahead already -/
def twn (l : List (List UInt8)) (n : Nat) : List Int := ((List.range n).filter (fun i => decide (l.getD i [] ∈ l.take i))).map (fun i : Nat => (i : Int))
theorem twn_succ (l : List (List UInt8)) (n : Nat) : twn l (n + 1) = twn l n ++ if l.getD n [] ∈ l.take n then [(n : Int)] else [] := by
  unfold twn
  rw [List.range_succ, List.filter_append, List.map_append]
  congr 1
  by_cases h : l.getD n [] ∈ l.take n
  · rw [if_pos h, List.filter_cons, if_pos (decide_eq_true h)]; rfl
  · rw [if_neg h, List.filter_cons, if_neg (by rw [decide_eq_true_eq]; exact h)]; rfl
theorem twn_length (l : List (List UInt8)) (n : Nat) : (twn l n).length ≤ n := by
  unfold twn
  rw [List.length_map]
  exact Nat.le_trans (List.length_filter_le _ _) (by simp)
def twinsF (l : List ByteArray) : List Int := twn (l.map bts) l.length
open Go.Maps
variable {H : Type}
/-- what the map counts of the first i texts -/
def Counts (D : DataW H) (l : List (List UInt8)) (i : Nat) : Prop := IsMap D ∧ ∀ s : List UInt8, D.atKey (.string s) (.lit (.int .i64 0)) = .lit (.int .i64 (((l.take i).count s : Nat) : Int))
theorem Counts.empty (l : List (List UInt8)) : Counts (H := H) (.map []) l 0 := ⟨isMap_empty, fun s => rfl⟩
theorem Counts.put {D : DataW H} {l : List (List UInt8)} {i : Nat} (h : Counts D l i) (hi : i < l.length) : Counts (D.put (.string (l.getD i [])) (.lit (.int .i64 (((l.take i).count (l.getD i []) : Nat) + 1 : Int)))) l (i + 1) := by
  refine ⟨h.1.put _ _, fun s => ?_⟩
  have hx : l.getD i [] = l[i] := by simp [List.getD, hi]
  rw [List.take_succ_eq_append_getElem hi, List.count_append, hx]
  by_cases e : s = l[i]
  · subst e
    rw [atKey_put_same h.1 (show WideAt.IsKeyLit (.string l[i]) from trivial)]
    simp
  · rw [atKey_put_other (fun h' => e (by injection h')), h.2 s]
    have : List.count s [l[i]] = 0 := by simp [Ne.symm e]
    rw [this, Nat.add_zero]
end Go.Proofs.Ytbkaiojofgmbnaa.XNamesPlain
