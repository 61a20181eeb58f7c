/-
  Numbering keys in the order in which they are first met: the plain fold, and what a map says of it.
-/
import Derived.Maps.Views
import Derived.Maps.Own
namespace Go.Proofs.Ytbkaiojofgmbnaa.XNumber
open Go.Maps
set_option linter.unusedVariables false
theorem stay {H : Type} {P : Program} {k : TypeId} {R : Value → Option (DataW H × List MemPlace)} {w w1 : World} {b n : Nat} {D : DataW H} (h : w.ownsMap P k R b n D) (e : w1.heap[b]? = w.heap[b]?) : w1.ownsMap P k R b n D := by
  obtain ⟨es, clock, hb, hr⟩ := h
  exact ⟨es, clock, e.trans hb, hr⟩
theorem lt {H : Type} {P : Program} {k : TypeId} {R : Value → Option (DataW H × List MemPlace)} {w : World} {b n : Nat} {D : DataW H} (h : w.ownsMap P k R b n D) : b < w.heap.size := by
  obtain ⟨es, clock, hb, hr⟩ := h
  exact (Array.getElem?_eq_some_iff.1 hb).1
theorem inj {H : Type} {a b : Int} (h : (DataW.lit (H := H) (.int .i64 a)) = .lit (.int .i64 b)) : a = b := by
  injection h with h
  injection h
section
variable {α : Type} [BEq α] [LawfulBEq α]
/-- one key more: who has been met, and the numbers so far -/
def step (st : List α × List Int) (x : α) : List α × List Int := if x ∈ st.1 then (st.1, st.2 ++ [(st.1.idxOf x : Int)]) else (st.1 ++ [x], st.2 ++ [(st.1.length : Int)])
def run (l : List α) : List α × List Int := l.foldl step ([], [])
def numF (l : List α) : List Int := (run l).2
theorem run_snoc (l : List α) (x : α) : run (l ++ [x]) = step (run l) x := by simp [run, List.foldl_append]
theorem run_len : ∀ (l : List α) (st : List α × List Int), (l.foldl step st).2.length = st.2.length + l.length ∧ (l.foldl step st).1.length ≤ st.1.length + l.length
  | [], st => ⟨rfl, Nat.le_refl _⟩
  | x :: l, st => by
    have h := run_len l (step st x)
    rw [List.foldl_cons]
    have h1 : (step st x).2.length = st.2.length + 1 ∧ (step st x).1.length ≤ st.1.length + 1 := by unfold step; split <;> simp
    rw [List.length_cons]
    omega
theorem numF_length (l : List α) : (numF l).length = l.length := by have := (run_len l ([], [])).1; simpa [numF, run] using this
theorem seen_length (l : List α) : (run l).1.length ≤ l.length := by have := (run_len l ([], [])).2; simpa [run] using this
omit [BEq α] [LawfulBEq α] in
theorem snoc_ind {P : List α → Prop} (h0 : P []) (h1 : ∀ l x, P l → P (l ++ [x])) (l : List α) : P l := by
  have h : ∀ r : List α, P r.reverse := by
    intro r
    induction r with
    | nil => exact h0
    | cons x r ih => rw [List.reverse_cons]; exact h1 _ _ ih
  have := h l.reverse
  rwa [List.reverse_reverse] at this
/-- those met -/
def met (l : List α) : List α := (run l).1
theorem met_snoc (l : List α) (x : α) : met (l ++ [x]) = if x ∈ met l then met l else met l ++ [x] := by
  unfold met
  rw [run_snoc]
  unfold step
  split <;> rfl
theorem numF_snoc (l : List α) (x : α) : numF (l ++ [x]) = numF l ++ [if x ∈ met l then ((met l).idxOf x : Int) else ((met l).length : Int)] := by
  unfold numF met
  rw [run_snoc]
  unfold step
  split <;> rfl
theorem mem_met (l : List α) (y : α) : y ∈ met l ↔ y ∈ l := by
  refine snoc_ind (P := fun l => y ∈ met l ↔ y ∈ l) (by simp [met, run]) (fun l x ih => ?_) l
  rw [met_snoc]
  split
  · rename_i h
    rw [List.mem_append, List.mem_singleton, ← ih]
    constructor
    · exact fun h => .inl h
    · rintro (h1 | rfl)
      · exact h1
      · exact h
  · rw [List.mem_append, List.mem_append, ih]
theorem nodup_met (l : List α) : (met l).Nodup := by
  refine snoc_ind (P := fun l => (met l).Nodup) (by simp [met, run]) (fun l x ih => ?_) l
  rw [met_snoc]
  split
  · exact ih
  · rename_i h
    rw [List.nodup_append]
    refine ⟨ih, by simp, fun a ha b hb => ?_⟩
    rw [List.mem_singleton] at hb
    subst hb
    rintro rfl
    exact h ha
theorem met_prefix (l : List α) (x : α) : ∃ t, met (l ++ [x]) = met l ++ t := by
  rw [met_snoc]
  split
  · exact ⟨[], by simp⟩
  · exact ⟨[x], rfl⟩
theorem numF_eq (l : List α) : numF l = l.map (fun x => ((met l).idxOf x : Int)) := by
  refine snoc_ind (P := fun l => numF l = l.map (fun x => ((met l).idxOf x : Int))) (by simp [numF, run]) (fun l x ih => ?_) l
  rw [numF_snoc, ih, List.map_append]
  congr 1
  · apply List.map_congr_left
    intro y hy
    have hm : y ∈ met l := (mem_met l y).2 hy
    obtain ⟨t, ht⟩ := met_prefix l x
    rw [ht, List.idxOf_append, if_pos hm]
  · rw [List.map_singleton, met_snoc]
    split
    · rfl
    · rename_i h
      rw [List.idxOf_append, if_neg h]
      simp
theorem numF_get (l : List α) (i : Nat) (hi : i < l.length) : (numF l).getD i 0 = ((met l).idxOf l[i] : Int) := by
  rw [numF_eq]
  simp [List.getD, hi]
theorem idx_inj (l : List α) {x y : α} (hx : x ∈ l) (h : (met l).idxOf x = (met l).idxOf y) : x = y := by
  have hx' : x ∈ met l := (mem_met l x).2 hx
  have h1 : (met l).idxOf x < (met l).length := List.idxOf_lt_length_iff.2 hx'
  have h2 : (met l)[(met l).idxOf x]'h1 = x := List.getElem_idxOf h1
  have h3 : (met l).idxOf y < (met l).length := by rw [← h]; exact h1
  have h4 : (met l)[(met l).idxOf y]'h3 = y := List.getElem_idxOf h3
  rw [← h2, ← h4]
  congr 1
theorem numF_same (l : List α) (i k : Nat) (hi : i < l.length) (hk : k < l.length) : (numF l).getD i 0 = (numF l).getD k 0 ↔ l[i] = l[k] := by
  rw [numF_get l i hi, numF_get l k hk]
  constructor
  · intro h
    exact idx_inj l (List.getElem_mem hi) (by exact Int.ofNat.inj h)
  · intro h
    rw [h]
theorem nodup_sub {β : Type} [BEq β] [LawfulBEq β] : ∀ (a b : List β), a.Nodup → (∀ x ∈ a, x ∈ b) → a.length ≤ b.length
  | [], b, _, _ => Nat.zero_le _
  | x :: a, b, hn, hs => by
    have hx := hs x (by simp)
    have hn' := List.nodup_cons.1 hn
    have h := nodup_sub a (b.erase x) hn'.2 (fun y hy => by
      have hne : y ≠ x := fun e => hn'.1 (e ▸ hy)
      exact (List.mem_erase_of_ne hne).2 (hs y (by simp [hy])))
    rw [List.length_erase_of_mem hx] at h
    have := List.length_pos_of_mem hx
    rw [List.length_cons]
    omega
theorem met_sub {β : Type} [BEq β] [LawfulBEq β] (a b : List β) (h : ∀ x ∈ a, x ∈ b) : (met a).length ≤ (met b).length :=
  nodup_sub _ _ (nodup_met a) (fun x hx => (mem_met b x).2 (h x ((mem_met a x).1 hx)))
/-- pairs: as many as first parts, if and only if the first part tells the second -/
theorem met_pairs (z : List (Int × Int)) : (met z).length = (met (z.map (·.1))).length ↔ ∀ p ∈ z, ∀ q ∈ z, p.1 = q.1 → p.2 = q.2 := by
  constructor
  · intro h p hp q hq h1
    refine Classical.byContradiction fun hne => ?_
    have hpm := (mem_met z p).2 hp
    have hqm := (mem_met z q).2 hq
    have hlen : (met (z.map (·.1))).length ≤ ((met z).erase p |>.map (·.1)).length := by
      refine nodup_sub _ _ (nodup_met _) fun x hx => ?_
      obtain ⟨y, hy, rfl⟩ := List.mem_map.1 ((mem_met _ x).1 hx)
      have hym := (mem_met z y).2 hy
      by_cases e : y = p
      · subst e
        have hqp : q ≠ y := fun e => hne (by rw [e])
        exact List.mem_map.2 ⟨q, (List.mem_erase_of_ne hqp).2 hqm, h1.symm⟩
      · exact List.mem_map.2 ⟨y, (List.mem_erase_of_ne e).2 hym, rfl⟩
    rw [List.length_map, List.length_erase_of_mem hpm] at hlen
    have := List.length_pos_of_mem hpm
    omega
  · intro h
    have h1 : (met (z.map (·.1))).length ≤ ((met z).map (·.1)).length := by
      refine nodup_sub _ _ (nodup_met _) fun x hx => ?_
      obtain ⟨y, hy, rfl⟩ := List.mem_map.1 ((mem_met _ x).1 hx)
      exact List.mem_map.2 ⟨y, (mem_met z y).2 hy, rfl⟩
    have h2 : ((met z).map (·.1)).length ≤ (met (z.map (·.1))).length := by
      refine nodup_sub _ _ ?_ fun x hx => ?_
      · have hn := nodup_met z
        have hin : ∀ p ∈ met z, ∀ q ∈ met z, p.1 = q.1 → p = q := fun p hp q hq e => Prod.ext e (h p ((mem_met z p).1 hp) q ((mem_met z q).1 hq) e)
        revert hn hin
        generalize met z = m
        induction m with
        | nil => intros; simp
        | cons a m ih =>
          intro hn hin
          rw [List.nodup_cons] at hn
          rw [List.map_cons, List.nodup_cons]
          refine ⟨fun hm => ?_, ih hn.2 (fun p hp q hq => hin p (by simp [hp]) q (by simp [hq]))⟩
          obtain ⟨b, hb, e⟩ := List.mem_map.1 hm
          have := hin b (by simp [hb]) a (by simp) e
          exact hn.1 (this ▸ hb)
      · obtain ⟨y, hy, rfl⟩ := List.mem_map.1 hx
        exact (mem_met _ _).2 (List.mem_map.2 ⟨y, (mem_met z y).1 hy, rfl⟩)
    rw [List.length_map] at h1 h2
    omega
/-- the first n numbers -/
def firsts (n : Nat) : List Int := (List.range n).map (fun x : Nat => (x : Int))
theorem firsts_succ (n : Nat) : firsts (n + 1) = firsts n ++ [(n : Int)] := by simp [firsts, List.range_succ]
theorem mem_firsts (n m : Nat) : (m : Int) ∈ firsts n ↔ m < n := by
  unfold firsts
  rw [List.mem_map]
  constructor
  · rintro ⟨a, ha, e⟩
    rw [List.mem_range] at ha
    omega
  · exact fun h => ⟨m, List.mem_range.2 h, rfl⟩
theorem idx_firsts : ∀ (n m : Nat), m < n → (firsts n).idxOf (m : Int) = m
  | 0, m, h => absurd h (by omega)
  | n + 1, m, h => by
    rw [firsts_succ, List.idxOf_append]
    by_cases hm : m < n
    · rw [if_pos ((mem_firsts n m).2 hm), idx_firsts n m hm]
    · have : m = n := by omega
      subst this
      rw [if_neg (fun h => by have := (mem_firsts m m).1 h; omega)]
      simp [firsts]
/-- numbering what has been numbered turns nothing -/
theorem run_numF (l : List α) : met (numF l) = firsts (met l).length ∧ numF (numF l) = numF l := by
  refine snoc_ind (P := fun l : List α => met (numF l) = firsts (met l).length ∧ numF (numF l) = numF l) ⟨rfl, rfl⟩ (fun l x ih => ?_) l
  obtain ⟨i1, i2⟩ := ih
  rw [numF_snoc, met_snoc, numF_snoc, i1, i2, met_snoc]
  by_cases h : x ∈ met l
  · have hlt : (met l).idxOf x < (met l).length := List.idxOf_lt_length_iff.2 h
    simp only [h, if_true, (mem_firsts _ _).2 hlt, idx_firsts _ _ hlt, and_self]
  · have hn : ¬ ((met l).length : Int) ∈ firsts (met l).length := fun h => by have := (mem_firsts _ _).1 h; omega
    simp only [h, if_false, hn, List.length_append, List.length_singleton, firsts_succ, true_and]
    simp [firsts]
variable {H : Type}
/-- what the map says of those met -/
def Good (lit : α → Lit) (p : α → Prop) (D : DataW H) (seen : List α) : Prop :=
  Tidy D ∧ size D = seen.length ∧ (∀ x, p x → has D (lit x) = decide (x ∈ seen)) ∧ ∀ x ∈ seen, p x ∧ D.atKey (lit x) (.lit (.int .i64 0)) = .lit (.int .i64 (seen.idxOf x : Nat))
theorem Good.empty (lit : α → Lit) (p : α → Prop) : Good (H := H) lit p (.map []) ([] : List α) :=
  ⟨tidy_empty, rfl, fun x _ => by simp [has_eq], fun x h => by cases h⟩
theorem Good.put {lit : α → Lit} {p : α → Prop} {D : DataW H} {seen : List α} (h : Good lit p D seen) {x : α} (hl : WideAt.IsKeyLit (lit x)) (hp : p x) (hi : ∀ y, p y → lit y = lit x → y = x) (hx : x ∉ seen) :
    Good lit p (D.put (lit x) (.lit (.int .i64 (seen.length : Nat)))) (seen ++ [x]) := by
  obtain ⟨h1, h2, h3, h4⟩ := h
  refine ⟨h1.put hl _, ?_, fun y py => ?_, fun y hy => ?_⟩
  · rw [size_put h1, h3 x hp, if_neg (by simp [hx]), h2, List.length_append, List.length_singleton]
  · by_cases e : y = x
    · subst e
      rw [has_put_same h1.isMap hl]
      simp
    · rw [has_put_other (fun h => e (hi _ py h)), h3 y py]
      simp [e]
  · by_cases e : y = x
    · subst e
      refine ⟨hp, ?_⟩
      rw [atKey_put_same h1.isMap hl, List.idxOf_append, if_neg hx]
      simp
    · have hy' : y ∈ seen := by simpa [e] using hy
      obtain ⟨py, hay⟩ := h4 y hy'
      refine ⟨py, ?_⟩
      rw [atKey_put_other (fun h => e (hi _ py h)), hay, List.idxOf_append, if_pos hy']
end
end Go.Proofs.Ytbkaiojofgmbnaa.XNumber
