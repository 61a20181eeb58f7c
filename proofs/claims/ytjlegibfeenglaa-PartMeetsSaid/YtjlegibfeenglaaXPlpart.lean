import Derived.Test.YtjlegibfeenglaaXFuel
import Derived.Test.YtjlegibfeenglaaXNumber
import Derived.Test.YtjlegibfeenglaaXPo
import Derived.Test.YtjlegibfeenglaaXPp1
import Derived.Test.YtjlegibfeenglaaXPp2
import Derived.Test.YtjlegibfeenglaaXPp3
namespace Go.Proofs.Ytjlegibfeenglaa.XP
open Go.RowKit Go.Proofs.Ytjlegibfeenglaa.XRead Go.Proofs.Ytjlegibfeenglaa.XP Go.Proofs.YtjlegibfeenglaaW.PrintWords Go.Proofs.YtjlegibfeenglaaW.PrintLast Go.Proofs.YtjlegibfeenglaaW.PrintMore
open Go.Proofs.Ytjlegibfeenglaa.XFuel Go.Proofs.Ytjlegibfeenglaa.XNumber
set_option linter.unusedVariables false
set_option linter.unusedSimpArgs false
def Wf (l : List Int) : Prop := ∀ y ∈ l, (Lit.int .i64 y).wf = true
theorem wf_small {n : Int} (h0 : 0 ≤ n) (h1 : n ≤ 1000000) : (Lit.int .i64 n).wf = true := WalkArith.wf_i64 (by omega)
theorem plain_f {l : List Int} (hl : l.length ≤ 1000000) (hw : Wf l) : part_Plain.f l = some (numF l) := by
  unfold part_Plain.f part_number_int.f
  rw [if_pos hl, if_pos (List.all_eq_true.2 hw)]
  rfl
theorem numF_range {α : Type} [BEq α] [LawfulBEq α] (l : List α) : ∀ y ∈ numF l, 0 ≤ y ∧ y ≤ l.length := by
  intro y hy
  rw [numF_eq] at hy
  obtain ⟨x, hx, rfl⟩ := List.mem_map.1 hy
  have h := List.idxOf_lt_length_iff.2 ((mem_met l x).2 hx)
  have h2 : (met l).length ≤ l.length := seen_length l
  omega
theorem numF_wf {α : Type} [BEq α] [LawfulBEq α] {l : List α} (hl : l.length ≤ 1000000) : Wf (numF l) := fun y hy => wf_small (numF_range l y hy).1 (by have := (numF_range l y hy).2; omega)
theorem meet_f {p q : List Int} (hl : p.length = q.length) (h1 : p.length ≤ 1000000) (hp : Wf p) (hq : Wf q) : part_Meet.f p q = some (numF (p.zip q), 0) := by
  unfold part_Meet.f number_2.f
  have hz : (p.zip q).length ≤ 1000000 := by rw [List.length_zip]; omega
  have ha : ((p.zip q).all fun x => (Lit.int .i64 x.1).wf && (Lit.int .i64 x.2).wf) = true := by
    rw [List.all_eq_true]
    intro x hx
    obtain ⟨a, b⟩ := x
    have := List.of_mem_zip hx
    rw [Bool.and_eq_true]
    exact ⟨hp _ this.1, hq _ this.2⟩
  rw [if_pos hl, if_pos h1, if_pos hz, if_pos ha]
  rfl
theorem meet_ne {p q : List Int} (hl : p.length ≠ q.length) : part_Meet.f p q = some ([], 1) := by
  unfold part_Meet.f
  rw [if_neg hl]
theorem blocks_l {l : List Int} (hl : l.length ≤ 100000) : ∀ (d i : Nat) (x3 : List (List Int)), l.length - i = d → i ≤ l.length → x3.length = (met (l.take i)).length → (∀ row ∈ x3, row.length ≤ i) →
    ∃ r : List (List Int), Ev (fun k => part_Blocks.l0 k x3 (numF l) ((numF l).length : Int) i) r ∧ r.length = (met l).length := by
  have hn := numF_length l
  intro d
  induction d with
  | zero =>
    intro i x3 hd hi hx hr
    have h1 : ¬ ((i : Int) < ((numF l).length : Int)) := by omega
    refine ⟨x3, ?_, ?_⟩
    · apply Ev.succ
      simp only [part_Blocks.l0, h1, if_false]
      exact Ev.now _
    · rw [hx, List.take_of_length_le (by omega)]
  | succ d ih =>
    intro i x3 hd hi hx hr
    have hil : i < l.length := by omega
    have h1 : (i : Int) < ((numF l).length : Int) := by omega
    have h2 : (0 : Int) ≤ (i : Int) := by omega
    have hts := List.take_succ_eq_append_getElem hil
    have hms := met_snoc (l.take i) l[i]
    rw [← hts] at hms
    have hml : (met (l.take i)).length ≤ i := by have := seen_length (l.take i); rw [List.length_take] at this; exact Nat.le_trans this (by omega)
    have hc : rd (numF l) (i : Int) = if l[i] ∈ met (l.take i) then ((met (l.take i)).idxOf l[i] : Int) else ((met (l.take i)).length : Int) := by
      have hpre : ∀ j, j ≤ l.length → (numF l).take j = numF (l.take j) := by
        intro j hj
        have : ∀ m t : List Int, (numF (m ++ t)).take m.length = numF m := by
          intro m t
          refine snoc_ind (P := fun t => (numF (m ++ t)).take m.length = numF m) ?_ ?_ t
          · rw [List.append_nil, List.take_of_length_le (by rw [numF_length]; exact Nat.le_refl _)]
          · intro t x ih
            rw [← List.append_assoc, numF_snoc, List.take_append_of_le_length (by rw [numF_length]; simp)]
            exact ih
        have h3 := this (l.take j) (l.drop j)
        rw [List.take_append_drop, List.length_take, Nat.min_eq_left hj] at h3
        exact h3
      have h4 := hpre (i + 1) (by omega)
      rw [hts, numF_snoc] at h4
      have h5 : (numF l)[i]? = ((numF l).take (i + 1))[i]? := by rw [List.getElem?_take]; simp
      rw [h4] at h5
      have h6 : (numF (l.take i)).length = i := by rw [numF_length, List.length_take]; omega
      rw [List.getElem?_append_right (by omega), h6] at h5
      simp at h5
      simp [rd, List.getD, h5]
    generalize hcc : rd (numF l) (i : Int) = c at hc
    by_cases hm : l[i] ∈ met (l.take i)
    · rw [if_pos hm] at hc hms
      have hlt : (met (l.take i)).idxOf l[i] < (met (l.take i)).length := List.idxOf_lt_length_iff.2 hm
      generalize hq : (met (l.take i)).idxOf l[i] = q at hc hlt
      have c1 : ¬ (c = (x3.length : Int)) := by omega
      have c2 : 0 ≤ c := by omega
      have c3 : c < (x3.length : Int) := by omega
      have hrow : (rd_L1 x3 c).length ≤ i := by
        have hq3 : c.toNat < x3.length := by omega
        simp only [rd_L1, List.getD, List.getElem?_eq_getElem hq3, Option.getD_some]
        exact hr _ (List.getElem_mem hq3)
      have c4 : (rd_L1 x3 c).length < 17592186044416 := by omega
      obtain ⟨r, hr1, hr2⟩ := ih (i + 1) (x3.set c.toNat (rd_L1 x3 c ++ [(i : Int)])) (by omega) (by omega) (by rw [List.length_set, hx, hms]) (by
        intro row hrow'
        rcases List.mem_or_eq_of_mem_set hrow' with h | h
        · have := hr row h; omega
        · rw [h, List.length_append, List.length_singleton]; omega)
      refine ⟨r, ?_, hr2⟩
      apply Ev.succ
      simp only [part_Blocks.l0, h1, h2, hcc, c1, c2, c3, c4, if_true, if_false]
      rw [wrap_succ (by omega)]
      exact hr1
    · rw [if_neg hm] at hc hms
      have hcx : c = (x3.length : Int) := by omega
      subst hcx
      have c2 : (0 : Int) ≤ (x3.length : Int) := by omega
      have c5 : x3.length < 5864062014805 := by omega
      have c3 : (x3.length : Int) < ((x3 ++ [[]]).length : Int) := by rw [List.length_append, List.length_singleton]; omega
      have hrow : (rd_L1 (x3 ++ [[]]) (x3.length : Int)).length ≤ i := by
        have hq3 : (x3.length : Int).toNat < (x3 ++ [[]]).length := by omega
        simp only [rd_L1, List.getD, List.getElem?_eq_getElem hq3, Option.getD_some]
        rcases List.mem_append.1 (List.getElem_mem hq3) with h | h
        · exact hr _ h
        · rw [List.mem_singleton.1 h]; exact Nat.zero_le _
      have c4 : (rd_L1 (x3 ++ [[]]) (x3.length : Int)).length < 17592186044416 := by omega
      obtain ⟨r, hr1, hr2⟩ := ih (i + 1) ((x3 ++ [[]]).set (x3.length : Int).toNat (rd_L1 (x3 ++ [[]]) (x3.length : Int) ++ [(i : Int)])) (by omega) (by omega) (by rw [List.length_set, List.length_append, hx, hms, List.length_append]; rfl) (by
        intro row hrow'
        rcases List.mem_or_eq_of_mem_set hrow' with h | h
        · rcases List.mem_append.1 h with h | h
          · have := hr row h; omega
          · rw [List.mem_singleton.1 h]; exact Nat.zero_le _
        · rw [h, List.length_append, List.length_singleton]; omega)
      refine ⟨r, ?_, hr2⟩
      apply Ev.succ
      simp only [part_Blocks.l0, h1, h2, hcc, c2, c3, c4, c5, if_true, Option.bind_some]
      rw [wrap_succ (by omega)]
      exact hr1
theorem count_f {l : List Int} (hl : l.length ≤ 100000) (hw : Wf l) : Ev (fun k => part_Count.f k l) ((met l).length : Int) := by
  obtain ⟨r, h1, h2⟩ := blocks_l hl l.length 0 [] (by omega) (by omega) (by simp [met, run]) (by simp)
  unfold part_Count.f part_Blocks.f
  rw [plain_f (by omega) hw]
  refine Ev.bind (a := r) ?_ ?_
  · exact h1
  · rw [h2]; exact Ev.now _
/-- where the first has one number twice, so has the second -/
def FinerP (a b : List Int) : Prop := ∀ i k : Nat, k < i → i < a.length → rd a i = rd a k → rd b i = rd b k
theorem rfiner_l {a b : List Int} (hl : a.length ≤ 100000) (hb : a.length = b.length) : ∀ (d i : Nat), a.length - i = d → i ≤ a.length → (∀ i' k : Nat, k < i' → i' < i → rd a i' = rd a k → rd b i' = rd b k) →
    ∃ v, Ev (fun n => semblanceref31_Finer.l0 n a b i) v ∧ (v = true ↔ FinerP a b) := by
  intro d
  induction d with
  | zero =>
    intro i hd hi hp
    have h1 : ¬ ((i : Int) < (a.length : Int)) := by omega
    refine ⟨true, ?_, by simp only [true_iff]; exact fun i' k hk hi' => hp i' k hk (by omega)⟩
    apply Ev.succ
    simp only [semblanceref31_Finer.l0, h1, if_false]
    exact Ev.now _
  | succ d ih =>
    intro i hd hi hp
    have h1 : (i : Int) < (a.length : Int) := by omega
    have h1b : (i : Int) < (b.length : Int) := by omega
    have h2 : (0 : Int) ≤ (i : Int) := by omega
    have inner : ∀ (e j : Nat), i - j = e → j ≤ i → (∀ k : Nat, k < j → rd a i = rd a k → rd b i = rd b k) → ∃ v, Ev (fun n => semblanceref31_Finer.l1 n a b i j) v ∧ (v = true ↔ FinerP a b) := by
      intro e
      induction e with
      | zero =>
        intro j he hj hq
        have h3 : ¬ ((j : Int) < (i : Int)) := by omega
        obtain ⟨v, hv, hv2⟩ := ih (i + 1) (by omega) (by omega) (fun i' k hk hi' => by
          by_cases e : i' = i
          · subst e; exact hq k (by omega)
          · exact hp i' k hk (by omega))
        refine ⟨v, ?_, hv2⟩
        apply Ev.succ
        simp only [semblanceref31_Finer.l1, h3, if_false]
        rw [wrap_succ (by omega)]
        exact hv
      | succ e ih2 =>
        intro j he hj hq
        have h3 : (j : Int) < (i : Int) := by omega
        have h4 : (0 : Int) ≤ (j : Int) := by omega
        have h5 : (j : Int) < (a.length : Int) := by omega
        have h6 : (j : Int) < (b.length : Int) := by omega
        by_cases c1 : rd a i = rd a j
        · by_cases c2 : rd b i = rd b j
          · obtain ⟨v, hv, hv2⟩ := ih2 (j + 1) (by omega) (by omega) (fun k hk hh => by
              by_cases e : k = j
              · subst e; exact c2
              · exact hq k (by omega) hh)
            refine ⟨v, ?_, hv2⟩
            apply Ev.succ
            simp only [semblanceref31_Finer.l1, h1, h1b, h2, h3, h4, h5, h6, c1, c2, if_true]
            rw [wrap_succ (by omega)]
            exact hv
          · refine ⟨false, ?_, by simp only [Bool.false_eq_true, false_iff]; exact fun hf => c2 (hf i j (by omega) (by omega) c1)⟩
            apply Ev.succ
            simp only [semblanceref31_Finer.l1, h1, h1b, h2, h3, h4, h5, h6, c1, c2, if_true, if_false]
            exact Ev.now _
        · obtain ⟨v, hv, hv2⟩ := ih2 (j + 1) (by omega) (by omega) (fun k hk hh => by
            by_cases e : k = j
            · subst e; exact absurd hh c1
            · exact hq k (by omega) hh)
          refine ⟨v, ?_, hv2⟩
          apply Ev.succ
          simp only [semblanceref31_Finer.l1, h1, h1b, h2, h3, h4, h5, h6, c1, if_true, if_false]
          rw [wrap_succ (by omega)]
          exact hv
    obtain ⟨v, hv, hv2⟩ := inner i 0 (by omega) (by omega) (fun k hk => absurd hk (by omega))
    refine ⟨v, ?_, hv2⟩
    apply Ev.succ
    simp only [semblanceref31_Finer.l0, h1, if_true]
    exact hv
theorem rfiner {a b : List Int} (hl : a.length ≤ 100000) (hb : a.length = b.length) : ∃ v, Ev (fun n => semblanceref31_Finer.f n a b) v ∧ (v = true ↔ FinerP a b) :=
  rfiner_l hl hb a.length 0 (by omega) (by omega) (fun i' k hk hi' => absurd hi' (by omega))
theorem rd_get {l : List Int} {i : Nat} (h : i < l.length) : rd l (i : Int) = l[i] := by simp [rd, h]
theorem pairs_finer {p q : List Int} (hl : p.length = q.length) : (∀ x ∈ p.zip q, ∀ y ∈ p.zip q, x.1 = y.1 → x.2 = y.2) ↔ FinerP p q := by
  constructor
  · intro h i k hk hi he
    have h1 : i < (p.zip q).length := by rw [List.length_zip]; omega
    have h2 : k < (p.zip q).length := by rw [List.length_zip]; omega
    have := h _ (List.getElem_mem h1) _ (List.getElem_mem h2)
    rw [List.getElem_zip, List.getElem_zip] at this
    rw [rd_get (by omega), rd_get (by omega)] at he ⊢
    exact this he
  · intro h x hx y hy he
    obtain ⟨i, hi, rfl⟩ := List.getElem_of_mem hx
    obtain ⟨k, hk, rfl⟩ := List.getElem_of_mem hy
    rw [List.length_zip] at hi hk
    rw [List.getElem_zip, List.getElem_zip] at he ⊢
    simp only at he ⊢
    rcases Nat.lt_trichotomy i k with hlt | rfl | hlt
    · have := h k i hlt (by omega)
      rw [rd_get (by omega), rd_get (by omega), rd_get (by omega), rd_get (by omega)] at this
      exact (this he.symm).symm
    · rfl
    · have := h i k hlt (by omega)
      rw [rd_get (by omega), rd_get (by omega), rd_get (by omega), rd_get (by omega)] at this
      exact this he
theorem pfiner {p q : List Int} (hl : p.length = q.length) (h1 : p.length ≤ 100000) (hp : Wf p) (hq : Wf q) : ∃ v, Ev (fun n => part_Finer.f n p q) v ∧ (v = true ↔ FinerP p q) := by
  have hz : (p.zip q).length = p.length := by rw [List.length_zip]; omega
  refine ⟨((met (numF (p.zip q))).length : Int) == ((met p).length : Int), ?_, ?_⟩
  · unfold part_Finer.f
    rw [meet_f hl (by omega) hp hq]
    simp only [Option.bind_some, if_true]
    exact Ev.bind (count_f (by rw [numF_length]; omega) (numF_wf (by omega))) (Ev.bind (count_f h1 hp) (Ev.now _))
  · rw [(run_numF (p.zip q)).1, beq_iff_eq, ← pairs_finer hl, ← met_pairs, List.map_fst_zip (by omega)]
    unfold firsts
    rw [List.length_map, List.length_range]
    omega
theorem pfiner_ne {p q : List Int} (hl : p.length ≠ q.length) : Ev (fun n => part_Finer.f n p q) false := by
  unfold part_Finer.f
  rw [meet_ne hl]
  exact Ev.now _
theorem equal_self (xs : List Int) (hx : xs.length ≤ 100000) : ∀ (d n : Nat), xs.length - n = d → n ≤ xs.length → Ev (fun k => slices_Equal_int_int.l0 k xs xs (xs.length : Int) n) true := by
  intro d
  induction d with
  | zero =>
    intro n hd hn
    have h1 : ¬ ((n : Int) < (xs.length : Int)) := by omega
    apply Ev.succ
    simp only [slices_Equal_int_int.l0, h1, if_false]
    exact Ev.now _
  | succ d ih =>
    intro n hd hn
    have h1 : (n : Int) < (xs.length : Int) := by omega
    have h2 : (0 : Int) ≤ (n : Int) := by omega
    apply Ev.succ
    simp only [slices_Equal_int_int.l0, h1, h2, if_true]
    rw [wrap_succ (by omega)]
    exact ih (n + 1) (by omega) (by omega)
theorem is_f {l : List Int} (hl : l.length ≤ 100000) (hw : Wf l) (h : numF l = l) : Ev (fun k => part_Is.f k l) true := by
  unfold part_Is.f
  rw [plain_f (by omega) hw, h]
  refine Ev.bind (a := true) ?_ (Ev.now _)
  simp only [slices_Equal_int_int.f, if_true]
  exact equal_self l hl l.length 0 (by omega) (by omega)

end Go.Proofs.Ytjlegibfeenglaa.XP
