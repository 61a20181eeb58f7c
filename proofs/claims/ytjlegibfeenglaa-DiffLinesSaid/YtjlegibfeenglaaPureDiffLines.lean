/-
  In what any two charts differ, for all charts: the document's lines, and charts are the same just if there are none.
  Conditions: none but the given statement's own.
-/
import Derived.Test.YtjlegibfeenglaaXFind
import Derived.Test.YtjlegibfeenglaaXFldiff
import Derived.Test.YtjlegibfeenglaaXFldiffref
import Derived.Test.YtjlegibfeenglaaXFldifftot
import Derived.Test.YtjlegibfeenglaaXFo
import Derived.Test.YtjlegibfeenglaaXFp13
import Derived.Test.YtjlegibfeenglaaXFp14
import Derived.Test.YtjlegibfeenglaaXFp6
import Derived.Test.YtjlegibfeenglaaXFuel
namespace Go.Proofs.Ytjlegibfeenglaa.Pure
open Go.RowKit Go.Proofs.Ytjlegibfeenglaa.XRead Go.Proofs.Ytjlegibfeenglaa.XF Go.Proofs.YtjlegibfeenglaaW.PrintWords Go.Proofs.YtjlegibfeenglaaW.PrintLast Go.Proofs.YtjlegibfeenglaaW.PrintMore
open Go.Proofs.Ytjlegibfeenglaa.XFuel Go.Proofs.Ytjlegibfeenglaa.XFind
set_option linter.unusedVariables false
set_option linter.unusedSimpArgs false
theorem find_lt (l : List (S99)) (n : ByteArray) : diff_find.i l n < (l.length : Int) := by
  unfold diff_find.i idxF
  cases hf : l.findIdx? (diff_find.p n) with
  | none => simp only; omega
  | some j =>
    obtain ⟨hj, _⟩ := List.findIdx?_eq_some_iff_getElem.mp hf
    simp only; omega
theorem rl2_f (a0 : ByteArray) (a1 : List ByteArray) (a2 : List (S95)) (a3 : List (S99)) (b0 : ByteArray) (b1 : List ByteArray) (b2 : List (S95)) (b3 : List (S99))
    (h3 : a3.length ≤ 9223372036854775807) (h4 : b3.length * 104 ≤ 140737488351232) (hB : ∀ x ∈ b3, F99 x) (out : List ByteArray) (ho : out.length + b3.length ≤ 8796093022208) :
    Ev (fun k => semblanceref53_Lines.l2 k out 0 a0 a1 a2 a3 b0 b1 b2 b3) (out ++ (List.range b3.length).flatMap (row2 a3 b3)) := by
  refine ev_rows0 (L := fun k out n => semblanceref53_Lines.l2 k out n a0 a1 a2 a3 b0 b1 b2 b3) (row2 a3 b3) b3.length 8796093022208 (row2_one a3 b3) ?_ _ _ ho ?_
  · intro n hn out ho r h
    have g1 : (n : Int) < (b3.length : Int) := by omega
    have g2 : (0 : Int) ≤ (n : Int) := by omega
    have hz : rd_T99 b3 (n : Int) = b3.getD n z99 := by unfold rd_T99; rw [Int.toNat_natCast]
    have hs := size_ok (getF hB hn).1
    apply Ev.succ
    simp only [semblanceref53_Lines.l2, g1, g2, if_true, hz]
    unfold row2 at h
    generalize b3.getD n z99 = s at *
    refine Ev.bind (place_f a3 s.f0 h3 a0 a1 a2) ?_
    by_cases hi : diff_find.i a3 s.f0 < 0
    · simp only [hi, if_true] at h
      simp only [hi, hs, ho, if_true]
      rw [wrap_succ (by omega)]
      exact h
    · simp only [hi, if_false, List.append_nil] at h
      simp only [hi, if_false]
      rw [wrap_succ (by omega)]
      exact h
  · apply Ev.succ
    simp only [semblanceref53_Lines.l2, Int.lt_irrefl, if_false]
    exact Ev.now _
theorem rl1_f (a0 : ByteArray) (a1 : List ByteArray) (a2 : List (S95)) (a3 : List (S99)) (b0 : ByteArray) (b1 : List ByteArray) (b2 : List (S95)) (b3 : List (S99))
    (h3 : a3.length * 104 ≤ 140737488351232) (h4 : b3.length * 104 ≤ 140737488351232) (hA : ∀ x ∈ a3, F99 x) (hB : ∀ x ∈ b3, F99 x) (out : List ByteArray) (ho : out.length ≤ 3) :
    Ev (fun k => semblanceref53_Lines.l1 k out 0 a0 a1 a2 a3 b0 b1 b2 b3) (out ++ (List.range a3.length).flatMap (row1 a3 b3) ++ (List.range b3.length).flatMap (row2 a3 b3)) := by
  have hr := rows_len (row1 a3 b3) (row1_one a3 b3) (List.range a3.length)
  rw [List.length_range] at hr
  refine ev_rows0 (L := fun k out n => semblanceref53_Lines.l1 k out n a0 a1 a2 a3 b0 b1 b2 b3) (row1 a3 b3) a3.length 8796093022208 (row1_one a3 b3) ?_ _ _ (by omega) ?_
  · intro n hn out ho r h
    have g1 : (n : Int) < (a3.length : Int) := by omega
    have g2 : (0 : Int) ≤ (n : Int) := by omega
    have hz : rd_T99 a3 (n : Int) = a3.getD n z99 := by unfold rd_T99; rw [Int.toNat_natCast]
    have hf := getF hA hn
    have hs := size_ok hf.1
    have hab := rabove_f a0 a1 a2 a3 (n : Int) g2 g1
    rw [hz] at hab
    apply Ev.succ
    simp only [semblanceref53_Lines.l1, g1, g2, if_true, hz, hab, Option.bind_some]
    clear hab
    unfold row1 at h
    generalize a3.getD n z99 = s at *
    refine Ev.bind (place_f b3 s.f0 (by omega) b0 b1 b2) ?_
    by_cases hi : diff_find.i b3 s.f0 < 0
    · simp only [hi, if_true] at h
      simp only [hi, hs, ho, if_true]
      rw [wrap_succ (by omega)]
      exact h
    · have hi0 : 0 ≤ diff_find.i b3 s.f0 := by omega
      have hlt : diff_find.i b3 s.f0 < (b3.length : Int) := find_lt b3 s.f0
      have hy : rd_T99 b3 (diff_find.i b3 s.f0) = b3.getD (diff_find.i b3 s.f0).toNat z99 := by unfold rd_T99; rfl
      have hbb := rabove_f b0 b1 b2 b3 (diff_find.i b3 s.f0) hi0 hlt
      rw [hy] at hbb
      simp only [hi, if_false] at h
      simp only [hi, hi0, hlt, if_true, if_false, hy, hbb, Option.bind_some, hs, ho]
      clear hbb hy
      generalize b3.getD (diff_find.i b3 s.f0).toNat z99 = t at *
      rw [wrap_succ (by omega)]
      have m3 := acts_f s.f3 t.f3 (by have := hf.2.2.2.1.1; omega) hf.2.2.2.1.2
      have m4 := acts_f s.f4 t.f4 (by have := hf.2.2.2.2.1.1; omega) hf.2.2.2.2.1.2
      have m5 := all_f s.f5 t.f5 (by have := hf.2.2.2.2.2.1; omega) hf.2.2.2.2.2.2
      unfold alikeB at h
      by_cases q0 : s.f1 = t.f1
      · by_cases q1 : (aboveB a3 s.f2).toList = (aboveB b3 t.f2).toList
        · simp only [q0, q1, if_true, decide_true, Bool.true_and] at h ⊢
          refine Ev.bind m3 ?_
          cases q3 : eqAs s.f3 t.f3 with
          | false =>
            simp only [q3, Bool.false_and, Bool.false_eq_true, if_false] at h ⊢
            exact h
          | true =>
            simp only [q3, Bool.true_and, if_true] at h ⊢
            refine Ev.bind m4 ?_
            cases q4 : eqAs s.f4 t.f4 with
            | false =>
              simp only [q4, Bool.false_and, Bool.false_eq_true, if_false] at h ⊢
              exact h
            | true =>
              simp only [q4, Bool.true_and, if_true] at h ⊢
              refine Ev.bind m5 ?_
              cases q5 : eqTrs s.f5 t.f5 with
              | false =>
                simp only [q5, Bool.false_eq_true, if_false] at h ⊢
                exact h
              | true =>
                simp only [q5, if_true, List.append_nil] at h ⊢
                exact h
        · simp only [q0, q1, if_true, if_false, decide_true, decide_false, Bool.true_and, Bool.false_and, Bool.false_eq_true] at h ⊢
          exact h
      · simp only [q0, if_false, decide_false, Bool.false_and, Bool.false_eq_true] at h ⊢
        exact h
  · apply Ev.succ
    simp only [semblanceref53_Lines.l1, Int.lt_irrefl, if_false]
    exact rl2_f a0 a1 a2 a3 b0 b1 b2 b3 (by omega) h4 hB _ (by rw [List.length_append]; omega)
theorem rlines_f (a0 : ByteArray) (a1 : List ByteArray) (a2 : List (S95)) (a3 : List (S99)) (b0 : ByteArray) (b1 : List ByteArray) (b2 : List (S95)) (b3 : List (S99))
    (h1 : a1.length ≤ 9223372036854775807) (h2 : a2.length ≤ 9223372036854775807) (h3 : a3.length * 104 ≤ 140737488351232) (h4 : b3.length * 104 ≤ 140737488351232) (hA : ∀ x ∈ a3, F99 x) (hB : ∀ x ∈ b3, F99 x) :
    Ev (fun k => semblanceref53_Lines.f k a0 a1 a2 a3 b0 b1 b2 b3) (linesB a0 a1 a2 a3 b0 b1 b2 b3) := by
  have hj4 : ∀ out : List ByteArray, out.length ≤ 3 → Ev (fun k => semblanceref53_Lines.j4 k out a0 a1 a2 a3 b0 b1 b2 b3) (out ++ (List.range a3.length).flatMap (row1 a3 b3) ++ (List.range b3.length).flatMap (row2 a3 b3)) := by
    intro out ho
    apply Ev.succ
    simp only [semblanceref53_Lines.j4]
    exact rl1_f a0 a1 a2 a3 b0 b1 b2 b3 h3 h4 hA hB out ho
  have hj3 : ∀ (out : List ByteArray) (v : Bool), out.length ≤ 2 → Ev (fun k => semblanceref53_Lines.j3 k out v a0 a1 a2 a3 b0 b1 b2 b3) ((out ++ (if v = true then [] else [⟨#[118, 97, 114, 115]⟩])) ++ (List.range a3.length).flatMap (row1 a3 b3) ++ (List.range b3.length).flatMap (row2 a3 b3)) := by
    intro out v ho
    have c1 : out.length < 8796093022208 := by omega
    apply Ev.succ
    cases v with
    | true =>
      simp only [semblanceref53_Lines.j3, if_true, List.append_nil]
      exact hj4 out (by omega)
    | false =>
      simp only [semblanceref53_Lines.j3, Bool.false_eq_true, if_false, c1, if_true]
      exact hj4 _ (by rw [List.length_append, List.length_singleton]; omega)
  have hl0 : ∀ out : List ByteArray, out.length ≤ 2 → Ev (fun k => semblanceref53_Lines.l0 k out ((a2.length : Int) == (b2.length : Int)) 0 a0 a1 a2 a3 b0 b1 b2 b3) ((out ++ (if eqVs a2 b2 = true then [] else [⟨#[118, 97, 114, 115]⟩])) ++ (List.range a3.length).flatMap (row1 a3 b3) ++ (List.range b3.length).flatMap (row2 a3 b3)) := by
    intro out ho
    unfold eqVs
    by_cases he : a2.length = b2.length
    · have he' : ((a2.length : Int) == (b2.length : Int)) = true := by rw [he]; simp
      rw [decide_eq_true he, Bool.true_and]
      simp only [he']
      have hgo : ∀ d n (v : Bool), a2.length - n = d → n ≤ a2.length → Ev (fun k => semblanceref53_Lines.l0 k out v (n : Int) a0 a1 a2 a3 b0 b1 b2 b3) ((out ++ (if (v && ((List.range a2.length).drop n).all fun j => eqV (a2.getD j z95) (b2.getD j z95)) = true then [] else [⟨#[118, 97, 114, 115]⟩])) ++ (List.range a3.length).flatMap (row1 a3 b3) ++ (List.range b3.length).flatMap (row2 a3 b3)) := by
        intro d
        induction d with
        | zero =>
          intro n v hd hn
          obtain rfl : n = a2.length := by omega
          rw [List.drop_of_length_le (by simp), List.all_nil, Bool.and_true]
          apply Ev.succ
          simp only [semblanceref53_Lines.l0, Int.lt_irrefl, if_false]
          exact hj3 out v ho
        | succ d ih =>
          intro n v hd hn
          have g1 : (n : Int) < (a2.length : Int) := by omega
          have g2 : (0 : Int) ≤ (n : Int) := by omega
          have g3 : (n : Int) < (b2.length : Int) := by omega
          apply Ev.succ
          cases v with
          | false =>
            simp only [semblanceref53_Lines.l0, g1, if_true, Bool.false_eq_true, if_false, Bool.false_and]
            exact hj3 out false ho
          | true =>
            have r0 : rd_T95 a2 (n : Int) = a2.getD n z95 := by unfold rd_T95; rw [Int.toNat_natCast]
            have r1 : rd_T95 b2 (n : Int) = b2.getD n z95 := by unfold rd_T95; rw [Int.toNat_natCast]
            have hn1 := ih (n + 1) (eqV (a2.getD n z95) (b2.getD n z95)) (by omega) (by omega)
            rw [drop_all _ _ _ (by omega), Bool.true_and]
            simp only [semblanceref53_Lines.l0, g1, g2, g3, if_true, r0, r1]
            rw [wrap_succ (by omega)]
            exact hn1
      have := hgo a2.length 0 true (by omega) (by omega)
      rw [List.drop_zero, Bool.true_and] at this
      exact this
    · have he' : ((a2.length : Int) == (b2.length : Int)) = false := by rw [beq_eq_false_iff_ne]; omega
      rw [decide_eq_false he, Bool.false_and]
      simp only [he']
      apply Ev.succ
      by_cases g1 : (0 : Int) < (a2.length : Int)
      · simp only [semblanceref53_Lines.l0, g1, if_true, Bool.false_eq_true, if_false]
        exact hj3 out false ho
      · simp only [semblanceref53_Lines.l0, g1, Bool.false_eq_true, if_false]
        exact hj3 out false ho
  have hj1 : ∀ out : List ByteArray, out.length ≤ 2 → Ev (fun k => semblanceref53_Lines.j1 k out a0 a1 a2 a3 b0 b1 b2 b3) ((out ++ (if eqVs a2 b2 = true then [] else [⟨#[118, 97, 114, 115]⟩])) ++ (List.range a3.length).flatMap (row1 a3 b3) ++ (List.range b3.length).flatMap (row2 a3 b3)) := by
    intro out ho
    apply Ev.succ
    simp only [semblanceref53_Lines.j1]
    exact hl0 out ho
  have hj0 : ∀ out : List ByteArray, out.length ≤ 1 → Ev (fun k => semblanceref53_Lines.j0 k out a0 a1 a2 a3 b0 b1 b2 b3) ((out ++ (if eqS a1 b1 = true then [] else [⟨#[101, 118, 101, 110, 116, 115]⟩]) ++ (if eqVs a2 b2 = true then [] else [⟨#[118, 97, 114, 115]⟩])) ++ (List.range a3.length).flatMap (row1 a3 b3) ++ (List.range b3.length).flatMap (row2 a3 b3)) := by
    intro out ho
    have c1 : out.length < 8796093022208 := by omega
    apply Ev.succ
    simp only [semblanceref53_Lines.j0]
    refine Ev.bind (texts_f a1 b1 h1) ?_
    by_cases q1 : eqS a1 b1 = true
    · simp only [q1, if_true, List.append_nil]
      exact hj1 out (by omega)
    · simp only [q1, c1, if_true, if_false]
      exact hj1 _ (by rw [List.length_append, List.length_singleton]; omega)
  unfold linesB headsB
  by_cases h0 : a0.toList = b0.toList
  · simp only [semblanceref53_Lines.f, Option.bind_some, h0, if_true]
    exact hj0 [] (by simp)
  · have c0 : ([] : List ByteArray).length < 8796093022208 := by simp
    simp only [semblanceref53_Lines.f, Option.bind_some, h0, c0, if_true, if_false]
    exact hj0 ([] ++ [⟨#[110, 97, 109, 101]⟩]) (by simp)
theorem lines_len (a0 : ByteArray) (a1 : List ByteArray) (a2 : List (S95)) (a3 : List (S99)) (b0 : ByteArray) (b1 : List ByteArray) (b2 : List (S95)) (b3 : List (S99))
    (h3 : a3.length * 104 ≤ 140737488351232) (h4 : b3.length * 104 ≤ 140737488351232) : (linesB a0 a1 a2 a3 b0 b1 b2 b3).length ≤ 9223372036854775807 := by
  have hh := heads_len a0 a1 a2 b0 b1 b2
  have hr := rows_len (row1 a3 b3) (row1_one a3 b3) (List.range a3.length)
  have hq := rows_len (row2 a3 b3) (row2_one a3 b3) (List.range b3.length)
  rw [List.length_range] at hr hq
  unfold linesB
  rw [List.length_append, List.length_append]
  omega
theorem DiffLines : ∀ (a0_0 : ByteArray) (l0_1 : List ByteArray) (l0_2 : List (S95)) (l0_3 : List (S99)) (a1_0 : ByteArray) (l1_1 : List ByteArray) (l1_2 : List (S95)) (l1_3 : List (S99)), (F59 (⟨a0_0, l0_1, l0_2, l0_3⟩ : S59)) → (F59 (⟨a1_0, l1_1, l1_2, l1_3⟩ : S59)) → ∃ k, semblancelaw53_DiffLines.f k a0_0 l0_1 l0_2 l0_3 a1_0 l1_1 l1_2 l1_3 = some true := by
  intro a0 a1 a2 a3 b0 b1 b2 b3 hA hB
  have hA' : F59 ⟨a0, a1, a2, a3⟩ := hA
  have hB' : F59 ⟨b0, b1, b2, b3⟩ := hB
  obtain ⟨_, ⟨p1, _⟩, ⟨p2, _⟩, p3, pF⟩ := hA'
  obtain ⟨_, ⟨q1, _⟩, ⟨q2, _⟩, q3, qF⟩ := hB'
  simp only at p1 p2 p3 pF q1 q2 q3 qF
  have hj : Ev (fun k => semblancelaw53_DiffLines.j0 k true a0 a1 a2 a3 b0 b1 b2 b3) true := by
    apply Ev.succ
    simp only [semblancelaw53_DiffLines.j0, if_true]
    exact Ev.bind awake53 (Ev.now _)
  suffices hev : Ev (fun k => semblancelaw53_DiffLines.f k a0 a1 a2 a3 b0 b1 b2 b3) true by
    obtain ⟨K, hK⟩ := hev
    exact ⟨K, hK K (Nat.le_refl _)⟩
  obtain ⟨la, hla⟩ := light_tot a0 a1 a2 a3 (by omega) (by omega) (by omega) pF
  obtain ⟨lb, hlb⟩ := light_tot b0 b1 b2 b3 (by omega) (by omega) (by omega) qF
  unfold semblancelaw53_DiffLines.f
  refine Ev.bind hla ?_
  cases la with
  | false =>
    simp only [Bool.false_eq_true, if_false]
    exact hj
  | true =>
    simp only [if_true]
    refine Ev.bind hlb ?_
    cases lb with
    | false => exact hj
    | true =>
      apply Ev.succ
      simp only [semblancelaw53_DiffLines.j0, Bool.not_true, Bool.false_eq_true, if_false]
      refine Ev.bind (lines_f a0 a1 a2 a3 b0 b1 b2 b3 (by omega) (by omega) p3 q3 pF qF) ?_
      refine Ev.bind (rlines_f a0 a1 a2 a3 b0 b1 b2 b3 (by omega) (by omega) p3 q3 pF qF) ?_
      have ht := texts_f (linesB a0 a1 a2 a3 b0 b1 b2 b3) (linesB a0 a1 a2 a3 b0 b1 b2 b3) (lines_len a0 a1 a2 a3 b0 b1 b2 b3 p3 q3)
      rw [eqS_self] at ht
      refine Ev.bind ht ?_
      simp only [if_true]
      refine Ev.bind (dsame_f a0 a1 a2 a3 b0 b1 b2 b3 (by omega) (by omega) p3 q3 pF qF) ?_
      simp only [beq_self_eq_true, if_true]
      exact Ev.bind awake53 (Ev.now _)

end Go.Proofs.Ytjlegibfeenglaa.Pure
