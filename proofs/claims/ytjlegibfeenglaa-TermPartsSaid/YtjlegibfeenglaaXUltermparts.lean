import Derived.Test.YtjlegibfeenglaaXFuel
import Derived.Test.YtjlegibfeenglaaXTermPlain
import Derived.Test.YtjlegibfeenglaaXUlnames
import Derived.Test.YtjlegibfeenglaaXUlterm
import Derived.Test.YtjlegibfeenglaaXUltermcheck
import Derived.Test.YtjlegibfeenglaaXUltermfold
import Derived.Test.YtjlegibfeenglaaXUltermlight
import Derived.Test.YtjlegibfeenglaaXUo
import Derived.Test.YtjlegibfeenglaaXUp7
namespace Go.Proofs.Ytjlegibfeenglaa.XU
open Go.RowKit Go.Proofs.Ytjlegibfeenglaa.XRead Go.Proofs.Ytjlegibfeenglaa.XU Go.Proofs.YtjlegibfeenglaaW.PrintWords Go.Proofs.YtjlegibfeenglaaW.PrintLast Go.Proofs.YtjlegibfeenglaaW.PrintMore
open Go.Proofs.Ytjlegibfeenglaa.TermPlain Go.Proofs.Ytjlegibfeenglaa.XFuel
set_option linter.unusedVariables false
set_option linter.unusedSimpArgs false
theorem mx_upper (xs : List Int) : ∀ (m B : Int), m ≤ B → (∀ x ∈ xs, x ≤ B) → xs.foldl mx m ≤ B := by
  induction xs with
  | nil => intro m B h _; exact h
  | cons y xs ih =>
    intro m B h hx
    rw [List.foldl_cons]
    refine ih _ _ ?_ (fun x h => hx x (List.mem_cons_of_mem _ h))
    have := hx y List.mem_cons_self
    unfold mx; split <;> omega
theorem mx_lower (xs : List Int) : ∀ (m : Int), m ≤ xs.foldl mx m ∧ ∀ x ∈ xs, x ≤ xs.foldl mx m := by
  induction xs with
  | nil => intro m; exact ⟨Int.le_refl _, fun x h => by cases h⟩
  | cons y xs ih =>
    intro m
    rw [List.foldl_cons]
    have h := ih (mx m y)
    have h1 : m ≤ mx m y ∧ y ≤ mx m y := by unfold mx; split <;> omega
    refine ⟨Int.le_trans h1.1 h.1, fun x hx => ?_⟩
    rcases List.mem_cons.1 hx with rfl | hx
    · exact Int.le_trans h1.2 h.1
    · exact h.2 x hx
theorem depth_bound (l : List (S117)) (hl : l.length ≤ 40) (hw : E (aOf l) l.length 0 = some l.length) : ∀ (d i : Nat), l.length - i ≤ d → i < l.length →
    1 ≤ vI l MKd i ∧ vI l MKd i ≤ l.length - i ∧ ∀ j ∈ bl (aOf l) l.length i, vI l MKd j < vI l MKd i := by
  intro d
  induction d with
  | zero => intro i hd hi; omega
  | succ d ih =>
    intro i hd hi
    obtain ⟨e, he⟩ := all_end hw i hi
    have hval : vI l MKd i = wrap64 (((bl (aOf l) l.length i).map (vI l MKd)).foldl mx 0 + 1) := val_eq hi
    have hin : ∀ x ∈ (bl (aOf l) l.length i).map (vI l MKd), x ≤ (l.length : Int) - i - 1 := by
      intro x hx
      obtain ⟨j, hj, rfl⟩ := List.mem_map.1 hx
      have h1 := bl_end he hj
      have := (ih j (by omega) h1.2.1).2.1
      omega
    have hup := mx_upper _ 0 _ (by omega) hin
    have hlo := mx_lower ((bl (aOf l) l.length i).map (vI l MKd)) 0
    rw [wrap_in (by omega) (by omega)] at hval
    rw [hval]
    refine ⟨by omega, by omega, fun j hj => ?_⟩
    have := hlo.2 _ (List.mem_map_of_mem hj)
    omega
theorem opOf_sub (l : List (S117)) (n f j : Nat) (h1 : n ≤ j) (h2 : j < f) : opOf ((l.take f).drop n) (j - n) = opOf l j := by
  unfold opOf
  congr 1
  simp only [rd_T117, Int.toNat_natCast, List.getD_eq_getElem?_getD, List.getElem?_drop, List.getElem?_take]
  rw [show n + (j - n) = j by omega, if_pos h2]
theorem parts_loop (l : List (S117)) (hl : l.length ≤ 40) (hw : E (aOf l) l.length 0 = some l.length) (hm : l.any (fun x => !mayB x.f0 x.f1 x.f2) = false) (hd : vI l MKd 0 ≤ 12) :
    ∀ (q m n : Nat), m + q = (bl (aOf l) l.length 0).length → (bl (aOf l) l.length 0).drop m = starts (aOf l) l.length q n → sc (aOf l) l.length n q = some l.length →
    Ev (fun k => semblancelaw05_TermParts.l0 k l n (blI l 0) m) true := by
  have h0 := E_lt hw
  have hbl2 : (bl (aOf l) l.length 0).length ≤ 2 := by
    unfold bl
    rw [starts_length]
    have : aOf l 0 = ar (opOf l 0) := rfl
    have := ar_le (opOf l 0)
    omega
  have hbl : (blI l 0).length = (bl (aOf l) l.length 0).length := by unfold blI; rw [List.length_map]
  intro q
  induction q with
  | zero =>
    intro m n hq hs hsc
    rw [sc_zero] at hsc
    obtain rfl := Option.some.inj hsc
    have h1 : ¬ ((m : Int) < ((blI l 0).length : Int)) := by omega
    apply Ev.succ
    simp only [semblancelaw05_TermParts.l0, h1, if_true, if_false]
    exact Ev.bind awake_ev (Ev.now _)
  | succ q ih =>
    intro m n hq hs hsc
    have hg : m < (bl (aOf l) l.length 0).length := by omega
    rw [sc_succ] at hsc
    obtain ⟨f, hf, hsc⟩ := Option.bind_eq_some_iff.mp hsc
    have hnf := E_lt hf
    rw [List.drop_eq_getElem_cons hg, starts, hf, Option.getD_some] at hs
    obtain ⟨hn, hs⟩ := List.cons.inj hs
    have hmem : n ∈ bl (aOf l) l.length 0 := hn ▸ List.getElem_mem hg
    have hr : rd (blI l 0) (m : Int) = (n : Int) := by
      unfold blI
      simp [rd, hg, hn]
    have h1 : (m : Int) < ((blI l 0).length : Int) := by omega
    have h2 : (0 : Int) ≤ (m : Int) := by omega
    have h3 : ¬ ((f : Int) ≤ (n : Int)) := by omega
    have h4 : ¬ ((f : Int) > (l.length : Int)) := by omega
    have h5 : (0 : Int) ≤ (n : Int) := by omega
    have h6 : (n : Int) ≤ (f : Int) := by omega
    have h7 : (f : Int) ≤ (l.length : Int) := by omega
    -- the part by itself
    have hlen : ((l.take f).drop n).length = f - n := by rw [List.length_drop, List.length_take]; omega
    have hop : ∀ j, n ≤ j → j < f → aOf ((l.take f).drop n) (j - n) = aOf l j := fun j h1 h2 => by unfold aOf; rw [opOf_sub l n f j h1 h2]
    have hE : E (aOf ((l.take f).drop n)) ((l.take f).drop n).length 0 = some ((l.take f).drop n).length := by
      rw [hlen]
      have := E_shift hop (Nat.le_refl n) hf (Nat.le_refl f)
      rwa [Nat.sub_self] at this
    have hV : vI ((l.take f).drop n) MKd 0 = vI l MKd n := by
      have := val_shift (mk := mkV l MKd) (mk' := mkV ((l.take f).drop n) MKd) hop (fun j vs h1 h2 => by unfold mkV; rw [opOf_sub l n f j h1 h2]) _ n f (Nat.le_refl _) (Nat.le_refl n) hf (Nat.le_refl f)
      rw [Nat.sub_self] at this
      unfold vI
      rw [hlen]
      exact this
    have hlt : vI l MKd n < vI l MKd 0 := (depth_bound l hl hw _ 0 (Nat.le_refl _) (by omega)).2.2 n hmem
    have hchk : chk ((l.take f).drop n) = 0 := by
      unfold chk
      rw [if_neg (by omega), if_pos hE, if_neg, if_neg (by omega)]
      rw [List.any_eq_true]
      rintro ⟨x, hx, hb⟩
      have : l.any (fun x => !mayB x.f0 x.f1 x.f2) = true := List.any_eq_true.2 ⟨x, List.mem_of_mem_take (List.mem_of_mem_drop hx), hb⟩
      rw [hm] at this
      cases this
    apply Ev.succ
    simp only [semblancelaw05_TermParts.l0, h1, h2, hr, if_true]
    refine Ev.bind (end_prog_f l (by omega) n) ?_
    rw [EI_nat, hf]
    have ht : toI (some f) = (f : Int) := rfl
    simp only [ht, h3, h4, h5, h6, h7, if_true, if_false, Int.toNat_natCast]
    refine Ev.bind (check_prog _) ?_
    simp only [hchk, if_true]
    refine Ev.bind (Ev.eq (fold_prog _ mk_depth) (if_pos ⟨by omega, hE⟩)) ?_
    refine Ev.bind (Ev.eq (fold_prog _ mk_depth) (if_pos ⟨hl, hw⟩)) ?_
    rw [hV]
    simp only [show ¬ (vI l MKd n ≥ vI l MKd 0) by omega, if_false]
    rw [wrap_succ (by omega)]
    exact ih (m + 1) f (by omega) hs hsc

end Go.Proofs.Ytjlegibfeenglaa.XU
