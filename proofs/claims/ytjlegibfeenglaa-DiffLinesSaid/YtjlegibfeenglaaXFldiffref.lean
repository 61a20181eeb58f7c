import Derived.Test.YtjlegibfeenglaaXFind
import Derived.Test.YtjlegibfeenglaaXFldiff
import Derived.Test.YtjlegibfeenglaaXFo
import Derived.Test.YtjlegibfeenglaaXFp10
import Derived.Test.YtjlegibfeenglaaXFp6
import Derived.Test.YtjlegibfeenglaaXFuel
namespace Go.Proofs.Ytjlegibfeenglaa.XF
open Go.RowKit Go.Proofs.Ytjlegibfeenglaa.XRead Go.Proofs.Ytjlegibfeenglaa.XF Go.Proofs.YtjlegibfeenglaaW.PrintWords Go.Proofs.YtjlegibfeenglaaW.PrintLast Go.Proofs.YtjlegibfeenglaaW.PrintMore
open Go.Proofs.Ytjlegibfeenglaa.XFuel Go.Proofs.Ytjlegibfeenglaa.XFind
set_option linter.unusedVariables false
set_option linter.unusedSimpArgs false
theorem rabove_f (a0 : ByteArray) (a1 : List ByteArray) (a2 : List (S95)) (l : List (S99)) (i : Int) (hi0 : 0 ≤ i) (hi1 : i < (l.length : Int)) : semblanceref53_above.f a0 a1 a2 l i = some (aboveB l (rd_T99 l i).f2) := by
  unfold semblanceref53_above.f aboveB
  simp only [hi0, hi1, if_true]
  generalize (rd_T99 l i).f2 = p
  by_cases h0 : p < 0
  · simp only [h0, if_true]
  · by_cases h1 : p ≥ (l.length : Int)
    · simp only [h0, h1, if_true, if_false]
    · have h2 : 0 ≤ p := by omega
      have h3 : p < (l.length : Int) := by omega
      simp only [h0, h1, h2, h3, if_true, if_false]
theorem place_ex (l : List (S99)) (s : ByteArray) (hl : l.length ≤ 9223372036854775807) (x : ByteArray) (x1 : List ByteArray) (x2 : List (S95)) : ∀ (d n : Nat), l.length - n = d → n ≤ l.length → (∀ j : Nat, j < n → diff_find.p s (l.getD j z99) = false) →
    Ev (fun k => semblanceref17_Place.l0 k s n x x1 x2 l) (diff_find.i l s) := by
  unfold diff_find.i
  intro d
  induction d with
  | zero =>
    intro n hd hn hp
    have h1 : ¬ ((n : Int) < (l.length : Int)) := by omega
    rw [idxF_miss (diff_find.p s) l z99 (fun j hj => hp j (by omega))]
    apply Ev.succ
    simp only [semblanceref17_Place.l0, h1, if_false]
    exact Ev.now _
  | succ d ih =>
    intro n hd hn hp
    have h1 : (n : Int) < (l.length : Int) := by omega
    have h2 : (0 : Int) ≤ (n : Int) := by omega
    have hr : rd_T99 l (n : Int) = l.getD n z99 := by unfold rd_T99; rw [Int.toNat_natCast]
    by_cases h : (l.getD n z99).f0.toList = s.toList
    · have hh : diff_find.p s (l.getD n z99) = true := decide_eq_true h
      rw [idxF_hit (diff_find.p s) l z99 n (by omega) hh hp]
      apply Ev.succ
      simp only [semblanceref17_Place.l0, h1, h2, hr, h, if_true]
      exact Ev.now _
    · have hh : diff_find.p s (l.getD n z99) = false := decide_eq_false h
      apply Ev.succ
      simp only [semblanceref17_Place.l0, h1, h2, hr, h, if_true, if_false]
      rw [wrap_succ (by omega)]
      refine ih (n + 1) (by omega) (by omega) (fun j hj => ?_)
      by_cases e : j = n
      · subst e; exact hh
      · exact hp j (by omega)
theorem place_f (l : List (S99)) (s : ByteArray) (hl : l.length ≤ 9223372036854775807) (x : ByteArray) (x1 : List ByteArray) (x2 : List (S95)) : Ev (fun k => semblanceref17_Place.f k x x1 x2 l s) (diff_find.i l s) :=
  place_ex l s hl x x1 x2 l.length 0 (by omega) (by omega) (fun j hj => absurd hj (Nat.not_lt_zero _))

end Go.Proofs.Ytjlegibfeenglaa.XF
