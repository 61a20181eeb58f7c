import Derived.Test.YtfpmbognpacidaaXBytes
import Derived.Test.YtfpmbognpacidaaXFind
import Derived.Test.YtfpmbognpacidaaXFuel
import Derived.Test.YtfpmbognpacidaaXNamesPlain
import Derived.Test.YtfpmbognpacidaaXUlnames
import Derived.Test.YtfpmbognpacidaaXUo
import Derived.Test.YtfpmbognpacidaaXUp2
import Derived.Test.YtfpmbognpacidaaXUp3
import Derived.Test.YtfpmbognpacidaaXUp6
namespace Go.Proofs.Ytfpmbognpacidaa.XU
open Go.RowKit Go.Proofs.Ytfpmbognpacidaa.XRead Go.Proofs.Ytfpmbognpacidaa.XU Go.Proofs.YtfpmbognpacidaaW.PrintWords Go.Proofs.YtfpmbognpacidaaW.PrintLast Go.Proofs.YtfpmbognpacidaaW.PrintMore
open Go.Proofs.Ytfpmbognpacidaa.XFuel Go.Proofs.Ytfpmbognpacidaa.XNamesPlain Go.Proofs.Ytfpmbognpacidaa.XBytes Go.Proofs.Ytfpmbognpacidaa.XFind
set_option linter.unusedVariables false
set_option linter.unusedSimpArgs false
/-! ### names: places, twins, unions -/
theorem tl_bts (x : ByteArray) : x.toList = bts x := tl_eq x
theorem bts_inj {x y : ByteArray} (h : bts x = bts y) : x = y := tl_inj (by rw [tl_bts, tl_bts, h])
theorem union_small : names_Union.f [(⟨#[98]⟩ : ByteArray), (⟨#[97]⟩ : ByteArray)] [(⟨#[97]⟩ : ByteArray), (⟨#[99]⟩ : ByteArray)] = some [(⟨#[97]⟩ : ByteArray), (⟨#[98]⟩ : ByteArray), (⟨#[99]⟩ : ByteArray)] := by
  unfold names_Union.f
  rw [if_pos ⟨by decide, by decide⟩]
  have h : unionL (([(⟨#[98]⟩ : ByteArray), (⟨#[97]⟩ : ByteArray)] ++ [(⟨#[97]⟩ : ByteArray), (⟨#[99]⟩ : ByteArray)]).map bts) = [[97], [98], [99]] := by
    refine strict_ext _ _ (unionL_strict _) (by decide) (fun x => (mem_unionL _ x).trans ?_)
    show x ∈ [[98], [97], [97], [99]] ↔ x ∈ [[97], [98], [99]]
    simp only [List.mem_cons, List.not_mem_nil, or_false]
    constructor
    · rintro (h | h | h | h) <;> simp [h]
    · rintro (h | h | h) <;> simp [h]
  unfold unionF
  rw [h]
  rfl
theorem awake02 : Ev (fun k => semblancelaw02_awake.f k) true := by
  refine Ev.of (fun k => semblancelaw02_awake.mono k) (k := 60) ?_
  unfold semblancelaw02_awake.f
  rw [union_small, Option.bind_some]
  decide +kernel
def hits (s : ByteArray) (x : ByteArray) : Bool := decide (bts x = bts s)
theorem place_ex (xs : List ByteArray) (s : ByteArray) (hx : xs.length ≤ 100000) : ∀ (d n : Nat), xs.length - n = d → n ≤ xs.length → (∀ j : Nat, j < n → hits s (xs.getD j ByteArray.empty) = false) →
    Ev (fun k => semblanceref02_Place.l0 k xs s n) (idxF (hits s) xs) := by
  intro d
  induction d with
  | zero =>
    intro n hd hn hp
    have h1 : ¬ ((n : Int) < (xs.length : Int)) := by omega
    rw [idxF_miss (hits s) xs ByteArray.empty (fun j hj => hp j (by omega))]
    apply Ev.succ
    simp only [semblanceref02_Place.l0, h1, if_false]
    exact Ev.now _
  | succ d ih =>
    intro n hd hn hp
    have h1 : (n : Int) < (xs.length : Int) := by omega
    have h2 : (0 : Int) ≤ (n : Int) := by omega
    have hr : rdOf ByteArray.empty xs (n : Int) = xs.getD n ByteArray.empty := by simp [rdOf]
    by_cases h : (xs.getD n ByteArray.empty).toList = s.toList
    · have hh : hits s (xs.getD n ByteArray.empty) = true := by unfold hits; rw [tl_bts, tl_bts] at h; exact decide_eq_true h
      rw [idxF_hit (hits s) xs ByteArray.empty n (by omega) hh hp]
      apply Ev.succ
      simp only [semblanceref02_Place.l0, h1, h2, hr, h, if_true]
      exact Ev.now _
    · have hh : hits s (xs.getD n ByteArray.empty) = false := by unfold hits; rw [tl_bts, tl_bts] at h; exact decide_eq_false h
      apply Ev.succ
      simp only [semblanceref02_Place.l0, h1, h2, hr, h, if_true, if_false]
      rw [wrap_succ (by omega)]
      exact ih (n + 1) (by omega) (by omega) (fun j hj => by
        by_cases e : j = n
        · subst e; exact hh
        · exact hp j (by omega))
theorem place_f (xs : List ByteArray) (s : ByteArray) (hx : xs.length ≤ 100000) : Ev (fun k => semblanceref02_Place.f k xs s) (idxF (hits s) xs) :=
  place_ex xs s hx xs.length 0 (by omega) (by omega) (fun j hj => absurd hj (by omega))
theorem index_ex (xs : List ByteArray) (s : ByteArray) (hx : xs.length ≤ 100000) : ∀ (d n : Nat), xs.length - n = d → n ≤ xs.length → (∀ j : Nat, j < n → hits s (xs.getD j ByteArray.empty) = false) →
    Ev (fun k => slices_Index_string_string.l0 k xs s (xs.length : Int) n) (idxF (hits s) xs) := by
  intro d
  induction d with
  | zero =>
    intro n hd hn hp
    have h1 : ¬ ((n : Int) < (xs.length : Int)) := by omega
    rw [idxF_miss (hits s) xs ByteArray.empty (fun j hj => hp j (by omega))]
    apply Ev.succ
    simp only [slices_Index_string_string.l0, h1, if_false]
    exact Ev.now _
  | succ d ih =>
    intro n hd hn hp
    have h1 : (n : Int) < (xs.length : Int) := by omega
    have h2 : (0 : Int) ≤ (n : Int) := by omega
    have hr : rdOf ByteArray.empty xs (n : Int) = xs.getD n ByteArray.empty := by simp [rdOf]
    by_cases h : s.toList = (xs.getD n ByteArray.empty).toList
    · have hh : hits s (xs.getD n ByteArray.empty) = true := by unfold hits; rw [tl_bts, tl_bts] at h; exact decide_eq_true h.symm
      rw [idxF_hit (hits s) xs ByteArray.empty n (by omega) hh hp]
      apply Ev.succ
      simp only [slices_Index_string_string.l0, h1, h2, hr, if_true]
      exact Ev.congr (fun k => if_pos h) (Ev.now _)
    · have hh : hits s (xs.getD n ByteArray.empty) = false := by unfold hits; rw [tl_bts, tl_bts] at h; exact decide_eq_false (fun e => h e.symm)
      apply Ev.succ
      simp only [slices_Index_string_string.l0, h1, h2, hr, h, if_true, if_false]
      rw [wrap_succ (by omega)]
      exact ih (n + 1) (by omega) (by omega) (fun j hj => by
        by_cases e : j = n
        · subst e; exact hh
        · exact hp j (by omega))
theorem index_f (xs : List ByteArray) (s : ByteArray) (hx : xs.length ≤ 100000) : Ev (fun k => names_Place.f k xs s) (idxF (hits s) xs) := by
  unfold names_Place.f slices_Index_string_string.f
  exact Ev.bind (index_ex xs s hx xs.length 0 (by omega) (by omega) (fun j hj => absurd hj (by omega))) (Ev.now _)
theorem long_ex (xs : List ByteArray) (hx : xs.length ≤ 100000) : ∀ (d n : Nat), xs.length - n = d → n ≤ xs.length → (∀ j : Nat, j < n → (xs.getD j ByteArray.empty).size ≤ 200) →
    ∃ b, Ev (fun k => semblancelaw02_long.l0 k xs 200 n) b ∧ (b = false → ∀ x ∈ xs, x.size ≤ 200) := by
  intro d
  induction d with
  | zero =>
    intro n hd hn hp
    have h1 : ¬ ((n : Int) < (xs.length : Int)) := by omega
    refine ⟨false, ?_, fun _ x hx' => ?_⟩
    · apply Ev.succ
      simp only [semblancelaw02_long.l0, h1, if_false]
      exact Ev.now _
    · obtain ⟨j, hj, rfl⟩ := List.getElem_of_mem hx'
      have := hp j (by omega)
      simpa [List.getD, hj] using this
  | succ d ih =>
    intro n hd hn hp
    have h1 : (n : Int) < (xs.length : Int) := by omega
    have h2 : (0 : Int) ≤ (n : Int) := by omega
    have hr : rdOf ByteArray.empty xs (n : Int) = xs.getD n ByteArray.empty := by simp [rdOf]
    by_cases h : ((xs.getD n ByteArray.empty).size : Int) > 200
    · refine ⟨true, ?_, by simp⟩
      apply Ev.succ
      simp only [semblancelaw02_long.l0, h1, h2, hr, h, if_true]
      exact Ev.now _
    · obtain ⟨b, hb, hb2⟩ := ih (n + 1) (by omega) (by omega) (fun j hj => by
        by_cases e : j = n
        · subst e; omega
        · exact hp j (by omega))
      refine ⟨b, ?_, hb2⟩
      apply Ev.succ
      simp only [semblancelaw02_long.l0, h1, h2, hr, h, if_true, if_false]
      rw [wrap_succ (by omega)]
      exact hb
theorem long_f (xs : List ByteArray) (hx : xs.length ≤ 100000) : ∃ b, Ev (fun k => semblancelaw02_long.f k xs 200) b ∧ (b = false → ∀ x ∈ xs, x.size ≤ 200) :=
  long_ex xs hx xs.length 0 (by omega) (by omega) (fun j hj => absurd hj (by omega))
theorem twins_f (xs : List ByteArray) (hx : xs.length ≤ 100000) (hs : ∀ x ∈ xs, x.size ≤ 200) : names_Twins.f xs = some (twinsF xs) := by
  unfold names_Twins.f
  rw [if_pos (by omega), if_pos (List.all_eq_true.2 (fun x hx => decide_eq_true (by have := hs x hx; omega)))]

end Go.Proofs.Ytfpmbognpacidaa.XU
