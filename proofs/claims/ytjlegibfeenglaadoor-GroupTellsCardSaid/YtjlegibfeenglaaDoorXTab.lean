/-
  What the listed table gives the walks: its 64 cells.
-/
import Derived.Test.YtjlegibfeenglaaDoorRows
import Derived.ProofKit
import Derived.LaidMore
import Derived.OpenShut
import Derived.Stop.Joined
import Derived.Lib.TrailingZeros
import Derived.Below
namespace Go.Proofs.YtjlegibfeenglaaDoor
open Go Go.ChangeShapes Go.WideShapes Go.ChangeAt Go.RowKit

abbrev laidL : List (String × DataW Unit) := [("math/bits.deBruijn64tab", Rows.laid_math_bits_deBruijn64tab)]
/-- the table behind TrailingZeros64 lies in global 0 -/
def Tab (w : World) : Prop := ∀ j, j < 64 → w.cell? ⟨0, j, none⟩ = some (.int .u8 (Lib.deBruijn64tab.getD j 0))
theorem Tab.below {n : Nat} {A B : World} (h : Tab A) (hb : Below n A B) (hn : 0 < n) : Tab B := fun j hj => (hb.cell (p := ⟨0, j, none⟩) hn).trans (h j hj)
theorem gTab : Tryd.prog.globalNamed "math/bits.deBruijn64tab" = some 0 := by kernel_rfl
theorem tTab : (Tryd.prog.globals[0]?).map (·.type) = some 41 := by kernel_rfl
theorem cells5 : Tryd.prog.cellsOf 5 = 1 := by kernel_rfl

theorem of_laid {W : World} (h : laidMetH Tryd.prog laidL W) : Tab W := by
  rw [MakeChecks.laidMetH_plain _ _ _ (by kernel_rfl)] at h
  obtain ⟨ps, ⟨g0, t0, cs0, f0, p0, q0, hg0, ht0, hv0, hd0, _, _⟩, _⟩ := h
  obtain rfl := Option.some.inj (gTab.symm.trans hg0)
  obtain rfl := Option.some.inj (tTab.symm.trans ht0)
  obtain ⟨xs, m1, hx, hx1, hlen, hn3, hel⟩ := DataW.trod_array Tryd.underlying41 hd0
  intro j hj
  have hjx : j < xs.length := by omega
  have h0 : _ = some (xs[j]) := (hel j hj).trans (List.getElem?_eq_getElem hjx)
  obtain ⟨k, e1, e2, _⟩ := DataW.trod_int Tryd.underlying5 h0
  have hxs : xs.map (·.1) = Lib.deBruijn64tab.map (fun c : Nat => (.lit (.int .u8 (c : Int)) : DataW Unit)) := by
    simp only [Prod.mk.injEq] at hx1
    have := hx1.1
    have e3 : (Rows.laid_math_bits_deBruijn64tab : DataW Unit) = .agg (Lib.deBruijn64tab.map (fun c : Nat => (.lit (.int .u8 (c : Int)) : DataW Unit))) := by rfl
    rw [e3] at this
    exact (DataW.agg.inj this).symm
  have hj1 : (xs.map (·.1))[j]? = some (xs[j]).1 := by simp [hjx]
  rw [hxs] at hj1
  have hj2 : Lib.deBruijn64tab[j]? = some (Lib.deBruijn64tab.getD j 0) := by
    have : j < Lib.deBruijn64tab.length := hj
    simp [List.getD, this]
  rw [List.getElem?_map, hj2] at hj1
  simp only [Option.map_some, Option.some.injEq] at hj1
  have hk : k = ((Lib.deBruijn64tab.getD j 0 : Nat) : Int) := by
    have e4 := congrArg Prod.fst e2
    simp only at e4
    rw [← hj1] at e4
    injection e4 with e5
    injection e5 with e6 e7
    exact e7.symm
  subst hk
  have := World.var?_cell hg0 hv0 j
  rw [cells5] at e1
  have hc : cs0.toList[j]? = some (.int .u8 ((Lib.deBruijn64tab.getD j 0 : Nat) : Int)) := by
    have e8 : (List.take 1 (List.drop (j * 1) cs0.toList))[0]? = some (.int .u8 ((Lib.deBruijn64tab.getD j 0 : Nat) : Int)) := by rw [e1]; rfl
    simpa using e8
  rw [Array.getElem?_toList] at hc
  rw [hc] at this
  simpa using this

theorem door_met (os : Os) (args : Array Value) : laidMetH Tryd.prog laidL ((World.doorLaid Tryd.prog 14 os).forCall (fun _ _ => 0) ⟨#[], args, []⟩).memory :=
  laidMetH_of_parts3 (fuel := 8) (laidMet_of_run' 8 (by kernel_rfl) (by kernel_rfl)) (by kernel_rfl) (by kernel_rfl)
end Go.Proofs.YtjlegibfeenglaaDoor
