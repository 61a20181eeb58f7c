/- Whatever text is handed in: the program's answers on whether it is a name and whether it is a keyword are the reference's. No condition. -/
import Derived.Test.YtfpmbognpacidaaXFuel
import Derived.Test.YtfpmbognpacidaaXMlnames
import Derived.Test.YtfpmbognpacidaaXMlnames02
import Derived.Test.YtfpmbognpacidaaXMo
import Derived.Test.YtfpmbognpacidaaXMp1
import Derived.Test.YtfpmbognpacidaaXMp10
import Derived.Test.YtfpmbognpacidaaXMp2
import Derived.Test.YtfpmbognpacidaaXMp6
import Derived.Test.YtfpmbognpacidaaXMp7
import Derived.Test.YtfpmbognpacidaaXMp9
namespace Go.Proofs.Ytfpmbognpacidaa.Pure
open Go.RowKit Go.Proofs.Ytfpmbognpacidaa.XRead Go.Proofs.Ytfpmbognpacidaa.XM Go.Proofs.YtfpmbognpacidaaW.PrintWords Go.Proofs.YtfpmbognpacidaaW.PrintLast Go.Proofs.YtfpmbognpacidaaW.PrintMore
open Go.Proofs.Ytfpmbognpacidaa.XFuel
set_option linter.unusedVariables false
set_option linter.unusedSimpArgs false
theorem NamesIs : ∀ (a0 : ByteArray), (a0.size ≤ 140737488351232) → ∃ k, semblancelaw02_NamesIs.f k a0 = some true := by
  intro s _
  obtain ⟨K, hK⟩ := awake02
  by_cases h : 1000 < s.size
  · refine ⟨K, ?_⟩
    unfold semblancelaw02_NamesIs.f
    rw [if_pos h, if_pos (hK K (Nat.le_refl _))]
  · obtain ⟨l, hl, r, ⟨K1, h1⟩, hv⟩ := place_kws s
    obtain ⟨K2, h2⟩ := is_prog s
    obtain ⟨K3, h3⟩ := is_ref s
    obtain ⟨K4, h4⟩ := keyword_ev s
    have b0 : K ≤ K + K1 + K2 + K3 + K4 := by omega
    have b1 : K1 ≤ K + K1 + K2 + K3 + K4 := by omega
    have b2 : K2 ≤ K + K1 + K2 + K3 + K4 := by omega
    have b3 : K3 ≤ K + K1 + K2 + K3 + K4 := by omega
    have b4 : K4 ≤ K + K1 + K2 + K3 + K4 := by omega
    generalize K + K1 + K2 + K3 + K4 = M at b0 b1 b2 b3 b4
    have g0 : semblancelaw02_awake.f M = some true := hK _ b0
    have g1 : semblanceref02_Place.f M l s = some r := h1 _ b1
    have g2 : names_Is.f M s = some (isN s) := h2 _ b2
    have g3 : semblanceref02_Is.f M s = some (isN s) := h3 _ b3
    have g4 : names_Keyword.f M s = some (decide (s.toList ∈ kws)) := h4 _ b4
    refine ⟨M, ?_⟩
    unfold semblancelaw02_NamesIs.f
    rw [if_neg h, hl, Option.bind_some, g1, Option.bind_some, g2, Option.bind_some, g3, Option.bind_some, g4, Option.bind_some]
    refine if_pos ⟨rfl, ?_, ?_, g0⟩
    · exact decide_eq_decide.2 hv.symm
    · rintro ⟨e1, e2⟩
      have e3 := of_decide_eq_true e2
      unfold isN at e1
      simp only [e3, if_true] at e1
      split at e1
      · cases e1
      · split at e1 <;> cases e1

end Go.Proofs.Ytfpmbognpacidaa.Pure
