/-
  Where all rules are broken is told as the definition tells it, for all charts that may be told.
  Conditions: none but the given statement's own.
-/
-- written by wip/xprint.py: the row of the law semblance/semblancelaw14.RulesAll
import Derived.Test.YtoeioigpkfgppaaPureRulesAll
import Derived.Test.YtoeioigpkfgppaaRows
import Derived.Test.YtoeioigpkfgppaaXRo
import Derived.Test.YtoeioigpkfgppaaXRp14
import Derived.WalkKit
import Derived.ProofKit
import Derived.OpenShut
import Derived.ShutString
import Derived.ChangeOld
import Derived.Below
import Derived.SizedLaws
namespace Go.Proofs.Ytoeioigpkfgppaa.rulesAll
open Go.ChangeShapes Go.WideShapes Go.ChangeAt Go.RowKit
open Go.ChangeMaps (open_string shut_string)
open Go.Proofs.Ytoeioigpkfgppaa.XR Go.Proofs.Ytoeioigpkfgppaa.XRead Go.Proofs.YtoeioigpkfgppaaW.PrintWords
set_option linter.unusedVariables false
set_option linter.unusedSimpArgs false
theorem own : ownKnob Try.prog.godebug = none := by kernel_rfl
theorem laidOut : laidOutB Try.prog = true := by kernel_rfl
set_option maxRecDepth 100000 in
set_option maxHeartbeats 1000000 in
theorem lifted (os : Os) (started : os.Started) (H : Type) (enc : TypeId × Value → H) :
    ReturnsInHanded {} Try.checked os 4 .any (Rows.rulesAllSpec.pre6 enc Try.prog Try.f4 Rows.rulesAllRow.domain false) (Rows.rulesAllSpec.post enc Try.prog Try.f4 false true false false) := by
  refine returnsInHanded_of_change_sized (C := Try.checked) own started (by kernel_rfl) Try.func4
    (ChangeSpec.witness6 (enc := enc) (C := Try.checked) false ⟨#[], #[.agg #[.string ByteArray.empty, .slice none 0 0, .slice none 0 0, .slice none 0 0]], []⟩ 8 (by kernel_rfl) (by kernel_rfl) (by kernel_rfl) (by kernel_rfl)) ?_
  intro W base args ds gs before hval0 hW hcnd hsz0 _
  have hsz : (DataW.weightsEach Try.prog (Try.f4.params.toList ++ Rows.rulesAllSpec.plain.varTypes Try.prog) (ds ++ gs)).all (· ≤ reachBytes) = true := hsz0
  have hval : ∀ (j : Nat) t v, Try.f4.params[j]? = some t → args[j]? = some v → Value.okWide Try.prog W .any base t v := hval0
  have hW' := hW
  obtain ⟨p, q, hA0, hV, rfl, hfz, hnd⟩ := hW
  have hA : DataW.TrodAll enc Try.prog W 0 (fun _ => true) true Try.f4.params.toList args.toList ds p := hA0
  rw [Try.params4] at hA hval hsz
  obtain ⟨v0, vs0, d0, ds0, p0, q0, hargs, rfl, rfl, h0, r0⟩ := trodAll_cons hA
  obtain ⟨rfl, rfl, rfl⟩ := trodAll_nil r0
  obtain rfl : args = #[v0] := by cases args; simp_all
  obtain ⟨rfl, rfl⟩ := trodVars_none hV
  obtain ⟨b0, hK0, hF0⟩ := opens_arg (j := 0) (T := 26) opens26 h0 hsz rfl rfl
  obtain ⟨cs0, rfl, -⟩ := okWide_struct Try.underlying26 (hval 0 26 v0 rfl rfl)
  have lt0 : ∀ x ∈ p0, x.block < W.heap.size := by obtain ⟨m, hm⟩ := h0; exact DataW.trod_lt m _ _ _ hm
  obtain ⟨A0_1, c0_1, A0_2, c0_2, A0_3, c0_3, hcs0, hc0_1, hr0_1, hc0_2, hr0_2, hc0_3, hr0_3⟩ := k26_open hK0
  have hcs0' : cs0.toList = _ := hcs0
  obtain rfl : cs0 = _ := Array.toList_inj.mp (hcs0'.trans (@List.toList_toArray _ _).symm)
  clear hA0 hval0 hsz0 hsz
  obtain ⟨k, hk⟩ := Pure.RulesAll b0.f0 b0.f1 b0.f2 b0.f3 hF0
  refine (semblancelaw14_RulesAll.calls k b0.f0 _ _ b0.f1 _ _ b0.f2 _ _ b0.f3 true W hr0_1 hc0_1 hr0_2 hc0_2 hr0_3 hc0_3 hk).mono fun e W' ⟨he, bel0⟩ => ?_
  have bel : Below W.heap.size W W' := bel0
  subst he
  exact ⟨_, rfl, _, _, _, [], _, [], hW', trodAll_mk1 (shut_bool Try.underlying4 _), (trodAll_cons_mk (Below.trod laidOut (by kernel_rfl) (of_decide_eq_true (by kernel_rfl)) h0 bel lt0) trodAll_mk0), rfl, bel.frame _, fun h => by cases h⟩
set_option maxRecDepth 100000 in
set_option maxHeartbeats 8000000 in
theorem closed : joinedFacts Try.prog 4 Try.f4 Rows.rulesAllSpec Rows.rulesAllRow = true := by
  unfold joinedFacts
  simp only [Bool.and_eq_true]
  repeat' apply And.intro
  all_goals decide +kernel
theorem over : Rows.rulesAllRow.holds Try.pinned (OpenSpec.ofChange Rows.rulesAllSpec) :=
  OpenClaim.holds_of_wide 4 Try.f4 rfl rfl rfl rfl rfl rfl rfl ⟨rfl, rfl, rfl, rfl, rfl⟩ rfl rfl rfl rfl rfl (by kernel_rfl) Try.func4 closed
    (of_decide_eq_true (by kernel_rfl)) (by unfold Func.isWrapper; first | (rw [if_pos (by decide +kernel)]; kernel_rfl) | (rw [if_neg (by decide +kernel)]; exact ⟨rfl, rfl⟩))
    (fun os started H enc _ => lifted os started H enc)
theorem proved : Rows.RulesAllSaid := over
end Go.Proofs.Ytoeioigpkfgppaa.rulesAll
namespace Go.Proofs.Ytoeioigpkfgppaa
/-- The row, under a short name, for the claim. -/
theorem rulesAll_holds : Rows.RulesAllSaid := rulesAll.proved
end Go.Proofs.Ytoeioigpkfgppaa
