/- Nobody's tally (none, or one without cells) counts nothing, whatever is asked of it. No condition. -/
-- written by wip/xprint.py: the row of the law semblance/semblancelaw55.TallyNobody
import Derived.Test.YtjlegibfeenglaaPureTallyNobody
import Derived.Test.YtjlegibfeenglaaRows
import Derived.Test.YtjlegibfeenglaaXVo
import Derived.Test.YtjlegibfeenglaaXVp4
import Derived.WalkKit
import Derived.ProofKit
import Derived.OpenShut
import Derived.ShutString
import Derived.ChangeOld
import Derived.Below
import Derived.SizedLaws
namespace Go.Proofs.Ytjlegibfeenglaa.tallyNobody
open Go.ChangeShapes Go.WideShapes Go.ChangeAt Go.RowKit
open Go.ChangeMaps (open_string shut_string)
open Go.Proofs.Ytjlegibfeenglaa.XV Go.Proofs.Ytjlegibfeenglaa.XRead Go.Proofs.YtjlegibfeenglaaW.PrintWords
set_option linter.unusedVariables false
set_option linter.unusedSimpArgs false
theorem own : ownKnob Try.prog.godebug = none := by kernel_rfl
theorem laidOut : laidOutB Try.prog = true := by kernel_rfl
set_option maxRecDepth 100000 in
set_option maxHeartbeats 1000000 in
theorem lifted (os : Os) (started : os.Started) (H : Type) (enc : TypeId × Value → H) :
    ReturnsInHanded {} Try.checked os 6 .any (Rows.tallyNobodySpec.pre6 enc Try.prog Try.f6 Rows.tallyNobodyRow.domain false) (Rows.tallyNobodySpec.post enc Try.prog Try.f6 false true false false) := by
  refine returnsInHanded_of_change_sized (C := Try.checked) own started (by kernel_rfl) Try.func6
    (ChangeSpec.witness6 (enc := enc) (C := Try.checked) false ⟨#[], #[.agg #[.int .i64 0, .int .i64 0, .int .u64 0]], []⟩ 8 (by kernel_rfl) (by kernel_rfl) (by kernel_rfl) (by kernel_rfl)) ?_
  intro W base args ds gs before hval0 hW hcnd hsz0 _
  have hsz : (DataW.weightsEach Try.prog (Try.f6.params.toList ++ Rows.tallyNobodySpec.plain.varTypes Try.prog) (ds ++ gs)).all (· ≤ reachBytes) = true := hsz0
  have hval : ∀ (j : Nat) t v, Try.f6.params[j]? = some t → args[j]? = some v → Value.okWide Try.prog W .any base t v := hval0
  have hW' := hW
  obtain ⟨p, q, hA0, hV, rfl, hfz, hnd⟩ := hW
  have hA : DataW.TrodAll enc Try.prog W 0 (fun _ => true) true Try.f6.params.toList args.toList ds p := hA0
  rw [Try.params6] at hA hval hsz
  obtain ⟨v0, vs0, d0, ds0, p0, q0, hargs, rfl, rfl, h0, r0⟩ := trodAll_cons hA
  obtain ⟨rfl, rfl, rfl⟩ := trodAll_nil r0
  obtain rfl : args = #[v0] := by cases args; simp_all
  obtain ⟨rfl, rfl⟩ := trodVars_none hV
  obtain ⟨b0, hK0, hF0⟩ := opens_arg (j := 0) (T := 38) opens38 h0 hsz rfl rfl
  obtain ⟨cs0, rfl, -⟩ := okWide_struct Try.underlying38 (hval 0 38 v0 rfl rfl)
  have lt0 : ∀ x ∈ p0, x.block < W.heap.size := by obtain ⟨m, hm⟩ := h0; exact DataW.trod_lt m _ _ _ hm
  obtain hcs0 := k38_open hK0
  have hcs0' : cs0.toList = _ := hcs0
  obtain rfl : cs0 = _ := Array.toList_inj.mp (hcs0'.trans (@List.toList_toArray _ _).symm)
  clear hA0 hval0 hsz0 hsz
  have hk := Pure.TallyNobody b0.f0 b0.f1 b0.f2 hF0
  refine (semblancelaw55_TallyNobody.calls b0.f0 b0.f1 b0.f2 true W  hk).mono fun e W' ⟨he, bel0⟩ => ?_
  have bel : Below W.heap.size W W' := bel0
  subst he
  exact ⟨_, rfl, _, _, _, [], _, [], hW', trodAll_mk1 (shut_bool Try.underlying4 _), (trodAll_cons_mk (Below.trod laidOut (by kernel_rfl) (of_decide_eq_true (by kernel_rfl)) h0 bel lt0) trodAll_mk0), rfl, bel.frame _, fun h => by cases h⟩
set_option maxRecDepth 100000 in
set_option maxHeartbeats 8000000 in
theorem closed : joinedFacts Try.prog 6 Try.f6 Rows.tallyNobodySpec Rows.tallyNobodyRow = true := by
  unfold joinedFacts
  simp only [Bool.and_eq_true]
  repeat' apply And.intro
  all_goals decide +kernel
theorem over : Rows.tallyNobodyRow.holds Try.pinned (OpenSpec.ofChange Rows.tallyNobodySpec) :=
  OpenClaim.holds_of_wide 6 Try.f6 rfl rfl rfl rfl rfl rfl rfl ⟨rfl, rfl, rfl, rfl, rfl⟩ rfl rfl rfl rfl rfl (by kernel_rfl) Try.func6 closed
    (of_decide_eq_true (by kernel_rfl)) (by unfold Func.isWrapper; first | (rw [if_pos (by decide +kernel)]; kernel_rfl) | (rw [if_neg (by decide +kernel)]; exact ⟨rfl, rfl⟩))
    (fun os started H enc _ => lifted os started H enc)
theorem proved : Rows.TallyNobodySaid := over
end Go.Proofs.Ytjlegibfeenglaa.tallyNobody
namespace Go.Proofs.Ytjlegibfeenglaa
/-- The row, under a short name, for the claim. -/
theorem tallyNobody_holds : Rows.TallyNobodySaid := tallyNobody.proved
end Go.Proofs.Ytjlegibfeenglaa
