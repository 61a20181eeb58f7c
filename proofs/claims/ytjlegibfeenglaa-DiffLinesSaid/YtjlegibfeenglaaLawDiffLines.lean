/-
  In what any two charts differ, for all charts: the document's lines, and charts are the same just if there are none.
  Conditions: none but the given statement's own.
-/
-- written by wip/xprint.py: the row of the law semblance/semblancelaw53.DiffLines
import Derived.Test.YtjlegibfeenglaaPureDiffLines
import Derived.Test.YtjlegibfeenglaaRows
import Derived.Test.YtjlegibfeenglaaXFo
import Derived.Test.YtjlegibfeenglaaXFp14
import Derived.WalkKit
import Derived.ProofKit
import Derived.OpenShut
import Derived.ShutString
import Derived.ChangeOld
import Derived.Below
import Derived.SizedLaws
namespace Go.Proofs.Ytjlegibfeenglaa.diffLines
open Go.ChangeShapes Go.WideShapes Go.ChangeAt Go.RowKit
open Go.ChangeMaps (open_string shut_string)
open Go.Proofs.Ytjlegibfeenglaa.XF Go.Proofs.Ytjlegibfeenglaa.XRead Go.Proofs.YtjlegibfeenglaaW.PrintWords
set_option linter.unusedVariables false
set_option linter.unusedSimpArgs false
theorem own : ownKnob Try.prog.godebug = none := by kernel_rfl
theorem laidOut : laidOutB Try.prog = true := by kernel_rfl
set_option maxRecDepth 100000 in
set_option maxHeartbeats 1000000 in
theorem lifted (os : Os) (started : os.Started) (H : Type) (enc : TypeId × Value → H) :
    ReturnsInHanded {} Try.checked os 7 .any (Rows.diffLinesSpec.pre6 enc Try.prog Try.f7 Rows.diffLinesRow.domain false) (Rows.diffLinesSpec.post enc Try.prog Try.f7 false true false false) := by
  refine returnsInHanded_of_change_sized (C := Try.checked) own started (by kernel_rfl) Try.func7
    (ChangeSpec.witness6 (enc := enc) (C := Try.checked) false ⟨#[], #[.agg #[.string ByteArray.empty, .slice none 0 0, .slice none 0 0, .slice none 0 0], .agg #[.string ByteArray.empty, .slice none 0 0, .slice none 0 0, .slice none 0 0]], []⟩ 8 (by kernel_rfl) (by kernel_rfl) (by kernel_rfl) (by kernel_rfl)) ?_
  intro W base args ds gs before hval0 hW hcnd hsz0 _
  have hsz : (DataW.weightsEach Try.prog (Try.f7.params.toList ++ Rows.diffLinesSpec.plain.varTypes Try.prog) (ds ++ gs)).all (· ≤ reachBytes) = true := hsz0
  have hval : ∀ (j : Nat) t v, Try.f7.params[j]? = some t → args[j]? = some v → Value.okWide Try.prog W .any base t v := hval0
  have hW' := hW
  obtain ⟨p, q, hA0, hV, rfl, hfz, hnd⟩ := hW
  have hA : DataW.TrodAll enc Try.prog W 0 (fun _ => true) true Try.f7.params.toList args.toList ds p := hA0
  rw [Try.params7] at hA hval hsz
  obtain ⟨v0, vs0, d0, ds0, p0, q0, hargs, rfl, rfl, h0, r0⟩ := trodAll_cons hA
  obtain ⟨v1, vs1, d1, ds1, p1, q1, rfl, rfl, rfl, h1, r1⟩ := trodAll_cons r0
  obtain ⟨rfl, rfl, rfl⟩ := trodAll_nil r1
  obtain rfl : args = #[v0, v1] := by cases args; simp_all
  obtain ⟨rfl, rfl⟩ := trodVars_none hV
  obtain ⟨b0, hK0, hF0⟩ := opens_arg (j := 0) (T := 59) opens59 h0 hsz rfl rfl
  obtain ⟨cs0, rfl, -⟩ := okWide_struct Try.underlying59 (hval 0 59 v0 rfl rfl)
  have lt0 : ∀ x ∈ p0, x.block < W.heap.size := by obtain ⟨m, hm⟩ := h0; exact DataW.trod_lt m _ _ _ hm
  obtain ⟨A0_1, c0_1, A0_2, c0_2, A0_3, c0_3, hcs0, hc0_1, hr0_1, hc0_2, hr0_2, hc0_3, hr0_3⟩ := k59_open hK0
  have hcs0' : cs0.toList = _ := hcs0
  obtain rfl : cs0 = _ := Array.toList_inj.mp (hcs0'.trans (@List.toList_toArray _ _).symm)
  obtain ⟨b1, hK1, hF1⟩ := opens_arg (j := 1) (T := 59) opens59 h1 hsz rfl rfl
  obtain ⟨cs1, rfl, -⟩ := okWide_struct Try.underlying59 (hval 1 59 v1 rfl rfl)
  have lt1 : ∀ x ∈ p1, x.block < W.heap.size := by obtain ⟨m, hm⟩ := h1; exact DataW.trod_lt m _ _ _ hm
  obtain ⟨A1_1, c1_1, A1_2, c1_2, A1_3, c1_3, hcs1, hc1_1, hr1_1, hc1_2, hr1_2, hc1_3, hr1_3⟩ := k59_open hK1
  have hcs1' : cs1.toList = _ := hcs1
  obtain rfl : cs1 = _ := Array.toList_inj.mp (hcs1'.trans (@List.toList_toArray _ _).symm)
  clear hA0 hval0 hsz0 hsz
  obtain ⟨k, hk⟩ := Pure.DiffLines b0.f0 b0.f1 b0.f2 b0.f3 b1.f0 b1.f1 b1.f2 b1.f3 hF0 hF1
  refine (semblancelaw53_DiffLines.calls k b0.f0 _ _ b0.f1 _ _ b0.f2 _ _ b0.f3 b1.f0 _ _ b1.f1 _ _ b1.f2 _ _ b1.f3 true W hr0_1 hc0_1 hr0_2 hc0_2 hr0_3 hc0_3 hr1_1 hc1_1 hr1_2 hc1_2 hr1_3 hc1_3 hk).mono fun e W' ⟨he, bel0⟩ => ?_
  have bel : Below W.heap.size W W' := bel0
  subst he
  exact ⟨_, rfl, _, _, _, [], _, [], hW', trodAll_mk1 (shut_bool Try.underlying4 _), (trodAll_cons_mk (Below.trod laidOut (by kernel_rfl) (of_decide_eq_true (by kernel_rfl)) h0 bel lt0) (trodAll_cons_mk (Below.trod laidOut (by kernel_rfl) (of_decide_eq_true (by kernel_rfl)) h1 bel lt1) trodAll_mk0)), rfl, bel.frame _, fun h => by cases h⟩
set_option maxRecDepth 100000 in
set_option maxHeartbeats 8000000 in
theorem closed : joinedFacts Try.prog 7 Try.f7 Rows.diffLinesSpec Rows.diffLinesRow = true := by
  unfold joinedFacts
  simp only [Bool.and_eq_true]
  repeat' apply And.intro
  all_goals decide +kernel
theorem over : Rows.diffLinesRow.holds Try.pinned (OpenSpec.ofChange Rows.diffLinesSpec) :=
  OpenClaim.holds_of_wide 7 Try.f7 rfl rfl rfl rfl rfl rfl rfl ⟨rfl, rfl, rfl, rfl, rfl⟩ rfl rfl rfl rfl rfl (by kernel_rfl) Try.func7 closed
    (of_decide_eq_true (by kernel_rfl)) (by unfold Func.isWrapper; first | (rw [if_pos (by decide +kernel)]; kernel_rfl) | (rw [if_neg (by decide +kernel)]; exact ⟨rfl, rfl⟩))
    (fun os started H enc _ => lifted os started H enc)
theorem proved : Rows.DiffLinesSaid := over
end Go.Proofs.Ytjlegibfeenglaa.diffLines
namespace Go.Proofs.Ytjlegibfeenglaa
/-- The row, under a short name, for the claim. -/
theorem diffLines_holds : Rows.DiffLinesSaid := diffLines.proved
end Go.Proofs.Ytjlegibfeenglaa
