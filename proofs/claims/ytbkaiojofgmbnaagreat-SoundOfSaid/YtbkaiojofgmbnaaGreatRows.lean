/-
  No cell of these rows narrows 'for every input' (looked for: loops, veiled, ifaces, maps, wideKeys, modest, calm, conditions, laid).
  DERIVED. THE GIVEN ROWS OF THIS SEAT. 3 by the template 'for every input the law returns true; each argument reads behind the call as it read before'; 0 by the template 'total and deterministic' (their statements: YtbkaiojofgmbnaaGreatTotals.lean).
  GIVEN WITH THE SEED: the statements are not yours to turn. If you find one false, say at which input.
  Laid BY PROGRAM, IN A SANDBOX (cutbox-rows.mjs): the forced cells as the released guide's own fill.sh prints them over the translation 832ecf62147e688b… (all of the seat's roots in one cut). By AI agents, Wed Nov 11 2026. No macro, syntax, notation, axiom, sorry.
-/
import Derived.Test.YtbkaiojofgmbnaaGreatChecked
import GoSem.Claim
import GoSem.ClaimJoined
import GoSem.ClaimMapViews
import Derived.JoinedTies
import Derived.KernelRfl
namespace Go.Proofs.YtbkaiojofgmbnaaGreat
/- THE CELL 'sum', in the pinned program and in every row, IS THE sha256 OF THE DUMP (.gsa) THAT YtbkaiojofgmbnaaGreatProg.lean LOADS. Nothing in Lean hashes anything: it is a label: what it is worth is what the hold of that sum in a sandbox is worth. -/
noncomputable def Tryz.pinned : Pinned := { name := "ytbkaiojofgmbnaagreat", sum := "832ecf62147e688bc3d739f0ae44b4b50b8688feb6a5d70673a3f5ab857c5f7c", checked := Tryz.checked }
namespace Rows
def none {H : Type} : Left H := { results := [], args := [] }

/-- 'semblancelaw15.SoundOf': WHATEVER THE INPUT: true; the input reads as it did. -/
def soundOfSpec : ChangeSpec := { name := "soundOf", fn := fun _ => fun
  | [d] => { results := [.lit (.bool true)], args := [d] }
  | _ => none }
def soundOfRow : OpenClaim := { program := "ytbkaiojofgmbnaagreat", sum := "832ecf62147e688bc3d739f0ae44b4b50b8688feb6a5d70673a3f5ab857c5f7c", func := "semblance/semblancelaw15.SoundOf", spec := "soundOf", unfollowed := true, recurses := true, apart := false }
def SoundOfSaid : Prop := soundOfRow.holds Tryz.pinned (OpenSpec.ofChange soundOfSpec)

/-- ITS FALSE NEIGHBOUR: 'it returns false'. Refute it at one input. -/
def soundOfWrong : ChangeSpec := { name := "soundOf", fn := fun _ => fun
  | [d] => { results := [.lit (.bool false)], args := [d] }
  | _ => none }
def SoundOfWrongFalsely : Prop := soundOfRow.holds Tryz.pinned (OpenSpec.ofChange soundOfWrong)

/-- 'semblancelaw43.MergePairs': WHATEVER THE INPUT: true; the input reads as it did. -/
def mergePairsSpec : ChangeSpec := { name := "mergePairs", fn := fun _ => fun
  | [d] => { results := [.lit (.bool true)], args := [d] }
  | _ => none }
def mergePairsRow : OpenClaim := { program := "ytbkaiojofgmbnaagreat", sum := "832ecf62147e688bc3d739f0ae44b4b50b8688feb6a5d70673a3f5ab857c5f7c", func := "semblance/semblancelaw43.MergePairs", spec := "mergePairs", unfollowed := true, recurses := true, apart := false }
def MergePairsSaid : Prop := mergePairsRow.holds Tryz.pinned (OpenSpec.ofChange mergePairsSpec)

/-- ITS FALSE NEIGHBOUR: 'it returns false'. Refute it at one input. -/
def mergePairsWrong : ChangeSpec := { name := "mergePairs", fn := fun _ => fun
  | [d] => { results := [.lit (.bool false)], args := [d] }
  | _ => none }
def MergePairsWrongFalsely : Prop := mergePairsRow.holds Tryz.pinned (OpenSpec.ofChange mergePairsWrong)

/-- 'semblancelaw43.MergeOf': WHATEVER THE INPUT: true; the input reads as it did. -/
def mergeOfSpec : ChangeSpec := { name := "mergeOf", fn := fun _ => fun
  | [d1, d2, d3] => { results := [.lit (.bool true)], args := [d1, d2, d3] }
  | _ => none }
def mergeOfRow : OpenClaim := { program := "ytbkaiojofgmbnaagreat", sum := "832ecf62147e688bc3d739f0ae44b4b50b8688feb6a5d70673a3f5ab857c5f7c", func := "semblance/semblancelaw43.MergeOf", spec := "mergeOf", unfollowed := true, recurses := true, apart := false }
def MergeOfSaid : Prop := mergeOfRow.holds Tryz.pinned (OpenSpec.ofChange mergeOfSpec)

/-- ITS FALSE NEIGHBOUR: 'it returns false'. Refute it at one input. -/
def mergeOfWrong : ChangeSpec := { name := "mergeOf", fn := fun _ => fun
  | [d1, d2, d3] => { results := [.lit (.bool false)], args := [d1, d2, d3] }
  | _ => none }
def MergeOfWrongFalsely : Prop := mergeOfRow.holds Tryz.pinned (OpenSpec.ofChange mergeOfWrong)

/- THE SECOND FORM. 'bulk': how many values and letters a reading holds, each counted each time it is reached (what is shared counts as often as it is met; a slice's spare places count too). A statement '..UptoSaid' is the law's where the arguments, and the package variables that the reading takes, are together of bulk at most 1048576: NARROWER than '..Said'. Prove '..Said' where nothing that the law and all that it calls make is longer than what came in: it says more and counts as full. Else prove '..UptoSaid'. A law counts once. -/
mutual
def uptoBulk {H : Type} : DataW H → Nat
  | .lit (.string bytes) => bytes.length + 1
  | .lit _ => 1
  | .nil => 1
  | .ptr d => uptoBulk d + 1
  | .slice elems spare => uptoBulkAll elems + uptoBulkAll spare + 1
  | .agg parts => uptoBulkAll parts + 1
  | .iface _ d => uptoBulk d + 1
  | .map entries => uptoBulkEntries entries + 1
  | .held _ => 1
def uptoBulkAll {H : Type} : List (DataW H) → Nat
  | [] => 0
  | d :: r => uptoBulk d + uptoBulkAll r
def uptoBulkEntries {H : Type} : List (Lit × DataW H) → Nat
  | [] => 0
  | x :: r => uptoBulkEntry x + uptoBulkEntries r
def uptoBulkEntry {H : Type} : Lit × DataW H → Nat
  | (.string bytes, d) => bytes.length + uptoBulk d + 1
  | (_, d) => uptoBulk d + 1
 end
def uptoSmall : (H : Type) → List (DataW H) → Bool := fun _ ds => decide (uptoBulkAll ds ≤ 1048576)
def OpenSpec.upto (s : _root_.Go.ChangeSpec) : _root_.Go.OpenSpec := { _root_.Go.OpenSpec.ofChange s with cond := some uptoSmall }

/-- 'semblancelaw15.SoundOf', WHERE WHAT IT READS IS OF BULK AT MOST 1048576: true; the input reads as it did. -/
def soundOfUptoRow : OpenClaim := { program := "ytbkaiojofgmbnaagreat", sum := "832ecf62147e688bc3d739f0ae44b4b50b8688feb6a5d70673a3f5ab857c5f7c", func := "semblance/semblancelaw15.SoundOf", spec := "soundOf", unfollowed := true, recurses := true, apart := false, narrowed := true }
def SoundOfUptoSaid : Prop := soundOfUptoRow.holds Tryz.pinned (OpenSpec.upto soundOfSpec)

/-- 'semblancelaw43.MergePairs', WHERE WHAT IT READS IS OF BULK AT MOST 1048576: true; the input reads as it did. -/
def mergePairsUptoRow : OpenClaim := { program := "ytbkaiojofgmbnaagreat", sum := "832ecf62147e688bc3d739f0ae44b4b50b8688feb6a5d70673a3f5ab857c5f7c", func := "semblance/semblancelaw43.MergePairs", spec := "mergePairs", unfollowed := true, recurses := true, apart := false, narrowed := true }
def MergePairsUptoSaid : Prop := mergePairsUptoRow.holds Tryz.pinned (OpenSpec.upto mergePairsSpec)

/-- 'semblancelaw43.MergeOf', WHERE WHAT IT READS IS OF BULK AT MOST 1048576: true; the input reads as it did. -/
def mergeOfUptoRow : OpenClaim := { program := "ytbkaiojofgmbnaagreat", sum := "832ecf62147e688bc3d739f0ae44b4b50b8688feb6a5d70673a3f5ab857c5f7c", func := "semblance/semblancelaw43.MergeOf", spec := "mergeOf", unfollowed := true, recurses := true, apart := false, narrowed := true }
def MergeOfUptoSaid : Prop := mergeOfUptoRow.holds Tryz.pinned (OpenSpec.upto mergeOfSpec)

end Rows
end Go.Proofs.YtbkaiojofgmbnaaGreat
