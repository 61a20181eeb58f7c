/-
  No cell of these rows narrows 'for every input' (looked for: loops, veiled, ifaces, maps, wideKeys, modest, calm, conditions, laid).
  DERIVED. THE GIVEN ROWS OF THIS SEAT. 4 by the template 'for every input the law returns true; each argument reads behind the call as it read before'; 0 by the template 'total and deterministic' (their statements: YtoeioigpkfgppaaTotals.lean).
  GIVEN WITH THE SEED: the statements are not yours to turn. If you find one false, say at which input.
  Laid BY PROGRAM, IN A SANDBOX (cutbox-rows.mjs): the forced cells as the released guide's own fill.sh prints them over the translation c72f156b8ae57dea… (all of the seat's roots in one cut). By AI agents, Wed Nov 11 2026. No macro, syntax, notation, axiom, sorry.
-/
import Derived.Test.YtoeioigpkfgppaaChecked
import GoSem.Claim
import GoSem.ClaimJoined
import GoSem.ClaimMapViews
import Derived.JoinedTies
import Derived.KernelRfl
namespace Go.Proofs.Ytoeioigpkfgppaa
/- THE CELL 'sum', in the pinned program and in every row, IS THE sha256 OF THE DUMP (.gsa) THAT YtoeioigpkfgppaaProg.lean LOADS. Nothing in Lean hashes anything: it is a label: what it is worth is what the hold of that sum in a sandbox is worth. -/
noncomputable def Try.pinned : Pinned := { name := "ytoeioigpkfgppaa", sum := "c72f156b8ae57dea288dc52c18025f01f8c7548ec340a25c06991963a6443074", checked := Try.checked }
namespace Rows
def none {H : Type} : Left H := { results := [], args := [] }

/-- 'semblancelaw14.RulesBroken': WHATEVER THE INPUT: true; the input reads as it did. -/
def rulesBrokenSpec : ChangeSpec := { name := "rulesBroken", fn := fun _ => fun
  | [d1, d2] => { results := [.lit (.bool true)], args := [d1, d2] }
  | _ => none }
def rulesBrokenRow : OpenClaim := { program := "ytoeioigpkfgppaa", sum := "c72f156b8ae57dea288dc52c18025f01f8c7548ec340a25c06991963a6443074", func := "semblance/semblancelaw14.RulesBroken", spec := "rulesBroken", unfollowed := true, recurses := true, apart := false }
def RulesBrokenSaid : Prop := rulesBrokenRow.holds Try.pinned (OpenSpec.ofChange rulesBrokenSpec)

/-- ITS FALSE NEIGHBOUR: 'it returns false'. Refute it at one input. -/
def rulesBrokenWrong : ChangeSpec := { name := "rulesBroken", fn := fun _ => fun
  | [d1, d2] => { results := [.lit (.bool false)], args := [d1, d2] }
  | _ => none }
def RulesBrokenWrongFalsely : Prop := rulesBrokenRow.holds Try.pinned (OpenSpec.ofChange rulesBrokenWrong)

/-- 'semblancelaw14.RulesAll': WHATEVER THE INPUT: true; the input reads as it did. -/
def rulesAllSpec : ChangeSpec := { name := "rulesAll", fn := fun _ => fun
  | [d] => { results := [.lit (.bool true)], args := [d] }
  | _ => none }
def rulesAllRow : OpenClaim := { program := "ytoeioigpkfgppaa", sum := "c72f156b8ae57dea288dc52c18025f01f8c7548ec340a25c06991963a6443074", func := "semblance/semblancelaw14.RulesAll", spec := "rulesAll", unfollowed := true, recurses := true, apart := false }
def RulesAllSaid : Prop := rulesAllRow.holds Try.pinned (OpenSpec.ofChange rulesAllSpec)

/-- ITS FALSE NEIGHBOUR: 'it returns false'. Refute it at one input. -/
def rulesAllWrong : ChangeSpec := { name := "rulesAll", fn := fun _ => fun
  | [d] => { results := [.lit (.bool false)], args := [d] }
  | _ => none }
def RulesAllWrongFalsely : Prop := rulesAllRow.holds Try.pinned (OpenSpec.ofChange rulesAllWrong)

/-- 'semblancelaw07.EvalAt': WHATEVER THE INPUT: true; the input reads as it did. -/
def evalAtSpec : ChangeSpec := { name := "evalAt", fn := fun _ => fun
  | [d1, d2] => { results := [.lit (.bool true)], args := [d1, d2] }
  | _ => none }
def evalAtRow : OpenClaim := { program := "ytoeioigpkfgppaa", sum := "c72f156b8ae57dea288dc52c18025f01f8c7548ec340a25c06991963a6443074", func := "semblance/semblancelaw07.EvalAt", spec := "evalAt", unfollowed := true, recurses := true, apart := false }
def EvalAtSaid : Prop := evalAtRow.holds Try.pinned (OpenSpec.ofChange evalAtSpec)

/-- ITS FALSE NEIGHBOUR: 'it returns false'. Refute it at one input. -/
def evalAtWrong : ChangeSpec := { name := "evalAt", fn := fun _ => fun
  | [d1, d2] => { results := [.lit (.bool false)], args := [d1, d2] }
  | _ => none }
def EvalAtWrongFalsely : Prop := evalAtRow.holds Try.pinned (OpenSpec.ofChange evalAtWrong)

/-- 'semblancelaw07.EvalLaws': WHATEVER THE INPUT: true; the input reads as it did. -/
def evalLawsSpec : ChangeSpec := { name := "evalLaws", fn := fun _ => fun
  | [d1, d2, d3] => { results := [.lit (.bool true)], args := [d1, d2, d3] }
  | _ => none }
def evalLawsRow : OpenClaim := { program := "ytoeioigpkfgppaa", sum := "c72f156b8ae57dea288dc52c18025f01f8c7548ec340a25c06991963a6443074", func := "semblance/semblancelaw07.EvalLaws", spec := "evalLaws", unfollowed := true, recurses := true, apart := false }
def EvalLawsSaid : Prop := evalLawsRow.holds Try.pinned (OpenSpec.ofChange evalLawsSpec)

/-- ITS FALSE NEIGHBOUR: 'it returns false'. Refute it at one input. -/
def evalLawsWrong : ChangeSpec := { name := "evalLaws", fn := fun _ => fun
  | [d1, d2, d3] => { results := [.lit (.bool false)], args := [d1, d2, d3] }
  | _ => none }
def EvalLawsWrongFalsely : Prop := evalLawsRow.holds Try.pinned (OpenSpec.ofChange evalLawsWrong)

/- THE SECOND FORM. 'bulk': how many values and letters a reading holds, each counted each time it is reached (what is shared counts as often as it is met; a slice's spare places count too). A statement '..UptoSaid' is the law's where the arguments, and the package variables that the reading takes, are together of bulk at most 1048576: NARROWER than '..Said'. Prove '..Said' where nothing that the law and all that it calls make is longer than what came in: it says more and counts as full. Else prove '..UptoSaid'. A law counts once. -/
mutual
def uptoBulk {H : Type} : DataW H → Nat
  | .lit (.string bytes) => bytes.length + 1
  | .lit _ => 1
  | .nil => 1
  | .ptr d => uptoBulk d + 1
  | .slice elems spare => uptoBulkAll elems + uptoBulkAll spare + 1
  | .agg parts => uptoBulkAll parts + 1
  | .iface _ d => uptoBulk d + 1
  | .map entries => uptoBulkEntries entries + 1
  | .held _ => 1
def uptoBulkAll {H : Type} : List (DataW H) → Nat
  | [] => 0
  | d :: r => uptoBulk d + uptoBulkAll r
def uptoBulkEntries {H : Type} : List (Lit × DataW H) → Nat
  | [] => 0
  | x :: r => uptoBulkEntry x + uptoBulkEntries r
def uptoBulkEntry {H : Type} : Lit × DataW H → Nat
  | (.string bytes, d) => bytes.length + uptoBulk d + 1
  | (_, d) => uptoBulk d + 1
 end
def uptoSmall : (H : Type) → List (DataW H) → Bool := fun _ ds => decide (uptoBulkAll ds ≤ 1048576)
def OpenSpec.upto (s : _root_.Go.ChangeSpec) : _root_.Go.OpenSpec := { _root_.Go.OpenSpec.ofChange s with cond := some uptoSmall }

/-- 'semblancelaw14.RulesBroken', WHERE WHAT IT READS IS OF BULK AT MOST 1048576: true; the input reads as it did. -/
def rulesBrokenUptoRow : OpenClaim := { program := "ytoeioigpkfgppaa", sum := "c72f156b8ae57dea288dc52c18025f01f8c7548ec340a25c06991963a6443074", func := "semblance/semblancelaw14.RulesBroken", spec := "rulesBroken", unfollowed := true, recurses := true, apart := false, narrowed := true }
def RulesBrokenUptoSaid : Prop := rulesBrokenUptoRow.holds Try.pinned (OpenSpec.upto rulesBrokenSpec)

/-- 'semblancelaw14.RulesAll', WHERE WHAT IT READS IS OF BULK AT MOST 1048576: true; the input reads as it did. -/
def rulesAllUptoRow : OpenClaim := { program := "ytoeioigpkfgppaa", sum := "c72f156b8ae57dea288dc52c18025f01f8c7548ec340a25c06991963a6443074", func := "semblance/semblancelaw14.RulesAll", spec := "rulesAll", unfollowed := true, recurses := true, apart := false, narrowed := true }
def RulesAllUptoSaid : Prop := rulesAllUptoRow.holds Try.pinned (OpenSpec.upto rulesAllSpec)

/-- 'semblancelaw07.EvalAt', WHERE WHAT IT READS IS OF BULK AT MOST 1048576: true; the input reads as it did. -/
def evalAtUptoRow : OpenClaim := { program := "ytoeioigpkfgppaa", sum := "c72f156b8ae57dea288dc52c18025f01f8c7548ec340a25c06991963a6443074", func := "semblance/semblancelaw07.EvalAt", spec := "evalAt", unfollowed := true, recurses := true, apart := false, narrowed := true }
def EvalAtUptoSaid : Prop := evalAtUptoRow.holds Try.pinned (OpenSpec.upto evalAtSpec)

/-- 'semblancelaw07.EvalLaws', WHERE WHAT IT READS IS OF BULK AT MOST 1048576: true; the input reads as it did. -/
def evalLawsUptoRow : OpenClaim := { program := "ytoeioigpkfgppaa", sum := "c72f156b8ae57dea288dc52c18025f01f8c7548ec340a25c06991963a6443074", func := "semblance/semblancelaw07.EvalLaws", spec := "evalLaws", unfollowed := true, recurses := true, apart := false, narrowed := true }
def EvalLawsUptoSaid : Prop := evalLawsUptoRow.holds Try.pinned (OpenSpec.upto evalLawsSpec)

end Rows
end Go.Proofs.Ytoeioigpkfgppaa
