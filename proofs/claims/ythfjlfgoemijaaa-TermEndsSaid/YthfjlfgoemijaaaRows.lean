/-
  No cell of these rows narrows 'for every input' (looked for: loops, veiled, ifaces, maps, wideKeys, modest, calm, conditions, laid).
  DERIVED. THE GIVEN ROWS OF THIS SEAT. 17 by the template 'for every input the law returns true; each argument reads behind the call as it read before'; 0 by the template 'total and deterministic' (their statements: YthfjlfgoemijaaaTotals.lean).
  GIVEN WITH THE SEED: the statements are not yours to turn. If you find one false, say at which input.
  Laid BY PROGRAM, IN A SANDBOX (cutbox-rows.mjs): the forced cells as the released guide's own fill.sh prints them over the translation 99e16093ce466973… (all of the seat's roots in one cut). By AI agents, Wed Nov 11 2026. No macro, syntax, notation, axiom, sorry.
-/
import Derived.Test.YthfjlfgoemijaaaChecked
import GoSem.Claim
import GoSem.ClaimJoined
import GoSem.ClaimMapViews
import Derived.JoinedTies
import Derived.KernelRfl
namespace Go.Proofs.Ythfjlfgoemijaaa
/- THE CELL 'sum', in the pinned program and in every row, IS THE sha256 OF THE DUMP (.gsa) THAT YthfjlfgoemijaaaProg.lean LOADS. Nothing in Lean hashes anything: it is a label: what it is worth is what the hold of that sum in a sandbox is worth. -/
noncomputable def Try.pinned : Pinned := { name := "ythfjlfgoemijaaa", sum := "99e16093ce466973dcc06b47505ccd10ee7169bbacc8867e06b2c1791af0203a", checked := Try.checked }
namespace Rows
def none {H : Type} : Left H := { results := [], args := [] }

/-- 'semblancelaw05.TermEnds': WHATEVER THE INPUT: true; the input reads as it did. -/
def termEndsSpec : ChangeSpec := { name := "termEnds", fn := fun _ => fun
  | [d1, d2, d3] => { results := [.lit (.bool true)], args := [d1, d2, d3] }
  | _ => none }
def termEndsRow : OpenClaim := { program := "ythfjlfgoemijaaa", sum := "99e16093ce466973dcc06b47505ccd10ee7169bbacc8867e06b2c1791af0203a", func := "semblance/semblancelaw05.TermEnds", spec := "termEnds", unfollowed := true, recurses := true, apart := false }
def TermEndsSaid : Prop := termEndsRow.holds Try.pinned (OpenSpec.ofChange termEndsSpec)

/-- ITS FALSE NEIGHBOUR: 'it returns false'. Refute it at one input. -/
def termEndsWrong : ChangeSpec := { name := "termEnds", fn := fun _ => fun
  | [d1, d2, d3] => { results := [.lit (.bool false)], args := [d1, d2, d3] }
  | _ => none }
def TermEndsWrongFalsely : Prop := termEndsRow.holds Try.pinned (OpenSpec.ofChange termEndsWrong)

/-- 'semblancelaw05.TermChecks': WHATEVER THE INPUT: true; the input reads as it did. -/
def termChecksSpec : ChangeSpec := { name := "termChecks", fn := fun _ => fun
  | [d1, d2] => { results := [.lit (.bool true)], args := [d1, d2] }
  | _ => none }
def termChecksRow : OpenClaim := { program := "ythfjlfgoemijaaa", sum := "99e16093ce466973dcc06b47505ccd10ee7169bbacc8867e06b2c1791af0203a", func := "semblance/semblancelaw05.TermChecks", spec := "termChecks", unfollowed := true, recurses := true, apart := false }
def TermChecksSaid : Prop := termChecksRow.holds Try.pinned (OpenSpec.ofChange termChecksSpec)

/-- ITS FALSE NEIGHBOUR: 'it returns false'. Refute it at one input. -/
def termChecksWrong : ChangeSpec := { name := "termChecks", fn := fun _ => fun
  | [d1, d2] => { results := [.lit (.bool false)], args := [d1, d2] }
  | _ => none }
def TermChecksWrongFalsely : Prop := termChecksRow.holds Try.pinned (OpenSpec.ofChange termChecksWrong)

/-- 'semblancelaw05.TermParts': WHATEVER THE INPUT: true; the input reads as it did. -/
def termPartsSpec : ChangeSpec := { name := "termParts", fn := fun _ => fun
  | [d] => { results := [.lit (.bool true)], args := [d] }
  | _ => none }
def termPartsRow : OpenClaim := { program := "ythfjlfgoemijaaa", sum := "99e16093ce466973dcc06b47505ccd10ee7169bbacc8867e06b2c1791af0203a", func := "semblance/semblancelaw05.TermParts", spec := "termParts", unfollowed := true, recurses := true, apart := false }
def TermPartsSaid : Prop := termPartsRow.holds Try.pinned (OpenSpec.ofChange termPartsSpec)

/-- ITS FALSE NEIGHBOUR: 'it returns false'. Refute it at one input. -/
def termPartsWrong : ChangeSpec := { name := "termParts", fn := fun _ => fun
  | [d] => { results := [.lit (.bool false)], args := [d] }
  | _ => none }
def TermPartsWrongFalsely : Prop := termPartsRow.holds Try.pinned (OpenSpec.ofChange termPartsWrong)

/-- 'semblancelaw14.RulesBroken': WHATEVER THE INPUT: true; the input reads as it did. -/
def rulesBrokenSpec : ChangeSpec := { name := "rulesBroken", fn := fun _ => fun
  | [d1, d2] => { results := [.lit (.bool true)], args := [d1, d2] }
  | _ => none }
def rulesBrokenRow : OpenClaim := { program := "ythfjlfgoemijaaa", sum := "99e16093ce466973dcc06b47505ccd10ee7169bbacc8867e06b2c1791af0203a", func := "semblance/semblancelaw14.RulesBroken", spec := "rulesBroken", unfollowed := true, recurses := true, apart := false }
def RulesBrokenSaid : Prop := rulesBrokenRow.holds Try.pinned (OpenSpec.ofChange rulesBrokenSpec)

/-- ITS FALSE NEIGHBOUR: 'it returns false'. Refute it at one input. -/
def rulesBrokenWrong : ChangeSpec := { name := "rulesBroken", fn := fun _ => fun
  | [d1, d2] => { results := [.lit (.bool false)], args := [d1, d2] }
  | _ => none }
def RulesBrokenWrongFalsely : Prop := rulesBrokenRow.holds Try.pinned (OpenSpec.ofChange rulesBrokenWrong)

/-- 'semblancelaw14.RulesAll': WHATEVER THE INPUT: true; the input reads as it did. -/
def rulesAllSpec : ChangeSpec := { name := "rulesAll", fn := fun _ => fun
  | [d] => { results := [.lit (.bool true)], args := [d] }
  | _ => none }
def rulesAllRow : OpenClaim := { program := "ythfjlfgoemijaaa", sum := "99e16093ce466973dcc06b47505ccd10ee7169bbacc8867e06b2c1791af0203a", func := "semblance/semblancelaw14.RulesAll", spec := "rulesAll", unfollowed := true, recurses := true, apart := false }
def RulesAllSaid : Prop := rulesAllRow.holds Try.pinned (OpenSpec.ofChange rulesAllSpec)

/-- ITS FALSE NEIGHBOUR: 'it returns false'. Refute it at one input. -/
def rulesAllWrong : ChangeSpec := { name := "rulesAll", fn := fun _ => fun
  | [d] => { results := [.lit (.bool false)], args := [d] }
  | _ => none }
def RulesAllWrongFalsely : Prop := rulesAllRow.holds Try.pinned (OpenSpec.ofChange rulesAllWrong)

/-- 'semblancelaw07.EvalAt': WHATEVER THE INPUT: true; the input reads as it did. -/
def evalAtSpec : ChangeSpec := { name := "evalAt", fn := fun _ => fun
  | [d1, d2] => { results := [.lit (.bool true)], args := [d1, d2] }
  | _ => none }
def evalAtRow : OpenClaim := { program := "ythfjlfgoemijaaa", sum := "99e16093ce466973dcc06b47505ccd10ee7169bbacc8867e06b2c1791af0203a", func := "semblance/semblancelaw07.EvalAt", spec := "evalAt", unfollowed := true, recurses := true, apart := false }
def EvalAtSaid : Prop := evalAtRow.holds Try.pinned (OpenSpec.ofChange evalAtSpec)

/-- ITS FALSE NEIGHBOUR: 'it returns false'. Refute it at one input. -/
def evalAtWrong : ChangeSpec := { name := "evalAt", fn := fun _ => fun
  | [d1, d2] => { results := [.lit (.bool false)], args := [d1, d2] }
  | _ => none }
def EvalAtWrongFalsely : Prop := evalAtRow.holds Try.pinned (OpenSpec.ofChange evalAtWrong)

/-- 'semblancelaw07.EvalLaws': WHATEVER THE INPUT: true; the input reads as it did. -/
def evalLawsSpec : ChangeSpec := { name := "evalLaws", fn := fun _ => fun
  | [d1, d2, d3] => { results := [.lit (.bool true)], args := [d1, d2, d3] }
  | _ => none }
def evalLawsRow : OpenClaim := { program := "ythfjlfgoemijaaa", sum := "99e16093ce466973dcc06b47505ccd10ee7169bbacc8867e06b2c1791af0203a", func := "semblance/semblancelaw07.EvalLaws", spec := "evalLaws", unfollowed := true, recurses := true, apart := false }
def EvalLawsSaid : Prop := evalLawsRow.holds Try.pinned (OpenSpec.ofChange evalLawsSpec)

/-- ITS FALSE NEIGHBOUR: 'it returns false'. Refute it at one input. -/
def evalLawsWrong : ChangeSpec := { name := "evalLaws", fn := fun _ => fun
  | [d1, d2, d3] => { results := [.lit (.bool false)], args := [d1, d2, d3] }
  | _ => none }
def EvalLawsWrongFalsely : Prop := evalLawsRow.holds Try.pinned (OpenSpec.ofChange evalLawsWrong)

/-- 'semblancelaw02.NamesIs': WHATEVER THE INPUT: true; the input reads as it did. -/
def namesIsSpec : ChangeSpec := { name := "namesIs", fn := fun _ => fun
  | [d] => { results := [.lit (.bool true)], args := [d] }
  | _ => none }
def namesIsRow : OpenClaim := { program := "ythfjlfgoemijaaa", sum := "99e16093ce466973dcc06b47505ccd10ee7169bbacc8867e06b2c1791af0203a", func := "semblance/semblancelaw02.NamesIs", spec := "namesIs", recurses := true, apart := false }
def NamesIsSaid : Prop := namesIsRow.holds Try.pinned (OpenSpec.ofChange namesIsSpec)

/-- ITS FALSE NEIGHBOUR: 'it returns false'. Refute it at one input. -/
def namesIsWrong : ChangeSpec := { name := "namesIs", fn := fun _ => fun
  | [d] => { results := [.lit (.bool false)], args := [d] }
  | _ => none }
def NamesIsWrongFalsely : Prop := namesIsRow.holds Try.pinned (OpenSpec.ofChange namesIsWrong)

/-- 'semblancelaw02.NamesUnion': WHATEVER THE INPUT: true; the input reads as it did. -/
def namesUnionSpec : ChangeSpec := { name := "namesUnion", fn := fun _ => fun
  | [d1, d2] => { results := [.lit (.bool true)], args := [d1, d2] }
  | _ => none }
def namesUnionRow : OpenClaim := { program := "ythfjlfgoemijaaa", sum := "99e16093ce466973dcc06b47505ccd10ee7169bbacc8867e06b2c1791af0203a", func := "semblance/semblancelaw02.NamesUnion", spec := "namesUnion", recurses := true, apart := false }
def NamesUnionSaid : Prop := namesUnionRow.holds Try.pinned (OpenSpec.ofChange namesUnionSpec)

/-- ITS FALSE NEIGHBOUR: 'it returns false'. Refute it at one input. -/
def namesUnionWrong : ChangeSpec := { name := "namesUnion", fn := fun _ => fun
  | [d1, d2] => { results := [.lit (.bool false)], args := [d1, d2] }
  | _ => none }
def NamesUnionWrongFalsely : Prop := namesUnionRow.holds Try.pinned (OpenSpec.ofChange namesUnionWrong)

/-- 'semblancelaw02.NamesLists': WHATEVER THE INPUT: true; the input reads as it did. -/
def namesListsSpec : ChangeSpec := { name := "namesLists", fn := fun _ => fun
  | [d1, d2] => { results := [.lit (.bool true)], args := [d1, d2] }
  | _ => none }
def namesListsRow : OpenClaim := { program := "ythfjlfgoemijaaa", sum := "99e16093ce466973dcc06b47505ccd10ee7169bbacc8867e06b2c1791af0203a", func := "semblance/semblancelaw02.NamesLists", spec := "namesLists", recurses := true, apart := false }
def NamesListsSaid : Prop := namesListsRow.holds Try.pinned (OpenSpec.ofChange namesListsSpec)

/-- ITS FALSE NEIGHBOUR: 'it returns false'. Refute it at one input. -/
def namesListsWrong : ChangeSpec := { name := "namesLists", fn := fun _ => fun
  | [d1, d2] => { results := [.lit (.bool false)], args := [d1, d2] }
  | _ => none }
def NamesListsWrongFalsely : Prop := namesListsRow.holds Try.pinned (OpenSpec.ofChange namesListsWrong)

/-- 'semblancelaw37.HmlPuts': WHATEVER THE INPUT: true; the input reads as it did. -/
def hmlPutsSpec : ChangeSpec := { name := "hmlPuts", fn := fun _ => fun
  | [d] => { results := [.lit (.bool true)], args := [d] }
  | _ => none }
def hmlPutsRow : OpenClaim := { program := "ythfjlfgoemijaaa", sum := "99e16093ce466973dcc06b47505ccd10ee7169bbacc8867e06b2c1791af0203a", func := "semblance/semblancelaw37.HmlPuts", spec := "hmlPuts", inPlace := ["internal/abi.NoEscape", "internal/bytealg.IndexByteString", "internal/bytealg.IndexString"], unfollowed := true, recurses := true, named := ["internal/bytealg.MaxLen"], apart := false }
def HmlPutsSaid : Prop := hmlPutsRow.holds Try.pinned (OpenSpec.ofChange hmlPutsSpec)

/-- ITS FALSE NEIGHBOUR: 'it returns false'. Refute it at one input. -/
def hmlPutsWrong : ChangeSpec := { name := "hmlPuts", fn := fun _ => fun
  | [d] => { results := [.lit (.bool false)], args := [d] }
  | _ => none }
def HmlPutsWrongFalsely : Prop := hmlPutsRow.holds Try.pinned (OpenSpec.ofChange hmlPutsWrong)

/-- 'semblancelaw37.HmlParses': WHATEVER THE INPUT: true; the input reads as it did. -/
def hmlParsesSpec : ChangeSpec := { name := "hmlParses", fn := fun _ => fun
  | [d] => { results := [.lit (.bool true)], args := [d] }
  | _ => none }
def hmlParsesRow : OpenClaim := { program := "ythfjlfgoemijaaa", sum := "99e16093ce466973dcc06b47505ccd10ee7169bbacc8867e06b2c1791af0203a", func := "semblance/semblancelaw37.HmlParses", spec := "hmlParses", inPlace := ["internal/abi.NoEscape", "internal/bytealg.IndexByteString", "internal/bytealg.IndexString"], unfollowed := true, recurses := true, named := ["internal/bytealg.MaxLen"], apart := false }
def HmlParsesSaid : Prop := hmlParsesRow.holds Try.pinned (OpenSpec.ofChange hmlParsesSpec)

/-- ITS FALSE NEIGHBOUR: 'it returns false'. Refute it at one input. -/
def hmlParsesWrong : ChangeSpec := { name := "hmlParses", fn := fun _ => fun
  | [d] => { results := [.lit (.bool false)], args := [d] }
  | _ => none }
def HmlParsesWrongFalsely : Prop := hmlParsesRow.holds Try.pinned (OpenSpec.ofChange hmlParsesWrong)

/-- 'semblancelaw37.HmlTrims': WHATEVER THE INPUT: true; the input reads as it did. -/
def hmlTrimsSpec : ChangeSpec := { name := "hmlTrims", fn := fun _ => fun
  | [d] => { results := [.lit (.bool true)], args := [d] }
  | _ => none }
def hmlTrimsRow : OpenClaim := { program := "ythfjlfgoemijaaa", sum := "99e16093ce466973dcc06b47505ccd10ee7169bbacc8867e06b2c1791af0203a", func := "semblance/semblancelaw37.HmlTrims", spec := "hmlTrims", inPlace := ["internal/abi.NoEscape", "internal/bytealg.IndexByteString", "internal/bytealg.IndexString"], unfollowed := true, recurses := true, named := ["internal/bytealg.MaxLen"], apart := false }
def HmlTrimsSaid : Prop := hmlTrimsRow.holds Try.pinned (OpenSpec.ofChange hmlTrimsSpec)

/-- ITS FALSE NEIGHBOUR: 'it returns false'. Refute it at one input. -/
def hmlTrimsWrong : ChangeSpec := { name := "hmlTrims", fn := fun _ => fun
  | [d] => { results := [.lit (.bool false)], args := [d] }
  | _ => none }
def HmlTrimsWrongFalsely : Prop := hmlTrimsRow.holds Try.pinned (OpenSpec.ofChange hmlTrimsWrong)

/-- 'semblancelaw15.SoundLines': WHATEVER THE INPUT: true; the input reads as it did. -/
def soundLinesSpec : ChangeSpec := { name := "soundLines", fn := fun _ => fun
  | [d1, d2] => { results := [.lit (.bool true)], args := [d1, d2] }
  | _ => none }
def soundLinesRow : OpenClaim := { program := "ythfjlfgoemijaaa", sum := "99e16093ce466973dcc06b47505ccd10ee7169bbacc8867e06b2c1791af0203a", func := "semblance/semblancelaw15.SoundLines", spec := "soundLines", unfollowed := true, recurses := true, apart := false }
def SoundLinesSaid : Prop := soundLinesRow.holds Try.pinned (OpenSpec.ofChange soundLinesSpec)

/-- ITS FALSE NEIGHBOUR: 'it returns false'. Refute it at one input. -/
def soundLinesWrong : ChangeSpec := { name := "soundLines", fn := fun _ => fun
  | [d1, d2] => { results := [.lit (.bool false)], args := [d1, d2] }
  | _ => none }
def SoundLinesWrongFalsely : Prop := soundLinesRow.holds Try.pinned (OpenSpec.ofChange soundLinesWrong)

/-- 'semblancelaw30.UnionOf': WHATEVER THE INPUT: true; the input reads as it did. -/
def unionOfSpec : ChangeSpec := { name := "unionOf", fn := fun _ => fun
  | [d1, d2] => { results := [.lit (.bool true)], args := [d1, d2] }
  | _ => none }
def unionOfRow : OpenClaim := { program := "ythfjlfgoemijaaa", sum := "99e16093ce466973dcc06b47505ccd10ee7169bbacc8867e06b2c1791af0203a", func := "semblance/semblancelaw30.UnionOf", spec := "unionOf", unfollowed := true, recurses := true, apart := false }
def UnionOfSaid : Prop := unionOfRow.holds Try.pinned (OpenSpec.ofChange unionOfSpec)

/-- ITS FALSE NEIGHBOUR: 'it returns false'. Refute it at one input. -/
def unionOfWrong : ChangeSpec := { name := "unionOf", fn := fun _ => fun
  | [d1, d2] => { results := [.lit (.bool false)], args := [d1, d2] }
  | _ => none }
def UnionOfWrongFalsely : Prop := unionOfRow.holds Try.pinned (OpenSpec.ofChange unionOfWrong)

/-- 'semblancelaw30.UnionFull': WHATEVER THE INPUT: true; the input reads as it did. -/
def unionFullSpec : ChangeSpec := { name := "unionFull", fn := fun _ => fun
  | [d1, d2] => { results := [.lit (.bool true)], args := [d1, d2] }
  | _ => none }
def unionFullRow : OpenClaim := { program := "ythfjlfgoemijaaa", sum := "99e16093ce466973dcc06b47505ccd10ee7169bbacc8867e06b2c1791af0203a", func := "semblance/semblancelaw30.UnionFull", spec := "unionFull", unfollowed := true, recurses := true, apart := false }
def UnionFullSaid : Prop := unionFullRow.holds Try.pinned (OpenSpec.ofChange unionFullSpec)

/-- ITS FALSE NEIGHBOUR: 'it returns false'. Refute it at one input. -/
def unionFullWrong : ChangeSpec := { name := "unionFull", fn := fun _ => fun
  | [d1, d2] => { results := [.lit (.bool false)], args := [d1, d2] }
  | _ => none }
def UnionFullWrongFalsely : Prop := unionFullRow.holds Try.pinned (OpenSpec.ofChange unionFullWrong)

/-- 'semblancelaw30.UnionHalves': WHATEVER THE INPUT: true; the input reads as it did. -/
def unionHalvesSpec : ChangeSpec := { name := "unionHalves", fn := fun _ => fun
  | [d1, d2] => { results := [.lit (.bool true)], args := [d1, d2] }
  | _ => none }
def unionHalvesRow : OpenClaim := { program := "ythfjlfgoemijaaa", sum := "99e16093ce466973dcc06b47505ccd10ee7169bbacc8867e06b2c1791af0203a", func := "semblance/semblancelaw30.UnionHalves", spec := "unionHalves", unfollowed := true, recurses := true, apart := false }
def UnionHalvesSaid : Prop := unionHalvesRow.holds Try.pinned (OpenSpec.ofChange unionHalvesSpec)

/-- ITS FALSE NEIGHBOUR: 'it returns false'. Refute it at one input. -/
def unionHalvesWrong : ChangeSpec := { name := "unionHalves", fn := fun _ => fun
  | [d1, d2] => { results := [.lit (.bool false)], args := [d1, d2] }
  | _ => none }
def UnionHalvesWrongFalsely : Prop := unionHalvesRow.holds Try.pinned (OpenSpec.ofChange unionHalvesWrong)

/- THE SECOND FORM. 'bulk': how many values and letters a reading holds, each counted each time it is reached (what is shared counts as often as it is met; a slice's spare places count too). A statement '..UptoSaid' is the law's where the arguments, and the package variables that the reading takes, are together of bulk at most 1048576: NARROWER than '..Said'. Prove '..Said' where nothing that the law and all that it calls make is longer than what came in: it says more and counts as full. Else prove '..UptoSaid'. A law counts once. -/
mutual
def uptoBulk {H : Type} : DataW H → Nat
  | .lit (.string bytes) => bytes.length + 1
  | .lit _ => 1
  | .nil => 1
  | .ptr d => uptoBulk d + 1
  | .slice elems spare => uptoBulkAll elems + uptoBulkAll spare + 1
  | .agg parts => uptoBulkAll parts + 1
  | .iface _ d => uptoBulk d + 1
  | .map entries => uptoBulkEntries entries + 1
  | .held _ => 1
def uptoBulkAll {H : Type} : List (DataW H) → Nat
  | [] => 0
  | d :: r => uptoBulk d + uptoBulkAll r
def uptoBulkEntries {H : Type} : List (Lit × DataW H) → Nat
  | [] => 0
  | x :: r => uptoBulkEntry x + uptoBulkEntries r
def uptoBulkEntry {H : Type} : Lit × DataW H → Nat
  | (.string bytes, d) => bytes.length + uptoBulk d + 1
  | (_, d) => uptoBulk d + 1
 end
def uptoSmall : (H : Type) → List (DataW H) → Bool := fun _ ds => decide (uptoBulkAll ds ≤ 1048576)
def OpenSpec.upto (s : _root_.Go.ChangeSpec) : _root_.Go.OpenSpec := { _root_.Go.OpenSpec.ofChange s with cond := some uptoSmall }

/-- 'semblancelaw05.TermEnds', WHERE WHAT IT READS IS OF BULK AT MOST 1048576: true; the input reads as it did. -/
def termEndsUptoRow : OpenClaim := { program := "ythfjlfgoemijaaa", sum := "99e16093ce466973dcc06b47505ccd10ee7169bbacc8867e06b2c1791af0203a", func := "semblance/semblancelaw05.TermEnds", spec := "termEnds", unfollowed := true, recurses := true, apart := false, narrowed := true }
def TermEndsUptoSaid : Prop := termEndsUptoRow.holds Try.pinned (OpenSpec.upto termEndsSpec)

/-- 'semblancelaw05.TermChecks', WHERE WHAT IT READS IS OF BULK AT MOST 1048576: true; the input reads as it did. -/
def termChecksUptoRow : OpenClaim := { program := "ythfjlfgoemijaaa", sum := "99e16093ce466973dcc06b47505ccd10ee7169bbacc8867e06b2c1791af0203a", func := "semblance/semblancelaw05.TermChecks", spec := "termChecks", unfollowed := true, recurses := true, apart := false, narrowed := true }
def TermChecksUptoSaid : Prop := termChecksUptoRow.holds Try.pinned (OpenSpec.upto termChecksSpec)

/-- 'semblancelaw05.TermParts', WHERE WHAT IT READS IS OF BULK AT MOST 1048576: true; the input reads as it did. -/
def termPartsUptoRow : OpenClaim := { program := "ythfjlfgoemijaaa", sum := "99e16093ce466973dcc06b47505ccd10ee7169bbacc8867e06b2c1791af0203a", func := "semblance/semblancelaw05.TermParts", spec := "termParts", unfollowed := true, recurses := true, apart := false, narrowed := true }
def TermPartsUptoSaid : Prop := termPartsUptoRow.holds Try.pinned (OpenSpec.upto termPartsSpec)

/-- 'semblancelaw14.RulesBroken', WHERE WHAT IT READS IS OF BULK AT MOST 1048576: true; the input reads as it did. -/
def rulesBrokenUptoRow : OpenClaim := { program := "ythfjlfgoemijaaa", sum := "99e16093ce466973dcc06b47505ccd10ee7169bbacc8867e06b2c1791af0203a", func := "semblance/semblancelaw14.RulesBroken", spec := "rulesBroken", unfollowed := true, recurses := true, apart := false, narrowed := true }
def RulesBrokenUptoSaid : Prop := rulesBrokenUptoRow.holds Try.pinned (OpenSpec.upto rulesBrokenSpec)

/-- 'semblancelaw14.RulesAll', WHERE WHAT IT READS IS OF BULK AT MOST 1048576: true; the input reads as it did. -/
def rulesAllUptoRow : OpenClaim := { program := "ythfjlfgoemijaaa", sum := "99e16093ce466973dcc06b47505ccd10ee7169bbacc8867e06b2c1791af0203a", func := "semblance/semblancelaw14.RulesAll", spec := "rulesAll", unfollowed := true, recurses := true, apart := false, narrowed := true }
def RulesAllUptoSaid : Prop := rulesAllUptoRow.holds Try.pinned (OpenSpec.upto rulesAllSpec)

/-- 'semblancelaw07.EvalAt', WHERE WHAT IT READS IS OF BULK AT MOST 1048576: true; the input reads as it did. -/
def evalAtUptoRow : OpenClaim := { program := "ythfjlfgoemijaaa", sum := "99e16093ce466973dcc06b47505ccd10ee7169bbacc8867e06b2c1791af0203a", func := "semblance/semblancelaw07.EvalAt", spec := "evalAt", unfollowed := true, recurses := true, apart := false, narrowed := true }
def EvalAtUptoSaid : Prop := evalAtUptoRow.holds Try.pinned (OpenSpec.upto evalAtSpec)

/-- 'semblancelaw07.EvalLaws', WHERE WHAT IT READS IS OF BULK AT MOST 1048576: true; the input reads as it did. -/
def evalLawsUptoRow : OpenClaim := { program := "ythfjlfgoemijaaa", sum := "99e16093ce466973dcc06b47505ccd10ee7169bbacc8867e06b2c1791af0203a", func := "semblance/semblancelaw07.EvalLaws", spec := "evalLaws", unfollowed := true, recurses := true, apart := false, narrowed := true }
def EvalLawsUptoSaid : Prop := evalLawsUptoRow.holds Try.pinned (OpenSpec.upto evalLawsSpec)

/-- 'semblancelaw02.NamesIs', WHERE WHAT IT READS IS OF BULK AT MOST 1048576: true; the input reads as it did. -/
def namesIsUptoRow : OpenClaim := { program := "ythfjlfgoemijaaa", sum := "99e16093ce466973dcc06b47505ccd10ee7169bbacc8867e06b2c1791af0203a", func := "semblance/semblancelaw02.NamesIs", spec := "namesIs", recurses := true, apart := false, narrowed := true }
def NamesIsUptoSaid : Prop := namesIsUptoRow.holds Try.pinned (OpenSpec.upto namesIsSpec)

/-- 'semblancelaw02.NamesUnion', WHERE WHAT IT READS IS OF BULK AT MOST 1048576: true; the input reads as it did. -/
def namesUnionUptoRow : OpenClaim := { program := "ythfjlfgoemijaaa", sum := "99e16093ce466973dcc06b47505ccd10ee7169bbacc8867e06b2c1791af0203a", func := "semblance/semblancelaw02.NamesUnion", spec := "namesUnion", recurses := true, apart := false, narrowed := true }
def NamesUnionUptoSaid : Prop := namesUnionUptoRow.holds Try.pinned (OpenSpec.upto namesUnionSpec)

/-- 'semblancelaw02.NamesLists', WHERE WHAT IT READS IS OF BULK AT MOST 1048576: true; the input reads as it did. -/
def namesListsUptoRow : OpenClaim := { program := "ythfjlfgoemijaaa", sum := "99e16093ce466973dcc06b47505ccd10ee7169bbacc8867e06b2c1791af0203a", func := "semblance/semblancelaw02.NamesLists", spec := "namesLists", recurses := true, apart := false, narrowed := true }
def NamesListsUptoSaid : Prop := namesListsUptoRow.holds Try.pinned (OpenSpec.upto namesListsSpec)

/-- 'semblancelaw37.HmlPuts', WHERE WHAT IT READS IS OF BULK AT MOST 1048576: true; the input reads as it did. -/
def hmlPutsUptoRow : OpenClaim := { program := "ythfjlfgoemijaaa", sum := "99e16093ce466973dcc06b47505ccd10ee7169bbacc8867e06b2c1791af0203a", func := "semblance/semblancelaw37.HmlPuts", spec := "hmlPuts", inPlace := ["internal/abi.NoEscape", "internal/bytealg.IndexByteString", "internal/bytealg.IndexString"], unfollowed := true, recurses := true, named := ["internal/bytealg.MaxLen"], apart := false, narrowed := true }
def HmlPutsUptoSaid : Prop := hmlPutsUptoRow.holds Try.pinned (OpenSpec.upto hmlPutsSpec)

/-- 'semblancelaw37.HmlParses', WHERE WHAT IT READS IS OF BULK AT MOST 1048576: true; the input reads as it did. -/
def hmlParsesUptoRow : OpenClaim := { program := "ythfjlfgoemijaaa", sum := "99e16093ce466973dcc06b47505ccd10ee7169bbacc8867e06b2c1791af0203a", func := "semblance/semblancelaw37.HmlParses", spec := "hmlParses", inPlace := ["internal/abi.NoEscape", "internal/bytealg.IndexByteString", "internal/bytealg.IndexString"], unfollowed := true, recurses := true, named := ["internal/bytealg.MaxLen"], apart := false, narrowed := true }
def HmlParsesUptoSaid : Prop := hmlParsesUptoRow.holds Try.pinned (OpenSpec.upto hmlParsesSpec)

/-- 'semblancelaw37.HmlTrims', WHERE WHAT IT READS IS OF BULK AT MOST 1048576: true; the input reads as it did. -/
def hmlTrimsUptoRow : OpenClaim := { program := "ythfjlfgoemijaaa", sum := "99e16093ce466973dcc06b47505ccd10ee7169bbacc8867e06b2c1791af0203a", func := "semblance/semblancelaw37.HmlTrims", spec := "hmlTrims", inPlace := ["internal/abi.NoEscape", "internal/bytealg.IndexByteString", "internal/bytealg.IndexString"], unfollowed := true, recurses := true, named := ["internal/bytealg.MaxLen"], apart := false, narrowed := true }
def HmlTrimsUptoSaid : Prop := hmlTrimsUptoRow.holds Try.pinned (OpenSpec.upto hmlTrimsSpec)

/-- 'semblancelaw15.SoundLines', WHERE WHAT IT READS IS OF BULK AT MOST 1048576: true; the input reads as it did. -/
def soundLinesUptoRow : OpenClaim := { program := "ythfjlfgoemijaaa", sum := "99e16093ce466973dcc06b47505ccd10ee7169bbacc8867e06b2c1791af0203a", func := "semblance/semblancelaw15.SoundLines", spec := "soundLines", unfollowed := true, recurses := true, apart := false, narrowed := true }
def SoundLinesUptoSaid : Prop := soundLinesUptoRow.holds Try.pinned (OpenSpec.upto soundLinesSpec)

/-- 'semblancelaw30.UnionOf', WHERE WHAT IT READS IS OF BULK AT MOST 1048576: true; the input reads as it did. -/
def unionOfUptoRow : OpenClaim := { program := "ythfjlfgoemijaaa", sum := "99e16093ce466973dcc06b47505ccd10ee7169bbacc8867e06b2c1791af0203a", func := "semblance/semblancelaw30.UnionOf", spec := "unionOf", unfollowed := true, recurses := true, apart := false, narrowed := true }
def UnionOfUptoSaid : Prop := unionOfUptoRow.holds Try.pinned (OpenSpec.upto unionOfSpec)

/-- 'semblancelaw30.UnionFull', WHERE WHAT IT READS IS OF BULK AT MOST 1048576: true; the input reads as it did. -/
def unionFullUptoRow : OpenClaim := { program := "ythfjlfgoemijaaa", sum := "99e16093ce466973dcc06b47505ccd10ee7169bbacc8867e06b2c1791af0203a", func := "semblance/semblancelaw30.UnionFull", spec := "unionFull", unfollowed := true, recurses := true, apart := false, narrowed := true }
def UnionFullUptoSaid : Prop := unionFullUptoRow.holds Try.pinned (OpenSpec.upto unionFullSpec)

/-- 'semblancelaw30.UnionHalves', WHERE WHAT IT READS IS OF BULK AT MOST 1048576: true; the input reads as it did. -/
def unionHalvesUptoRow : OpenClaim := { program := "ythfjlfgoemijaaa", sum := "99e16093ce466973dcc06b47505ccd10ee7169bbacc8867e06b2c1791af0203a", func := "semblance/semblancelaw30.UnionHalves", spec := "unionHalves", unfollowed := true, recurses := true, apart := false, narrowed := true }
def UnionHalvesUptoSaid : Prop := unionHalvesUptoRow.holds Try.pinned (OpenSpec.upto unionHalvesSpec)

end Rows
end Go.Proofs.Ythfjlfgoemijaaa
