/-
  No cell of these rows narrows 'for every input' (looked for: loops, veiled, ifaces, maps, wideKeys, modest, calm, conditions, laid).
  DERIVED. THE GIVEN ROWS OF THIS SEAT. 7 by the template 'for every input the law returns true; each argument reads behind the call as it read before'; 0 by the template 'total and deterministic' (their statements: YtbkaiojofgmbnaaTotals.lean).
  GIVEN WITH THE SEED: the statements are not yours to turn. If you find one false, say at which input.
  Laid BY PROGRAM, IN A SANDBOX (cutbox-rows.mjs): the forced cells as the released guide's own fill.sh prints them over the translation 03d7fb2bd7390c09… (all of the seat's roots in one cut). By AI agents, Wed Nov 11 2026. No macro, syntax, notation, axiom, sorry.
-/
import Derived.Test.YtbkaiojofgmbnaaChecked
import GoSem.Claim
import GoSem.ClaimJoined
import GoSem.ClaimMapViews
import Derived.JoinedTies
import Derived.KernelRfl
namespace Go.Proofs.Ytbkaiojofgmbnaa
/- THE CELL 'sum', in the pinned program and in every row, IS THE sha256 OF THE DUMP (.gsa) THAT YtbkaiojofgmbnaaProg.lean LOADS. Nothing in Lean hashes anything: it is a label: what it is worth is what the hold of that sum in a sandbox is worth. -/
noncomputable def Try.pinned : Pinned := { name := "ytbkaiojofgmbnaa", sum := "03d7fb2bd7390c09b6d78456190b288b2703e71b324ebc096e4d20e8fe5dc7c3", checked := Try.checked }
namespace Rows
def none {H : Type} : Left H := { results := [], args := [] }

/-- 'semblancelaw30.UnionOf': WHATEVER THE INPUT: true; the input reads as it did. -/
def unionOfSpec : ChangeSpec := { name := "unionOf", fn := fun _ => fun
  | [d1, d2] => { results := [.lit (.bool true)], args := [d1, d2] }
  | _ => none }
def unionOfRow : OpenClaim := { program := "ytbkaiojofgmbnaa", sum := "03d7fb2bd7390c09b6d78456190b288b2703e71b324ebc096e4d20e8fe5dc7c3", func := "semblance/semblancelaw30.UnionOf", spec := "unionOf", unfollowed := true, recurses := true, apart := false }
def UnionOfSaid : Prop := unionOfRow.holds Try.pinned (OpenSpec.ofChange unionOfSpec)

/-- ITS FALSE NEIGHBOUR: 'it returns false'. Refute it at one input. -/
def unionOfWrong : ChangeSpec := { name := "unionOf", fn := fun _ => fun
  | [d1, d2] => { results := [.lit (.bool false)], args := [d1, d2] }
  | _ => none }
def UnionOfWrongFalsely : Prop := unionOfRow.holds Try.pinned (OpenSpec.ofChange unionOfWrong)

/-- 'semblancelaw30.UnionFull': WHATEVER THE INPUT: true; the input reads as it did. -/
def unionFullSpec : ChangeSpec := { name := "unionFull", fn := fun _ => fun
  | [d1, d2] => { results := [.lit (.bool true)], args := [d1, d2] }
  | _ => none }
def unionFullRow : OpenClaim := { program := "ytbkaiojofgmbnaa", sum := "03d7fb2bd7390c09b6d78456190b288b2703e71b324ebc096e4d20e8fe5dc7c3", func := "semblance/semblancelaw30.UnionFull", spec := "unionFull", unfollowed := true, recurses := true, apart := false }
def UnionFullSaid : Prop := unionFullRow.holds Try.pinned (OpenSpec.ofChange unionFullSpec)

/-- ITS FALSE NEIGHBOUR: 'it returns false'. Refute it at one input. -/
def unionFullWrong : ChangeSpec := { name := "unionFull", fn := fun _ => fun
  | [d1, d2] => { results := [.lit (.bool false)], args := [d1, d2] }
  | _ => none }
def UnionFullWrongFalsely : Prop := unionFullRow.holds Try.pinned (OpenSpec.ofChange unionFullWrong)

/-- 'semblancelaw30.UnionHalves': WHATEVER THE INPUT: true; the input reads as it did. -/
def unionHalvesSpec : ChangeSpec := { name := "unionHalves", fn := fun _ => fun
  | [d1, d2] => { results := [.lit (.bool true)], args := [d1, d2] }
  | _ => none }
def unionHalvesRow : OpenClaim := { program := "ytbkaiojofgmbnaa", sum := "03d7fb2bd7390c09b6d78456190b288b2703e71b324ebc096e4d20e8fe5dc7c3", func := "semblance/semblancelaw30.UnionHalves", spec := "unionHalves", unfollowed := true, recurses := true, apart := false }
def UnionHalvesSaid : Prop := unionHalvesRow.holds Try.pinned (OpenSpec.ofChange unionHalvesSpec)

/-- ITS FALSE NEIGHBOUR: 'it returns false'. Refute it at one input. -/
def unionHalvesWrong : ChangeSpec := { name := "unionHalves", fn := fun _ => fun
  | [d1, d2] => { results := [.lit (.bool false)], args := [d1, d2] }
  | _ => none }
def UnionHalvesWrongFalsely : Prop := unionHalvesRow.holds Try.pinned (OpenSpec.ofChange unionHalvesWrong)

/-- 'semblancelaw37.HmlPuts': WHATEVER THE INPUT: true; the input reads as it did. -/
def hmlPutsSpec : ChangeSpec := { name := "hmlPuts", fn := fun _ => fun
  | [d] => { results := [.lit (.bool true)], args := [d] }
  | _ => none }
def hmlPutsRow : OpenClaim := { program := "ytbkaiojofgmbnaa", sum := "03d7fb2bd7390c09b6d78456190b288b2703e71b324ebc096e4d20e8fe5dc7c3", func := "semblance/semblancelaw37.HmlPuts", spec := "hmlPuts", inPlace := ["internal/abi.NoEscape", "internal/bytealg.IndexByteString", "internal/bytealg.IndexString"], unfollowed := true, recurses := true, named := ["internal/bytealg.MaxLen"], apart := false }
def HmlPutsSaid : Prop := hmlPutsRow.holds Try.pinned (OpenSpec.ofChange hmlPutsSpec)

/-- ITS FALSE NEIGHBOUR: 'it returns false'. Refute it at one input. -/
def hmlPutsWrong : ChangeSpec := { name := "hmlPuts", fn := fun _ => fun
  | [d] => { results := [.lit (.bool false)], args := [d] }
  | _ => none }
def HmlPutsWrongFalsely : Prop := hmlPutsRow.holds Try.pinned (OpenSpec.ofChange hmlPutsWrong)

/-- 'semblancelaw37.HmlParses': WHATEVER THE INPUT: true; the input reads as it did. -/
def hmlParsesSpec : ChangeSpec := { name := "hmlParses", fn := fun _ => fun
  | [d] => { results := [.lit (.bool true)], args := [d] }
  | _ => none }
def hmlParsesRow : OpenClaim := { program := "ytbkaiojofgmbnaa", sum := "03d7fb2bd7390c09b6d78456190b288b2703e71b324ebc096e4d20e8fe5dc7c3", func := "semblance/semblancelaw37.HmlParses", spec := "hmlParses", inPlace := ["internal/abi.NoEscape", "internal/bytealg.IndexByteString", "internal/bytealg.IndexString"], unfollowed := true, recurses := true, named := ["internal/bytealg.MaxLen"], apart := false }
def HmlParsesSaid : Prop := hmlParsesRow.holds Try.pinned (OpenSpec.ofChange hmlParsesSpec)

/-- ITS FALSE NEIGHBOUR: 'it returns false'. Refute it at one input. -/
def hmlParsesWrong : ChangeSpec := { name := "hmlParses", fn := fun _ => fun
  | [d] => { results := [.lit (.bool false)], args := [d] }
  | _ => none }
def HmlParsesWrongFalsely : Prop := hmlParsesRow.holds Try.pinned (OpenSpec.ofChange hmlParsesWrong)

/-- 'semblancelaw37.HmlTrims': WHATEVER THE INPUT: true; the input reads as it did. -/
def hmlTrimsSpec : ChangeSpec := { name := "hmlTrims", fn := fun _ => fun
  | [d] => { results := [.lit (.bool true)], args := [d] }
  | _ => none }
def hmlTrimsRow : OpenClaim := { program := "ytbkaiojofgmbnaa", sum := "03d7fb2bd7390c09b6d78456190b288b2703e71b324ebc096e4d20e8fe5dc7c3", func := "semblance/semblancelaw37.HmlTrims", spec := "hmlTrims", inPlace := ["internal/abi.NoEscape", "internal/bytealg.IndexByteString", "internal/bytealg.IndexString"], unfollowed := true, recurses := true, named := ["internal/bytealg.MaxLen"], apart := false }
def HmlTrimsSaid : Prop := hmlTrimsRow.holds Try.pinned (OpenSpec.ofChange hmlTrimsSpec)

/-- ITS FALSE NEIGHBOUR: 'it returns false'. Refute it at one input. -/
def hmlTrimsWrong : ChangeSpec := { name := "hmlTrims", fn := fun _ => fun
  | [d] => { results := [.lit (.bool false)], args := [d] }
  | _ => none }
def HmlTrimsWrongFalsely : Prop := hmlTrimsRow.holds Try.pinned (OpenSpec.ofChange hmlTrimsWrong)

/-- 'semblancelaw15.SoundLines': WHATEVER THE INPUT: true; the input reads as it did. -/
def soundLinesSpec : ChangeSpec := { name := "soundLines", fn := fun _ => fun
  | [d1, d2] => { results := [.lit (.bool true)], args := [d1, d2] }
  | _ => none }
def soundLinesRow : OpenClaim := { program := "ytbkaiojofgmbnaa", sum := "03d7fb2bd7390c09b6d78456190b288b2703e71b324ebc096e4d20e8fe5dc7c3", func := "semblance/semblancelaw15.SoundLines", spec := "soundLines", unfollowed := true, recurses := true, apart := false }
def SoundLinesSaid : Prop := soundLinesRow.holds Try.pinned (OpenSpec.ofChange soundLinesSpec)

/-- ITS FALSE NEIGHBOUR: 'it returns false'. Refute it at one input. -/
def soundLinesWrong : ChangeSpec := { name := "soundLines", fn := fun _ => fun
  | [d1, d2] => { results := [.lit (.bool false)], args := [d1, d2] }
  | _ => none }
def SoundLinesWrongFalsely : Prop := soundLinesRow.holds Try.pinned (OpenSpec.ofChange soundLinesWrong)

/- THE SECOND FORM. 'bulk': how many values and letters a reading holds, each counted each time it is reached (what is shared counts as often as it is met; a slice's spare places count too). A statement '..UptoSaid' is the law's where the arguments, and the package variables that the reading takes, are together of bulk at most 1048576: NARROWER than '..Said'. Prove '..Said' where nothing that the law and all that it calls make is longer than what came in: it says more and counts as full. Else prove '..UptoSaid'. A law counts once. -/
mutual
def uptoBulk {H : Type} : DataW H → Nat
  | .lit (.string bytes) => bytes.length + 1
  | .lit _ => 1
  | .nil => 1
  | .ptr d => uptoBulk d + 1
  | .slice elems spare => uptoBulkAll elems + uptoBulkAll spare + 1
  | .agg parts => uptoBulkAll parts + 1
  | .iface _ d => uptoBulk d + 1
  | .map entries => uptoBulkEntries entries + 1
  | .held _ => 1
def uptoBulkAll {H : Type} : List (DataW H) → Nat
  | [] => 0
  | d :: r => uptoBulk d + uptoBulkAll r
def uptoBulkEntries {H : Type} : List (Lit × DataW H) → Nat
  | [] => 0
  | x :: r => uptoBulkEntry x + uptoBulkEntries r
def uptoBulkEntry {H : Type} : Lit × DataW H → Nat
  | (.string bytes, d) => bytes.length + uptoBulk d + 1
  | (_, d) => uptoBulk d + 1
 end
def uptoSmall : (H : Type) → List (DataW H) → Bool := fun _ ds => decide (uptoBulkAll ds ≤ 1048576)
def OpenSpec.upto (s : _root_.Go.ChangeSpec) : _root_.Go.OpenSpec := { _root_.Go.OpenSpec.ofChange s with cond := some uptoSmall }

/-- 'semblancelaw30.UnionOf', WHERE WHAT IT READS IS OF BULK AT MOST 1048576: true; the input reads as it did. -/
def unionOfUptoRow : OpenClaim := { program := "ytbkaiojofgmbnaa", sum := "03d7fb2bd7390c09b6d78456190b288b2703e71b324ebc096e4d20e8fe5dc7c3", func := "semblance/semblancelaw30.UnionOf", spec := "unionOf", unfollowed := true, recurses := true, apart := false, narrowed := true }
def UnionOfUptoSaid : Prop := unionOfUptoRow.holds Try.pinned (OpenSpec.upto unionOfSpec)

/-- 'semblancelaw30.UnionFull', WHERE WHAT IT READS IS OF BULK AT MOST 1048576: true; the input reads as it did. -/
def unionFullUptoRow : OpenClaim := { program := "ytbkaiojofgmbnaa", sum := "03d7fb2bd7390c09b6d78456190b288b2703e71b324ebc096e4d20e8fe5dc7c3", func := "semblance/semblancelaw30.UnionFull", spec := "unionFull", unfollowed := true, recurses := true, apart := false, narrowed := true }
def UnionFullUptoSaid : Prop := unionFullUptoRow.holds Try.pinned (OpenSpec.upto unionFullSpec)

/-- 'semblancelaw30.UnionHalves', WHERE WHAT IT READS IS OF BULK AT MOST 1048576: true; the input reads as it did. -/
def unionHalvesUptoRow : OpenClaim := { program := "ytbkaiojofgmbnaa", sum := "03d7fb2bd7390c09b6d78456190b288b2703e71b324ebc096e4d20e8fe5dc7c3", func := "semblance/semblancelaw30.UnionHalves", spec := "unionHalves", unfollowed := true, recurses := true, apart := false, narrowed := true }
def UnionHalvesUptoSaid : Prop := unionHalvesUptoRow.holds Try.pinned (OpenSpec.upto unionHalvesSpec)

/-- 'semblancelaw37.HmlPuts', WHERE WHAT IT READS IS OF BULK AT MOST 1048576: true; the input reads as it did. -/
def hmlPutsUptoRow : OpenClaim := { program := "ytbkaiojofgmbnaa", sum := "03d7fb2bd7390c09b6d78456190b288b2703e71b324ebc096e4d20e8fe5dc7c3", func := "semblance/semblancelaw37.HmlPuts", spec := "hmlPuts", inPlace := ["internal/abi.NoEscape", "internal/bytealg.IndexByteString", "internal/bytealg.IndexString"], unfollowed := true, recurses := true, named := ["internal/bytealg.MaxLen"], apart := false, narrowed := true }
def HmlPutsUptoSaid : Prop := hmlPutsUptoRow.holds Try.pinned (OpenSpec.upto hmlPutsSpec)

/-- 'semblancelaw37.HmlParses', WHERE WHAT IT READS IS OF BULK AT MOST 1048576: true; the input reads as it did. -/
def hmlParsesUptoRow : OpenClaim := { program := "ytbkaiojofgmbnaa", sum := "03d7fb2bd7390c09b6d78456190b288b2703e71b324ebc096e4d20e8fe5dc7c3", func := "semblance/semblancelaw37.HmlParses", spec := "hmlParses", inPlace := ["internal/abi.NoEscape", "internal/bytealg.IndexByteString", "internal/bytealg.IndexString"], unfollowed := true, recurses := true, named := ["internal/bytealg.MaxLen"], apart := false, narrowed := true }
def HmlParsesUptoSaid : Prop := hmlParsesUptoRow.holds Try.pinned (OpenSpec.upto hmlParsesSpec)

/-- 'semblancelaw37.HmlTrims', WHERE WHAT IT READS IS OF BULK AT MOST 1048576: true; the input reads as it did. -/
def hmlTrimsUptoRow : OpenClaim := { program := "ytbkaiojofgmbnaa", sum := "03d7fb2bd7390c09b6d78456190b288b2703e71b324ebc096e4d20e8fe5dc7c3", func := "semblance/semblancelaw37.HmlTrims", spec := "hmlTrims", inPlace := ["internal/abi.NoEscape", "internal/bytealg.IndexByteString", "internal/bytealg.IndexString"], unfollowed := true, recurses := true, named := ["internal/bytealg.MaxLen"], apart := false, narrowed := true }
def HmlTrimsUptoSaid : Prop := hmlTrimsUptoRow.holds Try.pinned (OpenSpec.upto hmlTrimsSpec)

/-- 'semblancelaw15.SoundLines', WHERE WHAT IT READS IS OF BULK AT MOST 1048576: true; the input reads as it did. -/
def soundLinesUptoRow : OpenClaim := { program := "ytbkaiojofgmbnaa", sum := "03d7fb2bd7390c09b6d78456190b288b2703e71b324ebc096e4d20e8fe5dc7c3", func := "semblance/semblancelaw15.SoundLines", spec := "soundLines", unfollowed := true, recurses := true, apart := false, narrowed := true }
def SoundLinesUptoSaid : Prop := soundLinesUptoRow.holds Try.pinned (OpenSpec.upto soundLinesSpec)

end Rows
end Go.Proofs.Ytbkaiojofgmbnaa
