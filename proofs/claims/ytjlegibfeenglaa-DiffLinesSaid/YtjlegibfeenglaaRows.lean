/-
  No cell of these rows narrows 'for every input' (looked for: loops, veiled, ifaces, maps, wideKeys, modest, calm, conditions, laid).
  DERIVED. THE GIVEN ROWS OF THIS SEAT. 9 by the template 'for every input the law returns true; each argument reads behind the call as it read before'; 0 by the template 'total and deterministic' (their statements: YtjlegibfeenglaaTotals.lean).
  GIVEN WITH THE SEED: the statements are not yours to turn. If you find one false, say at which input.
  Laid BY PROGRAM, IN A SANDBOX (cutbox-rows.mjs): the forced cells as the released guide's own fill.sh prints them over the translation 5b7ce187adae47b3… (all of the seat's roots in one cut). By AI agents, Wed Nov 11 2026. No macro, syntax, notation, axiom, sorry.
-/
import Derived.Test.YtjlegibfeenglaaChecked
import GoSem.Claim
import GoSem.ClaimJoined
import GoSem.ClaimMapViews
import Derived.JoinedTies
import Derived.KernelRfl
namespace Go.Proofs.Ytjlegibfeenglaa
/- THE CELL 'sum', in the pinned program and in every row, IS THE sha256 OF THE DUMP (.gsa) THAT YtjlegibfeenglaaProg.lean LOADS. Nothing in Lean hashes anything: it is a label: what it is worth is what the hold of that sum in a sandbox is worth. -/
noncomputable def Try.pinned : Pinned := { name := "ytjlegibfeenglaa", sum := "5b7ce187adae47b30d6e43fd5fb669c95a089830f9b61b1a0e7bd917e04a1456", checked := Try.checked }
namespace Rows
def none {H : Type} : Left H := { results := [], args := [] }

/-- 'semblancelaw31.PartMeets': WHATEVER THE INPUT: true; the input reads as it did. -/
def partMeetsSpec : ChangeSpec := { name := "partMeets", fn := fun _ => fun
  | [d1, d2, d3] => { results := [.lit (.bool true)], args := [d1, d2, d3] }
  | _ => none }
def partMeetsRow : OpenClaim := { program := "ytjlegibfeenglaa", sum := "5b7ce187adae47b30d6e43fd5fb669c95a089830f9b61b1a0e7bd917e04a1456", func := "semblance/semblancelaw31.PartMeets", spec := "partMeets", plainKeys := false, apart := false }
def PartMeetsSaid : Prop := partMeetsRow.holds Try.pinned (OpenSpec.ofChange partMeetsSpec)

/-- ITS FALSE NEIGHBOUR: 'it returns false'. Refute it at one input. -/
def partMeetsWrong : ChangeSpec := { name := "partMeets", fn := fun _ => fun
  | [d1, d2, d3] => { results := [.lit (.bool false)], args := [d1, d2, d3] }
  | _ => none }
def PartMeetsWrongFalsely : Prop := partMeetsRow.holds Try.pinned (OpenSpec.ofChange partMeetsWrong)

/-- 'semblancelaw55.TallyAsks': WHATEVER THE INPUT: true; the input reads as it did. -/
def tallyAsksSpec : ChangeSpec := { name := "tallyAsks", fn := fun _ => fun
  | [d1, d2] => { results := [.lit (.bool true)], args := [d1, d2] }
  | _ => none }
def tallyAsksRow : OpenClaim := { program := "ytjlegibfeenglaa", sum := "5b7ce187adae47b30d6e43fd5fb669c95a089830f9b61b1a0e7bd917e04a1456", func := "semblance/semblancelaw55.TallyAsks", spec := "tallyAsks", inPlace := ["sync/atomic.AddUint64", "sync/atomic.SwapUint64", "sync/atomic.LoadUint64", "sync/atomic.CompareAndSwapUint64"], plainKeys := false, apart := false }
def TallyAsksSaid : Prop := tallyAsksRow.holds Try.pinned (OpenSpec.ofChange tallyAsksSpec)

/-- ITS FALSE NEIGHBOUR: 'it returns false'. Refute it at one input. -/
def tallyAsksWrong : ChangeSpec := { name := "tallyAsks", fn := fun _ => fun
  | [d1, d2] => { results := [.lit (.bool false)], args := [d1, d2] }
  | _ => none }
def TallyAsksWrongFalsely : Prop := tallyAsksRow.holds Try.pinned (OpenSpec.ofChange tallyAsksWrong)

/-- 'semblancelaw55.TallySums': WHATEVER THE INPUT: true; the input reads as it did. -/
def tallySumsSpec : ChangeSpec := { name := "tallySums", fn := fun _ => fun
  | [d] => { results := [.lit (.bool true)], args := [d] }
  | _ => none }
def tallySumsRow : OpenClaim := { program := "ytjlegibfeenglaa", sum := "5b7ce187adae47b30d6e43fd5fb669c95a089830f9b61b1a0e7bd917e04a1456", func := "semblance/semblancelaw55.TallySums", spec := "tallySums", inPlace := ["sync/atomic.AddUint64", "sync/atomic.SwapUint64", "sync/atomic.LoadUint64", "sync/atomic.CompareAndSwapUint64"], plainKeys := false, apart := false }
def TallySumsSaid : Prop := tallySumsRow.holds Try.pinned (OpenSpec.ofChange tallySumsSpec)

/-- ITS FALSE NEIGHBOUR: 'it returns false'. Refute it at one input. -/
def tallySumsWrong : ChangeSpec := { name := "tallySums", fn := fun _ => fun
  | [d] => { results := [.lit (.bool false)], args := [d] }
  | _ => none }
def TallySumsWrongFalsely : Prop := tallySumsRow.holds Try.pinned (OpenSpec.ofChange tallySumsWrong)

/-- 'semblancelaw55.TallyNobody': WHATEVER THE INPUT: true; the input reads as it did. -/
def tallyNobodySpec : ChangeSpec := { name := "tallyNobody", fn := fun _ => fun
  | [d] => { results := [.lit (.bool true)], args := [d] }
  | _ => none }
def tallyNobodyRow : OpenClaim := { program := "ytjlegibfeenglaa", sum := "5b7ce187adae47b30d6e43fd5fb669c95a089830f9b61b1a0e7bd917e04a1456", func := "semblance/semblancelaw55.TallyNobody", spec := "tallyNobody", inPlace := ["sync/atomic.SwapUint64", "sync/atomic.LoadUint64", "sync/atomic.CompareAndSwapUint64", "sync/atomic.AddUint64"], plainKeys := false, apart := false }
def TallyNobodySaid : Prop := tallyNobodyRow.holds Try.pinned (OpenSpec.ofChange tallyNobodySpec)

/-- ITS FALSE NEIGHBOUR: 'it returns false'. Refute it at one input. -/
def tallyNobodyWrong : ChangeSpec := { name := "tallyNobody", fn := fun _ => fun
  | [d] => { results := [.lit (.bool false)], args := [d] }
  | _ => none }
def TallyNobodyWrongFalsely : Prop := tallyNobodyRow.holds Try.pinned (OpenSpec.ofChange tallyNobodyWrong)

/-- 'semblancelaw53.DiffLines': WHATEVER THE INPUT: true; the input reads as it did. -/
def diffLinesSpec : ChangeSpec := { name := "diffLines", fn := fun _ => fun
  | [d1, d2] => { results := [.lit (.bool true)], args := [d1, d2] }
  | _ => none }
def diffLinesRow : OpenClaim := { program := "ytjlegibfeenglaa", sum := "5b7ce187adae47b30d6e43fd5fb669c95a089830f9b61b1a0e7bd917e04a1456", func := "semblance/semblancelaw53.DiffLines", spec := "diffLines", unfollowed := true, recurses := true, plainKeys := false, apart := false }
def DiffLinesSaid : Prop := diffLinesRow.holds Try.pinned (OpenSpec.ofChange diffLinesSpec)

/-- ITS FALSE NEIGHBOUR: 'it returns false'. Refute it at one input. -/
def diffLinesWrong : ChangeSpec := { name := "diffLines", fn := fun _ => fun
  | [d1, d2] => { results := [.lit (.bool false)], args := [d1, d2] }
  | _ => none }
def DiffLinesWrongFalsely : Prop := diffLinesRow.holds Try.pinned (OpenSpec.ofChange diffLinesWrong)

/-- 'semblancelaw53.DiffNothing': WHATEVER THE INPUT: true; the input reads as it did. -/
def diffNothingSpec : ChangeSpec := { name := "diffNothing", fn := fun _ => fun
  | [d1, d2] => { results := [.lit (.bool true)], args := [d1, d2] }
  | _ => none }
def diffNothingRow : OpenClaim := { program := "ytjlegibfeenglaa", sum := "5b7ce187adae47b30d6e43fd5fb669c95a089830f9b61b1a0e7bd917e04a1456", func := "semblance/semblancelaw53.DiffNothing", spec := "diffNothing", unfollowed := true, recurses := true, plainKeys := false, apart := false }
def DiffNothingSaid : Prop := diffNothingRow.holds Try.pinned (OpenSpec.ofChange diffNothingSpec)

/-- ITS FALSE NEIGHBOUR: 'it returns false'. Refute it at one input. -/
def diffNothingWrong : ChangeSpec := { name := "diffNothing", fn := fun _ => fun
  | [d1, d2] => { results := [.lit (.bool false)], args := [d1, d2] }
  | _ => none }
def DiffNothingWrongFalsely : Prop := diffNothingRow.holds Try.pinned (OpenSpec.ofChange diffNothingWrong)

/-- 'semblancelaw05.TermEnds': WHATEVER THE INPUT: true; the input reads as it did. -/
def termEndsSpec : ChangeSpec := { name := "termEnds", fn := fun _ => fun
  | [d1, d2, d3] => { results := [.lit (.bool true)], args := [d1, d2, d3] }
  | _ => none }
def termEndsRow : OpenClaim := { program := "ytjlegibfeenglaa", sum := "5b7ce187adae47b30d6e43fd5fb669c95a089830f9b61b1a0e7bd917e04a1456", func := "semblance/semblancelaw05.TermEnds", spec := "termEnds", unfollowed := true, recurses := true, plainKeys := false, apart := false }
def TermEndsSaid : Prop := termEndsRow.holds Try.pinned (OpenSpec.ofChange termEndsSpec)

/-- ITS FALSE NEIGHBOUR: 'it returns false'. Refute it at one input. -/
def termEndsWrong : ChangeSpec := { name := "termEnds", fn := fun _ => fun
  | [d1, d2, d3] => { results := [.lit (.bool false)], args := [d1, d2, d3] }
  | _ => none }
def TermEndsWrongFalsely : Prop := termEndsRow.holds Try.pinned (OpenSpec.ofChange termEndsWrong)

/-- 'semblancelaw05.TermChecks': WHATEVER THE INPUT: true; the input reads as it did. -/
def termChecksSpec : ChangeSpec := { name := "termChecks", fn := fun _ => fun
  | [d1, d2] => { results := [.lit (.bool true)], args := [d1, d2] }
  | _ => none }
def termChecksRow : OpenClaim := { program := "ytjlegibfeenglaa", sum := "5b7ce187adae47b30d6e43fd5fb669c95a089830f9b61b1a0e7bd917e04a1456", func := "semblance/semblancelaw05.TermChecks", spec := "termChecks", unfollowed := true, recurses := true, plainKeys := false, apart := false }
def TermChecksSaid : Prop := termChecksRow.holds Try.pinned (OpenSpec.ofChange termChecksSpec)

/-- ITS FALSE NEIGHBOUR: 'it returns false'. Refute it at one input. -/
def termChecksWrong : ChangeSpec := { name := "termChecks", fn := fun _ => fun
  | [d1, d2] => { results := [.lit (.bool false)], args := [d1, d2] }
  | _ => none }
def TermChecksWrongFalsely : Prop := termChecksRow.holds Try.pinned (OpenSpec.ofChange termChecksWrong)

/-- 'semblancelaw05.TermParts': WHATEVER THE INPUT: true; the input reads as it did. -/
def termPartsSpec : ChangeSpec := { name := "termParts", fn := fun _ => fun
  | [d] => { results := [.lit (.bool true)], args := [d] }
  | _ => none }
def termPartsRow : OpenClaim := { program := "ytjlegibfeenglaa", sum := "5b7ce187adae47b30d6e43fd5fb669c95a089830f9b61b1a0e7bd917e04a1456", func := "semblance/semblancelaw05.TermParts", spec := "termParts", unfollowed := true, recurses := true, plainKeys := false, apart := false }
def TermPartsSaid : Prop := termPartsRow.holds Try.pinned (OpenSpec.ofChange termPartsSpec)

/-- ITS FALSE NEIGHBOUR: 'it returns false'. Refute it at one input. -/
def termPartsWrong : ChangeSpec := { name := "termParts", fn := fun _ => fun
  | [d] => { results := [.lit (.bool false)], args := [d] }
  | _ => none }
def TermPartsWrongFalsely : Prop := termPartsRow.holds Try.pinned (OpenSpec.ofChange termPartsWrong)

/- THE SECOND FORM. 'bulk': how many values and letters a reading holds, each counted each time it is reached (what is shared counts as often as it is met; a slice's spare places count too). A statement '..UptoSaid' is the law's where the arguments, and the package variables that the reading takes, are together of bulk at most 1048576: NARROWER than '..Said'. Prove '..Said' where nothing that the law and all that it calls make is longer than what came in: it says more and counts as full. Else prove '..UptoSaid'. A law counts once. -/
mutual
def uptoBulk {H : Type} : DataW H → Nat
  | .lit (.string bytes) => bytes.length + 1
  | .lit _ => 1
  | .nil => 1
  | .ptr d => uptoBulk d + 1
  | .slice elems spare => uptoBulkAll elems + uptoBulkAll spare + 1
  | .agg parts => uptoBulkAll parts + 1
  | .iface _ d => uptoBulk d + 1
  | .map entries => uptoBulkEntries entries + 1
  | .held _ => 1
def uptoBulkAll {H : Type} : List (DataW H) → Nat
  | [] => 0
  | d :: r => uptoBulk d + uptoBulkAll r
def uptoBulkEntries {H : Type} : List (Lit × DataW H) → Nat
  | [] => 0
  | x :: r => uptoBulkEntry x + uptoBulkEntries r
def uptoBulkEntry {H : Type} : Lit × DataW H → Nat
  | (.string bytes, d) => bytes.length + uptoBulk d + 1
  | (_, d) => uptoBulk d + 1
 end
def uptoSmall : (H : Type) → List (DataW H) → Bool := fun _ ds => decide (uptoBulkAll ds ≤ 1048576)
def OpenSpec.upto (s : _root_.Go.ChangeSpec) : _root_.Go.OpenSpec := { _root_.Go.OpenSpec.ofChange s with cond := some uptoSmall }

/-- 'semblancelaw31.PartMeets', WHERE WHAT IT READS IS OF BULK AT MOST 1048576: true; the input reads as it did. -/
def partMeetsUptoRow : OpenClaim := { program := "ytjlegibfeenglaa", sum := "5b7ce187adae47b30d6e43fd5fb669c95a089830f9b61b1a0e7bd917e04a1456", func := "semblance/semblancelaw31.PartMeets", spec := "partMeets", plainKeys := false, apart := false, narrowed := true }
def PartMeetsUptoSaid : Prop := partMeetsUptoRow.holds Try.pinned (OpenSpec.upto partMeetsSpec)

/-- 'semblancelaw55.TallyAsks', WHERE WHAT IT READS IS OF BULK AT MOST 1048576: true; the input reads as it did. -/
def tallyAsksUptoRow : OpenClaim := { program := "ytjlegibfeenglaa", sum := "5b7ce187adae47b30d6e43fd5fb669c95a089830f9b61b1a0e7bd917e04a1456", func := "semblance/semblancelaw55.TallyAsks", spec := "tallyAsks", inPlace := ["sync/atomic.AddUint64", "sync/atomic.SwapUint64", "sync/atomic.LoadUint64", "sync/atomic.CompareAndSwapUint64"], plainKeys := false, apart := false, narrowed := true }
def TallyAsksUptoSaid : Prop := tallyAsksUptoRow.holds Try.pinned (OpenSpec.upto tallyAsksSpec)

/-- 'semblancelaw55.TallySums', WHERE WHAT IT READS IS OF BULK AT MOST 1048576: true; the input reads as it did. -/
def tallySumsUptoRow : OpenClaim := { program := "ytjlegibfeenglaa", sum := "5b7ce187adae47b30d6e43fd5fb669c95a089830f9b61b1a0e7bd917e04a1456", func := "semblance/semblancelaw55.TallySums", spec := "tallySums", inPlace := ["sync/atomic.AddUint64", "sync/atomic.SwapUint64", "sync/atomic.LoadUint64", "sync/atomic.CompareAndSwapUint64"], plainKeys := false, apart := false, narrowed := true }
def TallySumsUptoSaid : Prop := tallySumsUptoRow.holds Try.pinned (OpenSpec.upto tallySumsSpec)

/-- 'semblancelaw55.TallyNobody', WHERE WHAT IT READS IS OF BULK AT MOST 1048576: true; the input reads as it did. -/
def tallyNobodyUptoRow : OpenClaim := { program := "ytjlegibfeenglaa", sum := "5b7ce187adae47b30d6e43fd5fb669c95a089830f9b61b1a0e7bd917e04a1456", func := "semblance/semblancelaw55.TallyNobody", spec := "tallyNobody", inPlace := ["sync/atomic.SwapUint64", "sync/atomic.LoadUint64", "sync/atomic.CompareAndSwapUint64", "sync/atomic.AddUint64"], plainKeys := false, apart := false, narrowed := true }
def TallyNobodyUptoSaid : Prop := tallyNobodyUptoRow.holds Try.pinned (OpenSpec.upto tallyNobodySpec)

/-- 'semblancelaw53.DiffLines', WHERE WHAT IT READS IS OF BULK AT MOST 1048576: true; the input reads as it did. -/
def diffLinesUptoRow : OpenClaim := { program := "ytjlegibfeenglaa", sum := "5b7ce187adae47b30d6e43fd5fb669c95a089830f9b61b1a0e7bd917e04a1456", func := "semblance/semblancelaw53.DiffLines", spec := "diffLines", unfollowed := true, recurses := true, plainKeys := false, apart := false, narrowed := true }
def DiffLinesUptoSaid : Prop := diffLinesUptoRow.holds Try.pinned (OpenSpec.upto diffLinesSpec)

/-- 'semblancelaw53.DiffNothing', WHERE WHAT IT READS IS OF BULK AT MOST 1048576: true; the input reads as it did. -/
def diffNothingUptoRow : OpenClaim := { program := "ytjlegibfeenglaa", sum := "5b7ce187adae47b30d6e43fd5fb669c95a089830f9b61b1a0e7bd917e04a1456", func := "semblance/semblancelaw53.DiffNothing", spec := "diffNothing", unfollowed := true, recurses := true, plainKeys := false, apart := false, narrowed := true }
def DiffNothingUptoSaid : Prop := diffNothingUptoRow.holds Try.pinned (OpenSpec.upto diffNothingSpec)

/-- 'semblancelaw05.TermEnds', WHERE WHAT IT READS IS OF BULK AT MOST 1048576: true; the input reads as it did. -/
def termEndsUptoRow : OpenClaim := { program := "ytjlegibfeenglaa", sum := "5b7ce187adae47b30d6e43fd5fb669c95a089830f9b61b1a0e7bd917e04a1456", func := "semblance/semblancelaw05.TermEnds", spec := "termEnds", unfollowed := true, recurses := true, plainKeys := false, apart := false, narrowed := true }
def TermEndsUptoSaid : Prop := termEndsUptoRow.holds Try.pinned (OpenSpec.upto termEndsSpec)

/-- 'semblancelaw05.TermChecks', WHERE WHAT IT READS IS OF BULK AT MOST 1048576: true; the input reads as it did. -/
def termChecksUptoRow : OpenClaim := { program := "ytjlegibfeenglaa", sum := "5b7ce187adae47b30d6e43fd5fb669c95a089830f9b61b1a0e7bd917e04a1456", func := "semblance/semblancelaw05.TermChecks", spec := "termChecks", unfollowed := true, recurses := true, plainKeys := false, apart := false, narrowed := true }
def TermChecksUptoSaid : Prop := termChecksUptoRow.holds Try.pinned (OpenSpec.upto termChecksSpec)

/-- 'semblancelaw05.TermParts', WHERE WHAT IT READS IS OF BULK AT MOST 1048576: true; the input reads as it did. -/
def termPartsUptoRow : OpenClaim := { program := "ytjlegibfeenglaa", sum := "5b7ce187adae47b30d6e43fd5fb669c95a089830f9b61b1a0e7bd917e04a1456", func := "semblance/semblancelaw05.TermParts", spec := "termParts", unfollowed := true, recurses := true, plainKeys := false, apart := false, narrowed := true }
def TermPartsUptoSaid : Prop := termPartsUptoRow.holds Try.pinned (OpenSpec.upto termPartsSpec)

end Rows
end Go.Proofs.Ytjlegibfeenglaa
