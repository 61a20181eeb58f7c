-- written by wip/xprint.py out of the translation
import Derived.Test.YtfpmbognpacidaaProg
import Derived.Below
import Derived.Deep.Draws
import Derived.Deep.AppendLies
import Derived.Maps.AppendAt
import Derived.OwnWalk
import Derived.Laws.BytesArg
import Derived.Laws.MakeOwn
import Derived.Laws.OwnMore
import Derived.Deep.OwnRows
import Derived.Tactics
import Derived.Lib.ConvBytes
import Derived.Laws.Slices
import Derived.WalkKit
import Derived.KernelRfl
import Derived.RowKit3
import Derived.Deep.LoopGhost
import Derived.Deep.QuietTactic
import Derived.BigQuiet
import Derived.WideLaws
import Derived.Deep.DeepCutAuto
import Derived.Deep.CutBlock
import Derived.Deep.RegionHeld3
import Derived.Laws.Rows
import Derived.Lib.AppendStr
import Derived.ArgAppend
import Derived.Laws.IdiomCopy
import Derived.OrdersHeld
import Derived.Laws.BitsLemmas
import Derived.RowKit
import Derived.Test.YtfpmbognpacidaaXFind
import Derived.Outline
import Derived.StillTactics
import Derived.WalkLawsBesides
import Derived.Laws.RangeAny
import Derived.Test.YtfpmbognpacidaaXBytes
import Derived.StringKeys
import Derived.Maps.Own
import Derived.Maps.OwnOps
import Derived.Maps.OwnSet
import Derived.Maps.Views
import Derived.Test.YtfpmbognpacidaaXNamesPlain
import Derived.Test.YtfpmbognpacidaaXNumber
import Derived.Test.YtfpmbognpacidaaShelf
import Derived.Sort.OwnSorted
import Derived.OneCell
import Derived.RegionTactic
import Derived.ChangeAlike
import Derived.StillTailTactics
import Derived.Deep.DeepFit
import Derived.Says
import Derived.Shelf.Abstract
import Derived.Laws.CopyOwn
import Derived.Test.YtfpmbognpacidaaWWords
import Derived.Test.YtfpmbognpacidaaWLast
import Derived.Test.YtfpmbognpacidaaWTab
import Derived.Test.YtfpmbognpacidaaWFour
import Derived.Test.YtfpmbognpacidaaWQPut
import Derived.Test.YtfpmbognpacidaaWApart
import Derived.Test.YtfpmbognpacidaaWArr
import Derived.Test.YtfpmbognpacidaaWZeros
import Derived.Test.YtfpmbognpacidaaWFoot
import Derived.Test.YtfpmbognpacidaaWKept
import Derived.Test.YtfpmbognpacidaaWShare
import Derived.Test.YtfpmbognpacidaaWN
import Derived.Test.YtfpmbognpacidaaWFootNe
import Derived.Test.YtfpmbognpacidaaWAt
import Derived.Test.YtfpmbognpacidaaWEqStruct
import Derived.Test.YtfpmbognpacidaaWRepsOne
import Derived.Test.YtfpmbognpacidaaWInv
import Derived.Test.YtfpmbognpacidaaWInvWords
import Derived.Test.YtfpmbognpacidaaWGuard
import Derived.Test.YtfpmbognpacidaaWNEv
import Derived.Test.YtfpmbognpacidaaWMore
namespace Go.Proofs.Ytfpmbognpacidaa.XU
open Go.RowKit Go.Proofs.YtfpmbognpacidaaW.PrintWords Go.Proofs.YtfpmbognpacidaaW.PrintLast Go.Proofs.YtfpmbognpacidaaW.PrintMore
attribute [local go_sem] max2_int min2_int max_two min_two max_three min_three max_four min_four   -- for this text's walks alone
set_option linter.unusedVariables false
set_option linter.unusedSimpArgs false



def errW : Option Int → Value
  | none => .nilIface
  | some c => .iface 0 (.int .i64 c)
theorem errW_none : errW none = .nilIface := rfl
theorem errW_some (c : Int) : errW (some c) = .iface 0 (.int .i64 c) := rfl

theorem info3 : (Try.prog.info? 3).map (fun i => (i.zero, i.size, i.bytes)) = some (some (.int .i64 0), 1, 8) := by kernel_rfl
theorem info9 : (Try.prog.info? 9).map (fun i => (i.zero, i.size, i.bytes)) = some (some (.string ⟨#[]⟩), 1, 16) := by kernel_rfl
-- the values' own types

end Go.Proofs.Ytfpmbognpacidaa.XU
