-- PRINTED BY print.sh 35421559b90ae4d0a3588c463048766b98c2df88dd9212a6774a882060cdf62d: not written by this session
import Derived.Test.YtdgiinjibcfjgaaDoorProg
import Derived.Below
import Derived.Deep.Draws
import Derived.Deep.AppendLies
import Derived.Maps.AppendAt
import Derived.OwnWalk
import Derived.Laws.BytesArg
import Derived.Laws.MakeOwn
import Derived.Laws.OwnMore
import Derived.Deep.OwnRows
import Derived.Tactics
import Derived.Lib.ConvBytes
import Derived.Laws.Slices
import Derived.WalkKit
import Derived.KernelRfl
import Derived.RowKit3
import Derived.Deep.LoopGhost
import Derived.Deep.QuietTactic
import Derived.BigQuiet
import Derived.WideLaws
import Derived.Deep.DeepCutAuto
import Derived.Deep.CutBlock
import Derived.Deep.RegionHeld3
import Derived.Laws.Rows
import Derived.Lib.AppendStr
import Derived.ArgAppend
import Derived.Laws.IdiomCopy
import Derived.OrdersHeld
import Derived.Laws.BitsLemmas
import Derived.RowKit
import Derived.Test.YtdgiinjibcfjgaaDoorWWords
import Derived.Test.YtdgiinjibcfjgaaDoorWLast
import Derived.Test.YtdgiinjibcfjgaaDoorWTab
import Derived.Test.YtdgiinjibcfjgaaDoorWFour
import Derived.Test.YtdgiinjibcfjgaaDoorWQPut
import Derived.Test.YtdgiinjibcfjgaaDoorWApart
import Derived.Test.YtdgiinjibcfjgaaDoorWArr
import Derived.Test.YtdgiinjibcfjgaaDoorWZeros
import Derived.Test.YtdgiinjibcfjgaaDoorWFoot
import Derived.Test.YtdgiinjibcfjgaaDoorWKept
import Derived.Test.YtdgiinjibcfjgaaDoorWShare
import Derived.Test.YtdgiinjibcfjgaaDoorWN
import Derived.Test.YtdgiinjibcfjgaaDoorWFootNe
import Derived.Test.YtdgiinjibcfjgaaDoorWAt
import Derived.Test.YtdgiinjibcfjgaaDoorWEqStruct
import Derived.Test.YtdgiinjibcfjgaaDoorWRepsOne
import Derived.Test.YtdgiinjibcfjgaaDoorWInv
import Derived.Test.YtdgiinjibcfjgaaDoorWInvWords
import Derived.Test.YtdgiinjibcfjgaaDoorWGuard
import Derived.Test.YtdgiinjibcfjgaaDoorWNEv
import Derived.Test.YtdgiinjibcfjgaaDoorWMore
namespace Go.Proofs.YtdgiinjibcfjgaaDoor.PNamesValid
open Go.RowKit Go.Proofs.YtdgiinjibcfjgaaDoorW.PrintWords Go.Proofs.YtdgiinjibcfjgaaDoorW.PrintLast Go.Proofs.YtdgiinjibcfjgaaDoorW.PrintMore
attribute [local go_sem] max2_int min2_int max_two min_two max_three min_three max_four min_four   -- for this text's walks alone
set_option linter.unusedVariables false
set_option linter.unusedSimpArgs false



def errW : Option Int → Value
  | none => .nilIface
  | some c => .iface 0 (.int .i64 c)
theorem errW_none : errW none = .nilIface := rfl
theorem errW_some (c : Int) : errW (some c) = .iface 0 (.int .i64 c) := rfl

theorem info21 : (Tryd.prog.info? 21).map (fun i => (i.zero, i.size, i.bytes)) = some (some (.int .i32 0), 1, 4) := by kernel_rfl
-- the values' own types

end Go.Proofs.YtdgiinjibcfjgaaDoor.PNamesValid
