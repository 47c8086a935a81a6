-- Written by a program (kp.py, wip/tools) for this claim, out of the translation.
import Derived.Test.YtoneckfckedcgaaProg
import Derived.Below
import Derived.Deep.Draws
import Derived.Deep.AppendLies
import Derived.Maps.AppendAt
import Derived.OwnWalk
import Derived.Laws.BytesArg
import Derived.Laws.MakeOwn
import Derived.Laws.OwnMore
import Derived.Deep.OwnRows
import Derived.Tactics
import Derived.Lib.ConvBytes
import Derived.Laws.Slices
import Derived.WalkKit
import Derived.KernelRfl
import Derived.RowKit3
import Derived.Deep.LoopGhost
import Derived.Deep.QuietTactic
import Derived.BigQuiet
import Derived.WideLaws
import Derived.Deep.DeepCutAuto
import Derived.Deep.CutBlock
import Derived.Deep.RegionHeld3
import Derived.Laws.Rows
import Derived.Lib.AppendStr
import Derived.ArgAppend
import Derived.Laws.IdiomCopy
import Derived.OrdersHeld
import Derived.Laws.BitsLemmas
import Derived.RowKit
import Derived.Laws.Cover3
import Derived.Test.YtoneckfckedcgaaWWords
import Derived.Test.YtoneckfckedcgaaWLast
import Derived.Test.YtoneckfckedcgaaWTab
import Derived.Test.YtoneckfckedcgaaWFour
import Derived.Test.YtoneckfckedcgaaWQPut
import Derived.Test.YtoneckfckedcgaaWApart
import Derived.Test.YtoneckfckedcgaaWArr
import Derived.Test.YtoneckfckedcgaaWZeros
import Derived.Test.YtoneckfckedcgaaWFoot
import Derived.Test.YtoneckfckedcgaaWKept
import Derived.Test.YtoneckfckedcgaaWShare
import Derived.Test.YtoneckfckedcgaaWN
import Derived.Test.YtoneckfckedcgaaWFootNe
import Derived.Test.YtoneckfckedcgaaWAt
import Derived.Test.YtoneckfckedcgaaWEqStruct
import Derived.Test.YtoneckfckedcgaaWRepsOne
import Derived.Test.YtoneckfckedcgaaWInv
import Derived.Test.YtoneckfckedcgaaWInvWords
import Derived.Test.YtoneckfckedcgaaWGuard
import Derived.Test.YtoneckfckedcgaaWNEv
import Derived.Test.YtoneckfckedcgaaWMore
import Derived.Test.YtoneckfckedcgaaKw
namespace Go.Proofs.Ytoneckfckedcgaa.KB
open Go.RowKit Go.Proofs.YtoneckfckedcgaaW.PrintWords Go.Proofs.YtoneckfckedcgaaW.PrintLast Go.Proofs.YtoneckfckedcgaaW.PrintMore
attribute [local go_sem] max2_int min2_int max_two min_two max_three min_three max_four min_four   -- for this text's walks alone
set_option linter.unusedVariables false
set_option linter.unusedSimpArgs false



def errW : Option Int → Value
  | none => .nilIface
  | some c => .iface 0 (.int .i64 c)
theorem errW_none : errW none = .nilIface := rfl
theorem errW_some (c : Int) : errW (some c) = .iface 0 (.int .i64 c) := rfl

-- the values' own types

end Go.Proofs.Ytoneckfckedcgaa.KB
