/- Each Go function that is named in this text answers as the Lean function printed for it does; where the law's row stands here: the law returns true for every input. No condition. Written by extprint.py for this claim (the kit's print, run with contracts of this session's own handed in). Lean checks it. -/
import Derived.Test.YtemiidikcinobaaProg
import Derived.Below
import Derived.Deep.Draws
import Derived.Deep.AppendLies
import Derived.Maps.AppendAt
import Derived.OwnWalk
import Derived.Laws.BytesArg
import Derived.Laws.MakeOwn
import Derived.Laws.OwnMore
import Derived.Deep.OwnRows
import Derived.Tactics
import Derived.Lib.ConvBytes
import Derived.Laws.Slices
import Derived.WalkKit
import Derived.KernelRfl
import Derived.RowKit3
import Derived.Deep.LoopGhost
import Derived.Deep.QuietTactic
import Derived.BigQuiet
import Derived.WideLaws
import Derived.Deep.DeepCutAuto
import Derived.Deep.CutBlock
import Derived.Deep.RegionHeld3
import Derived.Laws.Rows
import Derived.Lib.AppendStr
import Derived.ArgAppend
import Derived.Laws.IdiomCopy
import Derived.OrdersHeld
import Derived.Laws.BitsLemmas
import Derived.RowKit
import Derived.Test.YtemiidikcinobaaExtD
import Derived.Test.YtemiidikcinobaaWWords
import Derived.Test.YtemiidikcinobaaWLast
import Derived.Test.YtemiidikcinobaaWTab
import Derived.Test.YtemiidikcinobaaWFour
import Derived.Test.YtemiidikcinobaaWQPut
import Derived.Test.YtemiidikcinobaaWApart
import Derived.Test.YtemiidikcinobaaWArr
import Derived.Test.YtemiidikcinobaaWZeros
import Derived.Test.YtemiidikcinobaaWFoot
import Derived.Test.YtemiidikcinobaaWKept
import Derived.Test.YtemiidikcinobaaWShare
import Derived.Test.YtemiidikcinobaaWN
import Derived.Test.YtemiidikcinobaaWFootNe
import Derived.Test.YtemiidikcinobaaWAt
import Derived.Test.YtemiidikcinobaaWEqStruct
import Derived.Test.YtemiidikcinobaaWRepsOne
import Derived.Test.YtemiidikcinobaaWInv
import Derived.Test.YtemiidikcinobaaWInvWords
import Derived.Test.YtemiidikcinobaaWGuard
import Derived.Test.YtemiidikcinobaaWNEv
import Derived.Test.YtemiidikcinobaaWMore
namespace Go.Proofs.Ytemiidikcinobaa.Cs
open Go.RowKit Go.Proofs.YtemiidikcinobaaW.PrintWords Go.Proofs.YtemiidikcinobaaW.PrintLast Go.Proofs.YtemiidikcinobaaW.PrintMore
attribute [local go_sem] max2_int min2_int max_two min_two max_three min_three max_four min_four   -- for this text's walks alone
set_option linter.unusedVariables false
set_option linter.unusedSimpArgs false



def errW : Option Int → Value
  | none => .nilIface
  | some c => .iface 0 (.int .i64 c)
theorem errW_none : errW none = .nilIface := rfl
theorem errW_some (c : Int) : errW (some c) = .iface 0 (.int .i64 c) := rfl

theorem info3 : (Try.prog.info? 3).map (fun i => (i.zero, i.size, i.bytes)) = some (some (.int .i64 0), 1, 8) := by kernel_rfl
theorem info5 : (Try.prog.info? 5).map (fun i => (i.zero, i.size, i.bytes)) = some (some (.int .u8 0), 1, 1) := by kernel_rfl
-- the values' own types

end Go.Proofs.Ytemiidikcinobaa.Cs
