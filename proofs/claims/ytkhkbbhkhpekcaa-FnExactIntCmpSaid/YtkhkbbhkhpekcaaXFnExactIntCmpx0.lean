/- The functions that FnExactIntCmp uses, as functions of Lean, and that the Go code comes to their answers. Written by a program of this session. -/
import Derived.Test.YtkhkbbhkhpekcaaProg
import Derived.Below
import Derived.Deep.Draws
import Derived.Deep.AppendLies
import Derived.Maps.AppendAt
import Derived.OwnWalk
import Derived.Laws.BytesArg
import Derived.Laws.MakeOwn
import Derived.Laws.OwnMore
import Derived.Deep.OwnRows
import Derived.Tactics
import Derived.Lib.ConvBytes
import Derived.Laws.Slices
import Derived.WalkKit
import Derived.KernelRfl
import Derived.RowKit3
import Derived.Deep.LoopGhost
import Derived.Deep.QuietTactic
import Derived.BigQuiet
import Derived.WideLaws
import Derived.Deep.DeepCutAuto
import Derived.Deep.CutBlock
import Derived.Deep.RegionHeld3
import Derived.Laws.Rows
import Derived.Lib.AppendStr
import Derived.ArgAppend
import Derived.Laws.IdiomCopy
import Derived.OrdersHeld
import Derived.Laws.BitsLemmas
import Derived.RowKit
import Derived.Test.YtkhkbbhkhpekcaaWWords
import Derived.Test.YtkhkbbhkhpekcaaWLast
import Derived.Test.YtkhkbbhkhpekcaaWTab
import Derived.Test.YtkhkbbhkhpekcaaWFour
import Derived.Test.YtkhkbbhkhpekcaaWQPut
import Derived.Test.YtkhkbbhkhpekcaaWApart
import Derived.Test.YtkhkbbhkhpekcaaWArr
import Derived.Test.YtkhkbbhkhpekcaaWZeros
import Derived.Test.YtkhkbbhkhpekcaaWFoot
import Derived.Test.YtkhkbbhkhpekcaaWKept
import Derived.Test.YtkhkbbhkhpekcaaWShare
import Derived.Test.YtkhkbbhkhpekcaaWN
import Derived.Test.YtkhkbbhkhpekcaaWFootNe
import Derived.Test.YtkhkbbhkhpekcaaWAt
import Derived.Test.YtkhkbbhkhpekcaaWEqStruct
import Derived.Test.YtkhkbbhkhpekcaaWRepsOne
import Derived.Test.YtkhkbbhkhpekcaaWInv
import Derived.Test.YtkhkbbhkhpekcaaWInvWords
import Derived.Test.YtkhkbbhkhpekcaaWGuard
import Derived.Test.YtkhkbbhkhpekcaaWNEv
import Derived.Test.YtkhkbbhkhpekcaaWMore
namespace Go.Proofs.Ytkhkbbhkhpekcaa.XFnExactIntCmp
open Go.RowKit Go.Proofs.YtkhkbbhkhpekcaaW.PrintWords Go.Proofs.YtkhkbbhkhpekcaaW.PrintLast Go.Proofs.YtkhkbbhkhpekcaaW.PrintMore
attribute [local go_sem] max2_int min2_int max_two min_two max_three min_three max_four min_four   -- for this text's walks alone
set_option linter.unusedVariables false
set_option linter.unusedSimpArgs false



def errW : Option Int → Value
  | none => .nilIface
  | some c => .iface 0 (.int .i64 c)
theorem errW_none : errW none = .nilIface := rfl
theorem errW_some (c : Int) : errW (some c) = .iface 0 (.int .i64 c) := rfl

theorem info3 : (Try.prog.info? 3).map (fun i => (i.zero, i.size, i.bytes)) = some (some (.int .i64 0), 1, 8) := by kernel_rfl
-- the values' own types

/-- A byte's sum, as an int. -/
theorem w8_64 (x : Int) : wrap64 (IntKind.u8.wrap x) = x % 256 := by rw [IntKind.wrap_u8]; unfold wrap64; omega

end Go.Proofs.Ytkhkbbhkhpekcaa.XFnExactIntCmp
