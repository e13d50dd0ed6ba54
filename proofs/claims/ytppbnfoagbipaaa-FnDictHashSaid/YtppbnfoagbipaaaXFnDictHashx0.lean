/- The functions that FnDictHash uses, as functions of Lean, and that the Go code comes to their answers. Written by a program of this session. -/
import Derived.Test.YtppbnfoagbipaaaProg
import Derived.Below
import Derived.Deep.Draws
import Derived.Deep.AppendLies
import Derived.Maps.AppendAt
import Derived.OwnWalk
import Derived.Laws.BytesArg
import Derived.Laws.MakeOwn
import Derived.Laws.OwnMore
import Derived.Deep.OwnRows
import Derived.Tactics
import Derived.Lib.ConvBytes
import Derived.Laws.Slices
import Derived.WalkKit
import Derived.KernelRfl
import Derived.RowKit3
import Derived.Deep.LoopGhost
import Derived.Deep.QuietTactic
import Derived.BigQuiet
import Derived.WideLaws
import Derived.Deep.DeepCutAuto
import Derived.Deep.CutBlock
import Derived.Deep.RegionHeld3
import Derived.Laws.Rows
import Derived.Lib.AppendStr
import Derived.ArgAppend
import Derived.Laws.IdiomCopy
import Derived.OrdersHeld
import Derived.Laws.BitsLemmas
import Derived.RowKit
import Derived.Test.YtppbnfoagbipaaaWWords
import Derived.Test.YtppbnfoagbipaaaWLast
import Derived.Test.YtppbnfoagbipaaaWTab
import Derived.Test.YtppbnfoagbipaaaWFour
import Derived.Test.YtppbnfoagbipaaaWQPut
import Derived.Test.YtppbnfoagbipaaaWApart
import Derived.Test.YtppbnfoagbipaaaWArr
import Derived.Test.YtppbnfoagbipaaaWZeros
import Derived.Test.YtppbnfoagbipaaaWFoot
import Derived.Test.YtppbnfoagbipaaaWKept
import Derived.Test.YtppbnfoagbipaaaWShare
import Derived.Test.YtppbnfoagbipaaaWN
import Derived.Test.YtppbnfoagbipaaaWFootNe
import Derived.Test.YtppbnfoagbipaaaWAt
import Derived.Test.YtppbnfoagbipaaaWEqStruct
import Derived.Test.YtppbnfoagbipaaaWRepsOne
import Derived.Test.YtppbnfoagbipaaaWInv
import Derived.Test.YtppbnfoagbipaaaWInvWords
import Derived.Test.YtppbnfoagbipaaaWGuard
import Derived.Test.YtppbnfoagbipaaaWNEv
import Derived.Test.YtppbnfoagbipaaaWMore
namespace Go.Proofs.Ytppbnfoagbipaaa.XFnDictHash
open Go.RowKit Go.Proofs.YtppbnfoagbipaaaW.PrintWords Go.Proofs.YtppbnfoagbipaaaW.PrintLast Go.Proofs.YtppbnfoagbipaaaW.PrintMore
attribute [local go_sem] max2_int min2_int max_two min_two max_three min_three max_four min_four   -- for this text's walks alone
set_option linter.unusedVariables false
set_option linter.unusedSimpArgs false



def errW : Option Int → Value
  | none => .nilIface
  | some c => .iface 0 (.int .i64 c)
theorem errW_none : errW none = .nilIface := rfl
theorem errW_some (c : Int) : errW (some c) = .iface 0 (.int .i64 c) := rfl

theorem info5 : (Try.prog.info? 5).map (fun i => (i.zero, i.size, i.bytes)) = some (some (.int .u8 0), 1, 1) := by kernel_rfl
theorem info9 : (Try.prog.info? 9).map (fun i => (i.zero, i.size, i.bytes)) = some (some (.string ⟨#[]⟩), 1, 16) := by kernel_rfl
-- the values' own types

end Go.Proofs.Ytppbnfoagbipaaa.XFnDictHash
