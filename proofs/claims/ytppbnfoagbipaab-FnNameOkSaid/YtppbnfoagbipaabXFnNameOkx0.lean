/- The functions that FnNameOk uses, as functions of Lean, and that the Go code comes to their answers. Written by a program of this session. -/
import Derived.Test.YtppbnfoagbipaabProg
import Derived.Below
import Derived.Deep.Draws
import Derived.Deep.AppendLies
import Derived.Maps.AppendAt
import Derived.OwnWalk
import Derived.Laws.BytesArg
import Derived.Laws.MakeOwn
import Derived.Laws.OwnMore
import Derived.Deep.OwnRows
import Derived.Tactics
import Derived.Lib.ConvBytes
import Derived.Laws.Slices
import Derived.WalkKit
import Derived.KernelRfl
import Derived.RowKit3
import Derived.Deep.LoopGhost
import Derived.Deep.QuietTactic
import Derived.BigQuiet
import Derived.WideLaws
import Derived.Deep.DeepCutAuto
import Derived.Deep.CutBlock
import Derived.Deep.RegionHeld3
import Derived.Laws.Rows
import Derived.Lib.AppendStr
import Derived.ArgAppend
import Derived.Laws.IdiomCopy
import Derived.OrdersHeld
import Derived.Laws.BitsLemmas
import Derived.RowKit
import Derived.Test.YtppbnfoagbipaabWWords
import Derived.Test.YtppbnfoagbipaabWLast
import Derived.Test.YtppbnfoagbipaabWTab
import Derived.Test.YtppbnfoagbipaabWFour
import Derived.Test.YtppbnfoagbipaabWQPut
import Derived.Test.YtppbnfoagbipaabWApart
import Derived.Test.YtppbnfoagbipaabWArr
import Derived.Test.YtppbnfoagbipaabWZeros
import Derived.Test.YtppbnfoagbipaabWFoot
import Derived.Test.YtppbnfoagbipaabWKept
import Derived.Test.YtppbnfoagbipaabWShare
import Derived.Test.YtppbnfoagbipaabWN
import Derived.Test.YtppbnfoagbipaabWFootNe
import Derived.Test.YtppbnfoagbipaabWAt
import Derived.Test.YtppbnfoagbipaabWEqStruct
import Derived.Test.YtppbnfoagbipaabWRepsOne
import Derived.Test.YtppbnfoagbipaabWInv
import Derived.Test.YtppbnfoagbipaabWInvWords
import Derived.Test.YtppbnfoagbipaabWGuard
import Derived.Test.YtppbnfoagbipaabWNEv
import Derived.Test.YtppbnfoagbipaabWMore
namespace Go.Proofs.Ytppbnfoagbipaab.XFnNameOk
open Go.RowKit Go.Proofs.YtppbnfoagbipaabW.PrintWords Go.Proofs.YtppbnfoagbipaabW.PrintLast Go.Proofs.YtppbnfoagbipaabW.PrintMore
attribute [local go_sem] max2_int min2_int max_two min_two max_three min_three max_four min_four   -- for this text's walks alone
set_option linter.unusedVariables false
set_option linter.unusedSimpArgs false



def errW : Option Int → Value
  | none => .nilIface
  | some c => .iface 0 (.int .i64 c)
theorem errW_none : errW none = .nilIface := rfl
theorem errW_some (c : Int) : errW (some c) = .iface 0 (.int .i64 c) := rfl

theorem info5 : (Try.prog.info? 5).map (fun i => (i.zero, i.size, i.bytes)) = some (some (.int .u8 0), 1, 1) := by kernel_rfl
theorem info9 : (Try.prog.info? 9).map (fun i => (i.zero, i.size, i.bytes)) = some (some (.string ⟨#[]⟩), 1, 16) := by kernel_rfl
-- the values' own types

end Go.Proofs.Ytppbnfoagbipaab.XFnNameOk
