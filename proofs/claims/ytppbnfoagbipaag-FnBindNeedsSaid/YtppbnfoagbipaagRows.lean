/-
  No cell of these rows narrows 'for every input' (looked for: loops, veiled, ifaces, maps, wideKeys, modest, calm, conditions, laid).
  DERIVED. THE GIVEN ROWS OF THIS SEAT. 6 by the template 'for every input the law returns true; each argument reads behind the call as it read before'; 0 by the template 'total and deterministic' (their statements: YtppbnfoagbipaagTotals.lean).
  GIVEN WITH THE SEED: the statements are not yours to turn. If you find one false, say at which input.
  Laid BY PROGRAM, IN A SANDBOX (cutbox-rows.mjs): the forced cells as the released guide's own fill.sh prints them over the translation ca1ea644c8fdd234… (all of the seat's roots in one cut). By AI agents, Wed Nov 11 2026. No macro, syntax, notation, axiom, sorry.
-/
import Derived.Test.YtppbnfoagbipaagChecked
import GoSem.Claim
import GoSem.ClaimJoined
import GoSem.ClaimMapViews
import Derived.JoinedTies
import Derived.KernelRfl
namespace Go.Proofs.Ytppbnfoagbipaag
/- THE CELL 'sum', in the pinned program and in every row, IS THE sha256 OF THE DUMP (.gsa) THAT YtppbnfoagbipaagProg.lean LOADS. Nothing in Lean hashes anything: it is a label: what it is worth is what the hold of that sum in a sandbox is worth. -/
noncomputable def Try.pinned : Pinned := { name := "ytppbnfoagbipaag", sum := "ca1ea644c8fdd2346d22420dc28815a9097824195b7e21438c32128be7f54f96", checked := Try.checked }
namespace Rows
def none {H : Type} : Left H := { results := [], args := [] }

/-- 'laws.FnBindNeeds': WHATEVER THE INPUT: true; the input reads as it did. -/
def fnBindNeedsSpec : ChangeSpec := { name := "fnBindNeeds", fn := fun _ => fun
  | [d] => { results := [.lit (.bool true)], args := [d] }
  | _ => none }
def fnBindNeedsRow : OpenClaim := { program := "ytppbnfoagbipaag", sum := "ca1ea644c8fdd2346d22420dc28815a9097824195b7e21438c32128be7f54f96", func := "loop.example/slowworm/laws.FnBindNeeds", spec := "fnBindNeeds", apart := false }
def FnBindNeedsSaid : Prop := fnBindNeedsRow.holds Try.pinned (OpenSpec.ofChange fnBindNeedsSpec)

/-- ITS FALSE NEIGHBOUR: 'it returns false'. Refute it at one input. -/
def fnBindNeedsWrong : ChangeSpec := { name := "fnBindNeeds", fn := fun _ => fun
  | [d] => { results := [.lit (.bool false)], args := [d] }
  | _ => none }
def FnBindNeedsWrongFalsely : Prop := fnBindNeedsRow.holds Try.pinned (OpenSpec.ofChange fnBindNeedsWrong)

/-- 'laws.FnListTurned': WHATEVER THE INPUT: true; the input reads as it did. -/
def fnListTurnedSpec : ChangeSpec := { name := "fnListTurned", fn := fun _ => fun
  | [d] => { results := [.lit (.bool true)], args := [d] }
  | _ => none }
def fnListTurnedRow : OpenClaim := { program := "ytppbnfoagbipaag", sum := "ca1ea644c8fdd2346d22420dc28815a9097824195b7e21438c32128be7f54f96", func := "loop.example/slowworm/laws.FnListTurned", spec := "fnListTurned", unfollowed := true, recurses := true, apart := false }
def FnListTurnedSaid : Prop := fnListTurnedRow.holds Try.pinned (OpenSpec.ofChange fnListTurnedSpec)

/-- ITS FALSE NEIGHBOUR: 'it returns false'. Refute it at one input. -/
def fnListTurnedWrong : ChangeSpec := { name := "fnListTurned", fn := fun _ => fun
  | [d] => { results := [.lit (.bool false)], args := [d] }
  | _ => none }
def FnListTurnedWrongFalsely : Prop := fnListTurnedRow.holds Try.pinned (OpenSpec.ofChange fnListTurnedWrong)

/-- 'laws.FnExactTextMany': WHATEVER THE INPUT: true; the input reads as it did. -/
def fnExactTextManySpec : ChangeSpec := { name := "fnExactTextMany", fn := fun _ => fun
  | [d1, d2] => { results := [.lit (.bool true)], args := [d1, d2] }
  | _ => none }
def fnExactTextManyRow : OpenClaim := { program := "ytppbnfoagbipaag", sum := "ca1ea644c8fdd2346d22420dc28815a9097824195b7e21438c32128be7f54f96", func := "loop.example/slowworm/laws.FnExactTextMany", spec := "fnExactTextMany", inPlace := ["internal/abi.NoEscape", "internal/bytealg.MakeNoZero"], apart := false }
def FnExactTextManySaid : Prop := fnExactTextManyRow.holds Try.pinned (OpenSpec.ofChange fnExactTextManySpec)

/-- ITS FALSE NEIGHBOUR: 'it returns false'. Refute it at one input. -/
def fnExactTextManyWrong : ChangeSpec := { name := "fnExactTextMany", fn := fun _ => fun
  | [d1, d2] => { results := [.lit (.bool false)], args := [d1, d2] }
  | _ => none }
def FnExactTextManyWrongFalsely : Prop := fnExactTextManyRow.holds Try.pinned (OpenSpec.ofChange fnExactTextManyWrong)

/-- 'laws.FnExactIntCmp': WHATEVER THE INPUT: true; the input reads as it did. -/
def fnExactIntCmpSpec : ChangeSpec := { name := "fnExactIntCmp", fn := fun _ => fun
  | [d1, d2] => { results := [.lit (.bool true)], args := [d1, d2] }
  | _ => none }
def fnExactIntCmpRow : OpenClaim := { program := "ytppbnfoagbipaag", sum := "ca1ea644c8fdd2346d22420dc28815a9097824195b7e21438c32128be7f54f96", func := "loop.example/slowworm/laws.FnExactIntCmp", spec := "fnExactIntCmp", apart := false }
def FnExactIntCmpSaid : Prop := fnExactIntCmpRow.holds Try.pinned (OpenSpec.ofChange fnExactIntCmpSpec)

/-- ITS FALSE NEIGHBOUR: 'it returns false'. Refute it at one input. -/
def fnExactIntCmpWrong : ChangeSpec := { name := "fnExactIntCmp", fn := fun _ => fun
  | [d1, d2] => { results := [.lit (.bool false)], args := [d1, d2] }
  | _ => none }
def FnExactIntCmpWrongFalsely : Prop := fnExactIntCmpRow.holds Try.pinned (OpenSpec.ofChange fnExactIntCmpWrong)

/-- 'laws.FnTextOdd': WHATEVER THE INPUT: true; the input reads as it did. -/
def fnTextOddSpec : ChangeSpec := { name := "fnTextOdd", fn := fun _ => fun
  | [d] => { results := [.lit (.bool true)], args := [d] }
  | _ => none }
def fnTextOddRow : OpenClaim := { program := "ytppbnfoagbipaag", sum := "ca1ea644c8fdd2346d22420dc28815a9097824195b7e21438c32128be7f54f96", func := "loop.example/slowworm/laws.FnTextOdd", spec := "fnTextOdd", inPlace := ["internal/abi.NoEscape"], unfollowed := true, recurses := true, apart := false }
def FnTextOddSaid : Prop := fnTextOddRow.holds Try.pinned (OpenSpec.ofChange fnTextOddSpec)

/-- ITS FALSE NEIGHBOUR: 'it returns false'. Refute it at one input. -/
def fnTextOddWrong : ChangeSpec := { name := "fnTextOdd", fn := fun _ => fun
  | [d] => { results := [.lit (.bool false)], args := [d] }
  | _ => none }
def FnTextOddWrongFalsely : Prop := fnTextOddRow.holds Try.pinned (OpenSpec.ofChange fnTextOddWrong)

/-- 'laws.FnExactIntMul': WHATEVER THE INPUT: true; the input reads as it did. -/
def fnExactIntMulSpec : ChangeSpec := { name := "fnExactIntMul", fn := fun _ => fun
  | [d1, d2] => { results := [.lit (.bool true)], args := [d1, d2] }
  | _ => none }
def fnExactIntMulRow : OpenClaim := { program := "ytppbnfoagbipaag", sum := "ca1ea644c8fdd2346d22420dc28815a9097824195b7e21438c32128be7f54f96", func := "loop.example/slowworm/laws.FnExactIntMul", spec := "fnExactIntMul", inPlace := ["internal/abi.NoEscape"], apart := false }
def FnExactIntMulSaid : Prop := fnExactIntMulRow.holds Try.pinned (OpenSpec.ofChange fnExactIntMulSpec)

/-- ITS FALSE NEIGHBOUR: 'it returns false'. Refute it at one input. -/
def fnExactIntMulWrong : ChangeSpec := { name := "fnExactIntMul", fn := fun _ => fun
  | [d1, d2] => { results := [.lit (.bool false)], args := [d1, d2] }
  | _ => none }
def FnExactIntMulWrongFalsely : Prop := fnExactIntMulRow.holds Try.pinned (OpenSpec.ofChange fnExactIntMulWrong)

/- THE SECOND FORM. 'bulk': how many values and letters a reading holds, each counted each time it is reached (what is shared counts as often as it is met; a slice's spare places count too). A statement '..UptoSaid' is the law's where the arguments, and the package variables that the reading takes, are together of bulk at most 1048576: NARROWER than '..Said'. Prove '..Said' where nothing that the law and all that it calls make is longer than what came in: it says more and counts as full. Else prove '..UptoSaid'. A law counts once. -/
mutual
def uptoBulk {H : Type} : DataW H → Nat
  | .lit (.string bytes) => bytes.length + 1
  | .lit _ => 1
  | .nil => 1
  | .ptr d => uptoBulk d + 1
  | .slice elems spare => uptoBulkAll elems + uptoBulkAll spare + 1
  | .agg parts => uptoBulkAll parts + 1
  | .iface _ d => uptoBulk d + 1
  | .map entries => uptoBulkEntries entries + 1
  | .held _ => 1
def uptoBulkAll {H : Type} : List (DataW H) → Nat
  | [] => 0
  | d :: r => uptoBulk d + uptoBulkAll r
def uptoBulkEntries {H : Type} : List (Lit × DataW H) → Nat
  | [] => 0
  | x :: r => uptoBulkEntry x + uptoBulkEntries r
def uptoBulkEntry {H : Type} : Lit × DataW H → Nat
  | (.string bytes, d) => bytes.length + uptoBulk d + 1
  | (_, d) => uptoBulk d + 1
 end
def uptoSmall : (H : Type) → List (DataW H) → Bool := fun _ ds => decide (uptoBulkAll ds ≤ 1048576)
def OpenSpec.upto (s : _root_.Go.ChangeSpec) : _root_.Go.OpenSpec := { _root_.Go.OpenSpec.ofChange s with cond := some uptoSmall }

/-- 'laws.FnBindNeeds', WHERE WHAT IT READS IS OF BULK AT MOST 1048576: true; the input reads as it did. -/
def fnBindNeedsUptoRow : OpenClaim := { program := "ytppbnfoagbipaag", sum := "ca1ea644c8fdd2346d22420dc28815a9097824195b7e21438c32128be7f54f96", func := "loop.example/slowworm/laws.FnBindNeeds", spec := "fnBindNeeds", apart := false, narrowed := true }
def FnBindNeedsUptoSaid : Prop := fnBindNeedsUptoRow.holds Try.pinned (OpenSpec.upto fnBindNeedsSpec)

/-- 'laws.FnListTurned', WHERE WHAT IT READS IS OF BULK AT MOST 1048576: true; the input reads as it did. -/
def fnListTurnedUptoRow : OpenClaim := { program := "ytppbnfoagbipaag", sum := "ca1ea644c8fdd2346d22420dc28815a9097824195b7e21438c32128be7f54f96", func := "loop.example/slowworm/laws.FnListTurned", spec := "fnListTurned", unfollowed := true, recurses := true, apart := false, narrowed := true }
def FnListTurnedUptoSaid : Prop := fnListTurnedUptoRow.holds Try.pinned (OpenSpec.upto fnListTurnedSpec)

/-- 'laws.FnExactTextMany', WHERE WHAT IT READS IS OF BULK AT MOST 1048576: true; the input reads as it did. -/
def fnExactTextManyUptoRow : OpenClaim := { program := "ytppbnfoagbipaag", sum := "ca1ea644c8fdd2346d22420dc28815a9097824195b7e21438c32128be7f54f96", func := "loop.example/slowworm/laws.FnExactTextMany", spec := "fnExactTextMany", inPlace := ["internal/abi.NoEscape", "internal/bytealg.MakeNoZero"], apart := false, narrowed := true }
def FnExactTextManyUptoSaid : Prop := fnExactTextManyUptoRow.holds Try.pinned (OpenSpec.upto fnExactTextManySpec)

/-- 'laws.FnExactIntCmp', WHERE WHAT IT READS IS OF BULK AT MOST 1048576: true; the input reads as it did. -/
def fnExactIntCmpUptoRow : OpenClaim := { program := "ytppbnfoagbipaag", sum := "ca1ea644c8fdd2346d22420dc28815a9097824195b7e21438c32128be7f54f96", func := "loop.example/slowworm/laws.FnExactIntCmp", spec := "fnExactIntCmp", apart := false, narrowed := true }
def FnExactIntCmpUptoSaid : Prop := fnExactIntCmpUptoRow.holds Try.pinned (OpenSpec.upto fnExactIntCmpSpec)

/-- 'laws.FnTextOdd', WHERE WHAT IT READS IS OF BULK AT MOST 1048576: true; the input reads as it did. -/
def fnTextOddUptoRow : OpenClaim := { program := "ytppbnfoagbipaag", sum := "ca1ea644c8fdd2346d22420dc28815a9097824195b7e21438c32128be7f54f96", func := "loop.example/slowworm/laws.FnTextOdd", spec := "fnTextOdd", inPlace := ["internal/abi.NoEscape"], unfollowed := true, recurses := true, apart := false, narrowed := true }
def FnTextOddUptoSaid : Prop := fnTextOddUptoRow.holds Try.pinned (OpenSpec.upto fnTextOddSpec)

/-- 'laws.FnExactIntMul', WHERE WHAT IT READS IS OF BULK AT MOST 1048576: true; the input reads as it did. -/
def fnExactIntMulUptoRow : OpenClaim := { program := "ytppbnfoagbipaag", sum := "ca1ea644c8fdd2346d22420dc28815a9097824195b7e21438c32128be7f54f96", func := "loop.example/slowworm/laws.FnExactIntMul", spec := "fnExactIntMul", inPlace := ["internal/abi.NoEscape"], apart := false, narrowed := true }
def FnExactIntMulUptoSaid : Prop := fnExactIntMulUptoRow.holds Try.pinned (OpenSpec.upto fnExactIntMulSpec)

end Rows
end Go.Proofs.Ytppbnfoagbipaag
