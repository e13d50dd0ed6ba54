/-
  No cell of these rows narrows 'for every input' (looked for: loops, veiled, ifaces, maps, wideKeys, modest, calm, conditions, laid).
  DERIVED. THE GIVEN ROWS OF THIS SEAT. 6 by the template 'for every input the law returns true; each argument reads behind the call as it read before'; 0 by the template 'total and deterministic' (their statements: YtlhhffkdhdaonabTotals.lean).
  GIVEN WITH THE SEED: the statements are not yours to turn. If you find one false, say at which input.
  Laid BY PROGRAM, IN A SANDBOX (cutbox-rows.mjs): the forced cells as the released guide's own fill.sh prints them over the translation 0930e504e4d5da7c… (all of the seat's roots in one cut). By AI agents, Wed Nov 11 2026. No macro, syntax, notation, axiom, sorry.
-/
import Derived.Test.YtlhhffkdhdaonabChecked
import GoSem.Claim
import GoSem.ClaimJoined
import GoSem.ClaimMapViews
import Derived.JoinedTies
import Derived.KernelRfl
namespace Go.Proofs.Ytlhhffkdhdaonab
/- THE CELL 'sum', in the pinned program and in every row, IS THE sha256 OF THE DUMP (.gsa) THAT YtlhhffkdhdaonabProg.lean LOADS. Nothing in Lean hashes anything: it is a label: what it is worth is what the hold of that sum in a sandbox is worth. -/
noncomputable def Try.pinned : Pinned := { name := "ytlhhffkdhdaonab", sum := "0930e504e4d5da7cba89c3b27ec0e1b8f8cab3502324354d2301c128d902aa64", checked := Try.checked }
namespace Rows
def none {H : Type} : Left H := { results := [], args := [] }

/-- 'laws.FnExactIsKeyword': WHATEVER THE INPUT: true; the input reads as it did. -/
def fnExactIsKeywordSpec : ChangeSpec := { name := "fnExactIsKeyword", fn := fun _ => fun
  | [d] => { results := [.lit (.bool true)], args := [d] }
  | _ => none }
def fnExactIsKeywordRow : OpenClaim := { program := "ytlhhffkdhdaonab", sum := "0930e504e4d5da7cba89c3b27ec0e1b8f8cab3502324354d2301c128d902aa64", func := "loop.example/slowworm/laws.FnExactIsKeyword", spec := "fnExactIsKeyword", apart := false }
def FnExactIsKeywordSaid : Prop := fnExactIsKeywordRow.holds Try.pinned (OpenSpec.ofChange fnExactIsKeywordSpec)

/-- ITS FALSE NEIGHBOUR: 'it returns false'. Refute it at one input. -/
def fnExactIsKeywordWrong : ChangeSpec := { name := "fnExactIsKeyword", fn := fun _ => fun
  | [d] => { results := [.lit (.bool false)], args := [d] }
  | _ => none }
def FnExactIsKeywordWrongFalsely : Prop := fnExactIsKeywordRow.holds Try.pinned (OpenSpec.ofChange fnExactIsKeywordWrong)

/-- 'laws.FnExactIntPow': WHATEVER THE INPUT: true; the input reads as it did. -/
def fnExactIntPowSpec : ChangeSpec := { name := "fnExactIntPow", fn := fun _ => fun
  | [d1, d2] => { results := [.lit (.bool true)], args := [d1, d2] }
  | _ => none }
def fnExactIntPowRow : OpenClaim := { program := "ytlhhffkdhdaonab", sum := "0930e504e4d5da7cba89c3b27ec0e1b8f8cab3502324354d2301c128d902aa64", func := "loop.example/slowworm/laws.FnExactIntPow", spec := "fnExactIntPow", inPlace := ["internal/abi.NoEscape"], apart := false }
def FnExactIntPowSaid : Prop := fnExactIntPowRow.holds Try.pinned (OpenSpec.ofChange fnExactIntPowSpec)

/-- ITS FALSE NEIGHBOUR: 'it returns false'. Refute it at one input. -/
def fnExactIntPowWrong : ChangeSpec := { name := "fnExactIntPow", fn := fun _ => fun
  | [d1, d2] => { results := [.lit (.bool false)], args := [d1, d2] }
  | _ => none }
def FnExactIntPowWrongFalsely : Prop := fnExactIntPowRow.holds Try.pinned (OpenSpec.ofChange fnExactIntPowWrong)

/-- 'laws.FnLoopNewReady': WHATEVER THE INPUT: true; the input reads as it did. -/
def fnLoopNewReadySpec : ChangeSpec := { name := "fnLoopNewReady", fn := fun _ => fun
  | [d] => { results := [.lit (.bool true)], args := [d] }
  | _ => none }
def fnLoopNewReadyRow : OpenClaim := { program := "ytlhhffkdhdaonab", sum := "0930e504e4d5da7cba89c3b27ec0e1b8f8cab3502324354d2301c128d902aa64", func := "loop.example/slowworm/laws.FnLoopNewReady", spec := "fnLoopNewReady", apart := false }
def FnLoopNewReadySaid : Prop := fnLoopNewReadyRow.holds Try.pinned (OpenSpec.ofChange fnLoopNewReadySpec)

/-- ITS FALSE NEIGHBOUR: 'it returns false'. Refute it at one input. -/
def fnLoopNewReadyWrong : ChangeSpec := { name := "fnLoopNewReady", fn := fun _ => fun
  | [d] => { results := [.lit (.bool false)], args := [d] }
  | _ => none }
def FnLoopNewReadyWrongFalsely : Prop := fnLoopNewReadyRow.holds Try.pinned (OpenSpec.ofChange fnLoopNewReadyWrong)

/-- 'laws.FnExactIntOk': WHATEVER THE INPUT: true; the input reads as it did. -/
def fnExactIntOkSpec : ChangeSpec := { name := "fnExactIntOk", fn := fun _ => fun
  | [d] => { results := [.lit (.bool true)], args := [d] }
  | _ => none }
def fnExactIntOkRow : OpenClaim := { program := "ytlhhffkdhdaonab", sum := "0930e504e4d5da7cba89c3b27ec0e1b8f8cab3502324354d2301c128d902aa64", func := "loop.example/slowworm/laws.FnExactIntOk", spec := "fnExactIntOk", apart := false }
def FnExactIntOkSaid : Prop := fnExactIntOkRow.holds Try.pinned (OpenSpec.ofChange fnExactIntOkSpec)

/-- ITS FALSE NEIGHBOUR: 'it returns false'. Refute it at one input. -/
def fnExactIntOkWrong : ChangeSpec := { name := "fnExactIntOk", fn := fun _ => fun
  | [d] => { results := [.lit (.bool false)], args := [d] }
  | _ => none }
def FnExactIntOkWrongFalsely : Prop := fnExactIntOkRow.holds Try.pinned (OpenSpec.ofChange fnExactIntOkWrong)

/-- 'laws.FnListRoom': WHATEVER THE INPUT: true; the input reads as it did. -/
def fnListRoomSpec : ChangeSpec := { name := "fnListRoom", fn := fun _ => fun
  | [d] => { results := [.lit (.bool true)], args := [d] }
  | _ => none }
def fnListRoomRow : OpenClaim := { program := "ytlhhffkdhdaonab", sum := "0930e504e4d5da7cba89c3b27ec0e1b8f8cab3502324354d2301c128d902aa64", func := "loop.example/slowworm/laws.FnListRoom", spec := "fnListRoom", apart := false }
def FnListRoomSaid : Prop := fnListRoomRow.holds Try.pinned (OpenSpec.ofChange fnListRoomSpec)

/-- ITS FALSE NEIGHBOUR: 'it returns false'. Refute it at one input. -/
def fnListRoomWrong : ChangeSpec := { name := "fnListRoom", fn := fun _ => fun
  | [d] => { results := [.lit (.bool false)], args := [d] }
  | _ => none }
def FnListRoomWrongFalsely : Prop := fnListRoomRow.holds Try.pinned (OpenSpec.ofChange fnListRoomWrong)

/-- 'laws.FnExactNameOk': WHATEVER THE INPUT: true; the input reads as it did. -/
def fnExactNameOkSpec : ChangeSpec := { name := "fnExactNameOk", fn := fun _ => fun
  | [d] => { results := [.lit (.bool true)], args := [d] }
  | _ => none }
def fnExactNameOkRow : OpenClaim := { program := "ytlhhffkdhdaonab", sum := "0930e504e4d5da7cba89c3b27ec0e1b8f8cab3502324354d2301c128d902aa64", func := "loop.example/slowworm/laws.FnExactNameOk", spec := "fnExactNameOk", apart := false }
def FnExactNameOkSaid : Prop := fnExactNameOkRow.holds Try.pinned (OpenSpec.ofChange fnExactNameOkSpec)

/-- ITS FALSE NEIGHBOUR: 'it returns false'. Refute it at one input. -/
def fnExactNameOkWrong : ChangeSpec := { name := "fnExactNameOk", fn := fun _ => fun
  | [d] => { results := [.lit (.bool false)], args := [d] }
  | _ => none }
def FnExactNameOkWrongFalsely : Prop := fnExactNameOkRow.holds Try.pinned (OpenSpec.ofChange fnExactNameOkWrong)

/- THE SECOND FORM. 'bulk': how many values and letters a reading holds, each counted each time it is reached (what is shared counts as often as it is met; a slice's spare places count too). A statement '..UptoSaid' is the law's where the arguments, and the package variables that the reading takes, are together of bulk at most 1048576: NARROWER than '..Said'. Prove '..Said' where nothing that the law and all that it calls make is longer than what came in: it says more and counts as full. Else prove '..UptoSaid'. A law counts once. -/
mutual
def uptoBulk {H : Type} : DataW H → Nat
  | .lit (.string bytes) => bytes.length + 1
  | .lit _ => 1
  | .nil => 1
  | .ptr d => uptoBulk d + 1
  | .slice elems spare => uptoBulkAll elems + uptoBulkAll spare + 1
  | .agg parts => uptoBulkAll parts + 1
  | .iface _ d => uptoBulk d + 1
  | .map entries => uptoBulkEntries entries + 1
  | .held _ => 1
def uptoBulkAll {H : Type} : List (DataW H) → Nat
  | [] => 0
  | d :: r => uptoBulk d + uptoBulkAll r
def uptoBulkEntries {H : Type} : List (Lit × DataW H) → Nat
  | [] => 0
  | x :: r => uptoBulkEntry x + uptoBulkEntries r
def uptoBulkEntry {H : Type} : Lit × DataW H → Nat
  | (.string bytes, d) => bytes.length + uptoBulk d + 1
  | (_, d) => uptoBulk d + 1
 end
def uptoSmall : (H : Type) → List (DataW H) → Bool := fun _ ds => decide (uptoBulkAll ds ≤ 1048576)
def OpenSpec.upto (s : _root_.Go.ChangeSpec) : _root_.Go.OpenSpec := { _root_.Go.OpenSpec.ofChange s with cond := some uptoSmall }

/-- 'laws.FnExactIsKeyword', WHERE WHAT IT READS IS OF BULK AT MOST 1048576: true; the input reads as it did. -/
def fnExactIsKeywordUptoRow : OpenClaim := { program := "ytlhhffkdhdaonab", sum := "0930e504e4d5da7cba89c3b27ec0e1b8f8cab3502324354d2301c128d902aa64", func := "loop.example/slowworm/laws.FnExactIsKeyword", spec := "fnExactIsKeyword", apart := false, narrowed := true }
def FnExactIsKeywordUptoSaid : Prop := fnExactIsKeywordUptoRow.holds Try.pinned (OpenSpec.upto fnExactIsKeywordSpec)

/-- 'laws.FnExactIntPow', WHERE WHAT IT READS IS OF BULK AT MOST 1048576: true; the input reads as it did. -/
def fnExactIntPowUptoRow : OpenClaim := { program := "ytlhhffkdhdaonab", sum := "0930e504e4d5da7cba89c3b27ec0e1b8f8cab3502324354d2301c128d902aa64", func := "loop.example/slowworm/laws.FnExactIntPow", spec := "fnExactIntPow", inPlace := ["internal/abi.NoEscape"], apart := false, narrowed := true }
def FnExactIntPowUptoSaid : Prop := fnExactIntPowUptoRow.holds Try.pinned (OpenSpec.upto fnExactIntPowSpec)

/-- 'laws.FnLoopNewReady', WHERE WHAT IT READS IS OF BULK AT MOST 1048576: true; the input reads as it did. -/
def fnLoopNewReadyUptoRow : OpenClaim := { program := "ytlhhffkdhdaonab", sum := "0930e504e4d5da7cba89c3b27ec0e1b8f8cab3502324354d2301c128d902aa64", func := "loop.example/slowworm/laws.FnLoopNewReady", spec := "fnLoopNewReady", apart := false, narrowed := true }
def FnLoopNewReadyUptoSaid : Prop := fnLoopNewReadyUptoRow.holds Try.pinned (OpenSpec.upto fnLoopNewReadySpec)

/-- 'laws.FnExactIntOk', WHERE WHAT IT READS IS OF BULK AT MOST 1048576: true; the input reads as it did. -/
def fnExactIntOkUptoRow : OpenClaim := { program := "ytlhhffkdhdaonab", sum := "0930e504e4d5da7cba89c3b27ec0e1b8f8cab3502324354d2301c128d902aa64", func := "loop.example/slowworm/laws.FnExactIntOk", spec := "fnExactIntOk", apart := false, narrowed := true }
def FnExactIntOkUptoSaid : Prop := fnExactIntOkUptoRow.holds Try.pinned (OpenSpec.upto fnExactIntOkSpec)

/-- 'laws.FnListRoom', WHERE WHAT IT READS IS OF BULK AT MOST 1048576: true; the input reads as it did. -/
def fnListRoomUptoRow : OpenClaim := { program := "ytlhhffkdhdaonab", sum := "0930e504e4d5da7cba89c3b27ec0e1b8f8cab3502324354d2301c128d902aa64", func := "loop.example/slowworm/laws.FnListRoom", spec := "fnListRoom", apart := false, narrowed := true }
def FnListRoomUptoSaid : Prop := fnListRoomUptoRow.holds Try.pinned (OpenSpec.upto fnListRoomSpec)

/-- 'laws.FnExactNameOk', WHERE WHAT IT READS IS OF BULK AT MOST 1048576: true; the input reads as it did. -/
def fnExactNameOkUptoRow : OpenClaim := { program := "ytlhhffkdhdaonab", sum := "0930e504e4d5da7cba89c3b27ec0e1b8f8cab3502324354d2301c128d902aa64", func := "loop.example/slowworm/laws.FnExactNameOk", spec := "fnExactNameOk", apart := false, narrowed := true }
def FnExactNameOkUptoSaid : Prop := fnExactNameOkUptoRow.holds Try.pinned (OpenSpec.upto fnExactNameOkSpec)

end Rows
end Go.Proofs.Ytlhhffkdhdaonab
