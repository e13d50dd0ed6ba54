/-
  No cell of these rows narrows 'for every input' (looked for: loops, veiled, ifaces, maps, wideKeys, modest, calm, conditions, laid).
  DERIVED. THE GIVEN ROWS OF THIS SEAT. 8 by the template 'for every input the law returns true; each argument reads behind the call as it read before'; 0 by the template 'total and deterministic' (their statements: YtkhkbbhkhpekcaaTotals.lean).
  GIVEN WITH THE SEED: the statements are not yours to turn. If you find one false, say at which input.
  Laid BY PROGRAM, IN A SANDBOX (cutbox-rows.mjs): the forced cells as the released guide's own fill.sh prints them over the translation 6d28b50575579401… (all of the seat's roots in one cut). By AI agents, Wed Nov 11 2026. No macro, syntax, notation, axiom, sorry.
-/
import Derived.Test.YtkhkbbhkhpekcaaChecked
import GoSem.Claim
import GoSem.ClaimJoined
import GoSem.ClaimMapViews
import Derived.JoinedTies
import Derived.KernelRfl
namespace Go.Proofs.Ytkhkbbhkhpekcaa
/- THE CELL 'sum', in the pinned program and in every row, IS THE sha256 OF THE DUMP (.gsa) THAT YtkhkbbhkhpekcaaProg.lean LOADS. Nothing in Lean hashes anything: it is a label: what it is worth is what the hold of that sum in a sandbox is worth. -/
noncomputable def Try.pinned : Pinned := { name := "ytkhkbbhkhpekcaa", sum := "6d28b50575579401674e740fdcc58e0fe9cb470da2b224413e33a3068ac85c96", checked := Try.checked }
namespace Rows
def none {H : Type} : Left H := { results := [], args := [] }

/-- 'laws.FnTextQuote': WHATEVER THE INPUT: true; the input reads as it did. -/
def fnTextQuoteSpec : ChangeSpec := { name := "fnTextQuote", fn := fun _ => fun
  | [d] => { results := [.lit (.bool true)], args := [d] }
  | _ => none }
def fnTextQuoteRow : OpenClaim := { program := "ytkhkbbhkhpekcaa", sum := "6d28b50575579401674e740fdcc58e0fe9cb470da2b224413e33a3068ac85c96", func := "loop.example/slowworm/laws.FnTextQuote", spec := "fnTextQuote", inPlace := ["internal/abi.NoEscape", "internal/bytealg.IndexByteString"], apart := false }
def FnTextQuoteSaid : Prop := fnTextQuoteRow.holds Try.pinned (OpenSpec.ofChange fnTextQuoteSpec)

/-- ITS FALSE NEIGHBOUR: 'it returns false'. Refute it at one input. -/
def fnTextQuoteWrong : ChangeSpec := { name := "fnTextQuote", fn := fun _ => fun
  | [d] => { results := [.lit (.bool false)], args := [d] }
  | _ => none }
def FnTextQuoteWrongFalsely : Prop := fnTextQuoteRow.holds Try.pinned (OpenSpec.ofChange fnTextQuoteWrong)

/-- 'laws.FnExactTextUnquote': WHATEVER THE INPUT: true; the input reads as it did. -/
def fnExactTextUnquoteSpec : ChangeSpec := { name := "fnExactTextUnquote", fn := fun _ => fun
  | [d] => { results := [.lit (.bool true)], args := [d] }
  | _ => none }
def fnExactTextUnquoteRow : OpenClaim := { program := "ytkhkbbhkhpekcaa", sum := "6d28b50575579401674e740fdcc58e0fe9cb470da2b224413e33a3068ac85c96", func := "loop.example/slowworm/laws.FnExactTextUnquote", spec := "fnExactTextUnquote", inPlace := ["internal/abi.NoEscape", "internal/bytealg.IndexByteString"], apart := false }
def FnExactTextUnquoteSaid : Prop := fnExactTextUnquoteRow.holds Try.pinned (OpenSpec.ofChange fnExactTextUnquoteSpec)

/-- ITS FALSE NEIGHBOUR: 'it returns false'. Refute it at one input. -/
def fnExactTextUnquoteWrong : ChangeSpec := { name := "fnExactTextUnquote", fn := fun _ => fun
  | [d] => { results := [.lit (.bool false)], args := [d] }
  | _ => none }
def FnExactTextUnquoteWrongFalsely : Prop := fnExactTextUnquoteRow.holds Try.pinned (OpenSpec.ofChange fnExactTextUnquoteWrong)

/-- 'laws.FnExactTextFind': WHATEVER THE INPUT: true; the input reads as it did. -/
def fnExactTextFindSpec : ChangeSpec := { name := "fnExactTextFind", fn := fun _ => fun
  | [d1, d2] => { results := [.lit (.bool true)], args := [d1, d2] }
  | _ => none }
def fnExactTextFindRow : OpenClaim := { program := "ytkhkbbhkhpekcaa", sum := "6d28b50575579401674e740fdcc58e0fe9cb470da2b224413e33a3068ac85c96", func := "loop.example/slowworm/laws.FnExactTextFind", spec := "fnExactTextFind", inPlace := ["internal/bytealg.IndexByteString", "internal/bytealg.IndexString"], named := ["internal/bytealg.MaxLen"], apart := false }
def FnExactTextFindSaid : Prop := fnExactTextFindRow.holds Try.pinned (OpenSpec.ofChange fnExactTextFindSpec)

/-- ITS FALSE NEIGHBOUR: 'it returns false'. Refute it at one input. -/
def fnExactTextFindWrong : ChangeSpec := { name := "fnExactTextFind", fn := fun _ => fun
  | [d1, d2] => { results := [.lit (.bool false)], args := [d1, d2] }
  | _ => none }
def FnExactTextFindWrongFalsely : Prop := fnExactTextFindRow.holds Try.pinned (OpenSpec.ofChange fnExactTextFindWrong)

/-- 'laws.FnTextFind': WHATEVER THE INPUT: true; the input reads as it did. -/
def fnTextFindSpec : ChangeSpec := { name := "fnTextFind", fn := fun _ => fun
  | [d] => { results := [.lit (.bool true)], args := [d] }
  | _ => none }
def fnTextFindRow : OpenClaim := { program := "ytkhkbbhkhpekcaa", sum := "6d28b50575579401674e740fdcc58e0fe9cb470da2b224413e33a3068ac85c96", func := "loop.example/slowworm/laws.FnTextFind", spec := "fnTextFind", inPlace := ["internal/bytealg.IndexByteString", "internal/bytealg.IndexString"], named := ["internal/bytealg.MaxLen"], apart := false }
def FnTextFindSaid : Prop := fnTextFindRow.holds Try.pinned (OpenSpec.ofChange fnTextFindSpec)

/-- ITS FALSE NEIGHBOUR: 'it returns false'. Refute it at one input. -/
def fnTextFindWrong : ChangeSpec := { name := "fnTextFind", fn := fun _ => fun
  | [d] => { results := [.lit (.bool false)], args := [d] }
  | _ => none }
def FnTextFindWrongFalsely : Prop := fnTextFindRow.holds Try.pinned (OpenSpec.ofChange fnTextFindWrong)

/-- 'laws.FnExactIntPow': WHATEVER THE INPUT: true; the input reads as it did. -/
def fnExactIntPowSpec : ChangeSpec := { name := "fnExactIntPow", fn := fun _ => fun
  | [d1, d2] => { results := [.lit (.bool true)], args := [d1, d2] }
  | _ => none }
def fnExactIntPowRow : OpenClaim := { program := "ytkhkbbhkhpekcaa", sum := "6d28b50575579401674e740fdcc58e0fe9cb470da2b224413e33a3068ac85c96", func := "loop.example/slowworm/laws.FnExactIntPow", spec := "fnExactIntPow", inPlace := ["internal/abi.NoEscape"], apart := false }
def FnExactIntPowSaid : Prop := fnExactIntPowRow.holds Try.pinned (OpenSpec.ofChange fnExactIntPowSpec)

/-- ITS FALSE NEIGHBOUR: 'it returns false'. Refute it at one input. -/
def fnExactIntPowWrong : ChangeSpec := { name := "fnExactIntPow", fn := fun _ => fun
  | [d1, d2] => { results := [.lit (.bool false)], args := [d1, d2] }
  | _ => none }
def FnExactIntPowWrongFalsely : Prop := fnExactIntPowRow.holds Try.pinned (OpenSpec.ofChange fnExactIntPowWrong)

/-- 'laws.FnExactIntMul': WHATEVER THE INPUT: true; the input reads as it did. -/
def fnExactIntMulSpec : ChangeSpec := { name := "fnExactIntMul", fn := fun _ => fun
  | [d1, d2] => { results := [.lit (.bool true)], args := [d1, d2] }
  | _ => none }
def fnExactIntMulRow : OpenClaim := { program := "ytkhkbbhkhpekcaa", sum := "6d28b50575579401674e740fdcc58e0fe9cb470da2b224413e33a3068ac85c96", func := "loop.example/slowworm/laws.FnExactIntMul", spec := "fnExactIntMul", inPlace := ["internal/abi.NoEscape"], apart := false }
def FnExactIntMulSaid : Prop := fnExactIntMulRow.holds Try.pinned (OpenSpec.ofChange fnExactIntMulSpec)

/-- ITS FALSE NEIGHBOUR: 'it returns false'. Refute it at one input. -/
def fnExactIntMulWrong : ChangeSpec := { name := "fnExactIntMul", fn := fun _ => fun
  | [d1, d2] => { results := [.lit (.bool false)], args := [d1, d2] }
  | _ => none }
def FnExactIntMulWrongFalsely : Prop := fnExactIntMulRow.holds Try.pinned (OpenSpec.ofChange fnExactIntMulWrong)

/-- 'laws.FnExactIntCmp': WHATEVER THE INPUT: true; the input reads as it did. -/
def fnExactIntCmpSpec : ChangeSpec := { name := "fnExactIntCmp", fn := fun _ => fun
  | [d1, d2] => { results := [.lit (.bool true)], args := [d1, d2] }
  | _ => none }
def fnExactIntCmpRow : OpenClaim := { program := "ytkhkbbhkhpekcaa", sum := "6d28b50575579401674e740fdcc58e0fe9cb470da2b224413e33a3068ac85c96", func := "loop.example/slowworm/laws.FnExactIntCmp", spec := "fnExactIntCmp", apart := false }
def FnExactIntCmpSaid : Prop := fnExactIntCmpRow.holds Try.pinned (OpenSpec.ofChange fnExactIntCmpSpec)

/-- ITS FALSE NEIGHBOUR: 'it returns false'. Refute it at one input. -/
def fnExactIntCmpWrong : ChangeSpec := { name := "fnExactIntCmp", fn := fun _ => fun
  | [d1, d2] => { results := [.lit (.bool false)], args := [d1, d2] }
  | _ => none }
def FnExactIntCmpWrongFalsely : Prop := fnExactIntCmpRow.holds Try.pinned (OpenSpec.ofChange fnExactIntCmpWrong)

/-- 'laws.FnExactListPutCut': WHATEVER THE INPUT: true; the input reads as it did. -/
def fnExactListPutCutSpec : ChangeSpec := { name := "fnExactListPutCut", fn := fun _ => fun
  | [d1, d2, d3] => { results := [.lit (.bool true)], args := [d1, d2, d3] }
  | _ => none }
def fnExactListPutCutRow : OpenClaim := { program := "ytkhkbbhkhpekcaa", sum := "6d28b50575579401674e740fdcc58e0fe9cb470da2b224413e33a3068ac85c96", func := "loop.example/slowworm/laws.FnExactListPutCut", spec := "fnExactListPutCut", unfollowed := true, recurses := true, apart := false }
def FnExactListPutCutSaid : Prop := fnExactListPutCutRow.holds Try.pinned (OpenSpec.ofChange fnExactListPutCutSpec)

/-- ITS FALSE NEIGHBOUR: 'it returns false'. Refute it at one input. -/
def fnExactListPutCutWrong : ChangeSpec := { name := "fnExactListPutCut", fn := fun _ => fun
  | [d1, d2, d3] => { results := [.lit (.bool false)], args := [d1, d2, d3] }
  | _ => none }
def FnExactListPutCutWrongFalsely : Prop := fnExactListPutCutRow.holds Try.pinned (OpenSpec.ofChange fnExactListPutCutWrong)

/- THE SECOND FORM. 'bulk': how many values and letters a reading holds, each counted each time it is reached (what is shared counts as often as it is met; a slice's spare places count too). A statement '..UptoSaid' is the law's where the arguments, and the package variables that the reading takes, are together of bulk at most 1048576: NARROWER than '..Said'. Prove '..Said' where nothing that the law and all that it calls make is longer than what came in: it says more and counts as full. Else prove '..UptoSaid'. A law counts once. -/
mutual
def uptoBulk {H : Type} : DataW H → Nat
  | .lit (.string bytes) => bytes.length + 1
  | .lit _ => 1
  | .nil => 1
  | .ptr d => uptoBulk d + 1
  | .slice elems spare => uptoBulkAll elems + uptoBulkAll spare + 1
  | .agg parts => uptoBulkAll parts + 1
  | .iface _ d => uptoBulk d + 1
  | .map entries => uptoBulkEntries entries + 1
  | .held _ => 1
def uptoBulkAll {H : Type} : List (DataW H) → Nat
  | [] => 0
  | d :: r => uptoBulk d + uptoBulkAll r
def uptoBulkEntries {H : Type} : List (Lit × DataW H) → Nat
  | [] => 0
  | x :: r => uptoBulkEntry x + uptoBulkEntries r
def uptoBulkEntry {H : Type} : Lit × DataW H → Nat
  | (.string bytes, d) => bytes.length + uptoBulk d + 1
  | (_, d) => uptoBulk d + 1
 end
def uptoSmall : (H : Type) → List (DataW H) → Bool := fun _ ds => decide (uptoBulkAll ds ≤ 1048576)
def OpenSpec.upto (s : _root_.Go.ChangeSpec) : _root_.Go.OpenSpec := { _root_.Go.OpenSpec.ofChange s with cond := some uptoSmall }

/-- 'laws.FnTextQuote', WHERE WHAT IT READS IS OF BULK AT MOST 1048576: true; the input reads as it did. -/
def fnTextQuoteUptoRow : OpenClaim := { program := "ytkhkbbhkhpekcaa", sum := "6d28b50575579401674e740fdcc58e0fe9cb470da2b224413e33a3068ac85c96", func := "loop.example/slowworm/laws.FnTextQuote", spec := "fnTextQuote", inPlace := ["internal/abi.NoEscape", "internal/bytealg.IndexByteString"], apart := false, narrowed := true }
def FnTextQuoteUptoSaid : Prop := fnTextQuoteUptoRow.holds Try.pinned (OpenSpec.upto fnTextQuoteSpec)

/-- 'laws.FnExactTextUnquote', WHERE WHAT IT READS IS OF BULK AT MOST 1048576: true; the input reads as it did. -/
def fnExactTextUnquoteUptoRow : OpenClaim := { program := "ytkhkbbhkhpekcaa", sum := "6d28b50575579401674e740fdcc58e0fe9cb470da2b224413e33a3068ac85c96", func := "loop.example/slowworm/laws.FnExactTextUnquote", spec := "fnExactTextUnquote", inPlace := ["internal/abi.NoEscape", "internal/bytealg.IndexByteString"], apart := false, narrowed := true }
def FnExactTextUnquoteUptoSaid : Prop := fnExactTextUnquoteUptoRow.holds Try.pinned (OpenSpec.upto fnExactTextUnquoteSpec)

/-- 'laws.FnExactTextFind', WHERE WHAT IT READS IS OF BULK AT MOST 1048576: true; the input reads as it did. -/
def fnExactTextFindUptoRow : OpenClaim := { program := "ytkhkbbhkhpekcaa", sum := "6d28b50575579401674e740fdcc58e0fe9cb470da2b224413e33a3068ac85c96", func := "loop.example/slowworm/laws.FnExactTextFind", spec := "fnExactTextFind", inPlace := ["internal/bytealg.IndexByteString", "internal/bytealg.IndexString"], named := ["internal/bytealg.MaxLen"], apart := false, narrowed := true }
def FnExactTextFindUptoSaid : Prop := fnExactTextFindUptoRow.holds Try.pinned (OpenSpec.upto fnExactTextFindSpec)

/-- 'laws.FnTextFind', WHERE WHAT IT READS IS OF BULK AT MOST 1048576: true; the input reads as it did. -/
def fnTextFindUptoRow : OpenClaim := { program := "ytkhkbbhkhpekcaa", sum := "6d28b50575579401674e740fdcc58e0fe9cb470da2b224413e33a3068ac85c96", func := "loop.example/slowworm/laws.FnTextFind", spec := "fnTextFind", inPlace := ["internal/bytealg.IndexByteString", "internal/bytealg.IndexString"], named := ["internal/bytealg.MaxLen"], apart := false, narrowed := true }
def FnTextFindUptoSaid : Prop := fnTextFindUptoRow.holds Try.pinned (OpenSpec.upto fnTextFindSpec)

/-- 'laws.FnExactIntPow', WHERE WHAT IT READS IS OF BULK AT MOST 1048576: true; the input reads as it did. -/
def fnExactIntPowUptoRow : OpenClaim := { program := "ytkhkbbhkhpekcaa", sum := "6d28b50575579401674e740fdcc58e0fe9cb470da2b224413e33a3068ac85c96", func := "loop.example/slowworm/laws.FnExactIntPow", spec := "fnExactIntPow", inPlace := ["internal/abi.NoEscape"], apart := false, narrowed := true }
def FnExactIntPowUptoSaid : Prop := fnExactIntPowUptoRow.holds Try.pinned (OpenSpec.upto fnExactIntPowSpec)

/-- 'laws.FnExactIntMul', WHERE WHAT IT READS IS OF BULK AT MOST 1048576: true; the input reads as it did. -/
def fnExactIntMulUptoRow : OpenClaim := { program := "ytkhkbbhkhpekcaa", sum := "6d28b50575579401674e740fdcc58e0fe9cb470da2b224413e33a3068ac85c96", func := "loop.example/slowworm/laws.FnExactIntMul", spec := "fnExactIntMul", inPlace := ["internal/abi.NoEscape"], apart := false, narrowed := true }
def FnExactIntMulUptoSaid : Prop := fnExactIntMulUptoRow.holds Try.pinned (OpenSpec.upto fnExactIntMulSpec)

/-- 'laws.FnExactIntCmp', WHERE WHAT IT READS IS OF BULK AT MOST 1048576: true; the input reads as it did. -/
def fnExactIntCmpUptoRow : OpenClaim := { program := "ytkhkbbhkhpekcaa", sum := "6d28b50575579401674e740fdcc58e0fe9cb470da2b224413e33a3068ac85c96", func := "loop.example/slowworm/laws.FnExactIntCmp", spec := "fnExactIntCmp", apart := false, narrowed := true }
def FnExactIntCmpUptoSaid : Prop := fnExactIntCmpUptoRow.holds Try.pinned (OpenSpec.upto fnExactIntCmpSpec)

/-- 'laws.FnExactListPutCut', WHERE WHAT IT READS IS OF BULK AT MOST 1048576: true; the input reads as it did. -/
def fnExactListPutCutUptoRow : OpenClaim := { program := "ytkhkbbhkhpekcaa", sum := "6d28b50575579401674e740fdcc58e0fe9cb470da2b224413e33a3068ac85c96", func := "loop.example/slowworm/laws.FnExactListPutCut", spec := "fnExactListPutCut", unfollowed := true, recurses := true, apart := false, narrowed := true }
def FnExactListPutCutUptoSaid : Prop := fnExactListPutCutUptoRow.holds Try.pinned (OpenSpec.upto fnExactListPutCutSpec)

end Rows
end Go.Proofs.Ytkhkbbhkhpekcaa
