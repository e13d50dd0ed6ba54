/-
  No cell of these rows narrows 'for every input' (looked for: loops, veiled, ifaces, maps, wideKeys, modest, calm, conditions, laid).
  DERIVED. THE GIVEN ROWS OF THIS SEAT. 6 by the template 'for every input the law returns true; each argument reads behind the call as it read before'; 0 by the template 'total and deterministic' (their statements: YtppbnfoagbipaabTotals.lean).
  GIVEN WITH THE SEED: the statements are not yours to turn. If you find one false, say at which input.
  Laid BY PROGRAM, IN A SANDBOX (cutbox-rows.mjs): the forced cells as the released guide's own fill.sh prints them over the translation b16004785101c590… (all of the seat's roots in one cut). By AI agents, Wed Nov 11 2026. No macro, syntax, notation, axiom, sorry.
-/
import Derived.Test.YtppbnfoagbipaabChecked
import GoSem.Claim
import GoSem.ClaimJoined
import GoSem.ClaimMapViews
import Derived.JoinedTies
import Derived.KernelRfl
namespace Go.Proofs.Ytppbnfoagbipaab
/- THE CELL 'sum', in the pinned program and in every row, IS THE sha256 OF THE DUMP (.gsa) THAT YtppbnfoagbipaabProg.lean LOADS. Nothing in Lean hashes anything: it is a label: what it is worth is what the hold of that sum in a sandbox is worth. -/
noncomputable def Try.pinned : Pinned := { name := "ytppbnfoagbipaab", sum := "b16004785101c590318e43d7501d848655af7a8785d75c6836839c1f37022c2d", checked := Try.checked }
namespace Rows
def none {H : Type} : Left H := { results := [], args := [] }

/-- 'laws.FnExactRoomsOf': WHATEVER THE INPUT: true; the input reads as it did. -/
def fnExactRoomsOfSpec : ChangeSpec := { name := "fnExactRoomsOf", fn := fun _ => fun
  | [d] => { results := [.lit (.bool true)], args := [d] }
  | _ => none }
def fnExactRoomsOfRow : OpenClaim := { program := "ytppbnfoagbipaab", sum := "b16004785101c590318e43d7501d848655af7a8785d75c6836839c1f37022c2d", func := "loop.example/slowworm/laws.FnExactRoomsOf", spec := "fnExactRoomsOf", apart := false }
def FnExactRoomsOfSaid : Prop := fnExactRoomsOfRow.holds Try.pinned (OpenSpec.ofChange fnExactRoomsOfSpec)

/-- ITS FALSE NEIGHBOUR: 'it returns false'. Refute it at one input. -/
def fnExactRoomsOfWrong : ChangeSpec := { name := "fnExactRoomsOf", fn := fun _ => fun
  | [d] => { results := [.lit (.bool false)], args := [d] }
  | _ => none }
def FnExactRoomsOfWrongFalsely : Prop := fnExactRoomsOfRow.holds Try.pinned (OpenSpec.ofChange fnExactRoomsOfWrong)

/-- 'laws.FnExactCutRange': WHATEVER THE INPUT: true; the input reads as it did. -/
def fnExactCutRangeSpec : ChangeSpec := { name := "fnExactCutRange", fn := fun _ => fun
  | [d1, d2] => { results := [.lit (.bool true)], args := [d1, d2] }
  | _ => none }
def fnExactCutRangeRow : OpenClaim := { program := "ytppbnfoagbipaab", sum := "b16004785101c590318e43d7501d848655af7a8785d75c6836839c1f37022c2d", func := "loop.example/slowworm/laws.FnExactCutRange", spec := "fnExactCutRange", unfollowed := true, recurses := true, apart := false }
def FnExactCutRangeSaid : Prop := fnExactCutRangeRow.holds Try.pinned (OpenSpec.ofChange fnExactCutRangeSpec)

/-- ITS FALSE NEIGHBOUR: 'it returns false'. Refute it at one input. -/
def fnExactCutRangeWrong : ChangeSpec := { name := "fnExactCutRange", fn := fun _ => fun
  | [d1, d2] => { results := [.lit (.bool false)], args := [d1, d2] }
  | _ => none }
def FnExactCutRangeWrongFalsely : Prop := fnExactCutRangeRow.holds Try.pinned (OpenSpec.ofChange fnExactCutRangeWrong)

/-- 'laws.FnNameOk': WHATEVER THE INPUT: true; the input reads as it did. -/
def fnNameOkSpec : ChangeSpec := { name := "fnNameOk", fn := fun _ => fun
  | [d] => { results := [.lit (.bool true)], args := [d] }
  | _ => none }
def fnNameOkRow : OpenClaim := { program := "ytppbnfoagbipaab", sum := "b16004785101c590318e43d7501d848655af7a8785d75c6836839c1f37022c2d", func := "loop.example/slowworm/laws.FnNameOk", spec := "fnNameOk", apart := false }
def FnNameOkSaid : Prop := fnNameOkRow.holds Try.pinned (OpenSpec.ofChange fnNameOkSpec)

/-- ITS FALSE NEIGHBOUR: 'it returns false'. Refute it at one input. -/
def fnNameOkWrong : ChangeSpec := { name := "fnNameOk", fn := fun _ => fun
  | [d] => { results := [.lit (.bool false)], args := [d] }
  | _ => none }
def FnNameOkWrongFalsely : Prop := fnNameOkRow.holds Try.pinned (OpenSpec.ofChange fnNameOkWrong)

/-- 'laws.FnCutOk': WHATEVER THE INPUT: true; the input reads as it did. -/
def fnCutOkSpec : ChangeSpec := { name := "fnCutOk", fn := fun _ => fun
  | [d] => { results := [.lit (.bool true)], args := [d] }
  | _ => none }
def fnCutOkRow : OpenClaim := { program := "ytppbnfoagbipaab", sum := "b16004785101c590318e43d7501d848655af7a8785d75c6836839c1f37022c2d", func := "loop.example/slowworm/laws.FnCutOk", spec := "fnCutOk", unfollowed := true, recurses := true, apart := false }
def FnCutOkSaid : Prop := fnCutOkRow.holds Try.pinned (OpenSpec.ofChange fnCutOkSpec)

/-- ITS FALSE NEIGHBOUR: 'it returns false'. Refute it at one input. -/
def fnCutOkWrong : ChangeSpec := { name := "fnCutOk", fn := fun _ => fun
  | [d] => { results := [.lit (.bool false)], args := [d] }
  | _ => none }
def FnCutOkWrongFalsely : Prop := fnCutOkRow.holds Try.pinned (OpenSpec.ofChange fnCutOkWrong)

/-- 'laws.FnExactListPutCut': WHATEVER THE INPUT: true; the input reads as it did. -/
def fnExactListPutCutSpec : ChangeSpec := { name := "fnExactListPutCut", fn := fun _ => fun
  | [d1, d2, d3] => { results := [.lit (.bool true)], args := [d1, d2, d3] }
  | _ => none }
def fnExactListPutCutRow : OpenClaim := { program := "ytppbnfoagbipaab", sum := "b16004785101c590318e43d7501d848655af7a8785d75c6836839c1f37022c2d", func := "loop.example/slowworm/laws.FnExactListPutCut", spec := "fnExactListPutCut", unfollowed := true, recurses := true, apart := false }
def FnExactListPutCutSaid : Prop := fnExactListPutCutRow.holds Try.pinned (OpenSpec.ofChange fnExactListPutCutSpec)

/-- ITS FALSE NEIGHBOUR: 'it returns false'. Refute it at one input. -/
def fnExactListPutCutWrong : ChangeSpec := { name := "fnExactListPutCut", fn := fun _ => fun
  | [d1, d2, d3] => { results := [.lit (.bool false)], args := [d1, d2, d3] }
  | _ => none }
def FnExactListPutCutWrongFalsely : Prop := fnExactListPutCutRow.holds Try.pinned (OpenSpec.ofChange fnExactListPutCutWrong)

/-- 'laws.FnExactTextQuote': WHATEVER THE INPUT: true; the input reads as it did. -/
def fnExactTextQuoteSpec : ChangeSpec := { name := "fnExactTextQuote", fn := fun _ => fun
  | [d] => { results := [.lit (.bool true)], args := [d] }
  | _ => none }
def fnExactTextQuoteRow : OpenClaim := { program := "ytppbnfoagbipaab", sum := "b16004785101c590318e43d7501d848655af7a8785d75c6836839c1f37022c2d", func := "loop.example/slowworm/laws.FnExactTextQuote", spec := "fnExactTextQuote", inPlace := ["internal/abi.NoEscape"], apart := false }
def FnExactTextQuoteSaid : Prop := fnExactTextQuoteRow.holds Try.pinned (OpenSpec.ofChange fnExactTextQuoteSpec)

/-- ITS FALSE NEIGHBOUR: 'it returns false'. Refute it at one input. -/
def fnExactTextQuoteWrong : ChangeSpec := { name := "fnExactTextQuote", fn := fun _ => fun
  | [d] => { results := [.lit (.bool false)], args := [d] }
  | _ => none }
def FnExactTextQuoteWrongFalsely : Prop := fnExactTextQuoteRow.holds Try.pinned (OpenSpec.ofChange fnExactTextQuoteWrong)

/- THE SECOND FORM. 'bulk': how many values and letters a reading holds, each counted each time it is reached (what is shared counts as often as it is met; a slice's spare places count too). A statement '..UptoSaid' is the law's where the arguments, and the package variables that the reading takes, are together of bulk at most 1048576: NARROWER than '..Said'. Prove '..Said' where nothing that the law and all that it calls make is longer than what came in: it says more and counts as full. Else prove '..UptoSaid'. A law counts once. -/
mutual
def uptoBulk {H : Type} : DataW H → Nat
  | .lit (.string bytes) => bytes.length + 1
  | .lit _ => 1
  | .nil => 1
  | .ptr d => uptoBulk d + 1
  | .slice elems spare => uptoBulkAll elems + uptoBulkAll spare + 1
  | .agg parts => uptoBulkAll parts + 1
  | .iface _ d => uptoBulk d + 1
  | .map entries => uptoBulkEntries entries + 1
  | .held _ => 1
def uptoBulkAll {H : Type} : List (DataW H) → Nat
  | [] => 0
  | d :: r => uptoBulk d + uptoBulkAll r
def uptoBulkEntries {H : Type} : List (Lit × DataW H) → Nat
  | [] => 0
  | x :: r => uptoBulkEntry x + uptoBulkEntries r
def uptoBulkEntry {H : Type} : Lit × DataW H → Nat
  | (.string bytes, d) => bytes.length + uptoBulk d + 1
  | (_, d) => uptoBulk d + 1
 end
def uptoSmall : (H : Type) → List (DataW H) → Bool := fun _ ds => decide (uptoBulkAll ds ≤ 1048576)
def OpenSpec.upto (s : _root_.Go.ChangeSpec) : _root_.Go.OpenSpec := { _root_.Go.OpenSpec.ofChange s with cond := some uptoSmall }

/-- 'laws.FnExactRoomsOf', WHERE WHAT IT READS IS OF BULK AT MOST 1048576: true; the input reads as it did. -/
def fnExactRoomsOfUptoRow : OpenClaim := { program := "ytppbnfoagbipaab", sum := "b16004785101c590318e43d7501d848655af7a8785d75c6836839c1f37022c2d", func := "loop.example/slowworm/laws.FnExactRoomsOf", spec := "fnExactRoomsOf", apart := false, narrowed := true }
def FnExactRoomsOfUptoSaid : Prop := fnExactRoomsOfUptoRow.holds Try.pinned (OpenSpec.upto fnExactRoomsOfSpec)

/-- 'laws.FnExactCutRange', WHERE WHAT IT READS IS OF BULK AT MOST 1048576: true; the input reads as it did. -/
def fnExactCutRangeUptoRow : OpenClaim := { program := "ytppbnfoagbipaab", sum := "b16004785101c590318e43d7501d848655af7a8785d75c6836839c1f37022c2d", func := "loop.example/slowworm/laws.FnExactCutRange", spec := "fnExactCutRange", unfollowed := true, recurses := true, apart := false, narrowed := true }
def FnExactCutRangeUptoSaid : Prop := fnExactCutRangeUptoRow.holds Try.pinned (OpenSpec.upto fnExactCutRangeSpec)

/-- 'laws.FnNameOk', WHERE WHAT IT READS IS OF BULK AT MOST 1048576: true; the input reads as it did. -/
def fnNameOkUptoRow : OpenClaim := { program := "ytppbnfoagbipaab", sum := "b16004785101c590318e43d7501d848655af7a8785d75c6836839c1f37022c2d", func := "loop.example/slowworm/laws.FnNameOk", spec := "fnNameOk", apart := false, narrowed := true }
def FnNameOkUptoSaid : Prop := fnNameOkUptoRow.holds Try.pinned (OpenSpec.upto fnNameOkSpec)

/-- 'laws.FnCutOk', WHERE WHAT IT READS IS OF BULK AT MOST 1048576: true; the input reads as it did. -/
def fnCutOkUptoRow : OpenClaim := { program := "ytppbnfoagbipaab", sum := "b16004785101c590318e43d7501d848655af7a8785d75c6836839c1f37022c2d", func := "loop.example/slowworm/laws.FnCutOk", spec := "fnCutOk", unfollowed := true, recurses := true, apart := false, narrowed := true }
def FnCutOkUptoSaid : Prop := fnCutOkUptoRow.holds Try.pinned (OpenSpec.upto fnCutOkSpec)

/-- 'laws.FnExactListPutCut', WHERE WHAT IT READS IS OF BULK AT MOST 1048576: true; the input reads as it did. -/
def fnExactListPutCutUptoRow : OpenClaim := { program := "ytppbnfoagbipaab", sum := "b16004785101c590318e43d7501d848655af7a8785d75c6836839c1f37022c2d", func := "loop.example/slowworm/laws.FnExactListPutCut", spec := "fnExactListPutCut", unfollowed := true, recurses := true, apart := false, narrowed := true }
def FnExactListPutCutUptoSaid : Prop := fnExactListPutCutUptoRow.holds Try.pinned (OpenSpec.upto fnExactListPutCutSpec)

/-- 'laws.FnExactTextQuote', WHERE WHAT IT READS IS OF BULK AT MOST 1048576: true; the input reads as it did. -/
def fnExactTextQuoteUptoRow : OpenClaim := { program := "ytppbnfoagbipaab", sum := "b16004785101c590318e43d7501d848655af7a8785d75c6836839c1f37022c2d", func := "loop.example/slowworm/laws.FnExactTextQuote", spec := "fnExactTextQuote", inPlace := ["internal/abi.NoEscape"], apart := false, narrowed := true }
def FnExactTextQuoteUptoSaid : Prop := fnExactTextQuoteUptoRow.holds Try.pinned (OpenSpec.upto fnExactTextQuoteSpec)

end Rows
end Go.Proofs.Ytppbnfoagbipaab
