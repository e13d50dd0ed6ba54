/-
  No cell of these rows narrows 'for every input' (looked for: loops, veiled, ifaces, maps, wideKeys, modest, calm, conditions, laid).
  DERIVED. THE GIVEN ROWS OF THIS SEAT. 6 by the template 'for every input the law returns true; each argument reads behind the call as it read before'; 0 by the template 'total and deterministic' (their statements: YtppbnfoagbipaadTotals.lean).
  GIVEN WITH THE SEED: the statements are not yours to turn. If you find one false, say at which input.
  Laid BY PROGRAM, IN A SANDBOX (cutbox-rows.mjs): the forced cells as the released guide's own fill.sh prints them over the translation 96ee8ca6ba2651f4… (all of the seat's roots in one cut). By AI agents, Wed Nov 11 2026. No macro, syntax, notation, axiom, sorry.
-/
import Derived.Test.YtppbnfoagbipaadChecked
import GoSem.Claim
import GoSem.ClaimJoined
import GoSem.ClaimMapViews
import Derived.JoinedTies
import Derived.KernelRfl
namespace Go.Proofs.Ytppbnfoagbipaad
/- THE CELL 'sum', in the pinned program and in every row, IS THE sha256 OF THE DUMP (.gsa) THAT YtppbnfoagbipaadProg.lean LOADS. Nothing in Lean hashes anything: it is a label: what it is worth is what the hold of that sum in a sandbox is worth. -/
noncomputable def Try.pinned : Pinned := { name := "ytppbnfoagbipaad", sum := "96ee8ca6ba2651f4968f23ab624358a4ec59032cb79a6acae0e253409505c9c1", checked := Try.checked }
namespace Rows
def none {H : Type} : Left H := { results := [], args := [] }

/-- 'laws.FnExactTextFind': WHATEVER THE INPUT: true; the input reads as it did. -/
def fnExactTextFindSpec : ChangeSpec := { name := "fnExactTextFind", fn := fun _ => fun
  | [d1, d2] => { results := [.lit (.bool true)], args := [d1, d2] }
  | _ => none }
def fnExactTextFindRow : OpenClaim := { program := "ytppbnfoagbipaad", sum := "96ee8ca6ba2651f4968f23ab624358a4ec59032cb79a6acae0e253409505c9c1", func := "loop.example/slowworm/laws.FnExactTextFind", spec := "fnExactTextFind", inPlace := ["internal/bytealg.IndexByteString", "internal/bytealg.IndexString"], named := ["internal/bytealg.MaxLen"], apart := false }
def FnExactTextFindSaid : Prop := fnExactTextFindRow.holds Try.pinned (OpenSpec.ofChange fnExactTextFindSpec)

/-- ITS FALSE NEIGHBOUR: 'it returns false'. Refute it at one input. -/
def fnExactTextFindWrong : ChangeSpec := { name := "fnExactTextFind", fn := fun _ => fun
  | [d1, d2] => { results := [.lit (.bool false)], args := [d1, d2] }
  | _ => none }
def FnExactTextFindWrongFalsely : Prop := fnExactTextFindRow.holds Try.pinned (OpenSpec.ofChange fnExactTextFindWrong)

/-- 'laws.FnExactScriptsOk': WHATEVER THE INPUT: true; the input reads as it did. -/
def fnExactScriptsOkSpec : ChangeSpec := { name := "fnExactScriptsOk", fn := fun _ => fun
  | [d] => { results := [.lit (.bool true)], args := [d] }
  | _ => none }
def fnExactScriptsOkRow : OpenClaim := { program := "ytppbnfoagbipaad", sum := "96ee8ca6ba2651f4968f23ab624358a4ec59032cb79a6acae0e253409505c9c1", func := "loop.example/slowworm/laws.FnExactScriptsOk", spec := "fnExactScriptsOk", apart := false }
def FnExactScriptsOkSaid : Prop := fnExactScriptsOkRow.holds Try.pinned (OpenSpec.ofChange fnExactScriptsOkSpec)

/-- ITS FALSE NEIGHBOUR: 'it returns false'. Refute it at one input. -/
def fnExactScriptsOkWrong : ChangeSpec := { name := "fnExactScriptsOk", fn := fun _ => fun
  | [d] => { results := [.lit (.bool false)], args := [d] }
  | _ => none }
def FnExactScriptsOkWrongFalsely : Prop := fnExactScriptsOkRow.holds Try.pinned (OpenSpec.ofChange fnExactScriptsOkWrong)

/-- 'laws.FnCutRange': WHATEVER THE INPUT: true; the input reads as it did. -/
def fnCutRangeSpec : ChangeSpec := { name := "fnCutRange", fn := fun _ => fun
  | [d] => { results := [.lit (.bool true)], args := [d] }
  | _ => none }
def fnCutRangeRow : OpenClaim := { program := "ytppbnfoagbipaad", sum := "96ee8ca6ba2651f4968f23ab624358a4ec59032cb79a6acae0e253409505c9c1", func := "loop.example/slowworm/laws.FnCutRange", spec := "fnCutRange", unfollowed := true, recurses := true, apart := false }
def FnCutRangeSaid : Prop := fnCutRangeRow.holds Try.pinned (OpenSpec.ofChange fnCutRangeSpec)

/-- ITS FALSE NEIGHBOUR: 'it returns false'. Refute it at one input. -/
def fnCutRangeWrong : ChangeSpec := { name := "fnCutRange", fn := fun _ => fun
  | [d] => { results := [.lit (.bool false)], args := [d] }
  | _ => none }
def FnCutRangeWrongFalsely : Prop := fnCutRangeRow.holds Try.pinned (OpenSpec.ofChange fnCutRangeWrong)

/-- 'laws.FnExactDictNew': WHATEVER THE INPUT: true; the input reads as it did. -/
def fnExactDictNewSpec : ChangeSpec := { name := "fnExactDictNew", fn := fun _ => fun
  | [] => { results := [.lit (.bool true)], args := [] }
  | _ => none }
def fnExactDictNewRow : OpenClaim := { program := "ytppbnfoagbipaad", sum := "96ee8ca6ba2651f4968f23ab624358a4ec59032cb79a6acae0e253409505c9c1", func := "loop.example/slowworm/laws.FnExactDictNew", spec := "fnExactDictNew", apart := false }
def FnExactDictNewSaid : Prop := fnExactDictNewRow.holds Try.pinned (OpenSpec.ofChange fnExactDictNewSpec)

/-- ITS FALSE NEIGHBOUR: 'it returns false'. Refute it at one input. -/
def fnExactDictNewWrong : ChangeSpec := { name := "fnExactDictNew", fn := fun _ => fun
  | [] => { results := [.lit (.bool false)], args := [] }
  | _ => none }
def FnExactDictNewWrongFalsely : Prop := fnExactDictNewRow.holds Try.pinned (OpenSpec.ofChange fnExactDictNewWrong)

/-- 'laws.FnExactTextCut': WHATEVER THE INPUT: true; the input reads as it did. -/
def fnExactTextCutSpec : ChangeSpec := { name := "fnExactTextCut", fn := fun _ => fun
  | [d1, d2] => { results := [.lit (.bool true)], args := [d1, d2] }
  | _ => none }
def fnExactTextCutRow : OpenClaim := { program := "ytppbnfoagbipaad", sum := "96ee8ca6ba2651f4968f23ab624358a4ec59032cb79a6acae0e253409505c9c1", func := "loop.example/slowworm/laws.FnExactTextCut", spec := "fnExactTextCut", inPlace := ["internal/abi.NoEscape"], unfollowed := true, recurses := true, apart := false }
def FnExactTextCutSaid : Prop := fnExactTextCutRow.holds Try.pinned (OpenSpec.ofChange fnExactTextCutSpec)

/-- ITS FALSE NEIGHBOUR: 'it returns false'. Refute it at one input. -/
def fnExactTextCutWrong : ChangeSpec := { name := "fnExactTextCut", fn := fun _ => fun
  | [d1, d2] => { results := [.lit (.bool false)], args := [d1, d2] }
  | _ => none }
def FnExactTextCutWrongFalsely : Prop := fnExactTextCutRow.holds Try.pinned (OpenSpec.ofChange fnExactTextCutWrong)

/-- 'laws.FnCountsOf': WHATEVER THE INPUT: true; the input reads as it did. -/
def fnCountsOfSpec : ChangeSpec := { name := "fnCountsOf", fn := fun _ => fun
  | [d] => { results := [.lit (.bool true)], args := [d] }
  | _ => none }
def fnCountsOfRow : OpenClaim := { program := "ytppbnfoagbipaad", sum := "96ee8ca6ba2651f4968f23ab624358a4ec59032cb79a6acae0e253409505c9c1", func := "loop.example/slowworm/laws.FnCountsOf", spec := "fnCountsOf", apart := false }
def FnCountsOfSaid : Prop := fnCountsOfRow.holds Try.pinned (OpenSpec.ofChange fnCountsOfSpec)

/-- ITS FALSE NEIGHBOUR: 'it returns false'. Refute it at one input. -/
def fnCountsOfWrong : ChangeSpec := { name := "fnCountsOf", fn := fun _ => fun
  | [d] => { results := [.lit (.bool false)], args := [d] }
  | _ => none }
def FnCountsOfWrongFalsely : Prop := fnCountsOfRow.holds Try.pinned (OpenSpec.ofChange fnCountsOfWrong)

/- THE SECOND FORM. 'bulk': how many values and letters a reading holds, each counted each time it is reached (what is shared counts as often as it is met; a slice's spare places count too). A statement '..UptoSaid' is the law's where the arguments, and the package variables that the reading takes, are together of bulk at most 1048576: NARROWER than '..Said'. Prove '..Said' where nothing that the law and all that it calls make is longer than what came in: it says more and counts as full. Else prove '..UptoSaid'. A law counts once. -/
mutual
def uptoBulk {H : Type} : DataW H → Nat
  | .lit (.string bytes) => bytes.length + 1
  | .lit _ => 1
  | .nil => 1
  | .ptr d => uptoBulk d + 1
  | .slice elems spare => uptoBulkAll elems + uptoBulkAll spare + 1
  | .agg parts => uptoBulkAll parts + 1
  | .iface _ d => uptoBulk d + 1
  | .map entries => uptoBulkEntries entries + 1
  | .held _ => 1
def uptoBulkAll {H : Type} : List (DataW H) → Nat
  | [] => 0
  | d :: r => uptoBulk d + uptoBulkAll r
def uptoBulkEntries {H : Type} : List (Lit × DataW H) → Nat
  | [] => 0
  | x :: r => uptoBulkEntry x + uptoBulkEntries r
def uptoBulkEntry {H : Type} : Lit × DataW H → Nat
  | (.string bytes, d) => bytes.length + uptoBulk d + 1
  | (_, d) => uptoBulk d + 1
 end
def uptoSmall : (H : Type) → List (DataW H) → Bool := fun _ ds => decide (uptoBulkAll ds ≤ 1048576)
def OpenSpec.upto (s : _root_.Go.ChangeSpec) : _root_.Go.OpenSpec := { _root_.Go.OpenSpec.ofChange s with cond := some uptoSmall }

/-- 'laws.FnExactTextFind', WHERE WHAT IT READS IS OF BULK AT MOST 1048576: true; the input reads as it did. -/
def fnExactTextFindUptoRow : OpenClaim := { program := "ytppbnfoagbipaad", sum := "96ee8ca6ba2651f4968f23ab624358a4ec59032cb79a6acae0e253409505c9c1", func := "loop.example/slowworm/laws.FnExactTextFind", spec := "fnExactTextFind", inPlace := ["internal/bytealg.IndexByteString", "internal/bytealg.IndexString"], named := ["internal/bytealg.MaxLen"], apart := false, narrowed := true }
def FnExactTextFindUptoSaid : Prop := fnExactTextFindUptoRow.holds Try.pinned (OpenSpec.upto fnExactTextFindSpec)

/-- 'laws.FnExactScriptsOk', WHERE WHAT IT READS IS OF BULK AT MOST 1048576: true; the input reads as it did. -/
def fnExactScriptsOkUptoRow : OpenClaim := { program := "ytppbnfoagbipaad", sum := "96ee8ca6ba2651f4968f23ab624358a4ec59032cb79a6acae0e253409505c9c1", func := "loop.example/slowworm/laws.FnExactScriptsOk", spec := "fnExactScriptsOk", apart := false, narrowed := true }
def FnExactScriptsOkUptoSaid : Prop := fnExactScriptsOkUptoRow.holds Try.pinned (OpenSpec.upto fnExactScriptsOkSpec)

/-- 'laws.FnCutRange', WHERE WHAT IT READS IS OF BULK AT MOST 1048576: true; the input reads as it did. -/
def fnCutRangeUptoRow : OpenClaim := { program := "ytppbnfoagbipaad", sum := "96ee8ca6ba2651f4968f23ab624358a4ec59032cb79a6acae0e253409505c9c1", func := "loop.example/slowworm/laws.FnCutRange", spec := "fnCutRange", unfollowed := true, recurses := true, apart := false, narrowed := true }
def FnCutRangeUptoSaid : Prop := fnCutRangeUptoRow.holds Try.pinned (OpenSpec.upto fnCutRangeSpec)

/-- 'laws.FnExactDictNew', WHERE WHAT IT READS IS OF BULK AT MOST 1048576: true; the input reads as it did. -/
def fnExactDictNewUptoRow : OpenClaim := { program := "ytppbnfoagbipaad", sum := "96ee8ca6ba2651f4968f23ab624358a4ec59032cb79a6acae0e253409505c9c1", func := "loop.example/slowworm/laws.FnExactDictNew", spec := "fnExactDictNew", apart := false, narrowed := true }
def FnExactDictNewUptoSaid : Prop := fnExactDictNewUptoRow.holds Try.pinned (OpenSpec.upto fnExactDictNewSpec)

/-- 'laws.FnExactTextCut', WHERE WHAT IT READS IS OF BULK AT MOST 1048576: true; the input reads as it did. -/
def fnExactTextCutUptoRow : OpenClaim := { program := "ytppbnfoagbipaad", sum := "96ee8ca6ba2651f4968f23ab624358a4ec59032cb79a6acae0e253409505c9c1", func := "loop.example/slowworm/laws.FnExactTextCut", spec := "fnExactTextCut", inPlace := ["internal/abi.NoEscape"], unfollowed := true, recurses := true, apart := false, narrowed := true }
def FnExactTextCutUptoSaid : Prop := fnExactTextCutUptoRow.holds Try.pinned (OpenSpec.upto fnExactTextCutSpec)

/-- 'laws.FnCountsOf', WHERE WHAT IT READS IS OF BULK AT MOST 1048576: true; the input reads as it did. -/
def fnCountsOfUptoRow : OpenClaim := { program := "ytppbnfoagbipaad", sum := "96ee8ca6ba2651f4968f23ab624358a4ec59032cb79a6acae0e253409505c9c1", func := "loop.example/slowworm/laws.FnCountsOf", spec := "fnCountsOf", apart := false, narrowed := true }
def FnCountsOfUptoSaid : Prop := fnCountsOfUptoRow.holds Try.pinned (OpenSpec.upto fnCountsOfSpec)

end Rows
end Go.Proofs.Ytppbnfoagbipaad
