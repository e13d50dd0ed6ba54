/-
  No cell of these rows narrows 'for every input' (looked for: loops, veiled, ifaces, maps, wideKeys, modest, calm, conditions, laid).
  DERIVED. THE GIVEN ROWS OF THIS SEAT. 6 by the template 'for every input the law returns true; each argument reads behind the call as it read before'; 0 by the template 'total and deterministic' (their statements: YtppbnfoagbipaaaTotals.lean).
  GIVEN WITH THE SEED: the statements are not yours to turn. If you find one false, say at which input.
  Laid BY PROGRAM, IN A SANDBOX (cutbox-rows.mjs): the forced cells as the released guide's own fill.sh prints them over the translation a0eb18444a3b9260… (all of the seat's roots in one cut). By AI agents, Wed Nov 11 2026. No macro, syntax, notation, axiom, sorry.
-/
import Derived.Test.YtppbnfoagbipaaaChecked
import GoSem.Claim
import GoSem.ClaimJoined
import GoSem.ClaimMapViews
import Derived.JoinedTies
import Derived.KernelRfl
namespace Go.Proofs.Ytppbnfoagbipaaa
/- THE CELL 'sum', in the pinned program and in every row, IS THE sha256 OF THE DUMP (.gsa) THAT YtppbnfoagbipaaaProg.lean LOADS. Nothing in Lean hashes anything: it is a label: what it is worth is what the hold of that sum in a sandbox is worth. -/
noncomputable def Try.pinned : Pinned := { name := "ytppbnfoagbipaaa", sum := "a0eb18444a3b9260f9f48e4b22040620ce751ea1ff767c1e696c485576315667", checked := Try.checked }
namespace Rows
def none {H : Type} : Left H := { results := [], args := [] }

/-- 'laws.FnRunLeast': WHATEVER THE INPUT: true; the input reads as it did. -/
def fnRunLeastSpec : ChangeSpec := { name := "fnRunLeast", fn := fun _ => fun
  | [d] => { results := [.lit (.bool true)], args := [d] }
  | _ => none }
def fnRunLeastRow : OpenClaim := { program := "ytppbnfoagbipaaa", sum := "a0eb18444a3b9260f9f48e4b22040620ce751ea1ff767c1e696c485576315667", func := "loop.example/slowworm/laws.FnRunLeast", spec := "fnRunLeast", apart := false }
def FnRunLeastSaid : Prop := fnRunLeastRow.holds Try.pinned (OpenSpec.ofChange fnRunLeastSpec)

/-- ITS FALSE NEIGHBOUR: 'it returns false'. Refute it at one input. -/
def fnRunLeastWrong : ChangeSpec := { name := "fnRunLeast", fn := fun _ => fun
  | [d] => { results := [.lit (.bool false)], args := [d] }
  | _ => none }
def FnRunLeastWrongFalsely : Prop := fnRunLeastRow.holds Try.pinned (OpenSpec.ofChange fnRunLeastWrong)

/-- 'laws.FnIsKeyword': WHATEVER THE INPUT: true; the input reads as it did. -/
def fnIsKeywordSpec : ChangeSpec := { name := "fnIsKeyword", fn := fun _ => fun
  | [d] => { results := [.lit (.bool true)], args := [d] }
  | _ => none }
def fnIsKeywordRow : OpenClaim := { program := "ytppbnfoagbipaaa", sum := "a0eb18444a3b9260f9f48e4b22040620ce751ea1ff767c1e696c485576315667", func := "loop.example/slowworm/laws.FnIsKeyword", spec := "fnIsKeyword", apart := false }
def FnIsKeywordSaid : Prop := fnIsKeywordRow.holds Try.pinned (OpenSpec.ofChange fnIsKeywordSpec)

/-- ITS FALSE NEIGHBOUR: 'it returns false'. Refute it at one input. -/
def fnIsKeywordWrong : ChangeSpec := { name := "fnIsKeyword", fn := fun _ => fun
  | [d] => { results := [.lit (.bool false)], args := [d] }
  | _ => none }
def FnIsKeywordWrongFalsely : Prop := fnIsKeywordRow.holds Try.pinned (OpenSpec.ofChange fnIsKeywordWrong)

/-- 'laws.FnDictHash': WHATEVER THE INPUT: true; the input reads as it did. -/
def fnDictHashSpec : ChangeSpec := { name := "fnDictHash", fn := fun _ => fun
  | [d] => { results := [.lit (.bool true)], args := [d] }
  | _ => none }
def fnDictHashRow : OpenClaim := { program := "ytppbnfoagbipaaa", sum := "a0eb18444a3b9260f9f48e4b22040620ce751ea1ff767c1e696c485576315667", func := "loop.example/slowworm/laws.FnDictHash", spec := "fnDictHash", apart := false }
def FnDictHashSaid : Prop := fnDictHashRow.holds Try.pinned (OpenSpec.ofChange fnDictHashSpec)

/-- ITS FALSE NEIGHBOUR: 'it returns false'. Refute it at one input. -/
def fnDictHashWrong : ChangeSpec := { name := "fnDictHash", fn := fun _ => fun
  | [d] => { results := [.lit (.bool false)], args := [d] }
  | _ => none }
def FnDictHashWrongFalsely : Prop := fnDictHashRow.holds Try.pinned (OpenSpec.ofChange fnDictHashWrong)

/-- 'laws.FnTextCut': WHATEVER THE INPUT: true; the input reads as it did. -/
def fnTextCutSpec : ChangeSpec := { name := "fnTextCut", fn := fun _ => fun
  | [d] => { results := [.lit (.bool true)], args := [d] }
  | _ => none }
def fnTextCutRow : OpenClaim := { program := "ytppbnfoagbipaaa", sum := "a0eb18444a3b9260f9f48e4b22040620ce751ea1ff767c1e696c485576315667", func := "loop.example/slowworm/laws.FnTextCut", spec := "fnTextCut", inPlace := ["internal/abi.NoEscape"], unfollowed := true, recurses := true, apart := false }
def FnTextCutSaid : Prop := fnTextCutRow.holds Try.pinned (OpenSpec.ofChange fnTextCutSpec)

/-- ITS FALSE NEIGHBOUR: 'it returns false'. Refute it at one input. -/
def fnTextCutWrong : ChangeSpec := { name := "fnTextCut", fn := fun _ => fun
  | [d] => { results := [.lit (.bool false)], args := [d] }
  | _ => none }
def FnTextCutWrongFalsely : Prop := fnTextCutRow.holds Try.pinned (OpenSpec.ofChange fnTextCutWrong)

/-- 'laws.FnTextAt': WHATEVER THE INPUT: true; the input reads as it did. -/
def fnTextAtSpec : ChangeSpec := { name := "fnTextAt", fn := fun _ => fun
  | [d] => { results := [.lit (.bool true)], args := [d] }
  | _ => none }
def fnTextAtRow : OpenClaim := { program := "ytppbnfoagbipaaa", sum := "a0eb18444a3b9260f9f48e4b22040620ce751ea1ff767c1e696c485576315667", func := "loop.example/slowworm/laws.FnTextAt", spec := "fnTextAt", apart := false }
def FnTextAtSaid : Prop := fnTextAtRow.holds Try.pinned (OpenSpec.ofChange fnTextAtSpec)

/-- ITS FALSE NEIGHBOUR: 'it returns false'. Refute it at one input. -/
def fnTextAtWrong : ChangeSpec := { name := "fnTextAt", fn := fun _ => fun
  | [d] => { results := [.lit (.bool false)], args := [d] }
  | _ => none }
def FnTextAtWrongFalsely : Prop := fnTextAtRow.holds Try.pinned (OpenSpec.ofChange fnTextAtWrong)

/-- 'laws.FnExactRoundsOf': WHATEVER THE INPUT: true; the input reads as it did. -/
def fnExactRoundsOfSpec : ChangeSpec := { name := "fnExactRoundsOf", fn := fun _ => fun
  | [d1, d2] => { results := [.lit (.bool true)], args := [d1, d2] }
  | _ => none }
def fnExactRoundsOfRow : OpenClaim := { program := "ytppbnfoagbipaaa", sum := "a0eb18444a3b9260f9f48e4b22040620ce751ea1ff767c1e696c485576315667", func := "loop.example/slowworm/laws.FnExactRoundsOf", spec := "fnExactRoundsOf", apart := false }
def FnExactRoundsOfSaid : Prop := fnExactRoundsOfRow.holds Try.pinned (OpenSpec.ofChange fnExactRoundsOfSpec)

/-- ITS FALSE NEIGHBOUR: 'it returns false'. Refute it at one input. -/
def fnExactRoundsOfWrong : ChangeSpec := { name := "fnExactRoundsOf", fn := fun _ => fun
  | [d1, d2] => { results := [.lit (.bool false)], args := [d1, d2] }
  | _ => none }
def FnExactRoundsOfWrongFalsely : Prop := fnExactRoundsOfRow.holds Try.pinned (OpenSpec.ofChange fnExactRoundsOfWrong)

/- THE SECOND FORM. 'bulk': how many values and letters a reading holds, each counted each time it is reached (what is shared counts as often as it is met; a slice's spare places count too). A statement '..UptoSaid' is the law's where the arguments, and the package variables that the reading takes, are together of bulk at most 1048576: NARROWER than '..Said'. Prove '..Said' where nothing that the law and all that it calls make is longer than what came in: it says more and counts as full. Else prove '..UptoSaid'. A law counts once. -/
mutual
def uptoBulk {H : Type} : DataW H → Nat
  | .lit (.string bytes) => bytes.length + 1
  | .lit _ => 1
  | .nil => 1
  | .ptr d => uptoBulk d + 1
  | .slice elems spare => uptoBulkAll elems + uptoBulkAll spare + 1
  | .agg parts => uptoBulkAll parts + 1
  | .iface _ d => uptoBulk d + 1
  | .map entries => uptoBulkEntries entries + 1
  | .held _ => 1
def uptoBulkAll {H : Type} : List (DataW H) → Nat
  | [] => 0
  | d :: r => uptoBulk d + uptoBulkAll r
def uptoBulkEntries {H : Type} : List (Lit × DataW H) → Nat
  | [] => 0
  | x :: r => uptoBulkEntry x + uptoBulkEntries r
def uptoBulkEntry {H : Type} : Lit × DataW H → Nat
  | (.string bytes, d) => bytes.length + uptoBulk d + 1
  | (_, d) => uptoBulk d + 1
 end
def uptoSmall : (H : Type) → List (DataW H) → Bool := fun _ ds => decide (uptoBulkAll ds ≤ 1048576)
def OpenSpec.upto (s : _root_.Go.ChangeSpec) : _root_.Go.OpenSpec := { _root_.Go.OpenSpec.ofChange s with cond := some uptoSmall }

/-- 'laws.FnRunLeast', WHERE WHAT IT READS IS OF BULK AT MOST 1048576: true; the input reads as it did. -/
def fnRunLeastUptoRow : OpenClaim := { program := "ytppbnfoagbipaaa", sum := "a0eb18444a3b9260f9f48e4b22040620ce751ea1ff767c1e696c485576315667", func := "loop.example/slowworm/laws.FnRunLeast", spec := "fnRunLeast", apart := false, narrowed := true }
def FnRunLeastUptoSaid : Prop := fnRunLeastUptoRow.holds Try.pinned (OpenSpec.upto fnRunLeastSpec)

/-- 'laws.FnIsKeyword', WHERE WHAT IT READS IS OF BULK AT MOST 1048576: true; the input reads as it did. -/
def fnIsKeywordUptoRow : OpenClaim := { program := "ytppbnfoagbipaaa", sum := "a0eb18444a3b9260f9f48e4b22040620ce751ea1ff767c1e696c485576315667", func := "loop.example/slowworm/laws.FnIsKeyword", spec := "fnIsKeyword", apart := false, narrowed := true }
def FnIsKeywordUptoSaid : Prop := fnIsKeywordUptoRow.holds Try.pinned (OpenSpec.upto fnIsKeywordSpec)

/-- 'laws.FnDictHash', WHERE WHAT IT READS IS OF BULK AT MOST 1048576: true; the input reads as it did. -/
def fnDictHashUptoRow : OpenClaim := { program := "ytppbnfoagbipaaa", sum := "a0eb18444a3b9260f9f48e4b22040620ce751ea1ff767c1e696c485576315667", func := "loop.example/slowworm/laws.FnDictHash", spec := "fnDictHash", apart := false, narrowed := true }
def FnDictHashUptoSaid : Prop := fnDictHashUptoRow.holds Try.pinned (OpenSpec.upto fnDictHashSpec)

/-- 'laws.FnTextCut', WHERE WHAT IT READS IS OF BULK AT MOST 1048576: true; the input reads as it did. -/
def fnTextCutUptoRow : OpenClaim := { program := "ytppbnfoagbipaaa", sum := "a0eb18444a3b9260f9f48e4b22040620ce751ea1ff767c1e696c485576315667", func := "loop.example/slowworm/laws.FnTextCut", spec := "fnTextCut", inPlace := ["internal/abi.NoEscape"], unfollowed := true, recurses := true, apart := false, narrowed := true }
def FnTextCutUptoSaid : Prop := fnTextCutUptoRow.holds Try.pinned (OpenSpec.upto fnTextCutSpec)

/-- 'laws.FnTextAt', WHERE WHAT IT READS IS OF BULK AT MOST 1048576: true; the input reads as it did. -/
def fnTextAtUptoRow : OpenClaim := { program := "ytppbnfoagbipaaa", sum := "a0eb18444a3b9260f9f48e4b22040620ce751ea1ff767c1e696c485576315667", func := "loop.example/slowworm/laws.FnTextAt", spec := "fnTextAt", apart := false, narrowed := true }
def FnTextAtUptoSaid : Prop := fnTextAtUptoRow.holds Try.pinned (OpenSpec.upto fnTextAtSpec)

/-- 'laws.FnExactRoundsOf', WHERE WHAT IT READS IS OF BULK AT MOST 1048576: true; the input reads as it did. -/
def fnExactRoundsOfUptoRow : OpenClaim := { program := "ytppbnfoagbipaaa", sum := "a0eb18444a3b9260f9f48e4b22040620ce751ea1ff767c1e696c485576315667", func := "loop.example/slowworm/laws.FnExactRoundsOf", spec := "fnExactRoundsOf", apart := false, narrowed := true }
def FnExactRoundsOfUptoSaid : Prop := fnExactRoundsOfUptoRow.holds Try.pinned (OpenSpec.upto fnExactRoundsOfSpec)

end Rows
end Go.Proofs.Ytppbnfoagbipaaa
