/-
  No cell of these rows narrows 'for every input' (looked for: loops, veiled, ifaces, maps, wideKeys, modest, calm, conditions, laid).
  DERIVED. THE GIVEN ROWS OF THIS SEAT. 6 by the template 'for every input the law returns true; each argument reads behind the call as it read before'; 0 by the template 'total and deterministic' (their statements: YtppbnfoagbipaaeTotals.lean).
  GIVEN WITH THE SEED: the statements are not yours to turn. If you find one false, say at which input.
  Laid BY PROGRAM, IN A SANDBOX (cutbox-rows.mjs): the forced cells as the released guide's own fill.sh prints them over the translation c8a845fb8d19d77b… (all of the seat's roots in one cut). By AI agents, Wed Nov 11 2026. No macro, syntax, notation, axiom, sorry.
-/
import Derived.Test.YtppbnfoagbipaaeChecked
import GoSem.Claim
import GoSem.ClaimJoined
import GoSem.ClaimMapViews
import Derived.JoinedTies
import Derived.KernelRfl
namespace Go.Proofs.Ytppbnfoagbipaae
/- THE CELL 'sum', in the pinned program and in every row, IS THE sha256 OF THE DUMP (.gsa) THAT YtppbnfoagbipaaeProg.lean LOADS. Nothing in Lean hashes anything: it is a label: what it is worth is what the hold of that sum in a sandbox is worth. -/
noncomputable def Try.pinned : Pinned := { name := "ytppbnfoagbipaae", sum := "c8a845fb8d19d77b7861640657c5267d6022a7447f1a0aa17f90311e3bd67044", checked := Try.checked }
namespace Rows
def none {H : Type} : Left H := { results := [], args := [] }

/-- 'laws.FnExactBindNeeds': WHATEVER THE INPUT: true; the input reads as it did. -/
def fnExactBindNeedsSpec : ChangeSpec := { name := "fnExactBindNeeds", fn := fun _ => fun
  | [d1, d2] => { results := [.lit (.bool true)], args := [d1, d2] }
  | _ => none }
def fnExactBindNeedsRow : OpenClaim := { program := "ytppbnfoagbipaae", sum := "c8a845fb8d19d77b7861640657c5267d6022a7447f1a0aa17f90311e3bd67044", func := "loop.example/slowworm/laws.FnExactBindNeeds", spec := "fnExactBindNeeds", apart := false }
def FnExactBindNeedsSaid : Prop := fnExactBindNeedsRow.holds Try.pinned (OpenSpec.ofChange fnExactBindNeedsSpec)

/-- ITS FALSE NEIGHBOUR: 'it returns false'. Refute it at one input. -/
def fnExactBindNeedsWrong : ChangeSpec := { name := "fnExactBindNeeds", fn := fun _ => fun
  | [d1, d2] => { results := [.lit (.bool false)], args := [d1, d2] }
  | _ => none }
def FnExactBindNeedsWrongFalsely : Prop := fnExactBindNeedsRow.holds Try.pinned (OpenSpec.ofChange fnExactBindNeedsWrong)

/-- 'laws.FnExactTextJoin': WHATEVER THE INPUT: true; the input reads as it did. -/
def fnExactTextJoinSpec : ChangeSpec := { name := "fnExactTextJoin", fn := fun _ => fun
  | [d1, d2] => { results := [.lit (.bool true)], args := [d1, d2] }
  | _ => none }
def fnExactTextJoinRow : OpenClaim := { program := "ytppbnfoagbipaae", sum := "c8a845fb8d19d77b7861640657c5267d6022a7447f1a0aa17f90311e3bd67044", func := "loop.example/slowworm/laws.FnExactTextJoin", spec := "fnExactTextJoin", inPlace := ["internal/abi.NoEscape", "internal/bytealg.MakeNoZero"], apart := false }
def FnExactTextJoinSaid : Prop := fnExactTextJoinRow.holds Try.pinned (OpenSpec.ofChange fnExactTextJoinSpec)

/-- ITS FALSE NEIGHBOUR: 'it returns false'. Refute it at one input. -/
def fnExactTextJoinWrong : ChangeSpec := { name := "fnExactTextJoin", fn := fun _ => fun
  | [d1, d2] => { results := [.lit (.bool false)], args := [d1, d2] }
  | _ => none }
def FnExactTextJoinWrongFalsely : Prop := fnExactTextJoinRow.holds Try.pinned (OpenSpec.ofChange fnExactTextJoinWrong)

/-- 'laws.FnExactListCut': WHATEVER THE INPUT: true; the input reads as it did. -/
def fnExactListCutSpec : ChangeSpec := { name := "fnExactListCut", fn := fun _ => fun
  | [d1, d2] => { results := [.lit (.bool true)], args := [d1, d2] }
  | _ => none }
def fnExactListCutRow : OpenClaim := { program := "ytppbnfoagbipaae", sum := "c8a845fb8d19d77b7861640657c5267d6022a7447f1a0aa17f90311e3bd67044", func := "loop.example/slowworm/laws.FnExactListCut", spec := "fnExactListCut", unfollowed := true, recurses := true, apart := false }
def FnExactListCutSaid : Prop := fnExactListCutRow.holds Try.pinned (OpenSpec.ofChange fnExactListCutSpec)

/-- ITS FALSE NEIGHBOUR: 'it returns false'. Refute it at one input. -/
def fnExactListCutWrong : ChangeSpec := { name := "fnExactListCut", fn := fun _ => fun
  | [d1, d2] => { results := [.lit (.bool false)], args := [d1, d2] }
  | _ => none }
def FnExactListCutWrongFalsely : Prop := fnExactListCutRow.holds Try.pinned (OpenSpec.ofChange fnExactListCutWrong)

/-- 'laws.FnTextParts': WHATEVER THE INPUT: true; the input reads as it did. -/
def fnTextPartsSpec : ChangeSpec := { name := "fnTextParts", fn := fun _ => fun
  | [d] => { results := [.lit (.bool true)], args := [d] }
  | _ => none }
def fnTextPartsRow : OpenClaim := { program := "ytppbnfoagbipaae", sum := "c8a845fb8d19d77b7861640657c5267d6022a7447f1a0aa17f90311e3bd67044", func := "loop.example/slowworm/laws.FnTextParts", spec := "fnTextParts", inPlace := ["internal/abi.NoEscape"], unfollowed := true, recurses := true, apart := false }
def FnTextPartsSaid : Prop := fnTextPartsRow.holds Try.pinned (OpenSpec.ofChange fnTextPartsSpec)

/-- ITS FALSE NEIGHBOUR: 'it returns false'. Refute it at one input. -/
def fnTextPartsWrong : ChangeSpec := { name := "fnTextParts", fn := fun _ => fun
  | [d] => { results := [.lit (.bool false)], args := [d] }
  | _ => none }
def FnTextPartsWrongFalsely : Prop := fnTextPartsRow.holds Try.pinned (OpenSpec.ofChange fnTextPartsWrong)

/-- 'laws.FnExactCountsOf': WHATEVER THE INPUT: true; the input reads as it did. -/
def fnExactCountsOfSpec : ChangeSpec := { name := "fnExactCountsOf", fn := fun _ => fun
  | [d1, d2] => { results := [.lit (.bool true)], args := [d1, d2] }
  | _ => none }
def fnExactCountsOfRow : OpenClaim := { program := "ytppbnfoagbipaae", sum := "c8a845fb8d19d77b7861640657c5267d6022a7447f1a0aa17f90311e3bd67044", func := "loop.example/slowworm/laws.FnExactCountsOf", spec := "fnExactCountsOf", apart := false }
def FnExactCountsOfSaid : Prop := fnExactCountsOfRow.holds Try.pinned (OpenSpec.ofChange fnExactCountsOfSpec)

/-- ITS FALSE NEIGHBOUR: 'it returns false'. Refute it at one input. -/
def fnExactCountsOfWrong : ChangeSpec := { name := "fnExactCountsOf", fn := fun _ => fun
  | [d1, d2] => { results := [.lit (.bool false)], args := [d1, d2] }
  | _ => none }
def FnExactCountsOfWrongFalsely : Prop := fnExactCountsOfRow.holds Try.pinned (OpenSpec.ofChange fnExactCountsOfWrong)

/-- 'laws.FnTextJoin': WHATEVER THE INPUT: true; the input reads as it did. -/
def fnTextJoinSpec : ChangeSpec := { name := "fnTextJoin", fn := fun _ => fun
  | [d] => { results := [.lit (.bool true)], args := [d] }
  | _ => none }
def fnTextJoinRow : OpenClaim := { program := "ytppbnfoagbipaae", sum := "c8a845fb8d19d77b7861640657c5267d6022a7447f1a0aa17f90311e3bd67044", func := "loop.example/slowworm/laws.FnTextJoin", spec := "fnTextJoin", inPlace := ["internal/abi.NoEscape", "internal/bytealg.MakeNoZero"], apart := false }
def FnTextJoinSaid : Prop := fnTextJoinRow.holds Try.pinned (OpenSpec.ofChange fnTextJoinSpec)

/-- ITS FALSE NEIGHBOUR: 'it returns false'. Refute it at one input. -/
def fnTextJoinWrong : ChangeSpec := { name := "fnTextJoin", fn := fun _ => fun
  | [d] => { results := [.lit (.bool false)], args := [d] }
  | _ => none }
def FnTextJoinWrongFalsely : Prop := fnTextJoinRow.holds Try.pinned (OpenSpec.ofChange fnTextJoinWrong)

/- THE SECOND FORM. 'bulk': how many values and letters a reading holds, each counted each time it is reached (what is shared counts as often as it is met; a slice's spare places count too). A statement '..UptoSaid' is the law's where the arguments, and the package variables that the reading takes, are together of bulk at most 1048576: NARROWER than '..Said'. Prove '..Said' where nothing that the law and all that it calls make is longer than what came in: it says more and counts as full. Else prove '..UptoSaid'. A law counts once. -/
mutual
def uptoBulk {H : Type} : DataW H → Nat
  | .lit (.string bytes) => bytes.length + 1
  | .lit _ => 1
  | .nil => 1
  | .ptr d => uptoBulk d + 1
  | .slice elems spare => uptoBulkAll elems + uptoBulkAll spare + 1
  | .agg parts => uptoBulkAll parts + 1
  | .iface _ d => uptoBulk d + 1
  | .map entries => uptoBulkEntries entries + 1
  | .held _ => 1
def uptoBulkAll {H : Type} : List (DataW H) → Nat
  | [] => 0
  | d :: r => uptoBulk d + uptoBulkAll r
def uptoBulkEntries {H : Type} : List (Lit × DataW H) → Nat
  | [] => 0
  | x :: r => uptoBulkEntry x + uptoBulkEntries r
def uptoBulkEntry {H : Type} : Lit × DataW H → Nat
  | (.string bytes, d) => bytes.length + uptoBulk d + 1
  | (_, d) => uptoBulk d + 1
 end
def uptoSmall : (H : Type) → List (DataW H) → Bool := fun _ ds => decide (uptoBulkAll ds ≤ 1048576)
def OpenSpec.upto (s : _root_.Go.ChangeSpec) : _root_.Go.OpenSpec := { _root_.Go.OpenSpec.ofChange s with cond := some uptoSmall }

/-- 'laws.FnExactBindNeeds', WHERE WHAT IT READS IS OF BULK AT MOST 1048576: true; the input reads as it did. -/
def fnExactBindNeedsUptoRow : OpenClaim := { program := "ytppbnfoagbipaae", sum := "c8a845fb8d19d77b7861640657c5267d6022a7447f1a0aa17f90311e3bd67044", func := "loop.example/slowworm/laws.FnExactBindNeeds", spec := "fnExactBindNeeds", apart := false, narrowed := true }
def FnExactBindNeedsUptoSaid : Prop := fnExactBindNeedsUptoRow.holds Try.pinned (OpenSpec.upto fnExactBindNeedsSpec)

/-- 'laws.FnExactTextJoin', WHERE WHAT IT READS IS OF BULK AT MOST 1048576: true; the input reads as it did. -/
def fnExactTextJoinUptoRow : OpenClaim := { program := "ytppbnfoagbipaae", sum := "c8a845fb8d19d77b7861640657c5267d6022a7447f1a0aa17f90311e3bd67044", func := "loop.example/slowworm/laws.FnExactTextJoin", spec := "fnExactTextJoin", inPlace := ["internal/abi.NoEscape", "internal/bytealg.MakeNoZero"], apart := false, narrowed := true }
def FnExactTextJoinUptoSaid : Prop := fnExactTextJoinUptoRow.holds Try.pinned (OpenSpec.upto fnExactTextJoinSpec)

/-- 'laws.FnExactListCut', WHERE WHAT IT READS IS OF BULK AT MOST 1048576: true; the input reads as it did. -/
def fnExactListCutUptoRow : OpenClaim := { program := "ytppbnfoagbipaae", sum := "c8a845fb8d19d77b7861640657c5267d6022a7447f1a0aa17f90311e3bd67044", func := "loop.example/slowworm/laws.FnExactListCut", spec := "fnExactListCut", unfollowed := true, recurses := true, apart := false, narrowed := true }
def FnExactListCutUptoSaid : Prop := fnExactListCutUptoRow.holds Try.pinned (OpenSpec.upto fnExactListCutSpec)

/-- 'laws.FnTextParts', WHERE WHAT IT READS IS OF BULK AT MOST 1048576: true; the input reads as it did. -/
def fnTextPartsUptoRow : OpenClaim := { program := "ytppbnfoagbipaae", sum := "c8a845fb8d19d77b7861640657c5267d6022a7447f1a0aa17f90311e3bd67044", func := "loop.example/slowworm/laws.FnTextParts", spec := "fnTextParts", inPlace := ["internal/abi.NoEscape"], unfollowed := true, recurses := true, apart := false, narrowed := true }
def FnTextPartsUptoSaid : Prop := fnTextPartsUptoRow.holds Try.pinned (OpenSpec.upto fnTextPartsSpec)

/-- 'laws.FnExactCountsOf', WHERE WHAT IT READS IS OF BULK AT MOST 1048576: true; the input reads as it did. -/
def fnExactCountsOfUptoRow : OpenClaim := { program := "ytppbnfoagbipaae", sum := "c8a845fb8d19d77b7861640657c5267d6022a7447f1a0aa17f90311e3bd67044", func := "loop.example/slowworm/laws.FnExactCountsOf", spec := "fnExactCountsOf", apart := false, narrowed := true }
def FnExactCountsOfUptoSaid : Prop := fnExactCountsOfUptoRow.holds Try.pinned (OpenSpec.upto fnExactCountsOfSpec)

/-- 'laws.FnTextJoin', WHERE WHAT IT READS IS OF BULK AT MOST 1048576: true; the input reads as it did. -/
def fnTextJoinUptoRow : OpenClaim := { program := "ytppbnfoagbipaae", sum := "c8a845fb8d19d77b7861640657c5267d6022a7447f1a0aa17f90311e3bd67044", func := "loop.example/slowworm/laws.FnTextJoin", spec := "fnTextJoin", inPlace := ["internal/abi.NoEscape", "internal/bytealg.MakeNoZero"], apart := false, narrowed := true }
def FnTextJoinUptoSaid : Prop := fnTextJoinUptoRow.holds Try.pinned (OpenSpec.upto fnTextJoinSpec)

end Rows
end Go.Proofs.Ytppbnfoagbipaae
