/-
  No cell of these rows narrows 'for every input' (looked for: loops, veiled, ifaces, maps, wideKeys, modest, calm, conditions, laid).
  DERIVED. THE GIVEN ROWS OF THIS SEAT. 12 by the template 'for every input the law returns true; each argument reads behind the call as it read before'; 0 by the template 'total and deterministic' (their statements: YteippijocmpncaaTotals.lean).
  GIVEN WITH THE SEED: the statements are not yours to turn. If you find one false, say at which input.
  Laid BY PROGRAM, IN A SANDBOX (cutbox-rows.mjs): the forced cells as the released guide's own fill.sh prints them over the translation 1f98d63d1c7e864f… (all of the seat's roots in one cut). By AI agents, Wed Nov 11 2026. No macro, syntax, notation, axiom, sorry.
-/
import Derived.Test.YteippijocmpncaaChecked
import GoSem.Claim
import GoSem.ClaimJoined
import GoSem.ClaimMapViews
import Derived.JoinedTies
import Derived.KernelRfl
namespace Go.Proofs.Yteippijocmpncaa
/- THE CELL 'sum', in the pinned program and in every row, IS THE sha256 OF THE DUMP (.gsa) THAT YteippijocmpncaaProg.lean LOADS. Nothing in Lean hashes anything: it is a label: what it is worth is what the hold of that sum in a sandbox is worth. -/
noncomputable def Try.pinned : Pinned := { name := "yteippijocmpncaa", sum := "1f98d63d1c7e864fd499bd3d4ced2d36a2a691ffd60c08ae8c2213ae15a7562d", checked := Try.checked }
namespace Rows
def none {H : Type} : Left H := { results := [], args := [] }

/-- 'laws.FnCutOk': WHATEVER THE INPUT: true; the input reads as it did. -/
def fnCutOkSpec : ChangeSpec := { name := "fnCutOk", fn := fun _ => fun
  | [d] => { results := [.lit (.bool true)], args := [d] }
  | _ => none }
def fnCutOkRow : OpenClaim := { program := "yteippijocmpncaa", sum := "1f98d63d1c7e864fd499bd3d4ced2d36a2a691ffd60c08ae8c2213ae15a7562d", func := "loop.example/slowworm/laws.FnCutOk", spec := "fnCutOk", unfollowed := true, recurses := true, apart := false }
def FnCutOkSaid : Prop := fnCutOkRow.holds Try.pinned (OpenSpec.ofChange fnCutOkSpec)

/-- ITS FALSE NEIGHBOUR: 'it returns false'. Refute it at one input. -/
def fnCutOkWrong : ChangeSpec := { name := "fnCutOk", fn := fun _ => fun
  | [d] => { results := [.lit (.bool false)], args := [d] }
  | _ => none }
def FnCutOkWrongFalsely : Prop := fnCutOkRow.holds Try.pinned (OpenSpec.ofChange fnCutOkWrong)

/-- 'laws.FnExactCutRange': WHATEVER THE INPUT: true; the input reads as it did. -/
def fnExactCutRangeSpec : ChangeSpec := { name := "fnExactCutRange", fn := fun _ => fun
  | [d1, d2] => { results := [.lit (.bool true)], args := [d1, d2] }
  | _ => none }
def fnExactCutRangeRow : OpenClaim := { program := "yteippijocmpncaa", sum := "1f98d63d1c7e864fd499bd3d4ced2d36a2a691ffd60c08ae8c2213ae15a7562d", func := "loop.example/slowworm/laws.FnExactCutRange", spec := "fnExactCutRange", unfollowed := true, recurses := true, apart := false }
def FnExactCutRangeSaid : Prop := fnExactCutRangeRow.holds Try.pinned (OpenSpec.ofChange fnExactCutRangeSpec)

/-- ITS FALSE NEIGHBOUR: 'it returns false'. Refute it at one input. -/
def fnExactCutRangeWrong : ChangeSpec := { name := "fnExactCutRange", fn := fun _ => fun
  | [d1, d2] => { results := [.lit (.bool false)], args := [d1, d2] }
  | _ => none }
def FnExactCutRangeWrongFalsely : Prop := fnExactCutRangeRow.holds Try.pinned (OpenSpec.ofChange fnExactCutRangeWrong)

/-- 'laws.FnCutRange': WHATEVER THE INPUT: true; the input reads as it did. -/
def fnCutRangeSpec : ChangeSpec := { name := "fnCutRange", fn := fun _ => fun
  | [d] => { results := [.lit (.bool true)], args := [d] }
  | _ => none }
def fnCutRangeRow : OpenClaim := { program := "yteippijocmpncaa", sum := "1f98d63d1c7e864fd499bd3d4ced2d36a2a691ffd60c08ae8c2213ae15a7562d", func := "loop.example/slowworm/laws.FnCutRange", spec := "fnCutRange", unfollowed := true, recurses := true, apart := false }
def FnCutRangeSaid : Prop := fnCutRangeRow.holds Try.pinned (OpenSpec.ofChange fnCutRangeSpec)

/-- ITS FALSE NEIGHBOUR: 'it returns false'. Refute it at one input. -/
def fnCutRangeWrong : ChangeSpec := { name := "fnCutRange", fn := fun _ => fun
  | [d] => { results := [.lit (.bool false)], args := [d] }
  | _ => none }
def FnCutRangeWrongFalsely : Prop := fnCutRangeRow.holds Try.pinned (OpenSpec.ofChange fnCutRangeWrong)

/-- 'laws.FnTextCut': WHATEVER THE INPUT: true; the input reads as it did. -/
def fnTextCutSpec : ChangeSpec := { name := "fnTextCut", fn := fun _ => fun
  | [d] => { results := [.lit (.bool true)], args := [d] }
  | _ => none }
def fnTextCutRow : OpenClaim := { program := "yteippijocmpncaa", sum := "1f98d63d1c7e864fd499bd3d4ced2d36a2a691ffd60c08ae8c2213ae15a7562d", func := "loop.example/slowworm/laws.FnTextCut", spec := "fnTextCut", inPlace := ["internal/abi.NoEscape"], unfollowed := true, recurses := true, apart := false }
def FnTextCutSaid : Prop := fnTextCutRow.holds Try.pinned (OpenSpec.ofChange fnTextCutSpec)

/-- ITS FALSE NEIGHBOUR: 'it returns false'. Refute it at one input. -/
def fnTextCutWrong : ChangeSpec := { name := "fnTextCut", fn := fun _ => fun
  | [d] => { results := [.lit (.bool false)], args := [d] }
  | _ => none }
def FnTextCutWrongFalsely : Prop := fnTextCutRow.holds Try.pinned (OpenSpec.ofChange fnTextCutWrong)

/-- 'laws.FnExactTextCut': WHATEVER THE INPUT: true; the input reads as it did. -/
def fnExactTextCutSpec : ChangeSpec := { name := "fnExactTextCut", fn := fun _ => fun
  | [d1, d2] => { results := [.lit (.bool true)], args := [d1, d2] }
  | _ => none }
def fnExactTextCutRow : OpenClaim := { program := "yteippijocmpncaa", sum := "1f98d63d1c7e864fd499bd3d4ced2d36a2a691ffd60c08ae8c2213ae15a7562d", func := "loop.example/slowworm/laws.FnExactTextCut", spec := "fnExactTextCut", inPlace := ["internal/abi.NoEscape"], unfollowed := true, recurses := true, apart := false }
def FnExactTextCutSaid : Prop := fnExactTextCutRow.holds Try.pinned (OpenSpec.ofChange fnExactTextCutSpec)

/-- ITS FALSE NEIGHBOUR: 'it returns false'. Refute it at one input. -/
def fnExactTextCutWrong : ChangeSpec := { name := "fnExactTextCut", fn := fun _ => fun
  | [d1, d2] => { results := [.lit (.bool false)], args := [d1, d2] }
  | _ => none }
def FnExactTextCutWrongFalsely : Prop := fnExactTextCutRow.holds Try.pinned (OpenSpec.ofChange fnExactTextCutWrong)

/-- 'laws.FnTextParts': WHATEVER THE INPUT: true; the input reads as it did. -/
def fnTextPartsSpec : ChangeSpec := { name := "fnTextParts", fn := fun _ => fun
  | [d] => { results := [.lit (.bool true)], args := [d] }
  | _ => none }
def fnTextPartsRow : OpenClaim := { program := "yteippijocmpncaa", sum := "1f98d63d1c7e864fd499bd3d4ced2d36a2a691ffd60c08ae8c2213ae15a7562d", func := "loop.example/slowworm/laws.FnTextParts", spec := "fnTextParts", inPlace := ["internal/abi.NoEscape"], unfollowed := true, recurses := true, apart := false }
def FnTextPartsSaid : Prop := fnTextPartsRow.holds Try.pinned (OpenSpec.ofChange fnTextPartsSpec)

/-- ITS FALSE NEIGHBOUR: 'it returns false'. Refute it at one input. -/
def fnTextPartsWrong : ChangeSpec := { name := "fnTextParts", fn := fun _ => fun
  | [d] => { results := [.lit (.bool false)], args := [d] }
  | _ => none }
def FnTextPartsWrongFalsely : Prop := fnTextPartsRow.holds Try.pinned (OpenSpec.ofChange fnTextPartsWrong)

/-- 'laws.FnTextTurned': WHATEVER THE INPUT: true; the input reads as it did. -/
def fnTextTurnedSpec : ChangeSpec := { name := "fnTextTurned", fn := fun _ => fun
  | [d] => { results := [.lit (.bool true)], args := [d] }
  | _ => none }
def fnTextTurnedRow : OpenClaim := { program := "yteippijocmpncaa", sum := "1f98d63d1c7e864fd499bd3d4ced2d36a2a691ffd60c08ae8c2213ae15a7562d", func := "loop.example/slowworm/laws.FnTextTurned", spec := "fnTextTurned", inPlace := ["internal/abi.NoEscape"], unfollowed := true, recurses := true, apart := false }
def FnTextTurnedSaid : Prop := fnTextTurnedRow.holds Try.pinned (OpenSpec.ofChange fnTextTurnedSpec)

/-- ITS FALSE NEIGHBOUR: 'it returns false'. Refute it at one input. -/
def fnTextTurnedWrong : ChangeSpec := { name := "fnTextTurned", fn := fun _ => fun
  | [d] => { results := [.lit (.bool false)], args := [d] }
  | _ => none }
def FnTextTurnedWrongFalsely : Prop := fnTextTurnedRow.holds Try.pinned (OpenSpec.ofChange fnTextTurnedWrong)

/-- 'laws.FnExactListCut': WHATEVER THE INPUT: true; the input reads as it did. -/
def fnExactListCutSpec : ChangeSpec := { name := "fnExactListCut", fn := fun _ => fun
  | [d1, d2] => { results := [.lit (.bool true)], args := [d1, d2] }
  | _ => none }
def fnExactListCutRow : OpenClaim := { program := "yteippijocmpncaa", sum := "1f98d63d1c7e864fd499bd3d4ced2d36a2a691ffd60c08ae8c2213ae15a7562d", func := "loop.example/slowworm/laws.FnExactListCut", spec := "fnExactListCut", unfollowed := true, recurses := true, apart := false }
def FnExactListCutSaid : Prop := fnExactListCutRow.holds Try.pinned (OpenSpec.ofChange fnExactListCutSpec)

/-- ITS FALSE NEIGHBOUR: 'it returns false'. Refute it at one input. -/
def fnExactListCutWrong : ChangeSpec := { name := "fnExactListCut", fn := fun _ => fun
  | [d1, d2] => { results := [.lit (.bool false)], args := [d1, d2] }
  | _ => none }
def FnExactListCutWrongFalsely : Prop := fnExactListCutRow.holds Try.pinned (OpenSpec.ofChange fnExactListCutWrong)

/-- 'laws.FnListCut': WHATEVER THE INPUT: true; the input reads as it did. -/
def fnListCutSpec : ChangeSpec := { name := "fnListCut", fn := fun _ => fun
  | [d] => { results := [.lit (.bool true)], args := [d] }
  | _ => none }
def fnListCutRow : OpenClaim := { program := "yteippijocmpncaa", sum := "1f98d63d1c7e864fd499bd3d4ced2d36a2a691ffd60c08ae8c2213ae15a7562d", func := "loop.example/slowworm/laws.FnListCut", spec := "fnListCut", unfollowed := true, recurses := true, apart := false }
def FnListCutSaid : Prop := fnListCutRow.holds Try.pinned (OpenSpec.ofChange fnListCutSpec)

/-- ITS FALSE NEIGHBOUR: 'it returns false'. Refute it at one input. -/
def fnListCutWrong : ChangeSpec := { name := "fnListCut", fn := fun _ => fun
  | [d] => { results := [.lit (.bool false)], args := [d] }
  | _ => none }
def FnListCutWrongFalsely : Prop := fnListCutRow.holds Try.pinned (OpenSpec.ofChange fnListCutWrong)

/-- 'laws.FnListTurned': WHATEVER THE INPUT: true; the input reads as it did. -/
def fnListTurnedSpec : ChangeSpec := { name := "fnListTurned", fn := fun _ => fun
  | [d] => { results := [.lit (.bool true)], args := [d] }
  | _ => none }
def fnListTurnedRow : OpenClaim := { program := "yteippijocmpncaa", sum := "1f98d63d1c7e864fd499bd3d4ced2d36a2a691ffd60c08ae8c2213ae15a7562d", func := "loop.example/slowworm/laws.FnListTurned", spec := "fnListTurned", unfollowed := true, recurses := true, apart := false }
def FnListTurnedSaid : Prop := fnListTurnedRow.holds Try.pinned (OpenSpec.ofChange fnListTurnedSpec)

/-- ITS FALSE NEIGHBOUR: 'it returns false'. Refute it at one input. -/
def fnListTurnedWrong : ChangeSpec := { name := "fnListTurned", fn := fun _ => fun
  | [d] => { results := [.lit (.bool false)], args := [d] }
  | _ => none }
def FnListTurnedWrongFalsely : Prop := fnListTurnedRow.holds Try.pinned (OpenSpec.ofChange fnListTurnedWrong)

/-- 'laws.FnExactListDropCut': WHATEVER THE INPUT: true; the input reads as it did. -/
def fnExactListDropCutSpec : ChangeSpec := { name := "fnExactListDropCut", fn := fun _ => fun
  | [d1, d2] => { results := [.lit (.bool true)], args := [d1, d2] }
  | _ => none }
def fnExactListDropCutRow : OpenClaim := { program := "yteippijocmpncaa", sum := "1f98d63d1c7e864fd499bd3d4ced2d36a2a691ffd60c08ae8c2213ae15a7562d", func := "loop.example/slowworm/laws.FnExactListDropCut", spec := "fnExactListDropCut", unfollowed := true, recurses := true, apart := false }
def FnExactListDropCutSaid : Prop := fnExactListDropCutRow.holds Try.pinned (OpenSpec.ofChange fnExactListDropCutSpec)

/-- ITS FALSE NEIGHBOUR: 'it returns false'. Refute it at one input. -/
def fnExactListDropCutWrong : ChangeSpec := { name := "fnExactListDropCut", fn := fun _ => fun
  | [d1, d2] => { results := [.lit (.bool false)], args := [d1, d2] }
  | _ => none }
def FnExactListDropCutWrongFalsely : Prop := fnExactListDropCutRow.holds Try.pinned (OpenSpec.ofChange fnExactListDropCutWrong)

/-- 'laws.FnExactListPutCut': WHATEVER THE INPUT: true; the input reads as it did. -/
def fnExactListPutCutSpec : ChangeSpec := { name := "fnExactListPutCut", fn := fun _ => fun
  | [d1, d2, d3] => { results := [.lit (.bool true)], args := [d1, d2, d3] }
  | _ => none }
def fnExactListPutCutRow : OpenClaim := { program := "yteippijocmpncaa", sum := "1f98d63d1c7e864fd499bd3d4ced2d36a2a691ffd60c08ae8c2213ae15a7562d", func := "loop.example/slowworm/laws.FnExactListPutCut", spec := "fnExactListPutCut", unfollowed := true, recurses := true, apart := false }
def FnExactListPutCutSaid : Prop := fnExactListPutCutRow.holds Try.pinned (OpenSpec.ofChange fnExactListPutCutSpec)

/-- ITS FALSE NEIGHBOUR: 'it returns false'. Refute it at one input. -/
def fnExactListPutCutWrong : ChangeSpec := { name := "fnExactListPutCut", fn := fun _ => fun
  | [d1, d2, d3] => { results := [.lit (.bool false)], args := [d1, d2, d3] }
  | _ => none }
def FnExactListPutCutWrongFalsely : Prop := fnExactListPutCutRow.holds Try.pinned (OpenSpec.ofChange fnExactListPutCutWrong)

/- THE SECOND FORM. 'bulk': how many values and letters a reading holds, each counted each time it is reached (what is shared counts as often as it is met; a slice's spare places count too). A statement '..UptoSaid' is the law's where the arguments, and the package variables that the reading takes, are together of bulk at most 1048576: NARROWER than '..Said'. Prove '..Said' where nothing that the law and all that it calls make is longer than what came in: it says more and counts as full. Else prove '..UptoSaid'. A law counts once. -/
mutual
def uptoBulk {H : Type} : DataW H → Nat
  | .lit (.string bytes) => bytes.length + 1
  | .lit _ => 1
  | .nil => 1
  | .ptr d => uptoBulk d + 1
  | .slice elems spare => uptoBulkAll elems + uptoBulkAll spare + 1
  | .agg parts => uptoBulkAll parts + 1
  | .iface _ d => uptoBulk d + 1
  | .map entries => uptoBulkEntries entries + 1
  | .held _ => 1
def uptoBulkAll {H : Type} : List (DataW H) → Nat
  | [] => 0
  | d :: r => uptoBulk d + uptoBulkAll r
def uptoBulkEntries {H : Type} : List (Lit × DataW H) → Nat
  | [] => 0
  | x :: r => uptoBulkEntry x + uptoBulkEntries r
def uptoBulkEntry {H : Type} : Lit × DataW H → Nat
  | (.string bytes, d) => bytes.length + uptoBulk d + 1
  | (_, d) => uptoBulk d + 1
 end
def uptoSmall : (H : Type) → List (DataW H) → Bool := fun _ ds => decide (uptoBulkAll ds ≤ 1048576)
def OpenSpec.upto (s : _root_.Go.ChangeSpec) : _root_.Go.OpenSpec := { _root_.Go.OpenSpec.ofChange s with cond := some uptoSmall }

/-- 'laws.FnCutOk', WHERE WHAT IT READS IS OF BULK AT MOST 1048576: true; the input reads as it did. -/
def fnCutOkUptoRow : OpenClaim := { program := "yteippijocmpncaa", sum := "1f98d63d1c7e864fd499bd3d4ced2d36a2a691ffd60c08ae8c2213ae15a7562d", func := "loop.example/slowworm/laws.FnCutOk", spec := "fnCutOk", unfollowed := true, recurses := true, apart := false, narrowed := true }
def FnCutOkUptoSaid : Prop := fnCutOkUptoRow.holds Try.pinned (OpenSpec.upto fnCutOkSpec)

/-- 'laws.FnExactCutRange', WHERE WHAT IT READS IS OF BULK AT MOST 1048576: true; the input reads as it did. -/
def fnExactCutRangeUptoRow : OpenClaim := { program := "yteippijocmpncaa", sum := "1f98d63d1c7e864fd499bd3d4ced2d36a2a691ffd60c08ae8c2213ae15a7562d", func := "loop.example/slowworm/laws.FnExactCutRange", spec := "fnExactCutRange", unfollowed := true, recurses := true, apart := false, narrowed := true }
def FnExactCutRangeUptoSaid : Prop := fnExactCutRangeUptoRow.holds Try.pinned (OpenSpec.upto fnExactCutRangeSpec)

/-- 'laws.FnCutRange', WHERE WHAT IT READS IS OF BULK AT MOST 1048576: true; the input reads as it did. -/
def fnCutRangeUptoRow : OpenClaim := { program := "yteippijocmpncaa", sum := "1f98d63d1c7e864fd499bd3d4ced2d36a2a691ffd60c08ae8c2213ae15a7562d", func := "loop.example/slowworm/laws.FnCutRange", spec := "fnCutRange", unfollowed := true, recurses := true, apart := false, narrowed := true }
def FnCutRangeUptoSaid : Prop := fnCutRangeUptoRow.holds Try.pinned (OpenSpec.upto fnCutRangeSpec)

/-- 'laws.FnTextCut', WHERE WHAT IT READS IS OF BULK AT MOST 1048576: true; the input reads as it did. -/
def fnTextCutUptoRow : OpenClaim := { program := "yteippijocmpncaa", sum := "1f98d63d1c7e864fd499bd3d4ced2d36a2a691ffd60c08ae8c2213ae15a7562d", func := "loop.example/slowworm/laws.FnTextCut", spec := "fnTextCut", inPlace := ["internal/abi.NoEscape"], unfollowed := true, recurses := true, apart := false, narrowed := true }
def FnTextCutUptoSaid : Prop := fnTextCutUptoRow.holds Try.pinned (OpenSpec.upto fnTextCutSpec)

/-- 'laws.FnExactTextCut', WHERE WHAT IT READS IS OF BULK AT MOST 1048576: true; the input reads as it did. -/
def fnExactTextCutUptoRow : OpenClaim := { program := "yteippijocmpncaa", sum := "1f98d63d1c7e864fd499bd3d4ced2d36a2a691ffd60c08ae8c2213ae15a7562d", func := "loop.example/slowworm/laws.FnExactTextCut", spec := "fnExactTextCut", inPlace := ["internal/abi.NoEscape"], unfollowed := true, recurses := true, apart := false, narrowed := true }
def FnExactTextCutUptoSaid : Prop := fnExactTextCutUptoRow.holds Try.pinned (OpenSpec.upto fnExactTextCutSpec)

/-- 'laws.FnTextParts', WHERE WHAT IT READS IS OF BULK AT MOST 1048576: true; the input reads as it did. -/
def fnTextPartsUptoRow : OpenClaim := { program := "yteippijocmpncaa", sum := "1f98d63d1c7e864fd499bd3d4ced2d36a2a691ffd60c08ae8c2213ae15a7562d", func := "loop.example/slowworm/laws.FnTextParts", spec := "fnTextParts", inPlace := ["internal/abi.NoEscape"], unfollowed := true, recurses := true, apart := false, narrowed := true }
def FnTextPartsUptoSaid : Prop := fnTextPartsUptoRow.holds Try.pinned (OpenSpec.upto fnTextPartsSpec)

/-- 'laws.FnTextTurned', WHERE WHAT IT READS IS OF BULK AT MOST 1048576: true; the input reads as it did. -/
def fnTextTurnedUptoRow : OpenClaim := { program := "yteippijocmpncaa", sum := "1f98d63d1c7e864fd499bd3d4ced2d36a2a691ffd60c08ae8c2213ae15a7562d", func := "loop.example/slowworm/laws.FnTextTurned", spec := "fnTextTurned", inPlace := ["internal/abi.NoEscape"], unfollowed := true, recurses := true, apart := false, narrowed := true }
def FnTextTurnedUptoSaid : Prop := fnTextTurnedUptoRow.holds Try.pinned (OpenSpec.upto fnTextTurnedSpec)

/-- 'laws.FnExactListCut', WHERE WHAT IT READS IS OF BULK AT MOST 1048576: true; the input reads as it did. -/
def fnExactListCutUptoRow : OpenClaim := { program := "yteippijocmpncaa", sum := "1f98d63d1c7e864fd499bd3d4ced2d36a2a691ffd60c08ae8c2213ae15a7562d", func := "loop.example/slowworm/laws.FnExactListCut", spec := "fnExactListCut", unfollowed := true, recurses := true, apart := false, narrowed := true }
def FnExactListCutUptoSaid : Prop := fnExactListCutUptoRow.holds Try.pinned (OpenSpec.upto fnExactListCutSpec)

/-- 'laws.FnListCut', WHERE WHAT IT READS IS OF BULK AT MOST 1048576: true; the input reads as it did. -/
def fnListCutUptoRow : OpenClaim := { program := "yteippijocmpncaa", sum := "1f98d63d1c7e864fd499bd3d4ced2d36a2a691ffd60c08ae8c2213ae15a7562d", func := "loop.example/slowworm/laws.FnListCut", spec := "fnListCut", unfollowed := true, recurses := true, apart := false, narrowed := true }
def FnListCutUptoSaid : Prop := fnListCutUptoRow.holds Try.pinned (OpenSpec.upto fnListCutSpec)

/-- 'laws.FnListTurned', WHERE WHAT IT READS IS OF BULK AT MOST 1048576: true; the input reads as it did. -/
def fnListTurnedUptoRow : OpenClaim := { program := "yteippijocmpncaa", sum := "1f98d63d1c7e864fd499bd3d4ced2d36a2a691ffd60c08ae8c2213ae15a7562d", func := "loop.example/slowworm/laws.FnListTurned", spec := "fnListTurned", unfollowed := true, recurses := true, apart := false, narrowed := true }
def FnListTurnedUptoSaid : Prop := fnListTurnedUptoRow.holds Try.pinned (OpenSpec.upto fnListTurnedSpec)

/-- 'laws.FnExactListDropCut', WHERE WHAT IT READS IS OF BULK AT MOST 1048576: true; the input reads as it did. -/
def fnExactListDropCutUptoRow : OpenClaim := { program := "yteippijocmpncaa", sum := "1f98d63d1c7e864fd499bd3d4ced2d36a2a691ffd60c08ae8c2213ae15a7562d", func := "loop.example/slowworm/laws.FnExactListDropCut", spec := "fnExactListDropCut", unfollowed := true, recurses := true, apart := false, narrowed := true }
def FnExactListDropCutUptoSaid : Prop := fnExactListDropCutUptoRow.holds Try.pinned (OpenSpec.upto fnExactListDropCutSpec)

/-- 'laws.FnExactListPutCut', WHERE WHAT IT READS IS OF BULK AT MOST 1048576: true; the input reads as it did. -/
def fnExactListPutCutUptoRow : OpenClaim := { program := "yteippijocmpncaa", sum := "1f98d63d1c7e864fd499bd3d4ced2d36a2a691ffd60c08ae8c2213ae15a7562d", func := "loop.example/slowworm/laws.FnExactListPutCut", spec := "fnExactListPutCut", unfollowed := true, recurses := true, apart := false, narrowed := true }
def FnExactListPutCutUptoSaid : Prop := fnExactListPutCutUptoRow.holds Try.pinned (OpenSpec.upto fnExactListPutCutSpec)

end Rows
end Go.Proofs.Yteippijocmpncaa
