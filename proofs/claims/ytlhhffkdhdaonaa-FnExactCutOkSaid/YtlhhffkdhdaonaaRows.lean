/-
  No cell of these rows narrows 'for every input' (looked for: loops, veiled, ifaces, maps, wideKeys, modest, calm, conditions, laid).
  DERIVED. THE GIVEN ROWS OF THIS SEAT. 6 by the template 'for every input the law returns true; each argument reads behind the call as it read before'; 0 by the template 'total and deterministic' (their statements: YtlhhffkdhdaonaaTotals.lean).
  GIVEN WITH THE SEED: the statements are not yours to turn. If you find one false, say at which input.
  Laid BY PROGRAM, IN A SANDBOX (cutbox-rows.mjs): the forced cells as the released guide's own fill.sh prints them over the translation ca5c7ab9b7363bb6… (all of the seat's roots in one cut). By AI agents, Wed Nov 11 2026. No macro, syntax, notation, axiom, sorry.
-/
import Derived.Test.YtlhhffkdhdaonaaChecked
import GoSem.Claim
import GoSem.ClaimJoined
import GoSem.ClaimMapViews
import Derived.JoinedTies
import Derived.KernelRfl
namespace Go.Proofs.Ytlhhffkdhdaonaa
/- THE CELL 'sum', in the pinned program and in every row, IS THE sha256 OF THE DUMP (.gsa) THAT YtlhhffkdhdaonaaProg.lean LOADS. Nothing in Lean hashes anything: it is a label: what it is worth is what the hold of that sum in a sandbox is worth. -/
noncomputable def Try.pinned : Pinned := { name := "ytlhhffkdhdaonaa", sum := "ca5c7ab9b7363bb62fff9d07acb0088b61308c54c79ab5caa4f6c9d1fbf2d315", checked := Try.checked }
namespace Rows
def none {H : Type} : Left H := { results := [], args := [] }

/-- 'laws.FnExactConstants': WHATEVER THE INPUT: true; the input reads as it did. -/
def fnExactConstantsSpec : ChangeSpec := { name := "fnExactConstants", fn := fun _ => fun
  | [] => { results := [.lit (.bool true)], args := [] }
  | _ => none }
def fnExactConstantsRow : OpenClaim := { program := "ytlhhffkdhdaonaa", sum := "ca5c7ab9b7363bb62fff9d07acb0088b61308c54c79ab5caa4f6c9d1fbf2d315", func := "loop.example/slowworm/laws.FnExactConstants", spec := "fnExactConstants", apart := false }
def FnExactConstantsSaid : Prop := fnExactConstantsRow.holds Try.pinned (OpenSpec.ofChange fnExactConstantsSpec)

/-- ITS FALSE NEIGHBOUR: 'it returns false'. Refute it at one input. -/
def fnExactConstantsWrong : ChangeSpec := { name := "fnExactConstants", fn := fun _ => fun
  | [] => { results := [.lit (.bool false)], args := [] }
  | _ => none }
def FnExactConstantsWrongFalsely : Prop := fnExactConstantsRow.holds Try.pinned (OpenSpec.ofChange fnExactConstantsWrong)

/-- 'laws.FnExactCutOk': WHATEVER THE INPUT: true; the input reads as it did. -/
def fnExactCutOkSpec : ChangeSpec := { name := "fnExactCutOk", fn := fun _ => fun
  | [d] => { results := [.lit (.bool true)], args := [d] }
  | _ => none }
def fnExactCutOkRow : OpenClaim := { program := "ytlhhffkdhdaonaa", sum := "ca5c7ab9b7363bb62fff9d07acb0088b61308c54c79ab5caa4f6c9d1fbf2d315", func := "loop.example/slowworm/laws.FnExactCutOk", spec := "fnExactCutOk", apart := false }
def FnExactCutOkSaid : Prop := fnExactCutOkRow.holds Try.pinned (OpenSpec.ofChange fnExactCutOkSpec)

/-- ITS FALSE NEIGHBOUR: 'it returns false'. Refute it at one input. -/
def fnExactCutOkWrong : ChangeSpec := { name := "fnExactCutOk", fn := fun _ => fun
  | [d] => { results := [.lit (.bool false)], args := [d] }
  | _ => none }
def FnExactCutOkWrongFalsely : Prop := fnExactCutOkRow.holds Try.pinned (OpenSpec.ofChange fnExactCutOkWrong)

/-- 'laws.FnExactTextAt': WHATEVER THE INPUT: true; the input reads as it did. -/
def fnExactTextAtSpec : ChangeSpec := { name := "fnExactTextAt", fn := fun _ => fun
  | [d1, d2] => { results := [.lit (.bool true)], args := [d1, d2] }
  | _ => none }
def fnExactTextAtRow : OpenClaim := { program := "ytlhhffkdhdaonaa", sum := "ca5c7ab9b7363bb62fff9d07acb0088b61308c54c79ab5caa4f6c9d1fbf2d315", func := "loop.example/slowworm/laws.FnExactTextAt", spec := "fnExactTextAt", apart := false }
def FnExactTextAtSaid : Prop := fnExactTextAtRow.holds Try.pinned (OpenSpec.ofChange fnExactTextAtSpec)

/-- ITS FALSE NEIGHBOUR: 'it returns false'. Refute it at one input. -/
def fnExactTextAtWrong : ChangeSpec := { name := "fnExactTextAt", fn := fun _ => fun
  | [d1, d2] => { results := [.lit (.bool false)], args := [d1, d2] }
  | _ => none }
def FnExactTextAtWrongFalsely : Prop := fnExactTextAtRow.holds Try.pinned (OpenSpec.ofChange fnExactTextAtWrong)

/-- 'laws.FnExactListRoom': WHATEVER THE INPUT: true; the input reads as it did. -/
def fnExactListRoomSpec : ChangeSpec := { name := "fnExactListRoom", fn := fun _ => fun
  | [d] => { results := [.lit (.bool true)], args := [d] }
  | _ => none }
def fnExactListRoomRow : OpenClaim := { program := "ytlhhffkdhdaonaa", sum := "ca5c7ab9b7363bb62fff9d07acb0088b61308c54c79ab5caa4f6c9d1fbf2d315", func := "loop.example/slowworm/laws.FnExactListRoom", spec := "fnExactListRoom", apart := false }
def FnExactListRoomSaid : Prop := fnExactListRoomRow.holds Try.pinned (OpenSpec.ofChange fnExactListRoomSpec)

/-- ITS FALSE NEIGHBOUR: 'it returns false'. Refute it at one input. -/
def fnExactListRoomWrong : ChangeSpec := { name := "fnExactListRoom", fn := fun _ => fun
  | [d] => { results := [.lit (.bool false)], args := [d] }
  | _ => none }
def FnExactListRoomWrongFalsely : Prop := fnExactListRoomRow.holds Try.pinned (OpenSpec.ofChange fnExactListRoomWrong)

/-- 'laws.FnExactDictHash': WHATEVER THE INPUT: true; the input reads as it did. -/
def fnExactDictHashSpec : ChangeSpec := { name := "fnExactDictHash", fn := fun _ => fun
  | [d] => { results := [.lit (.bool true)], args := [d] }
  | _ => none }
def fnExactDictHashRow : OpenClaim := { program := "ytlhhffkdhdaonaa", sum := "ca5c7ab9b7363bb62fff9d07acb0088b61308c54c79ab5caa4f6c9d1fbf2d315", func := "loop.example/slowworm/laws.FnExactDictHash", spec := "fnExactDictHash", apart := false }
def FnExactDictHashSaid : Prop := fnExactDictHashRow.holds Try.pinned (OpenSpec.ofChange fnExactDictHashSpec)

/-- ITS FALSE NEIGHBOUR: 'it returns false'. Refute it at one input. -/
def fnExactDictHashWrong : ChangeSpec := { name := "fnExactDictHash", fn := fun _ => fun
  | [d] => { results := [.lit (.bool false)], args := [d] }
  | _ => none }
def FnExactDictHashWrongFalsely : Prop := fnExactDictHashRow.holds Try.pinned (OpenSpec.ofChange fnExactDictHashWrong)

/-- 'laws.FnExactRunLeast': WHATEVER THE INPUT: true; the input reads as it did. -/
def fnExactRunLeastSpec : ChangeSpec := { name := "fnExactRunLeast", fn := fun _ => fun
  | [d] => { results := [.lit (.bool true)], args := [d] }
  | _ => none }
def fnExactRunLeastRow : OpenClaim := { program := "ytlhhffkdhdaonaa", sum := "ca5c7ab9b7363bb62fff9d07acb0088b61308c54c79ab5caa4f6c9d1fbf2d315", func := "loop.example/slowworm/laws.FnExactRunLeast", spec := "fnExactRunLeast", apart := false }
def FnExactRunLeastSaid : Prop := fnExactRunLeastRow.holds Try.pinned (OpenSpec.ofChange fnExactRunLeastSpec)

/-- ITS FALSE NEIGHBOUR: 'it returns false'. Refute it at one input. -/
def fnExactRunLeastWrong : ChangeSpec := { name := "fnExactRunLeast", fn := fun _ => fun
  | [d] => { results := [.lit (.bool false)], args := [d] }
  | _ => none }
def FnExactRunLeastWrongFalsely : Prop := fnExactRunLeastRow.holds Try.pinned (OpenSpec.ofChange fnExactRunLeastWrong)

/- THE SECOND FORM. 'bulk': how many values and letters a reading holds, each counted each time it is reached (what is shared counts as often as it is met; a slice's spare places count too). A statement '..UptoSaid' is the law's where the arguments, and the package variables that the reading takes, are together of bulk at most 1048576: NARROWER than '..Said'. Prove '..Said' where nothing that the law and all that it calls make is longer than what came in: it says more and counts as full. Else prove '..UptoSaid'. A law counts once. -/
mutual
def uptoBulk {H : Type} : DataW H → Nat
  | .lit (.string bytes) => bytes.length + 1
  | .lit _ => 1
  | .nil => 1
  | .ptr d => uptoBulk d + 1
  | .slice elems spare => uptoBulkAll elems + uptoBulkAll spare + 1
  | .agg parts => uptoBulkAll parts + 1
  | .iface _ d => uptoBulk d + 1
  | .map entries => uptoBulkEntries entries + 1
  | .held _ => 1
def uptoBulkAll {H : Type} : List (DataW H) → Nat
  | [] => 0
  | d :: r => uptoBulk d + uptoBulkAll r
def uptoBulkEntries {H : Type} : List (Lit × DataW H) → Nat
  | [] => 0
  | x :: r => uptoBulkEntry x + uptoBulkEntries r
def uptoBulkEntry {H : Type} : Lit × DataW H → Nat
  | (.string bytes, d) => bytes.length + uptoBulk d + 1
  | (_, d) => uptoBulk d + 1
 end
def uptoSmall : (H : Type) → List (DataW H) → Bool := fun _ ds => decide (uptoBulkAll ds ≤ 1048576)
def OpenSpec.upto (s : _root_.Go.ChangeSpec) : _root_.Go.OpenSpec := { _root_.Go.OpenSpec.ofChange s with cond := some uptoSmall }

/-- 'laws.FnExactConstants', WHERE WHAT IT READS IS OF BULK AT MOST 1048576: true; the input reads as it did. -/
def fnExactConstantsUptoRow : OpenClaim := { program := "ytlhhffkdhdaonaa", sum := "ca5c7ab9b7363bb62fff9d07acb0088b61308c54c79ab5caa4f6c9d1fbf2d315", func := "loop.example/slowworm/laws.FnExactConstants", spec := "fnExactConstants", apart := false, narrowed := true }
def FnExactConstantsUptoSaid : Prop := fnExactConstantsUptoRow.holds Try.pinned (OpenSpec.upto fnExactConstantsSpec)

/-- 'laws.FnExactCutOk', WHERE WHAT IT READS IS OF BULK AT MOST 1048576: true; the input reads as it did. -/
def fnExactCutOkUptoRow : OpenClaim := { program := "ytlhhffkdhdaonaa", sum := "ca5c7ab9b7363bb62fff9d07acb0088b61308c54c79ab5caa4f6c9d1fbf2d315", func := "loop.example/slowworm/laws.FnExactCutOk", spec := "fnExactCutOk", apart := false, narrowed := true }
def FnExactCutOkUptoSaid : Prop := fnExactCutOkUptoRow.holds Try.pinned (OpenSpec.upto fnExactCutOkSpec)

/-- 'laws.FnExactTextAt', WHERE WHAT IT READS IS OF BULK AT MOST 1048576: true; the input reads as it did. -/
def fnExactTextAtUptoRow : OpenClaim := { program := "ytlhhffkdhdaonaa", sum := "ca5c7ab9b7363bb62fff9d07acb0088b61308c54c79ab5caa4f6c9d1fbf2d315", func := "loop.example/slowworm/laws.FnExactTextAt", spec := "fnExactTextAt", apart := false, narrowed := true }
def FnExactTextAtUptoSaid : Prop := fnExactTextAtUptoRow.holds Try.pinned (OpenSpec.upto fnExactTextAtSpec)

/-- 'laws.FnExactListRoom', WHERE WHAT IT READS IS OF BULK AT MOST 1048576: true; the input reads as it did. -/
def fnExactListRoomUptoRow : OpenClaim := { program := "ytlhhffkdhdaonaa", sum := "ca5c7ab9b7363bb62fff9d07acb0088b61308c54c79ab5caa4f6c9d1fbf2d315", func := "loop.example/slowworm/laws.FnExactListRoom", spec := "fnExactListRoom", apart := false, narrowed := true }
def FnExactListRoomUptoSaid : Prop := fnExactListRoomUptoRow.holds Try.pinned (OpenSpec.upto fnExactListRoomSpec)

/-- 'laws.FnExactDictHash', WHERE WHAT IT READS IS OF BULK AT MOST 1048576: true; the input reads as it did. -/
def fnExactDictHashUptoRow : OpenClaim := { program := "ytlhhffkdhdaonaa", sum := "ca5c7ab9b7363bb62fff9d07acb0088b61308c54c79ab5caa4f6c9d1fbf2d315", func := "loop.example/slowworm/laws.FnExactDictHash", spec := "fnExactDictHash", apart := false, narrowed := true }
def FnExactDictHashUptoSaid : Prop := fnExactDictHashUptoRow.holds Try.pinned (OpenSpec.upto fnExactDictHashSpec)

/-- 'laws.FnExactRunLeast', WHERE WHAT IT READS IS OF BULK AT MOST 1048576: true; the input reads as it did. -/
def fnExactRunLeastUptoRow : OpenClaim := { program := "ytlhhffkdhdaonaa", sum := "ca5c7ab9b7363bb62fff9d07acb0088b61308c54c79ab5caa4f6c9d1fbf2d315", func := "loop.example/slowworm/laws.FnExactRunLeast", spec := "fnExactRunLeast", apart := false, narrowed := true }
def FnExactRunLeastUptoSaid : Prop := fnExactRunLeastUptoRow.holds Try.pinned (OpenSpec.upto fnExactRunLeastSpec)

end Rows
end Go.Proofs.Ytlhhffkdhdaonaa
