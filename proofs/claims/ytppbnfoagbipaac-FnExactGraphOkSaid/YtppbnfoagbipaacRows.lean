/-
  NARROWER THAN 'FOR EVERY INPUT', by the rows' own cells (each row's printed sentence says how): FnExactGenOk: loops.
  DERIVED. THE GIVEN ROWS OF THIS SEAT. 6 by the template 'for every input the law returns true; each argument reads behind the call as it read before'; 0 by the template 'total and deterministic' (their statements: YtppbnfoagbipaacTotals.lean).
  GIVEN WITH THE SEED: the statements are not yours to turn. If you find one false, say at which input.
  Laid BY PROGRAM, IN A SANDBOX (cutbox-rows.mjs): the forced cells as the released guide's own fill.sh prints them over the translation a81e1eb1e0f7ccb2… (all of the seat's roots in one cut). By AI agents, Wed Nov 11 2026. No macro, syntax, notation, axiom, sorry.
-/
import Derived.Test.YtppbnfoagbipaacChecked
import GoSem.Claim
import GoSem.ClaimJoined
import GoSem.ClaimMapViews
import Derived.JoinedTies
import Derived.KernelRfl
namespace Go.Proofs.Ytppbnfoagbipaac
/- THE CELL 'sum', in the pinned program and in every row, IS THE sha256 OF THE DUMP (.gsa) THAT YtppbnfoagbipaacProg.lean LOADS. Nothing in Lean hashes anything: it is a label: what it is worth is what the hold of that sum in a sandbox is worth. -/
noncomputable def Try.pinned : Pinned := { name := "ytppbnfoagbipaac", sum := "a81e1eb1e0f7ccb2ee7bcecee7e4c007ac0b4025cab6a083502b07e25ecc1d1f", checked := Try.checked }
namespace Rows
def none {H : Type} : Left H := { results := [], args := [] }

/-- 'laws.FnGraphOk': WHATEVER THE INPUT: true; the input reads as it did. -/
def fnGraphOkSpec : ChangeSpec := { name := "fnGraphOk", fn := fun _ => fun
  | [d] => { results := [.lit (.bool true)], args := [d] }
  | _ => none }
def fnGraphOkRow : OpenClaim := { program := "ytppbnfoagbipaac", sum := "a81e1eb1e0f7ccb2ee7bcecee7e4c007ac0b4025cab6a083502b07e25ecc1d1f", func := "loop.example/slowworm/laws.FnGraphOk", spec := "fnGraphOk", apart := false }
def FnGraphOkSaid : Prop := fnGraphOkRow.holds Try.pinned (OpenSpec.ofChange fnGraphOkSpec)

/-- ITS FALSE NEIGHBOUR: 'it returns false'. Refute it at one input. -/
def fnGraphOkWrong : ChangeSpec := { name := "fnGraphOk", fn := fun _ => fun
  | [d] => { results := [.lit (.bool false)], args := [d] }
  | _ => none }
def FnGraphOkWrongFalsely : Prop := fnGraphOkRow.holds Try.pinned (OpenSpec.ofChange fnGraphOkWrong)

/-- 'laws.FnExactGraphOk': WHATEVER THE INPUT: true; the input reads as it did. -/
def fnExactGraphOkSpec : ChangeSpec := { name := "fnExactGraphOk", fn := fun _ => fun
  | [d1, d2] => { results := [.lit (.bool true)], args := [d1, d2] }
  | _ => none }
def fnExactGraphOkRow : OpenClaim := { program := "ytppbnfoagbipaac", sum := "a81e1eb1e0f7ccb2ee7bcecee7e4c007ac0b4025cab6a083502b07e25ecc1d1f", func := "loop.example/slowworm/laws.FnExactGraphOk", spec := "fnExactGraphOk", apart := false }
def FnExactGraphOkSaid : Prop := fnExactGraphOkRow.holds Try.pinned (OpenSpec.ofChange fnExactGraphOkSpec)

/-- ITS FALSE NEIGHBOUR: 'it returns false'. Refute it at one input. -/
def fnExactGraphOkWrong : ChangeSpec := { name := "fnExactGraphOk", fn := fun _ => fun
  | [d1, d2] => { results := [.lit (.bool false)], args := [d1, d2] }
  | _ => none }
def FnExactGraphOkWrongFalsely : Prop := fnExactGraphOkRow.holds Try.pinned (OpenSpec.ofChange fnExactGraphOkWrong)

/-- 'laws.FnRoundsOf': WHATEVER THE INPUT: true; the input reads as it did. -/
def fnRoundsOfSpec : ChangeSpec := { name := "fnRoundsOf", fn := fun _ => fun
  | [d] => { results := [.lit (.bool true)], args := [d] }
  | _ => none }
def fnRoundsOfRow : OpenClaim := { program := "ytppbnfoagbipaac", sum := "a81e1eb1e0f7ccb2ee7bcecee7e4c007ac0b4025cab6a083502b07e25ecc1d1f", func := "loop.example/slowworm/laws.FnRoundsOf", spec := "fnRoundsOf", apart := false }
def FnRoundsOfSaid : Prop := fnRoundsOfRow.holds Try.pinned (OpenSpec.ofChange fnRoundsOfSpec)

/-- ITS FALSE NEIGHBOUR: 'it returns false'. Refute it at one input. -/
def fnRoundsOfWrong : ChangeSpec := { name := "fnRoundsOf", fn := fun _ => fun
  | [d] => { results := [.lit (.bool false)], args := [d] }
  | _ => none }
def FnRoundsOfWrongFalsely : Prop := fnRoundsOfRow.holds Try.pinned (OpenSpec.ofChange fnRoundsOfWrong)

/-- 'laws.FnRoomsOf': WHATEVER THE INPUT: true; the input reads as it did. -/
def fnRoomsOfSpec : ChangeSpec := { name := "fnRoomsOf", fn := fun _ => fun
  | [d] => { results := [.lit (.bool true)], args := [d] }
  | _ => none }
def fnRoomsOfRow : OpenClaim := { program := "ytppbnfoagbipaac", sum := "a81e1eb1e0f7ccb2ee7bcecee7e4c007ac0b4025cab6a083502b07e25ecc1d1f", func := "loop.example/slowworm/laws.FnRoomsOf", spec := "fnRoomsOf", apart := false }
def FnRoomsOfSaid : Prop := fnRoomsOfRow.holds Try.pinned (OpenSpec.ofChange fnRoomsOfSpec)

/-- ITS FALSE NEIGHBOUR: 'it returns false'. Refute it at one input. -/
def fnRoomsOfWrong : ChangeSpec := { name := "fnRoomsOf", fn := fun _ => fun
  | [d] => { results := [.lit (.bool false)], args := [d] }
  | _ => none }
def FnRoomsOfWrongFalsely : Prop := fnRoomsOfRow.holds Try.pinned (OpenSpec.ofChange fnRoomsOfWrong)

/-- 'laws.FnGenOk': WHATEVER THE INPUT: true; the input reads as it did. -/
def fnGenOkSpec : ChangeSpec := { name := "fnGenOk", fn := fun _ => fun
  | [d] => { results := [.lit (.bool true)], args := [d] }
  | _ => none }
def fnGenOkRow : OpenClaim := { program := "ytppbnfoagbipaac", sum := "a81e1eb1e0f7ccb2ee7bcecee7e4c007ac0b4025cab6a083502b07e25ecc1d1f", func := "loop.example/slowworm/laws.FnGenOk", spec := "fnGenOk", recurses := true, apart := false }
def FnGenOkSaid : Prop := fnGenOkRow.holds Try.pinned (OpenSpec.ofChange fnGenOkSpec)

/-- ITS FALSE NEIGHBOUR: 'it returns false'. Refute it at one input. -/
def fnGenOkWrong : ChangeSpec := { name := "fnGenOk", fn := fun _ => fun
  | [d] => { results := [.lit (.bool false)], args := [d] }
  | _ => none }
def FnGenOkWrongFalsely : Prop := fnGenOkRow.holds Try.pinned (OpenSpec.ofChange fnGenOkWrong)

/-- 'laws.FnExactGenOk': WHATEVER THE INPUT: true; the input reads as it did. -/
def fnExactGenOkSpec : ChangeSpec := { name := "fnExactGenOk", fn := fun _ => fun
  | [d] => { results := [.lit (.bool true)], args := [d] }
  | _ => none }
def fnExactGenOkRow : OpenClaim := { program := "ytppbnfoagbipaac", sum := "a81e1eb1e0f7ccb2ee7bcecee7e4c007ac0b4025cab6a083502b07e25ecc1d1f", func := "loop.example/slowworm/laws.FnExactGenOk", spec := "fnExactGenOk", recurses := true, loops := true, apart := false }
def FnExactGenOkSaid : Prop := fnExactGenOkRow.holds Try.pinned (OpenSpec.ofChange fnExactGenOkSpec)

/-- ITS FALSE NEIGHBOUR: 'it returns false'. Refute it at one input. -/
def fnExactGenOkWrong : ChangeSpec := { name := "fnExactGenOk", fn := fun _ => fun
  | [d] => { results := [.lit (.bool false)], args := [d] }
  | _ => none }
def FnExactGenOkWrongFalsely : Prop := fnExactGenOkRow.holds Try.pinned (OpenSpec.ofChange fnExactGenOkWrong)

/- THE SECOND FORM. 'bulk': how many values and letters a reading holds, each counted each time it is reached (what is shared counts as often as it is met; a slice's spare places count too). A statement '..UptoSaid' is the law's where the arguments, and the package variables that the reading takes, are together of bulk at most 1048576: NARROWER than '..Said'. Prove '..Said' where nothing that the law and all that it calls make is longer than what came in: it says more and counts as full. Else prove '..UptoSaid'. A law counts once. -/
mutual
def uptoBulk {H : Type} : DataW H → Nat
  | .lit (.string bytes) => bytes.length + 1
  | .lit _ => 1
  | .nil => 1
  | .ptr d => uptoBulk d + 1
  | .slice elems spare => uptoBulkAll elems + uptoBulkAll spare + 1
  | .agg parts => uptoBulkAll parts + 1
  | .iface _ d => uptoBulk d + 1
  | .map entries => uptoBulkEntries entries + 1
  | .held _ => 1
def uptoBulkAll {H : Type} : List (DataW H) → Nat
  | [] => 0
  | d :: r => uptoBulk d + uptoBulkAll r
def uptoBulkEntries {H : Type} : List (Lit × DataW H) → Nat
  | [] => 0
  | x :: r => uptoBulkEntry x + uptoBulkEntries r
def uptoBulkEntry {H : Type} : Lit × DataW H → Nat
  | (.string bytes, d) => bytes.length + uptoBulk d + 1
  | (_, d) => uptoBulk d + 1
 end
def uptoSmall : (H : Type) → List (DataW H) → Bool := fun _ ds => decide (uptoBulkAll ds ≤ 1048576)
def OpenSpec.upto (s : _root_.Go.ChangeSpec) : _root_.Go.OpenSpec := { _root_.Go.OpenSpec.ofChange s with cond := some uptoSmall }

/-- 'laws.FnGraphOk', WHERE WHAT IT READS IS OF BULK AT MOST 1048576: true; the input reads as it did. -/
def fnGraphOkUptoRow : OpenClaim := { program := "ytppbnfoagbipaac", sum := "a81e1eb1e0f7ccb2ee7bcecee7e4c007ac0b4025cab6a083502b07e25ecc1d1f", func := "loop.example/slowworm/laws.FnGraphOk", spec := "fnGraphOk", apart := false, narrowed := true }
def FnGraphOkUptoSaid : Prop := fnGraphOkUptoRow.holds Try.pinned (OpenSpec.upto fnGraphOkSpec)

/-- 'laws.FnExactGraphOk', WHERE WHAT IT READS IS OF BULK AT MOST 1048576: true; the input reads as it did. -/
def fnExactGraphOkUptoRow : OpenClaim := { program := "ytppbnfoagbipaac", sum := "a81e1eb1e0f7ccb2ee7bcecee7e4c007ac0b4025cab6a083502b07e25ecc1d1f", func := "loop.example/slowworm/laws.FnExactGraphOk", spec := "fnExactGraphOk", apart := false, narrowed := true }
def FnExactGraphOkUptoSaid : Prop := fnExactGraphOkUptoRow.holds Try.pinned (OpenSpec.upto fnExactGraphOkSpec)

/-- 'laws.FnRoundsOf', WHERE WHAT IT READS IS OF BULK AT MOST 1048576: true; the input reads as it did. -/
def fnRoundsOfUptoRow : OpenClaim := { program := "ytppbnfoagbipaac", sum := "a81e1eb1e0f7ccb2ee7bcecee7e4c007ac0b4025cab6a083502b07e25ecc1d1f", func := "loop.example/slowworm/laws.FnRoundsOf", spec := "fnRoundsOf", apart := false, narrowed := true }
def FnRoundsOfUptoSaid : Prop := fnRoundsOfUptoRow.holds Try.pinned (OpenSpec.upto fnRoundsOfSpec)

/-- 'laws.FnRoomsOf', WHERE WHAT IT READS IS OF BULK AT MOST 1048576: true; the input reads as it did. -/
def fnRoomsOfUptoRow : OpenClaim := { program := "ytppbnfoagbipaac", sum := "a81e1eb1e0f7ccb2ee7bcecee7e4c007ac0b4025cab6a083502b07e25ecc1d1f", func := "loop.example/slowworm/laws.FnRoomsOf", spec := "fnRoomsOf", apart := false, narrowed := true }
def FnRoomsOfUptoSaid : Prop := fnRoomsOfUptoRow.holds Try.pinned (OpenSpec.upto fnRoomsOfSpec)

/-- 'laws.FnGenOk', WHERE WHAT IT READS IS OF BULK AT MOST 1048576: true; the input reads as it did. -/
def fnGenOkUptoRow : OpenClaim := { program := "ytppbnfoagbipaac", sum := "a81e1eb1e0f7ccb2ee7bcecee7e4c007ac0b4025cab6a083502b07e25ecc1d1f", func := "loop.example/slowworm/laws.FnGenOk", spec := "fnGenOk", recurses := true, apart := false, narrowed := true }
def FnGenOkUptoSaid : Prop := fnGenOkUptoRow.holds Try.pinned (OpenSpec.upto fnGenOkSpec)

/-- 'laws.FnExactGenOk', WHERE WHAT IT READS IS OF BULK AT MOST 1048576: true; the input reads as it did. -/
def fnExactGenOkUptoRow : OpenClaim := { program := "ytppbnfoagbipaac", sum := "a81e1eb1e0f7ccb2ee7bcecee7e4c007ac0b4025cab6a083502b07e25ecc1d1f", func := "loop.example/slowworm/laws.FnExactGenOk", spec := "fnExactGenOk", recurses := true, loops := true, apart := false, narrowed := true }
def FnExactGenOkUptoSaid : Prop := fnExactGenOkUptoRow.holds Try.pinned (OpenSpec.upto fnExactGenOkSpec)

end Rows
end Go.Proofs.Ytppbnfoagbipaac
