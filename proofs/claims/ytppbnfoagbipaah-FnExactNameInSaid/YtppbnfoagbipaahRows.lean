/-
  No cell of these rows narrows 'for every input' (looked for: loops, veiled, ifaces, maps, wideKeys, modest, calm, conditions, laid).
  DERIVED. THE GIVEN ROWS OF THIS SEAT. 6 by the template 'for every input the law returns true; each argument reads behind the call as it read before'; 0 by the template 'total and deterministic' (their statements: YtppbnfoagbipaahTotals.lean).
  GIVEN WITH THE SEED: the statements are not yours to turn. If you find one false, say at which input.
  Laid BY PROGRAM, IN A SANDBOX (cutbox-rows.mjs): the forced cells as the released guide's own fill.sh prints them over the translation 76868383548efc0c… (all of the seat's roots in one cut). By AI agents, Wed Nov 11 2026. No macro, syntax, notation, axiom, sorry.
-/
import Derived.Test.YtppbnfoagbipaahChecked
import GoSem.Claim
import GoSem.ClaimJoined
import GoSem.ClaimMapViews
import Derived.JoinedTies
import Derived.KernelRfl
namespace Go.Proofs.Ytppbnfoagbipaah
/- THE CELL 'sum', in the pinned program and in every row, IS THE sha256 OF THE DUMP (.gsa) THAT YtppbnfoagbipaahProg.lean LOADS. Nothing in Lean hashes anything: it is a label: what it is worth is what the hold of that sum in a sandbox is worth. -/
noncomputable def Try.pinned : Pinned := { name := "ytppbnfoagbipaah", sum := "76868383548efc0c51dd1942aed33e7bd054ace085f678fed6201de35e4bd029", checked := Try.checked }
namespace Rows
def none {H : Type} : Left H := { results := [], args := [] }

/-- 'laws.FnExactReachedFrom': WHATEVER THE INPUT: true; the input reads as it did. -/
def fnExactReachedFromSpec : ChangeSpec := { name := "fnExactReachedFrom", fn := fun _ => fun
  | [d1, d2] => { results := [.lit (.bool true)], args := [d1, d2] }
  | _ => none }
def fnExactReachedFromRow : OpenClaim := { program := "ytppbnfoagbipaah", sum := "76868383548efc0c51dd1942aed33e7bd054ace085f678fed6201de35e4bd029", func := "loop.example/slowworm/laws.FnExactReachedFrom", spec := "fnExactReachedFrom", apart := false }
def FnExactReachedFromSaid : Prop := fnExactReachedFromRow.holds Try.pinned (OpenSpec.ofChange fnExactReachedFromSpec)

/-- ITS FALSE NEIGHBOUR: 'it returns false'. Refute it at one input. -/
def fnExactReachedFromWrong : ChangeSpec := { name := "fnExactReachedFrom", fn := fun _ => fun
  | [d1, d2] => { results := [.lit (.bool false)], args := [d1, d2] }
  | _ => none }
def FnExactReachedFromWrongFalsely : Prop := fnExactReachedFromRow.holds Try.pinned (OpenSpec.ofChange fnExactReachedFromWrong)

/-- 'laws.FnReachedFrom': WHATEVER THE INPUT: true; the input reads as it did. -/
def fnReachedFromSpec : ChangeSpec := { name := "fnReachedFrom", fn := fun _ => fun
  | [d] => { results := [.lit (.bool true)], args := [d] }
  | _ => none }
def fnReachedFromRow : OpenClaim := { program := "ytppbnfoagbipaah", sum := "76868383548efc0c51dd1942aed33e7bd054ace085f678fed6201de35e4bd029", func := "loop.example/slowworm/laws.FnReachedFrom", spec := "fnReachedFrom", apart := false }
def FnReachedFromSaid : Prop := fnReachedFromRow.holds Try.pinned (OpenSpec.ofChange fnReachedFromSpec)

/-- ITS FALSE NEIGHBOUR: 'it returns false'. Refute it at one input. -/
def fnReachedFromWrong : ChangeSpec := { name := "fnReachedFrom", fn := fun _ => fun
  | [d] => { results := [.lit (.bool false)], args := [d] }
  | _ => none }
def FnReachedFromWrongFalsely : Prop := fnReachedFromRow.holds Try.pinned (OpenSpec.ofChange fnReachedFromWrong)

/-- 'laws.FnExactWeakLeft': WHATEVER THE INPUT: true; the input reads as it did. -/
def fnExactWeakLeftSpec : ChangeSpec := { name := "fnExactWeakLeft", fn := fun _ => fun
  | [d1, d2, d3] => { results := [.lit (.bool true)], args := [d1, d2, d3] }
  | _ => none }
def fnExactWeakLeftRow : OpenClaim := { program := "ytppbnfoagbipaah", sum := "76868383548efc0c51dd1942aed33e7bd054ace085f678fed6201de35e4bd029", func := "loop.example/slowworm/laws.FnExactWeakLeft", spec := "fnExactWeakLeft", apart := false }
def FnExactWeakLeftSaid : Prop := fnExactWeakLeftRow.holds Try.pinned (OpenSpec.ofChange fnExactWeakLeftSpec)

/-- ITS FALSE NEIGHBOUR: 'it returns false'. Refute it at one input. -/
def fnExactWeakLeftWrong : ChangeSpec := { name := "fnExactWeakLeft", fn := fun _ => fun
  | [d1, d2, d3] => { results := [.lit (.bool false)], args := [d1, d2, d3] }
  | _ => none }
def FnExactWeakLeftWrongFalsely : Prop := fnExactWeakLeftRow.holds Try.pinned (OpenSpec.ofChange fnExactWeakLeftWrong)

/-- 'laws.FnExactNameIn': WHATEVER THE INPUT: true; the input reads as it did. -/
def fnExactNameInSpec : ChangeSpec := { name := "fnExactNameIn", fn := fun _ => fun
  | [d1, d2] => { results := [.lit (.bool true)], args := [d1, d2] }
  | _ => none }
def fnExactNameInRow : OpenClaim := { program := "ytppbnfoagbipaah", sum := "76868383548efc0c51dd1942aed33e7bd054ace085f678fed6201de35e4bd029", func := "loop.example/slowworm/laws.FnExactNameIn", spec := "fnExactNameIn", apart := false }
def FnExactNameInSaid : Prop := fnExactNameInRow.holds Try.pinned (OpenSpec.ofChange fnExactNameInSpec)

/-- ITS FALSE NEIGHBOUR: 'it returns false'. Refute it at one input. -/
def fnExactNameInWrong : ChangeSpec := { name := "fnExactNameIn", fn := fun _ => fun
  | [d1, d2] => { results := [.lit (.bool false)], args := [d1, d2] }
  | _ => none }
def FnExactNameInWrongFalsely : Prop := fnExactNameInRow.holds Try.pinned (OpenSpec.ofChange fnExactNameInWrong)

/-- 'laws.FnTextTurned': WHATEVER THE INPUT: true; the input reads as it did. -/
def fnTextTurnedSpec : ChangeSpec := { name := "fnTextTurned", fn := fun _ => fun
  | [d] => { results := [.lit (.bool true)], args := [d] }
  | _ => none }
def fnTextTurnedRow : OpenClaim := { program := "ytppbnfoagbipaah", sum := "76868383548efc0c51dd1942aed33e7bd054ace085f678fed6201de35e4bd029", func := "loop.example/slowworm/laws.FnTextTurned", spec := "fnTextTurned", inPlace := ["internal/abi.NoEscape"], unfollowed := true, recurses := true, apart := false }
def FnTextTurnedSaid : Prop := fnTextTurnedRow.holds Try.pinned (OpenSpec.ofChange fnTextTurnedSpec)

/-- ITS FALSE NEIGHBOUR: 'it returns false'. Refute it at one input. -/
def fnTextTurnedWrong : ChangeSpec := { name := "fnTextTurned", fn := fun _ => fun
  | [d] => { results := [.lit (.bool false)], args := [d] }
  | _ => none }
def FnTextTurnedWrongFalsely : Prop := fnTextTurnedRow.holds Try.pinned (OpenSpec.ofChange fnTextTurnedWrong)

/-- 'laws.FnExactDropRoot': WHATEVER THE INPUT: true; the input reads as it did. -/
def fnExactDropRootSpec : ChangeSpec := { name := "fnExactDropRoot", fn := fun _ => fun
  | [d1, d2, d3] => { results := [.lit (.bool true)], args := [d1, d2, d3] }
  | _ => none }
def fnExactDropRootRow : OpenClaim := { program := "ytppbnfoagbipaah", sum := "76868383548efc0c51dd1942aed33e7bd054ace085f678fed6201de35e4bd029", func := "loop.example/slowworm/laws.FnExactDropRoot", spec := "fnExactDropRoot", apart := false }
def FnExactDropRootSaid : Prop := fnExactDropRootRow.holds Try.pinned (OpenSpec.ofChange fnExactDropRootSpec)

/-- ITS FALSE NEIGHBOUR: 'it returns false'. Refute it at one input. -/
def fnExactDropRootWrong : ChangeSpec := { name := "fnExactDropRoot", fn := fun _ => fun
  | [d1, d2, d3] => { results := [.lit (.bool false)], args := [d1, d2, d3] }
  | _ => none }
def FnExactDropRootWrongFalsely : Prop := fnExactDropRootRow.holds Try.pinned (OpenSpec.ofChange fnExactDropRootWrong)

/- THE SECOND FORM. 'bulk': how many values and letters a reading holds, each counted each time it is reached (what is shared counts as often as it is met; a slice's spare places count too). A statement '..UptoSaid' is the law's where the arguments, and the package variables that the reading takes, are together of bulk at most 1048576: NARROWER than '..Said'. Prove '..Said' where nothing that the law and all that it calls make is longer than what came in: it says more and counts as full. Else prove '..UptoSaid'. A law counts once. -/
mutual
def uptoBulk {H : Type} : DataW H → Nat
  | .lit (.string bytes) => bytes.length + 1
  | .lit _ => 1
  | .nil => 1
  | .ptr d => uptoBulk d + 1
  | .slice elems spare => uptoBulkAll elems + uptoBulkAll spare + 1
  | .agg parts => uptoBulkAll parts + 1
  | .iface _ d => uptoBulk d + 1
  | .map entries => uptoBulkEntries entries + 1
  | .held _ => 1
def uptoBulkAll {H : Type} : List (DataW H) → Nat
  | [] => 0
  | d :: r => uptoBulk d + uptoBulkAll r
def uptoBulkEntries {H : Type} : List (Lit × DataW H) → Nat
  | [] => 0
  | x :: r => uptoBulkEntry x + uptoBulkEntries r
def uptoBulkEntry {H : Type} : Lit × DataW H → Nat
  | (.string bytes, d) => bytes.length + uptoBulk d + 1
  | (_, d) => uptoBulk d + 1
 end
def uptoSmall : (H : Type) → List (DataW H) → Bool := fun _ ds => decide (uptoBulkAll ds ≤ 1048576)
def OpenSpec.upto (s : _root_.Go.ChangeSpec) : _root_.Go.OpenSpec := { _root_.Go.OpenSpec.ofChange s with cond := some uptoSmall }

/-- 'laws.FnExactReachedFrom', WHERE WHAT IT READS IS OF BULK AT MOST 1048576: true; the input reads as it did. -/
def fnExactReachedFromUptoRow : OpenClaim := { program := "ytppbnfoagbipaah", sum := "76868383548efc0c51dd1942aed33e7bd054ace085f678fed6201de35e4bd029", func := "loop.example/slowworm/laws.FnExactReachedFrom", spec := "fnExactReachedFrom", apart := false, narrowed := true }
def FnExactReachedFromUptoSaid : Prop := fnExactReachedFromUptoRow.holds Try.pinned (OpenSpec.upto fnExactReachedFromSpec)

/-- 'laws.FnReachedFrom', WHERE WHAT IT READS IS OF BULK AT MOST 1048576: true; the input reads as it did. -/
def fnReachedFromUptoRow : OpenClaim := { program := "ytppbnfoagbipaah", sum := "76868383548efc0c51dd1942aed33e7bd054ace085f678fed6201de35e4bd029", func := "loop.example/slowworm/laws.FnReachedFrom", spec := "fnReachedFrom", apart := false, narrowed := true }
def FnReachedFromUptoSaid : Prop := fnReachedFromUptoRow.holds Try.pinned (OpenSpec.upto fnReachedFromSpec)

/-- 'laws.FnExactWeakLeft', WHERE WHAT IT READS IS OF BULK AT MOST 1048576: true; the input reads as it did. -/
def fnExactWeakLeftUptoRow : OpenClaim := { program := "ytppbnfoagbipaah", sum := "76868383548efc0c51dd1942aed33e7bd054ace085f678fed6201de35e4bd029", func := "loop.example/slowworm/laws.FnExactWeakLeft", spec := "fnExactWeakLeft", apart := false, narrowed := true }
def FnExactWeakLeftUptoSaid : Prop := fnExactWeakLeftUptoRow.holds Try.pinned (OpenSpec.upto fnExactWeakLeftSpec)

/-- 'laws.FnExactNameIn', WHERE WHAT IT READS IS OF BULK AT MOST 1048576: true; the input reads as it did. -/
def fnExactNameInUptoRow : OpenClaim := { program := "ytppbnfoagbipaah", sum := "76868383548efc0c51dd1942aed33e7bd054ace085f678fed6201de35e4bd029", func := "loop.example/slowworm/laws.FnExactNameIn", spec := "fnExactNameIn", apart := false, narrowed := true }
def FnExactNameInUptoSaid : Prop := fnExactNameInUptoRow.holds Try.pinned (OpenSpec.upto fnExactNameInSpec)

/-- 'laws.FnTextTurned', WHERE WHAT IT READS IS OF BULK AT MOST 1048576: true; the input reads as it did. -/
def fnTextTurnedUptoRow : OpenClaim := { program := "ytppbnfoagbipaah", sum := "76868383548efc0c51dd1942aed33e7bd054ace085f678fed6201de35e4bd029", func := "loop.example/slowworm/laws.FnTextTurned", spec := "fnTextTurned", inPlace := ["internal/abi.NoEscape"], unfollowed := true, recurses := true, apart := false, narrowed := true }
def FnTextTurnedUptoSaid : Prop := fnTextTurnedUptoRow.holds Try.pinned (OpenSpec.upto fnTextTurnedSpec)

/-- 'laws.FnExactDropRoot', WHERE WHAT IT READS IS OF BULK AT MOST 1048576: true; the input reads as it did. -/
def fnExactDropRootUptoRow : OpenClaim := { program := "ytppbnfoagbipaah", sum := "76868383548efc0c51dd1942aed33e7bd054ace085f678fed6201de35e4bd029", func := "loop.example/slowworm/laws.FnExactDropRoot", spec := "fnExactDropRoot", apart := false, narrowed := true }
def FnExactDropRootUptoSaid : Prop := fnExactDropRootUptoRow.holds Try.pinned (OpenSpec.upto fnExactDropRootSpec)

end Rows
end Go.Proofs.Ytppbnfoagbipaah
