/-
  NARROWER THAN 'FOR EVERY INPUT', by the rows' own cells (each row's printed sentence says how): FnExactGenOk: loops.
  DERIVED. THE GIVEN ROWS OF THIS SEAT. 10 by the template 'for every input the law returns true; each argument reads behind the call as it read before'; 0 by the template 'total and deterministic' (their statements: YtpnamllkeaaeeaaTotals.lean).
  GIVEN WITH THE SEED: the statements are not yours to turn. If you find one false, say at which input.
  Laid BY PROGRAM, IN A SANDBOX (cutbox-rows.mjs): the forced cells as the released guide's own fill.sh prints them over the translation d4fcfe026935aaf4… (all of the seat's roots in one cut). By AI agents, Wed Nov 11 2026. No macro, syntax, notation, axiom, sorry.
-/
import Derived.Test.YtpnamllkeaaeeaaChecked
import GoSem.Claim
import GoSem.ClaimJoined
import GoSem.ClaimMapViews
import Derived.JoinedTies
import Derived.KernelRfl
namespace Go.Proofs.Ytpnamllkeaaeeaa
/- THE CELL 'sum', in the pinned program and in every row, IS THE sha256 OF THE DUMP (.gsa) THAT YtpnamllkeaaeeaaProg.lean LOADS. Nothing in Lean hashes anything: it is a label: what it is worth is what the hold of that sum in a sandbox is worth. -/
noncomputable def Try.pinned : Pinned := { name := "ytpnamllkeaaeeaa", sum := "d4fcfe026935aaf4d4ca350e697b004778bb57b8c2487fcc13c843e9c97c0dc8", checked := Try.checked }
namespace Rows
def none {H : Type} : Left H := { results := [], args := [] }

/-- 'laws.FnGenOk': WHATEVER THE INPUT: true; the input reads as it did. -/
def fnGenOkSpec : ChangeSpec := { name := "fnGenOk", fn := fun _ => fun
  | [d] => { results := [.lit (.bool true)], args := [d] }
  | _ => none }
def fnGenOkRow : OpenClaim := { program := "ytpnamllkeaaeeaa", sum := "d4fcfe026935aaf4d4ca350e697b004778bb57b8c2487fcc13c843e9c97c0dc8", func := "loop.example/slowworm/laws.FnGenOk", spec := "fnGenOk", recurses := true, apart := false }
def FnGenOkSaid : Prop := fnGenOkRow.holds Try.pinned (OpenSpec.ofChange fnGenOkSpec)

/-- ITS FALSE NEIGHBOUR: 'it returns false'. Refute it at one input. -/
def fnGenOkWrong : ChangeSpec := { name := "fnGenOk", fn := fun _ => fun
  | [d] => { results := [.lit (.bool false)], args := [d] }
  | _ => none }
def FnGenOkWrongFalsely : Prop := fnGenOkRow.holds Try.pinned (OpenSpec.ofChange fnGenOkWrong)

/-- 'laws.FnExactGenOk': WHATEVER THE INPUT: true; the input reads as it did. -/
def fnExactGenOkSpec : ChangeSpec := { name := "fnExactGenOk", fn := fun _ => fun
  | [d] => { results := [.lit (.bool true)], args := [d] }
  | _ => none }
def fnExactGenOkRow : OpenClaim := { program := "ytpnamllkeaaeeaa", sum := "d4fcfe026935aaf4d4ca350e697b004778bb57b8c2487fcc13c843e9c97c0dc8", func := "loop.example/slowworm/laws.FnExactGenOk", spec := "fnExactGenOk", recurses := true, loops := true, apart := false }
def FnExactGenOkSaid : Prop := fnExactGenOkRow.holds Try.pinned (OpenSpec.ofChange fnExactGenOkSpec)

/-- ITS FALSE NEIGHBOUR: 'it returns false'. Refute it at one input. -/
def fnExactGenOkWrong : ChangeSpec := { name := "fnExactGenOk", fn := fun _ => fun
  | [d] => { results := [.lit (.bool false)], args := [d] }
  | _ => none }
def FnExactGenOkWrongFalsely : Prop := fnExactGenOkRow.holds Try.pinned (OpenSpec.ofChange fnExactGenOkWrong)

/-- 'laws.FnExactCountsOf': WHATEVER THE INPUT: true; the input reads as it did. -/
def fnExactCountsOfSpec : ChangeSpec := { name := "fnExactCountsOf", fn := fun _ => fun
  | [d1, d2] => { results := [.lit (.bool true)], args := [d1, d2] }
  | _ => none }
def fnExactCountsOfRow : OpenClaim := { program := "ytpnamllkeaaeeaa", sum := "d4fcfe026935aaf4d4ca350e697b004778bb57b8c2487fcc13c843e9c97c0dc8", func := "loop.example/slowworm/laws.FnExactCountsOf", spec := "fnExactCountsOf", apart := false }
def FnExactCountsOfSaid : Prop := fnExactCountsOfRow.holds Try.pinned (OpenSpec.ofChange fnExactCountsOfSpec)

/-- ITS FALSE NEIGHBOUR: 'it returns false'. Refute it at one input. -/
def fnExactCountsOfWrong : ChangeSpec := { name := "fnExactCountsOf", fn := fun _ => fun
  | [d1, d2] => { results := [.lit (.bool false)], args := [d1, d2] }
  | _ => none }
def FnExactCountsOfWrongFalsely : Prop := fnExactCountsOfRow.holds Try.pinned (OpenSpec.ofChange fnExactCountsOfWrong)

/-- 'laws.FnExactMergePlan': WHATEVER THE INPUT: true; the input reads as it did. -/
def fnExactMergePlanSpec : ChangeSpec := { name := "fnExactMergePlan", fn := fun _ => fun
  | [d] => { results := [.lit (.bool true)], args := [d] }
  | _ => none }
def fnExactMergePlanRow : OpenClaim := { program := "ytpnamllkeaaeeaa", sum := "d4fcfe026935aaf4d4ca350e697b004778bb57b8c2487fcc13c843e9c97c0dc8", func := "loop.example/slowworm/laws.FnExactMergePlan", spec := "fnExactMergePlan", unfollowed := true, recurses := true, apart := false }
def FnExactMergePlanSaid : Prop := fnExactMergePlanRow.holds Try.pinned (OpenSpec.ofChange fnExactMergePlanSpec)

/-- ITS FALSE NEIGHBOUR: 'it returns false'. Refute it at one input. -/
def fnExactMergePlanWrong : ChangeSpec := { name := "fnExactMergePlan", fn := fun _ => fun
  | [d] => { results := [.lit (.bool false)], args := [d] }
  | _ => none }
def FnExactMergePlanWrongFalsely : Prop := fnExactMergePlanRow.holds Try.pinned (OpenSpec.ofChange fnExactMergePlanWrong)

/-- 'laws.FnMergePlan': WHATEVER THE INPUT: true; the input reads as it did. -/
def fnMergePlanSpec : ChangeSpec := { name := "fnMergePlan", fn := fun _ => fun
  | [d] => { results := [.lit (.bool true)], args := [d] }
  | _ => none }
def fnMergePlanRow : OpenClaim := { program := "ytpnamllkeaaeeaa", sum := "d4fcfe026935aaf4d4ca350e697b004778bb57b8c2487fcc13c843e9c97c0dc8", func := "loop.example/slowworm/laws.FnMergePlan", spec := "fnMergePlan", unfollowed := true, recurses := true, apart := false }
def FnMergePlanSaid : Prop := fnMergePlanRow.holds Try.pinned (OpenSpec.ofChange fnMergePlanSpec)

/-- ITS FALSE NEIGHBOUR: 'it returns false'. Refute it at one input. -/
def fnMergePlanWrong : ChangeSpec := { name := "fnMergePlan", fn := fun _ => fun
  | [d] => { results := [.lit (.bool false)], args := [d] }
  | _ => none }
def FnMergePlanWrongFalsely : Prop := fnMergePlanRow.holds Try.pinned (OpenSpec.ofChange fnMergePlanWrong)

/-- 'laws.FnExactReachedFrom': WHATEVER THE INPUT: true; the input reads as it did. -/
def fnExactReachedFromSpec : ChangeSpec := { name := "fnExactReachedFrom", fn := fun _ => fun
  | [d1, d2] => { results := [.lit (.bool true)], args := [d1, d2] }
  | _ => none }
def fnExactReachedFromRow : OpenClaim := { program := "ytpnamllkeaaeeaa", sum := "d4fcfe026935aaf4d4ca350e697b004778bb57b8c2487fcc13c843e9c97c0dc8", func := "loop.example/slowworm/laws.FnExactReachedFrom", spec := "fnExactReachedFrom", apart := false }
def FnExactReachedFromSaid : Prop := fnExactReachedFromRow.holds Try.pinned (OpenSpec.ofChange fnExactReachedFromSpec)

/-- ITS FALSE NEIGHBOUR: 'it returns false'. Refute it at one input. -/
def fnExactReachedFromWrong : ChangeSpec := { name := "fnExactReachedFrom", fn := fun _ => fun
  | [d1, d2] => { results := [.lit (.bool false)], args := [d1, d2] }
  | _ => none }
def FnExactReachedFromWrongFalsely : Prop := fnExactReachedFromRow.holds Try.pinned (OpenSpec.ofChange fnExactReachedFromWrong)

/-- 'laws.FnReachedFrom': WHATEVER THE INPUT: true; the input reads as it did. -/
def fnReachedFromSpec : ChangeSpec := { name := "fnReachedFrom", fn := fun _ => fun
  | [d] => { results := [.lit (.bool true)], args := [d] }
  | _ => none }
def fnReachedFromRow : OpenClaim := { program := "ytpnamllkeaaeeaa", sum := "d4fcfe026935aaf4d4ca350e697b004778bb57b8c2487fcc13c843e9c97c0dc8", func := "loop.example/slowworm/laws.FnReachedFrom", spec := "fnReachedFrom", apart := false }
def FnReachedFromSaid : Prop := fnReachedFromRow.holds Try.pinned (OpenSpec.ofChange fnReachedFromSpec)

/-- ITS FALSE NEIGHBOUR: 'it returns false'. Refute it at one input. -/
def fnReachedFromWrong : ChangeSpec := { name := "fnReachedFrom", fn := fun _ => fun
  | [d] => { results := [.lit (.bool false)], args := [d] }
  | _ => none }
def FnReachedFromWrongFalsely : Prop := fnReachedFromRow.holds Try.pinned (OpenSpec.ofChange fnReachedFromWrong)

/-- 'laws.FnExactWeakLeft': WHATEVER THE INPUT: true; the input reads as it did. -/
def fnExactWeakLeftSpec : ChangeSpec := { name := "fnExactWeakLeft", fn := fun _ => fun
  | [d1, d2, d3] => { results := [.lit (.bool true)], args := [d1, d2, d3] }
  | _ => none }
def fnExactWeakLeftRow : OpenClaim := { program := "ytpnamllkeaaeeaa", sum := "d4fcfe026935aaf4d4ca350e697b004778bb57b8c2487fcc13c843e9c97c0dc8", func := "loop.example/slowworm/laws.FnExactWeakLeft", spec := "fnExactWeakLeft", apart := false }
def FnExactWeakLeftSaid : Prop := fnExactWeakLeftRow.holds Try.pinned (OpenSpec.ofChange fnExactWeakLeftSpec)

/-- ITS FALSE NEIGHBOUR: 'it returns false'. Refute it at one input. -/
def fnExactWeakLeftWrong : ChangeSpec := { name := "fnExactWeakLeft", fn := fun _ => fun
  | [d1, d2, d3] => { results := [.lit (.bool false)], args := [d1, d2, d3] }
  | _ => none }
def FnExactWeakLeftWrongFalsely : Prop := fnExactWeakLeftRow.holds Try.pinned (OpenSpec.ofChange fnExactWeakLeftWrong)

/-- 'laws.FnExactDropRoot': WHATEVER THE INPUT: true; the input reads as it did. -/
def fnExactDropRootSpec : ChangeSpec := { name := "fnExactDropRoot", fn := fun _ => fun
  | [d1, d2, d3] => { results := [.lit (.bool true)], args := [d1, d2, d3] }
  | _ => none }
def fnExactDropRootRow : OpenClaim := { program := "ytpnamllkeaaeeaa", sum := "d4fcfe026935aaf4d4ca350e697b004778bb57b8c2487fcc13c843e9c97c0dc8", func := "loop.example/slowworm/laws.FnExactDropRoot", spec := "fnExactDropRoot", apart := false }
def FnExactDropRootSaid : Prop := fnExactDropRootRow.holds Try.pinned (OpenSpec.ofChange fnExactDropRootSpec)

/-- ITS FALSE NEIGHBOUR: 'it returns false'. Refute it at one input. -/
def fnExactDropRootWrong : ChangeSpec := { name := "fnExactDropRoot", fn := fun _ => fun
  | [d1, d2, d3] => { results := [.lit (.bool false)], args := [d1, d2, d3] }
  | _ => none }
def FnExactDropRootWrongFalsely : Prop := fnExactDropRootRow.holds Try.pinned (OpenSpec.ofChange fnExactDropRootWrong)

/-- 'laws.FnExactTrialOf': WHATEVER THE INPUT: true; the input reads as it did. -/
def fnExactTrialOfSpec : ChangeSpec := { name := "fnExactTrialOf", fn := fun _ => fun
  | [d1, d2, d3] => { results := [.lit (.bool true)], args := [d1, d2, d3] }
  | _ => none }
def fnExactTrialOfRow : OpenClaim := { program := "ytpnamllkeaaeeaa", sum := "d4fcfe026935aaf4d4ca350e697b004778bb57b8c2487fcc13c843e9c97c0dc8", func := "loop.example/slowworm/laws.FnExactTrialOf", spec := "fnExactTrialOf", apart := false }
def FnExactTrialOfSaid : Prop := fnExactTrialOfRow.holds Try.pinned (OpenSpec.ofChange fnExactTrialOfSpec)

/-- ITS FALSE NEIGHBOUR: 'it returns false'. Refute it at one input. -/
def fnExactTrialOfWrong : ChangeSpec := { name := "fnExactTrialOf", fn := fun _ => fun
  | [d1, d2, d3] => { results := [.lit (.bool false)], args := [d1, d2, d3] }
  | _ => none }
def FnExactTrialOfWrongFalsely : Prop := fnExactTrialOfRow.holds Try.pinned (OpenSpec.ofChange fnExactTrialOfWrong)

/- THE SECOND FORM. 'bulk': how many values and letters a reading holds, each counted each time it is reached (what is shared counts as often as it is met; a slice's spare places count too). A statement '..UptoSaid' is the law's where the arguments, and the package variables that the reading takes, are together of bulk at most 1048576: NARROWER than '..Said'. Prove '..Said' where nothing that the law and all that it calls make is longer than what came in: it says more and counts as full. Else prove '..UptoSaid'. A law counts once. -/
mutual
def uptoBulk {H : Type} : DataW H → Nat
  | .lit (.string bytes) => bytes.length + 1
  | .lit _ => 1
  | .nil => 1
  | .ptr d => uptoBulk d + 1
  | .slice elems spare => uptoBulkAll elems + uptoBulkAll spare + 1
  | .agg parts => uptoBulkAll parts + 1
  | .iface _ d => uptoBulk d + 1
  | .map entries => uptoBulkEntries entries + 1
  | .held _ => 1
def uptoBulkAll {H : Type} : List (DataW H) → Nat
  | [] => 0
  | d :: r => uptoBulk d + uptoBulkAll r
def uptoBulkEntries {H : Type} : List (Lit × DataW H) → Nat
  | [] => 0
  | x :: r => uptoBulkEntry x + uptoBulkEntries r
def uptoBulkEntry {H : Type} : Lit × DataW H → Nat
  | (.string bytes, d) => bytes.length + uptoBulk d + 1
  | (_, d) => uptoBulk d + 1
 end
def uptoSmall : (H : Type) → List (DataW H) → Bool := fun _ ds => decide (uptoBulkAll ds ≤ 1048576)
def OpenSpec.upto (s : _root_.Go.ChangeSpec) : _root_.Go.OpenSpec := { _root_.Go.OpenSpec.ofChange s with cond := some uptoSmall }

/-- 'laws.FnGenOk', WHERE WHAT IT READS IS OF BULK AT MOST 1048576: true; the input reads as it did. -/
def fnGenOkUptoRow : OpenClaim := { program := "ytpnamllkeaaeeaa", sum := "d4fcfe026935aaf4d4ca350e697b004778bb57b8c2487fcc13c843e9c97c0dc8", func := "loop.example/slowworm/laws.FnGenOk", spec := "fnGenOk", recurses := true, apart := false, narrowed := true }
def FnGenOkUptoSaid : Prop := fnGenOkUptoRow.holds Try.pinned (OpenSpec.upto fnGenOkSpec)

/-- 'laws.FnExactGenOk', WHERE WHAT IT READS IS OF BULK AT MOST 1048576: true; the input reads as it did. -/
def fnExactGenOkUptoRow : OpenClaim := { program := "ytpnamllkeaaeeaa", sum := "d4fcfe026935aaf4d4ca350e697b004778bb57b8c2487fcc13c843e9c97c0dc8", func := "loop.example/slowworm/laws.FnExactGenOk", spec := "fnExactGenOk", recurses := true, loops := true, apart := false, narrowed := true }
def FnExactGenOkUptoSaid : Prop := fnExactGenOkUptoRow.holds Try.pinned (OpenSpec.upto fnExactGenOkSpec)

/-- 'laws.FnExactCountsOf', WHERE WHAT IT READS IS OF BULK AT MOST 1048576: true; the input reads as it did. -/
def fnExactCountsOfUptoRow : OpenClaim := { program := "ytpnamllkeaaeeaa", sum := "d4fcfe026935aaf4d4ca350e697b004778bb57b8c2487fcc13c843e9c97c0dc8", func := "loop.example/slowworm/laws.FnExactCountsOf", spec := "fnExactCountsOf", apart := false, narrowed := true }
def FnExactCountsOfUptoSaid : Prop := fnExactCountsOfUptoRow.holds Try.pinned (OpenSpec.upto fnExactCountsOfSpec)

/-- 'laws.FnExactMergePlan', WHERE WHAT IT READS IS OF BULK AT MOST 1048576: true; the input reads as it did. -/
def fnExactMergePlanUptoRow : OpenClaim := { program := "ytpnamllkeaaeeaa", sum := "d4fcfe026935aaf4d4ca350e697b004778bb57b8c2487fcc13c843e9c97c0dc8", func := "loop.example/slowworm/laws.FnExactMergePlan", spec := "fnExactMergePlan", unfollowed := true, recurses := true, apart := false, narrowed := true }
def FnExactMergePlanUptoSaid : Prop := fnExactMergePlanUptoRow.holds Try.pinned (OpenSpec.upto fnExactMergePlanSpec)

/-- 'laws.FnMergePlan', WHERE WHAT IT READS IS OF BULK AT MOST 1048576: true; the input reads as it did. -/
def fnMergePlanUptoRow : OpenClaim := { program := "ytpnamllkeaaeeaa", sum := "d4fcfe026935aaf4d4ca350e697b004778bb57b8c2487fcc13c843e9c97c0dc8", func := "loop.example/slowworm/laws.FnMergePlan", spec := "fnMergePlan", unfollowed := true, recurses := true, apart := false, narrowed := true }
def FnMergePlanUptoSaid : Prop := fnMergePlanUptoRow.holds Try.pinned (OpenSpec.upto fnMergePlanSpec)

/-- 'laws.FnExactReachedFrom', WHERE WHAT IT READS IS OF BULK AT MOST 1048576: true; the input reads as it did. -/
def fnExactReachedFromUptoRow : OpenClaim := { program := "ytpnamllkeaaeeaa", sum := "d4fcfe026935aaf4d4ca350e697b004778bb57b8c2487fcc13c843e9c97c0dc8", func := "loop.example/slowworm/laws.FnExactReachedFrom", spec := "fnExactReachedFrom", apart := false, narrowed := true }
def FnExactReachedFromUptoSaid : Prop := fnExactReachedFromUptoRow.holds Try.pinned (OpenSpec.upto fnExactReachedFromSpec)

/-- 'laws.FnReachedFrom', WHERE WHAT IT READS IS OF BULK AT MOST 1048576: true; the input reads as it did. -/
def fnReachedFromUptoRow : OpenClaim := { program := "ytpnamllkeaaeeaa", sum := "d4fcfe026935aaf4d4ca350e697b004778bb57b8c2487fcc13c843e9c97c0dc8", func := "loop.example/slowworm/laws.FnReachedFrom", spec := "fnReachedFrom", apart := false, narrowed := true }
def FnReachedFromUptoSaid : Prop := fnReachedFromUptoRow.holds Try.pinned (OpenSpec.upto fnReachedFromSpec)

/-- 'laws.FnExactWeakLeft', WHERE WHAT IT READS IS OF BULK AT MOST 1048576: true; the input reads as it did. -/
def fnExactWeakLeftUptoRow : OpenClaim := { program := "ytpnamllkeaaeeaa", sum := "d4fcfe026935aaf4d4ca350e697b004778bb57b8c2487fcc13c843e9c97c0dc8", func := "loop.example/slowworm/laws.FnExactWeakLeft", spec := "fnExactWeakLeft", apart := false, narrowed := true }
def FnExactWeakLeftUptoSaid : Prop := fnExactWeakLeftUptoRow.holds Try.pinned (OpenSpec.upto fnExactWeakLeftSpec)

/-- 'laws.FnExactDropRoot', WHERE WHAT IT READS IS OF BULK AT MOST 1048576: true; the input reads as it did. -/
def fnExactDropRootUptoRow : OpenClaim := { program := "ytpnamllkeaaeeaa", sum := "d4fcfe026935aaf4d4ca350e697b004778bb57b8c2487fcc13c843e9c97c0dc8", func := "loop.example/slowworm/laws.FnExactDropRoot", spec := "fnExactDropRoot", apart := false, narrowed := true }
def FnExactDropRootUptoSaid : Prop := fnExactDropRootUptoRow.holds Try.pinned (OpenSpec.upto fnExactDropRootSpec)

/-- 'laws.FnExactTrialOf', WHERE WHAT IT READS IS OF BULK AT MOST 1048576: true; the input reads as it did. -/
def fnExactTrialOfUptoRow : OpenClaim := { program := "ytpnamllkeaaeeaa", sum := "d4fcfe026935aaf4d4ca350e697b004778bb57b8c2487fcc13c843e9c97c0dc8", func := "loop.example/slowworm/laws.FnExactTrialOf", spec := "fnExactTrialOf", apart := false, narrowed := true }
def FnExactTrialOfUptoSaid : Prop := fnExactTrialOfUptoRow.holds Try.pinned (OpenSpec.upto fnExactTrialOfSpec)

end Rows
end Go.Proofs.Ytpnamllkeaaeeaa
