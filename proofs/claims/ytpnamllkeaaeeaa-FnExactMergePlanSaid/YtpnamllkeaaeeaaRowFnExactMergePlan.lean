/- FnExactMergePlan: the program plans merges as the reference does, for every list of at most 2^20 numbers. -/
import Derived.Test.YtpnamllkeaaeeaaRows
import Derived.Test.YtpnamllkeaaeeaaPureFnExactMergePlan
import Derived.WalkKit
import Derived.ProofKit
import Derived.OpenShut
import Derived.ShutString
import Derived.ChangeOld
import Derived.Below
import Derived.SizedLaws
import Derived.Lib.SmallJoins
import Derived.Deep.Matrix
import Derived.SliceStrings
import Derived.Test.YtpnamllkeaaeeaaWSized
namespace Go.Proofs.Ytpnamllkeaaeeaa.fnExactMergePlan
open Go.ChangeShapes Go.WideShapes Go.ChangeAt Go.RowKit Go.Joins Go.Deep
open Go.ChangeMaps (open_string shut_string)
set_option linter.unusedVariables false
set_option linter.unusedSimpArgs false
open Go.Proofs.YtpnamllkeaaeeaaW.PrintWords Go.Proofs.YtpnamllkeaaeeaaW.PrintMore
/-! ### An argument's slice, read: whatever its elements are -/
section
variable {H : Type} {enc : TypeId × Value → H} {P : Program} {w : World} {base : Nat} {held : Bool}
theorem open_C {α : Type} [Inhabited α] (d : Kd α) (Q : α → Prop) {t e : TypeId} (ht : P.underlying t = some (.slice e)) (hC : P.cellsOf e = d.sz)
    (elem : ∀ (cs : List Value) (x : DataW H × List MemPlace) (n : Nat), DataW.trod enc P w base (fun _ => true) held n e cs = some x → ∃ p, d.K w p cs ∧ Q p)
    {fuel : Nat} {cs : List Value} {x : DataW H × List MemPlace} (h : DataW.trod enc P w base (fun _ => true) held fuel t cs = some x) :
    ∃ (A : Option Addr) (c : Nat) (xs : List α), cs = [.slice A xs.length c] ∧ xs.length ≤ c ∧ d.C w A xs.length xs ∧ ∀ y ∈ xs, Q y := by
  rcases open_slice ht h with ⟨hcs, _⟩ | ⟨a, len, cap, m, n, D, Pl, hcs, hb, hl, hm, hmm, hx, hi⟩
  · exact ⟨none, 0, [], hcs, Nat.le_refl _, ⟨rfl, by simp, fun h0 => absurd h0 (by simp)⟩, by simp⟩
  · have hm' : m = cap := by simpa using hmm
    have each : ∀ i, i < len → ∃ p, (∃ cs', w.cells? base (a.add (i * P.cellsOf e)) (P.cellsOf e) = some cs' ∧ d.K w p cs') ∧ Q p := by
      intro i hlt
      obtain ⟨cs', hc, ht'⟩ := hi i (by omega)
      obtain ⟨p, hK, hQ⟩ := elem cs' _ _ ht'
      exact ⟨p, ⟨cs', hc, hK⟩, hQ⟩
    obtain ⟨f, hf⟩ := choose_lt each
    have hlen : ((List.range len).map f).length = len := by simp
    refine ⟨some a, cap, (List.range len).map f, by rw [hlen]; exact hcs, by rw [hlen]; exact hl, ?_, ?_⟩
    · refine ⟨rfl, by rw [hlen]; have := Nat.le_trans hl hm; simpa [maxLen] using this, fun _ => ⟨a, rfl, fun j p hj => ?_⟩⟩
      have hj' : j < len := by
        have := (List.getElem?_eq_some_iff.1 hj).1
        rwa [hlen] at this
      have hp : p = f j := by
        have : ((List.range len).map f)[j]? = some (f j) := by simp [hj']
        rw [this] at hj
        exact (Option.some.inj hj).symm
      obtain ⟨⟨cs', hc, hK⟩, _⟩ := hf j hj'
      obtain ⟨_, hcl, hat⟩ := World.cells?_some hc
      subst hp
      refine ⟨cs', d.K_len hK, hK, fun i u hu => ?_⟩
      have hil : i < P.cellsOf e := by
        have := (List.getElem?_eq_some_iff.1 hu).1
        omega
      have h2 := hat i hil
      rw [hu] at h2
      rw [← hC, ← Go.Deep.add_add]
      exact h2
    · intro y hy
      obtain ⟨i, hir, rfl⟩ := List.mem_map.1 hy
      exact (hf i (List.mem_range.1 hir)).2
theorem elem_int {k : IntKind} {e : TypeId} (he : P.underlying e = some (.int k)) (cs : List Value) (x : DataW H × List MemPlace) (n : Nat) (h : DataW.trod enc P w base (fun _ => true) held n e cs = some x) :
    ∃ p, (Kd.int k).K w p cs ∧ (Lit.int k p).wf = true := by
  obtain ⟨p, hcs, _, hw⟩ := DataW.trod_int he h
  exact ⟨p, hcs, hw⟩
theorem elem_string {e : TypeId} (he : P.underlying e = some .string) (cs : List Value) (x : DataW H × List MemPlace) (n : Nat) (h : DataW.trod enc P w base (fun _ => true) held n e cs = some x) :
    ∃ p, Kd.string.K w p cs ∧ p.size ≤ maxLen := by
  obtain ⟨p, hcs, _, hw⟩ := DataW.trod_string he h
  exact ⟨p, hcs, hw⟩
theorem elem_slice {α : Type} [Inhabited α] (d : Kd α) (Q : α → Prop) {t e : TypeId} (ht : P.underlying t = some (.slice e)) (hC : P.cellsOf e = d.sz)
    (elem : ∀ (cs : List Value) (x : DataW H × List MemPlace) (n : Nat), DataW.trod enc P w base (fun _ => true) held n e cs = some x → ∃ p, d.K w p cs ∧ Q p)
    (cs : List Value) (x : DataW H × List MemPlace) (n : Nat) (h : DataW.trod enc P w base (fun _ => true) held n t cs = some x) :
    ∃ p, (Kd.slice e d).K w p cs ∧ (p.length ≤ maxLen ∧ ∀ y ∈ p, Q y) := by
  obtain ⟨A, c, xs, hcs, hl, hc, hq⟩ := open_C d Q ht hC elem h
  exact ⟨xs, ⟨A, c, hcs, hl, hc⟩, by have := hc.2.1; simpa [maxLen] using this, hq⟩
/-- The argument itself. -/
theorem open_arg {α : Type} [Inhabited α] (d : Kd α) (Q : α → Prop) {t e : TypeId} (ht : P.underlying t = some (.slice e)) (hC : P.cellsOf e = d.sz)
    (elem : ∀ (cs : List Value) (x : DataW H × List MemPlace) (n : Nat), DataW.trod enc P w base (fun _ => true) held n e cs = some x → ∃ p, d.K w p cs ∧ Q p)
    {r : Reach} {b0 : Nat} {v : Value} {x : DataW H} {ps : List MemPlace} (hv : Value.okWide P w r b0 t v) (h : DataW.Trod enc P w base (fun _ => true) held t v x ps) :
    ∃ (A : Option Addr) (c : Nat) (xs : List α), v = .slice A xs.length c ∧ xs.length ≤ c ∧ d.C w A xs.length xs ∧ ∀ y ∈ xs, Q y := by
  obtain ⟨a0, len, cap, rfl⟩ := okWide_slice ht hv
  obtain ⟨fuel, hf⟩ := h
  obtain ⟨A, c, xs, hcs, hl, hc, hq⟩ := open_C d Q ht hC elem hf
  refine ⟨A, c, xs, ?_, hl, hc, hq⟩
  simpa [Value.cells] using hcs
end

theorem own : ownKnob Try.prog.godebug = none := by kernel_rfl
theorem laidOut : laidOutB Try.prog = true := by kernel_rfl
def IsRow (k : IntKind) (w : World) (a : Option Addr) (len cap : Nat) (zs : List Int) : Prop :=
  (a = none ∧ len = 0 ∧ cap = 0 ∧ zs = []) ∨
  ∃ x, a = some x ∧ len ≤ cap ∧ cap ≤ maxLen ∧ zs.length = cap ∧ (∀ i, i < zs.length → w.cell? (x.add i) = some (.int k (zs.getD i 0))) ∧ ∀ n ∈ zs, (Lit.int k n).wf = true
set_option maxRecDepth 100000 in
theorem lifted (os : Os) (started : os.Started) (H : Type) (enc : TypeId × Value → H) :
    ReturnsInHanded {} Try.checked os 6 .any (Rows.fnExactMergePlanSpec.pre6 enc Try.prog Try.f6 Rows.fnExactMergePlanRow.domain false) (Rows.fnExactMergePlanSpec.post enc Try.prog Try.f6 false true false false) := by
  refine returnsInHanded_of_change_sized (C := Try.checked) own started (by kernel_rfl) Try.func6
    (ChangeSpec.witness6 (enc := enc) (C := Try.checked) false ⟨#[], #[.slice none 0 0], []⟩ 8 (by kernel_rfl) (by kernel_rfl) (by kernel_rfl) (by kernel_rfl)) ?_
  intro W base args ds gs before hval0 hW hcnd hsz0 _
  have hsz : (DataW.weightsEach Try.prog (Try.f6.params.toList ++ Rows.fnExactMergePlanSpec.plain.varTypes Try.prog) (ds ++ gs)).all (· ≤ reachBytes) = true := hsz0
  have hval : ∀ (j : Nat) t v, Try.f6.params[j]? = some t → args[j]? = some v → Value.okWide Try.prog W .any base t v := hval0
  have hW' := hW
  obtain ⟨p, q, hA0, hV, rfl, hfz, hnd⟩ := hW
  have hA : DataW.TrodAll enc Try.prog W 0 (fun _ => true) true Try.f6.params.toList args.toList ds p := hA0
  rw [Try.params6] at hA hval hsz
  obtain ⟨v0, vs0, d0, ds0, p0, q0, hargs, rfl, rfl, h0, r0⟩ := trodAll_cons hA
  obtain ⟨rfl, rfl, rfl⟩ := trodAll_nil r0
  obtain rfl : args = #[v0] := by cases args; simp_all
  obtain ⟨rfl, rfl⟩ := trodVars_none hV
  have k0 := h0
  have lt0 : ∀ x ∈ p0, x.block < W.heap.size := by obtain ⟨m, hm⟩ := k0; exact DataW.trod_lt m _ _ _ hm
  obtain ⟨A0, c0, l0, rfl, hc0, hr0, hq0⟩ := open_arg (Kd.int .i64) (fun x => (Lit.int .i64 x).wf = true) Try.underlying33 (by kernel_rfl) (elem_int Try.underlying3) (hval 0 33 v0 rfl rfl) h0
  refine (Pure.FnExactMergePlan _ _ l0 W hr0 hc0).mono fun e W' ⟨he, bel⟩ => ?_
  subst he
  exact ⟨_, rfl, _, _, _, [], _, [], hW', trodAll_mk1 (shut_bool Try.underlying4 _), (trodAll_cons_mk (Below.trod laidOut (by kernel_rfl) (of_decide_eq_true (by kernel_rfl)) k0 bel lt0) trodAll_mk0), rfl, bel.frame _, fun h => by cases h⟩
theorem over : Rows.fnExactMergePlanRow.holds Try.pinned (OpenSpec.ofChange Rows.fnExactMergePlanSpec) :=
  OpenClaim.holds_of_wide 6 Try.f6 rfl rfl rfl rfl rfl rfl rfl ⟨rfl, rfl, rfl, rfl, rfl⟩ rfl rfl rfl rfl rfl (by kernel_rfl) Try.func6 (by kernel_rfl)
    (of_decide_eq_true (by kernel_rfl)) (by unfold Func.isWrapper; first | (rw [if_pos (by decide +kernel)]; kernel_rfl) | (rw [if_neg (by decide +kernel)]; exact ⟨rfl, rfl⟩))
    (fun os started H enc _ => lifted os started H enc)
theorem proved : Rows.FnExactMergePlanSaid := over
#print axioms proved
end Go.Proofs.Ytpnamllkeaaeeaa.fnExactMergePlan
namespace Go.Proofs.Ytpnamllkeaaeeaa
/-- The row, under a short name, for the claim. -/
theorem fnExactMergePlan_holds : Rows.FnExactMergePlanSaid := fnExactMergePlan.proved
end Go.Proofs.Ytpnamllkeaaeeaa
