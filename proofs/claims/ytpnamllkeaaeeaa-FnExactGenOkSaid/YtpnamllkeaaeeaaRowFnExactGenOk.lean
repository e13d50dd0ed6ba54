/- FnExactGenOk: the program judges generator steps as the reference does, for all of at most 2^20 steps. -/
import Derived.Test.YtpnamllkeaaeeaaRows
import Derived.Test.YtpnamllkeaaeeaaPureFnExactGenOk
import Derived.WalkKit
import Derived.ProofKit
import Derived.OpenShut
import Derived.ShutString
import Derived.ChangeOld
import Derived.Below
import Derived.SizedLaws
import Derived.Lib.SmallJoins
import Derived.Deep.Matrix
import Derived.SliceStrings
import Derived.Test.YtpnamllkeaaeeaaWSized
namespace Go.Proofs.Ytpnamllkeaaeeaa.fnExactGenOk
open Go.ChangeShapes Go.WideShapes Go.ChangeAt Go.RowKit Go.Joins Go.Deep
open Go.ChangeMaps (open_string shut_string)
set_option linter.unusedVariables false
set_option linter.unusedSimpArgs false
open Go.Proofs.YtpnamllkeaaeeaaW.PrintWords Go.Proofs.YtpnamllkeaaeeaaW.PrintMore Go.Proofs.Ytpnamllkeaaeeaa.XFnExactGenOk
instance : Inhabited S59 := ⟨z59⟩
/-! ### An argument's slice, read: whatever its elements are -/
section
variable {H : Type} {enc : TypeId × Value → H} {P : Program} {w : World} {base : Nat} {held : Bool}
theorem open_C {α : Type} [Inhabited α] (d : Kd α) (Q : α → Prop) {t e : TypeId} (ht : P.underlying t = some (.slice e)) (hC : P.cellsOf e = d.sz)
    (elem : ∀ (cs : List Value) (x : DataW H × List MemPlace) (n : Nat), DataW.trod enc P w base (fun _ => true) held n e cs = some x → ∃ p, d.K w p cs ∧ Q p)
    {fuel : Nat} {cs : List Value} {x : DataW H × List MemPlace} (h : DataW.trod enc P w base (fun _ => true) held fuel t cs = some x) :
    ∃ (A : Option Addr) (c : Nat) (xs : List α), cs = [.slice A xs.length c] ∧ xs.length ≤ c ∧ d.C w A xs.length xs ∧ ∀ y ∈ xs, Q y := by
  rcases open_slice ht h with ⟨hcs, _⟩ | ⟨a, len, cap, m, n, D, Pl, hcs, hb, hl, hm, hmm, hx, hi⟩
  · exact ⟨none, 0, [], hcs, Nat.le_refl _, ⟨rfl, by simp, fun h0 => absurd h0 (by simp)⟩, by simp⟩
  · have hm' : m = cap := by simpa using hmm
    have each : ∀ i, i < len → ∃ p, (∃ cs', w.cells? base (a.add (i * P.cellsOf e)) (P.cellsOf e) = some cs' ∧ d.K w p cs') ∧ Q p := by
      intro i hlt
      obtain ⟨cs', hc, ht'⟩ := hi i (by omega)
      obtain ⟨p, hK, hQ⟩ := elem cs' _ _ ht'
      exact ⟨p, ⟨cs', hc, hK⟩, hQ⟩
    obtain ⟨f, hf⟩ := choose_lt each
    have hlen : ((List.range len).map f).length = len := by simp
    refine ⟨some a, cap, (List.range len).map f, by rw [hlen]; exact hcs, by rw [hlen]; exact hl, ?_, ?_⟩
    · refine ⟨rfl, by rw [hlen]; have := Nat.le_trans hl hm; simpa [maxLen] using this, fun _ => ⟨a, rfl, fun j p hj => ?_⟩⟩
      have hj' : j < len := by
        have := (List.getElem?_eq_some_iff.1 hj).1
        rwa [hlen] at this
      have hp : p = f j := by
        have : ((List.range len).map f)[j]? = some (f j) := by simp [hj']
        rw [this] at hj
        exact (Option.some.inj hj).symm
      obtain ⟨⟨cs', hc, hK⟩, _⟩ := hf j hj'
      obtain ⟨_, hcl, hat⟩ := World.cells?_some hc
      subst hp
      refine ⟨cs', d.K_len hK, hK, fun i u hu => ?_⟩
      have hil : i < P.cellsOf e := by
        have := (List.getElem?_eq_some_iff.1 hu).1
        omega
      have h2 := hat i hil
      rw [hu] at h2
      rw [← hC, ← Go.Deep.add_add]
      exact h2
    · intro y hy
      obtain ⟨i, hir, rfl⟩ := List.mem_map.1 hy
      exact (hf i (List.mem_range.1 hir)).2
theorem elem_int {k : IntKind} {e : TypeId} (he : P.underlying e = some (.int k)) (cs : List Value) (x : DataW H × List MemPlace) (n : Nat) (h : DataW.trod enc P w base (fun _ => true) held n e cs = some x) :
    ∃ p, (Kd.int k).K w p cs ∧ (Lit.int k p).wf = true := by
  obtain ⟨p, hcs, _, hw⟩ := DataW.trod_int he h
  exact ⟨p, hcs, hw⟩
theorem elem_string {e : TypeId} (he : P.underlying e = some .string) (cs : List Value) (x : DataW H × List MemPlace) (n : Nat) (h : DataW.trod enc P w base (fun _ => true) held n e cs = some x) :
    ∃ p, Kd.string.K w p cs ∧ p.size ≤ maxLen := by
  obtain ⟨p, hcs, _, hw⟩ := DataW.trod_string he h
  exact ⟨p, hcs, hw⟩
theorem elem_slice {α : Type} [Inhabited α] (d : Kd α) (Q : α → Prop) {t e : TypeId} (ht : P.underlying t = some (.slice e)) (hC : P.cellsOf e = d.sz)
    (elem : ∀ (cs : List Value) (x : DataW H × List MemPlace) (n : Nat), DataW.trod enc P w base (fun _ => true) held n e cs = some x → ∃ p, d.K w p cs ∧ Q p)
    (cs : List Value) (x : DataW H × List MemPlace) (n : Nat) (h : DataW.trod enc P w base (fun _ => true) held n t cs = some x) :
    ∃ p, (Kd.slice e d).K w p cs ∧ (p.length ≤ maxLen ∧ ∀ y ∈ p, Q y) := by
  obtain ⟨A, c, xs, hcs, hl, hc, hq⟩ := open_C d Q ht hC elem h
  exact ⟨xs, ⟨A, c, hcs, hl, hc⟩, by have := hc.2.1; simpa [maxLen] using this, hq⟩
/-- The argument itself. -/
theorem open_arg {α : Type} [Inhabited α] (d : Kd α) (Q : α → Prop) {t e : TypeId} (ht : P.underlying t = some (.slice e)) (hC : P.cellsOf e = d.sz)
    (elem : ∀ (cs : List Value) (x : DataW H × List MemPlace) (n : Nat), DataW.trod enc P w base (fun _ => true) held n e cs = some x → ∃ p, d.K w p cs ∧ Q p)
    {r : Reach} {b0 : Nat} {v : Value} {x : DataW H} {ps : List MemPlace} (hv : Value.okWide P w r b0 t v) (h : DataW.Trod enc P w base (fun _ => true) held t v x ps) :
    ∃ (A : Option Addr) (c : Nat) (xs : List α), v = .slice A xs.length c ∧ xs.length ≤ c ∧ d.C w A xs.length xs ∧ ∀ y ∈ xs, Q y := by
  obtain ⟨a0, len, cap, rfl⟩ := okWide_slice ht hv
  obtain ⟨fuel, hf⟩ := h
  obtain ⟨A, c, xs, hcs, hl, hc, hq⟩ := open_C d Q ht hC elem hf
  refine ⟨A, c, xs, ?_, hl, hc, hq⟩
  simpa [Value.cells] using hcs
end
/-! ### A row of a struct that holds rows of itself -/
section
variable {H : Type} {enc : TypeId × Value → H} {P : Program} {w : World} {base : Nat} {held : Bool}
/-- As open_C: what is known of the elements is known at the fuel below alone. -/
theorem open_Cn {α : Type} [Inhabited α] (d : Kd α) (Q : α → Prop) {t e : TypeId} (ht : P.underlying t = some (.slice e)) (hC : P.cellsOf e = d.sz) {fuel : Nat}
    (elem : ∀ (cs : List Value) (x : DataW H × List MemPlace) (n : Nat), n < fuel → DataW.trod enc P w base (fun _ => true) held n e cs = some x → ∃ p, d.K w p cs ∧ Q p)
    {cs : List Value} {x : DataW H × List MemPlace} (h : DataW.trod enc P w base (fun _ => true) held fuel t cs = some x) :
    ∃ (A : Option Addr) (c : Nat) (xs : List α), cs = [.slice A xs.length c] ∧ xs.length ≤ c ∧ d.C w A xs.length xs ∧ ∀ y ∈ xs, Q y := by
  rcases DataW.trod_slice ht h with ⟨hcs, _⟩ | ⟨a, len, cap, elems, rest, n, hf, hcs, _, hb, hl, hm, hlen, hel, _, _⟩
  · exact ⟨none, 0, [], hcs, Nat.le_refl _, ⟨rfl, by simp, fun h0 => absurd h0 (by simp)⟩, by simp⟩
  · have each : ∀ i, i < len → ∃ p, (∃ cs', w.cells? base (a.add (i * P.cellsOf e)) (P.cellsOf e) = some cs' ∧ d.K w p cs') ∧ Q p := by
      intro i hlt
      have h1 := hel i hlt
      rw [List.getElem?_eq_getElem (by omega)] at h1
      obtain ⟨cs', hc, ht'⟩ := Option.bind_eq_some_iff.1 h1
      obtain ⟨p, hK, hQ⟩ := elem cs' _ n (by omega) ht'
      exact ⟨p, ⟨cs', hc, hK⟩, hQ⟩
    obtain ⟨f, hf⟩ := choose_lt each
    have hlen : ((List.range len).map f).length = len := by simp
    refine ⟨some a, cap, (List.range len).map f, by rw [hlen]; exact hcs, by rw [hlen]; exact hl, ?_, ?_⟩
    · refine ⟨rfl, by rw [hlen]; have := Nat.le_trans hl hm; simpa [maxLen] using this, fun _ => ⟨a, rfl, fun j p hj => ?_⟩⟩
      have hj' : j < len := by
        have := (List.getElem?_eq_some_iff.1 hj).1
        rwa [hlen] at this
      have hp : p = f j := by
        have : ((List.range len).map f)[j]? = some (f j) := by simp [hj']
        rw [this] at hj
        exact (Option.some.inj hj).symm
      obtain ⟨⟨cs', hc, hK⟩, _⟩ := hf j hj'
      obtain ⟨_, hcl, hat⟩ := World.cells?_some hc
      subst hp
      refine ⟨cs', d.K_len hK, hK, fun i u hu => ?_⟩
      have hil : i < P.cellsOf e := by
        have := (List.getElem?_eq_some_iff.1 hu).1
        omega
      have h2 := hat i hil
      rw [hu] at h2
      rw [← hC, ← Go.Deep.add_add]
      exact h2
    · intro y hy
      obtain ⟨i, hir, rfl⟩ := List.mem_map.1 hy
      exact (hf i (List.mem_range.1 hir)).2
end
/-- A step that is given: itself, and how deep its rows are short. -/
theorem elem_step {H : Type} {enc : TypeId × Value → H} {w : World} {base : Nat} {held : Bool} : ∀ (n : Nat) (cs : List Value) (x : DataW H × List MemPlace), DataW.trod enc Try.prog w base (fun _ => true) held n 59 cs = some x →
    ∃ p : S59, k59.K w p cs ∧ ∀ m, Pure.Bq 9223372036854775807 m p.f2 ∧ Pure.Bq 9223372036854775807 m p.f3 := by
  intro n
  induction n using Nat.strongRecOn with
  | ind n ih =>
    intro cs x h
    obtain ⟨xs, n', hn', hy, hlen, hyl, hf⟩ := DataW.trod_struct Try.underlying59 h
    have ci : Try.prog.cellsOf 3 = 1 := by kernel_rfl
    have cr : Try.prog.cellsOf 27 = 1 := by kernel_rfl
    have g0 : DataW.trod enc Try.prog w base (fun _ => true) held n' 3 ((cs.drop 0).take (Try.prog.cellsOf 3)) = xs[0]? := hf 0 _ rfl
    have g1 : DataW.trod enc Try.prog w base (fun _ => true) held n' 3 ((cs.drop 1).take (Try.prog.cellsOf 3)) = xs[1]? := hf 1 _ rfl
    have g2 : DataW.trod enc Try.prog w base (fun _ => true) held n' 27 ((cs.drop 2).take (Try.prog.cellsOf 27)) = xs[2]? := hf 2 _ rfl
    have g3 : DataW.trod enc Try.prog w base (fun _ => true) held n' 27 ((cs.drop 3).take (Try.prog.cellsOf 27)) = xs[3]? := hf 3 _ rfl
    have hx4 : xs.length = 4 := hyl
    rw [ci, List.getElem?_eq_getElem (by omega)] at g0 g1
    rw [cr, List.getElem?_eq_getElem (by omega)] at g2 g3
    obtain ⟨a, ea, _, _⟩ := DataW.trod_int (k := .i64) Try.underlying3 g0
    obtain ⟨b, eb, _, _⟩ := DataW.trod_int (k := .i64) Try.underlying3 g1
    have el : ∀ (cs : List Value) (x : DataW H × List MemPlace) (m : Nat), m < n' → DataW.trod enc Try.prog w base (fun _ => true) held m 59 cs = some x → ∃ p : S59, k59.K w p cs ∧ ∀ m, Pure.Bq 9223372036854775807 m p.f2 ∧ Pure.Bq 9223372036854775807 m p.f3 := fun cs x m hm => ih m (by omega) cs x
    obtain ⟨A2, c2, l2, e2, hl2, hc2, hq2⟩ := open_Cn k59 (fun p => ∀ m, Pure.Bq 9223372036854775807 m p.f2 ∧ Pure.Bq 9223372036854775807 m p.f3) Try.underlying27 (by kernel_rfl) el g2
    obtain ⟨A3, c3, l3, e3, hl3, hc3, hq3⟩ := open_Cn k59 (fun p => ∀ m, Pure.Bq 9223372036854775807 m p.f2 ∧ Pure.Bq 9223372036854775807 m p.f3) Try.underlying27 (by kernel_rfl) el g3
    have hlen4 : cs.length = 4 := by rw [hlen]; kernel_rfl
    match cs, hlen4 with
    | [u, v, y, z], _ =>
      simp at ea
      simp at eb
      simp at e2
      simp at e3
      have B2 : ∀ m, Pure.Bq 9223372036854775807 m l2 := fun m => by
        cases m with
        | zero => exact hc2.2.1
        | succ m => exact ⟨hc2.2.1, fun s hs => hq2 s hs m⟩
      have B3 : ∀ m, Pure.Bq 9223372036854775807 m l3 := fun m => by
        cases m with
        | zero => exact hc3.2.1
        | succ m => exact ⟨hc3.2.1, fun s hs => hq3 s hs m⟩
      exact ⟨⟨a, b, l2, l3⟩, by rw [ea, eb, e2, e3]; exact k59_mk w ⟨a, b, l2, l3⟩ hl2 hc2 hl3 hc3, fun m => ⟨B2 m, B3 m⟩⟩

theorem own : ownKnob Try.prog.godebug = none := by kernel_rfl
theorem laidOut : laidOutB Try.prog = true := by kernel_rfl
def IsRow (k : IntKind) (w : World) (a : Option Addr) (len cap : Nat) (zs : List Int) : Prop :=
  (a = none ∧ len = 0 ∧ cap = 0 ∧ zs = []) ∨
  ∃ x, a = some x ∧ len ≤ cap ∧ cap ≤ maxLen ∧ zs.length = cap ∧ (∀ i, i < zs.length → w.cell? (x.add i) = some (.int k (zs.getD i 0))) ∧ ∀ n ∈ zs, (Lit.int k n).wf = true
set_option maxRecDepth 100000 in
theorem lifted (os : Os) (started : os.Started) (H : Type) (enc : TypeId × Value → H) :
    ReturnsInHanded {} Try.checked os 4 .any (Rows.fnExactGenOkSpec.pre6 enc Try.prog Try.f4 Rows.fnExactGenOkRow.domain false) (Rows.fnExactGenOkSpec.post enc Try.prog Try.f4 false true false false) := by
  refine returnsInHanded_of_change_sized (C := Try.checked) own started (by kernel_rfl) Try.func4
    (ChangeSpec.witness6 (enc := enc) (C := Try.checked) false ⟨#[], #[.slice none 0 0], []⟩ 8 (by kernel_rfl) (by kernel_rfl) (by kernel_rfl) (by kernel_rfl)) ?_
  intro W base args ds gs before hval0 hW hcnd hsz0 _
  have hsz : (DataW.weightsEach Try.prog (Try.f4.params.toList ++ Rows.fnExactGenOkSpec.plain.varTypes Try.prog) (ds ++ gs)).all (· ≤ reachBytes) = true := hsz0
  have hval : ∀ (j : Nat) t v, Try.f4.params[j]? = some t → args[j]? = some v → Value.okWide Try.prog W .any base t v := hval0
  have hW' := hW
  obtain ⟨p, q, hA0, hV, rfl, hfz, hnd⟩ := hW
  have hA : DataW.TrodAll enc Try.prog W 0 (fun _ => true) true Try.f4.params.toList args.toList ds p := hA0
  rw [Try.params4] at hA hval hsz
  obtain ⟨v0, vs0, d0, ds0, p0, q0, hargs, rfl, rfl, h0, r0⟩ := trodAll_cons hA
  obtain ⟨rfl, rfl, rfl⟩ := trodAll_nil r0
  obtain rfl : args = #[v0] := by cases args; simp_all
  obtain ⟨rfl, rfl⟩ := trodVars_none hV
  have k0 := h0
  have lt0 : ∀ x ∈ p0, x.block < W.heap.size := by obtain ⟨m, hm⟩ := k0; exact DataW.trod_lt m _ _ _ hm
  obtain ⟨A0, c0, l0, rfl, hc0, hr0, hq0⟩ := open_arg k59 (fun p => ∀ m, Pure.Bq 9223372036854775807 m p.f2 ∧ Pure.Bq 9223372036854775807 m p.f3) Try.underlying27 (by kernel_rfl) (fun cs x n => elem_step n cs x) (hval 0 27 v0 rfl rfl) h0
  obtain ⟨k, hk⟩ := Pure.FnExactGenOk l0 (fun m => by
    cases m with
    | zero => exact hr0.2.1
    | succ m => exact ⟨hr0.2.1, fun s hs => hq0 s hs m⟩)
  refine (XFnExactGenOk.laws_FnExactGenOk.calls k _ _ l0 true W hr0 hc0 hk).mono fun e W' ⟨he, bel⟩ => ?_
  subst he
  exact ⟨_, rfl, _, _, _, [], _, [], hW', trodAll_mk1 (shut_bool Try.underlying4 _), (trodAll_cons_mk (Below.trod laidOut (by kernel_rfl) (of_decide_eq_true (by kernel_rfl)) k0 bel lt0) trodAll_mk0), rfl, bel.frame _, fun h => by cases h⟩
theorem over : Rows.fnExactGenOkRow.holds Try.pinned (OpenSpec.ofChange Rows.fnExactGenOkSpec) :=
  OpenClaim.holds_of_wide 4 Try.f4 rfl rfl rfl rfl rfl rfl rfl ⟨rfl, rfl, rfl, rfl, rfl⟩ rfl rfl rfl rfl rfl (by kernel_rfl) Try.func4 (by kernel_rfl)
    (of_decide_eq_true (by kernel_rfl)) (by unfold Func.isWrapper; first | (rw [if_pos (by decide +kernel)]; kernel_rfl) | (rw [if_neg (by decide +kernel)]; exact ⟨rfl, rfl⟩))
    (fun os started H enc _ => lifted os started H enc)
theorem proved : Rows.FnExactGenOkSaid := over
#print axioms proved
end Go.Proofs.Ytpnamllkeaaeeaa.fnExactGenOk
namespace Go.Proofs.Ytpnamllkeaaeeaa
/-- The row, under a short name, for the claim. -/
theorem fnExactGenOk_holds : Rows.FnExactGenOkSaid := fnExactGenOk.proved
end Go.Proofs.Ytpnamllkeaaeeaa
