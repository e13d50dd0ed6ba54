/- FnExactListPutCut: the program puts numbers in place as the reference does. -/
import Derived.Test.YtkhkbbhkhpekcaaRows
import Derived.Test.YtkhkbbhkhpekcaaPureFnExactListPutCut
import Derived.WalkKit
import Derived.ProofKit
import Derived.OpenShut
import Derived.ShutString
import Derived.ChangeOld
import Derived.Below
import Derived.SizedLaws
import Derived.Lib.SmallJoins
import Derived.Deep.Matrix
import Derived.SliceStrings
import Derived.Test.YtkhkbbhkhpekcaaWSized
namespace Go.Proofs.Ytkhkbbhkhpekcaa.fnExactListPutCut
open Go.ChangeShapes Go.WideShapes Go.ChangeAt Go.RowKit Go.Joins Go.Deep
open Go.ChangeMaps (open_string shut_string)
set_option linter.unusedVariables false
set_option linter.unusedSimpArgs false
open Go.Proofs.YtkhkbbhkhpekcaaW.PrintWords Go.Proofs.YtkhkbbhkhpekcaaW.PrintMore
/-! ### An argument's slice, read: whatever its elements are -/
section
variable {H : Type} {enc : TypeId × Value → H} {P : Program} {w : World} {base : Nat} {held : Bool}
theorem open_C {α : Type} [Inhabited α] (d : Kd α) (Q : α → Prop) {t e : TypeId} (ht : P.underlying t = some (.slice e)) (hC : P.cellsOf e = d.sz)
    (elem : ∀ (cs : List Value) (x : DataW H × List MemPlace) (n : Nat), DataW.trod enc P w base (fun _ => true) held n e cs = some x → ∃ p, d.K w p cs ∧ Q p)
    {fuel : Nat} {cs : List Value} {x : DataW H × List MemPlace} (h : DataW.trod enc P w base (fun _ => true) held fuel t cs = some x) :
    ∃ (A : Option Addr) (c : Nat) (xs : List α), cs = [.slice A xs.length c] ∧ xs.length ≤ c ∧ d.C w A xs.length xs ∧ ∀ y ∈ xs, Q y := by
  rcases open_slice ht h with ⟨hcs, _⟩ | ⟨a, len, cap, m, n, D, Pl, hcs, hb, hl, hm, hmm, hx, hi⟩
  · exact ⟨none, 0, [], hcs, Nat.le_refl _, ⟨rfl, by simp, fun h0 => absurd h0 (by simp)⟩, by simp⟩
  · have hm' : m = cap := by simpa using hmm
    have each : ∀ i, i < len → ∃ p, (∃ cs', w.cells? base (a.add (i * P.cellsOf e)) (P.cellsOf e) = some cs' ∧ d.K w p cs') ∧ Q p := by
      intro i hlt
      obtain ⟨cs', hc, ht'⟩ := hi i (by omega)
      obtain ⟨p, hK, hQ⟩ := elem cs' _ _ ht'
      exact ⟨p, ⟨cs', hc, hK⟩, hQ⟩
    obtain ⟨f, hf⟩ := choose_lt each
    have hlen : ((List.range len).map f).length = len := by simp
    refine ⟨some a, cap, (List.range len).map f, by rw [hlen]; exact hcs, by rw [hlen]; exact hl, ?_, ?_⟩
    · refine ⟨rfl, by rw [hlen]; have := Nat.le_trans hl hm; simpa [maxLen] using this, fun _ => ⟨a, rfl, fun j p hj => ?_⟩⟩
      have hj' : j < len := by
        have := (List.getElem?_eq_some_iff.1 hj).1
        rwa [hlen] at this
      have hp : p = f j := by
        have : ((List.range len).map f)[j]? = some (f j) := by simp [hj']
        rw [this] at hj
        exact (Option.some.inj hj).symm
      obtain ⟨⟨cs', hc, hK⟩, _⟩ := hf j hj'
      obtain ⟨_, hcl, hat⟩ := World.cells?_some hc
      subst hp
      refine ⟨cs', d.K_len hK, hK, fun i u hu => ?_⟩
      have hil : i < P.cellsOf e := by
        have := (List.getElem?_eq_some_iff.1 hu).1
        omega
      have h2 := hat i hil
      rw [hu] at h2
      rw [← hC, ← Go.Deep.add_add]
      exact h2
    · intro y hy
      obtain ⟨i, hir, rfl⟩ := List.mem_map.1 hy
      exact (hf i (List.mem_range.1 hir)).2
theorem elem_int {k : IntKind} {e : TypeId} (he : P.underlying e = some (.int k)) (cs : List Value) (x : DataW H × List MemPlace) (n : Nat) (h : DataW.trod enc P w base (fun _ => true) held n e cs = some x) :
    ∃ p, (Kd.int k).K w p cs ∧ (Lit.int k p).wf = true := by
  obtain ⟨p, hcs, _, hw⟩ := DataW.trod_int he h
  exact ⟨p, hcs, hw⟩
theorem elem_string {e : TypeId} (he : P.underlying e = some .string) (cs : List Value) (x : DataW H × List MemPlace) (n : Nat) (h : DataW.trod enc P w base (fun _ => true) held n e cs = some x) :
    ∃ p, Kd.string.K w p cs ∧ p.size ≤ maxLen := by
  obtain ⟨p, hcs, _, hw⟩ := DataW.trod_string he h
  exact ⟨p, hcs, hw⟩
theorem elem_slice {α : Type} [Inhabited α] (d : Kd α) (Q : α → Prop) {t e : TypeId} (ht : P.underlying t = some (.slice e)) (hC : P.cellsOf e = d.sz)
    (elem : ∀ (cs : List Value) (x : DataW H × List MemPlace) (n : Nat), DataW.trod enc P w base (fun _ => true) held n e cs = some x → ∃ p, d.K w p cs ∧ Q p)
    (cs : List Value) (x : DataW H × List MemPlace) (n : Nat) (h : DataW.trod enc P w base (fun _ => true) held n t cs = some x) :
    ∃ p, (Kd.slice e d).K w p cs ∧ (p.length ≤ maxLen ∧ ∀ y ∈ p, Q y) := by
  obtain ⟨A, c, xs, hcs, hl, hc, hq⟩ := open_C d Q ht hC elem h
  exact ⟨xs, ⟨A, c, hcs, hl, hc⟩, by have := hc.2.1; simpa [maxLen] using this, hq⟩
/-- The argument itself. -/
theorem open_arg {α : Type} [Inhabited α] (d : Kd α) (Q : α → Prop) {t e : TypeId} (ht : P.underlying t = some (.slice e)) (hC : P.cellsOf e = d.sz)
    (elem : ∀ (cs : List Value) (x : DataW H × List MemPlace) (n : Nat), DataW.trod enc P w base (fun _ => true) held n e cs = some x → ∃ p, d.K w p cs ∧ Q p)
    {r : Reach} {b0 : Nat} {v : Value} {x : DataW H} {ps : List MemPlace} (hv : Value.okWide P w r b0 t v) (h : DataW.Trod enc P w base (fun _ => true) held t v x ps) :
    ∃ (A : Option Addr) (c : Nat) (xs : List α), v = .slice A xs.length c ∧ xs.length ≤ c ∧ d.C w A xs.length xs ∧ ∀ y ∈ xs, Q y := by
  obtain ⟨a0, len, cap, rfl⟩ := okWide_slice ht hv
  obtain ⟨fuel, hf⟩ := h
  obtain ⟨A, c, xs, hcs, hl, hc, hq⟩ := open_C d Q ht hC elem hf
  refine ⟨A, c, xs, ?_, hl, hc, hq⟩
  simpa [Value.cells] using hcs
end
section
variable {H : Type} {enc : TypeId × Value → H} {P : Program} {w : World} {base : Nat} {spare : Nat → Bool} {held : Bool}
theorem open_agg5 {r : Reach} {b0 : Nat} {t : TypeId} {f0 f1 f2 f3 f4 : Field} {v : Value} {d : DataW H} {p : List MemPlace} (hs : P.underlying t = some (.struct #[f0, f1, f2, f3, f4])) (hone : oneCellFields P #[f0, f1, f2, f3, f4] = true) (hC : P.cellsOf t = 5)
    (hv : Value.okWide P w r b0 t v) (h : DataW.Trod enc P w base spare held t v d p) :
    ∃ (v0 v1 v2 v3 v4 : Value) (y0 y1 y2 y3 y4 : DataW H × List MemPlace) (n : Nat), v = .agg #[v0, v1, v2, v3, v4] ∧ d = .agg [y0.1, y1.1, y2.1, y3.1, y4.1] ∧ p = y0.2 ++ (y1.2 ++ (y2.2 ++ (y3.2 ++ y4.2))) ∧
      DataW.trod enc P w base spare held n f0.type [v0] = some y0 ∧ DataW.trod enc P w base spare held n f1.type [v1] = some y1 ∧ DataW.trod enc P w base spare held n f2.type [v2] = some y2 ∧ DataW.trod enc P w base spare held n f3.type [v3] = some y3 ∧ DataW.trod enc P w base spare held n f4.type [v4] = some y4 := by
  obtain ⟨cs, rfl, hsz⟩ := okWide_struct hs hv
  obtain ⟨l⟩ := cs
  match l, hsz.trans hC with
  | [c0, c1, c2, c3, c4], _ =>
    obtain ⟨fuel, hf⟩ := h
    obtain ⟨xs, n, _, hx, _, hlen, hg⟩ := DataW.trod_struct hs hf
    obtain ⟨o0, k0⟩ := hone_of hone 0 f0 rfl
    obtain ⟨o1, k1⟩ := hone_of hone 1 f1 rfl
    obtain ⟨o2, k2⟩ := hone_of hone 2 f2 rfl
    obtain ⟨o3, k3⟩ := hone_of hone 3 f3 rfl
    obtain ⟨o4, k4⟩ := hone_of hone 4 f4 rfl
    match xs, hlen with
    | [y0, y1, y2, y3, y4], _ =>
      simp only [Prod.mk.injEq] at hx
      exact ⟨c0, c1, c2, c3, c4, y0, y1, y2, y3, y4, n, rfl, by simpa using hx.1, by simpa using hx.2, by simpa [Value.cells, o0, k0] using hg 0 f0 rfl, by simpa [Value.cells, o1, k1] using hg 1 f1 rfl, by simpa [Value.cells, o2, k2] using hg 2 f2 rfl, by simpa [Value.cells, o3, k3] using hg 3 f3 rfl, by simpa [Value.cells, o4, k4] using hg 4 f4 rfl⟩
end

theorem own : ownKnob Try.prog.godebug = none := by kernel_rfl
theorem laidOut : laidOutB Try.prog = true := by kernel_rfl
def IsRow (k : IntKind) (w : World) (a : Option Addr) (len cap : Nat) (zs : List Int) : Prop :=
  (a = none ∧ len = 0 ∧ cap = 0 ∧ zs = []) ∨
  ∃ x, a = some x ∧ len ≤ cap ∧ cap ≤ maxLen ∧ zs.length = cap ∧ (∀ i, i < zs.length → w.cell? (x.add i) = some (.int k (zs.getD i 0))) ∧ ∀ n ∈ zs, (Lit.int k n).wf = true
set_option maxRecDepth 100000 in
theorem lifted (os : Os) (started : os.Started) (H : Type) (enc : TypeId × Value → H) :
    ReturnsInHanded {} Try.checked os 10 .any (Rows.fnExactListPutCutSpec.pre6 enc Try.prog Try.f10 Rows.fnExactListPutCutRow.domain false) (Rows.fnExactListPutCutSpec.post enc Try.prog Try.f10 false true false false) := by
  refine returnsInHanded_of_change_sized (C := Try.checked) own started (by kernel_rfl) Try.func10
    (ChangeSpec.witness6 (enc := enc) (C := Try.checked) false ⟨#[], #[.slice none 0 0, .agg #[.int .i64 0, .int .i64 0, .int .i64 0, .bool false, .bool false], .slice none 0 0], []⟩ 8 (by kernel_rfl) (by kernel_rfl) (by kernel_rfl) (by kernel_rfl)) ?_
  intro W base args ds gs before hval0 hW hcnd hsz0 _
  have hsz : (DataW.weightsEach Try.prog (Try.f10.params.toList ++ Rows.fnExactListPutCutSpec.plain.varTypes Try.prog) (ds ++ gs)).all (· ≤ reachBytes) = true := hsz0
  have hval : ∀ (j : Nat) t v, Try.f10.params[j]? = some t → args[j]? = some v → Value.okWide Try.prog W .any base t v := hval0
  have hW' := hW
  obtain ⟨p, q, hA0, hV, rfl, hfz, hnd⟩ := hW
  have hA : DataW.TrodAll enc Try.prog W 0 (fun _ => true) true Try.f10.params.toList args.toList ds p := hA0
  rw [Try.params10] at hA hval hsz
  obtain ⟨v0, vs0, d0, ds0, p0, q0, hargs, rfl, rfl, h0, r0⟩ := trodAll_cons hA
  obtain ⟨v1, vs1, d1, ds1, p1, q1, rfl, rfl, rfl, h1, r1⟩ := trodAll_cons r0
  obtain ⟨v2, vs2, d2, ds2, p2, q2, rfl, rfl, rfl, h2, r2⟩ := trodAll_cons r1
  obtain ⟨rfl, rfl, rfl⟩ := trodAll_nil r2
  obtain rfl : args = #[v0, v1, v2] := by cases args; simp_all
  obtain ⟨rfl, rfl⟩ := trodVars_none hV
  have k0 := h0
  have lt0 : ∀ x ∈ p0, x.block < W.heap.size := by obtain ⟨m, hm⟩ := k0; exact DataW.trod_lt m _ _ _ hm
  have k1 := h1
  have lt1 : ∀ x ∈ p1, x.block < W.heap.size := by obtain ⟨m, hm⟩ := k1; exact DataW.trod_lt m _ _ _ hm
  have k2 := h2
  have lt2 : ∀ x ∈ p2, x.block < W.heap.size := by obtain ⟨m, hm⟩ := k2; exact DataW.trod_lt m _ _ _ hm
  obtain ⟨A0, c0, l0, rfl, hc0, hr0, hq0⟩ := open_arg (Kd.int .i64) (fun x => (Lit.int .i64 x).wf = true) Try.underlying36 (by kernel_rfl) (elem_int Try.underlying3) (hval 0 36 v0 rfl rfl) h0
  obtain ⟨c10, c11, c12, c13, c14, z10, z11, z12, z13, z14, fuel1, rfl, rfl, rfl, t10, t11, t12, t13, t14⟩ := open_agg5 Try.underlying38 (by kernel_rfl) (by kernel_rfl) (hval 1 38 v1 rfl rfl) h1
  obtain ⟨a10, e10, g10, b10⟩ := DataW.trod_int (k := .i64) Try.underlying3 t10
  injection e10 with e10 _
  subst e10
  subst g10
  obtain ⟨a11, e11, g11, b11⟩ := DataW.trod_int (k := .i64) Try.underlying3 t11
  injection e11 with e11 _
  subst e11
  subst g11
  obtain ⟨a12, e12, g12, b12⟩ := DataW.trod_int (k := .i64) Try.underlying3 t12
  injection e12 with e12 _
  subst e12
  subst g12
  obtain ⟨a13, e13, g13⟩ := DataW.trod_bool Try.underlying4 t13
  injection e13 with e13 _
  subst e13
  subst g13
  obtain ⟨a14, e14, g14⟩ := DataW.trod_bool Try.underlying4 t14
  injection e14 with e14 _
  subst e14
  subst g14
  obtain ⟨A2, c2, l2, rfl, hc2, hr2, hq2⟩ := open_arg (Kd.int .i64) (fun x => (Lit.int .i64 x).wf = true) Try.underlying36 (by kernel_rfl) (elem_int Try.underlying3) (hval 2 36 v2 rfl rfl) h2
  obtain ⟨k, hk⟩ := Pure.FnExactListPutCut l0 a10 a11 a12 a13 a14 l2
  refine (XFnExactListPutCut.laws_FnExactListPutCut.calls k _ _ l0 a10 a11 a12 a13 a14 _ _ l2 true W hr0 hc0 hr2 hc2 hk).mono fun e W' ⟨he, bel⟩ => ?_
  subst he
  exact ⟨_, rfl, _, _, _, [], _, [], hW', trodAll_mk1 (shut_bool Try.underlying4 _), (trodAll_cons_mk (Below.trod laidOut (by kernel_rfl) (of_decide_eq_true (by kernel_rfl)) k0 bel lt0) (trodAll_cons_mk (Below.trod laidOut (by kernel_rfl) (of_decide_eq_true (by kernel_rfl)) k1 bel lt1) (trodAll_cons_mk (Below.trod laidOut (by kernel_rfl) (of_decide_eq_true (by kernel_rfl)) k2 bel lt2) trodAll_mk0))), rfl, bel.frame _, fun h => by cases h⟩
theorem over : Rows.fnExactListPutCutRow.holds Try.pinned (OpenSpec.ofChange Rows.fnExactListPutCutSpec) :=
  OpenClaim.holds_of_wide 10 Try.f10 rfl rfl rfl rfl rfl rfl rfl ⟨rfl, rfl, rfl, rfl, rfl⟩ rfl rfl rfl rfl rfl (by kernel_rfl) Try.func10 (by kernel_rfl)
    (of_decide_eq_true (by kernel_rfl)) (by unfold Func.isWrapper; first | (rw [if_pos (by decide +kernel)]; kernel_rfl) | (rw [if_neg (by decide +kernel)]; exact ⟨rfl, rfl⟩))
    (fun os started H enc _ => lifted os started H enc)
theorem proved : Rows.FnExactListPutCutSaid := over
#print axioms proved
end Go.Proofs.Ytkhkbbhkhpekcaa.fnExactListPutCut
namespace Go.Proofs.Ytkhkbbhkhpekcaa
/-- The row, under a short name, for the claim. -/
theorem fnExactListPutCut_holds : Rows.FnExactListPutCutSaid := fnExactListPutCut.proved
end Go.Proofs.Ytkhkbbhkhpekcaa
