/- FnExactNameIn: the program tells what a name is in a scope as the reference does. -/
import Derived.Test.YtppbnfoagbipaahRows
import Derived.Test.YtppbnfoagbipaahPureFnExactNameIn
import Derived.WalkKit
import Derived.ProofKit
import Derived.OpenShut
import Derived.ShutString
import Derived.ChangeOld
import Derived.Below
import Derived.SizedLaws
import Derived.Lib.SmallJoins
import Derived.Deep.Matrix
import Derived.SliceStrings
import Derived.Test.YtppbnfoagbipaahWSized
namespace Go.Proofs.Ytppbnfoagbipaah.fnExactNameIn
open Go.ChangeShapes Go.WideShapes Go.ChangeAt Go.RowKit Go.Joins Go.Deep
open Go.ChangeMaps (open_string shut_string)
set_option linter.unusedVariables false
set_option linter.unusedSimpArgs false
open Go.Proofs.YtppbnfoagbipaahW.PrintWords Go.Proofs.YtppbnfoagbipaahW.PrintMore
/-! ### An argument's slice, read: whatever its elements are -/
section
variable {H : Type} {enc : TypeId × Value → H} {P : Program} {w : World} {base : Nat} {held : Bool}
theorem open_C {α : Type} [Inhabited α] (d : Kd α) (Q : α → Prop) {t e : TypeId} (ht : P.underlying t = some (.slice e)) (hC : P.cellsOf e = d.sz)
    (elem : ∀ (cs : List Value) (x : DataW H × List MemPlace) (n : Nat), DataW.trod enc P w base (fun _ => true) held n e cs = some x → ∃ p, d.K w p cs ∧ Q p)
    {fuel : Nat} {cs : List Value} {x : DataW H × List MemPlace} (h : DataW.trod enc P w base (fun _ => true) held fuel t cs = some x) :
    ∃ (A : Option Addr) (c : Nat) (xs : List α), cs = [.slice A xs.length c] ∧ xs.length ≤ c ∧ d.C w A xs.length xs ∧ ∀ y ∈ xs, Q y := by
  rcases open_slice ht h with ⟨hcs, _⟩ | ⟨a, len, cap, m, n, D, Pl, hcs, hb, hl, hm, hmm, hx, hi⟩
  · exact ⟨none, 0, [], hcs, Nat.le_refl _, ⟨rfl, by simp, fun h0 => absurd h0 (by simp)⟩, by simp⟩
  · have hm' : m = cap := by simpa using hmm
    have each : ∀ i, i < len → ∃ p, (∃ cs', w.cells? base (a.add (i * P.cellsOf e)) (P.cellsOf e) = some cs' ∧ d.K w p cs') ∧ Q p := by
      intro i hlt
      obtain ⟨cs', hc, ht'⟩ := hi i (by omega)
      obtain ⟨p, hK, hQ⟩ := elem cs' _ _ ht'
      exact ⟨p, ⟨cs', hc, hK⟩, hQ⟩
    obtain ⟨f, hf⟩ := choose_lt each
    have hlen : ((List.range len).map f).length = len := by simp
    refine ⟨some a, cap, (List.range len).map f, by rw [hlen]; exact hcs, by rw [hlen]; exact hl, ?_, ?_⟩
    · refine ⟨rfl, by rw [hlen]; have := Nat.le_trans hl hm; simpa [maxLen] using this, fun _ => ⟨a, rfl, fun j p hj => ?_⟩⟩
      have hj' : j < len := by
        have := (List.getElem?_eq_some_iff.1 hj).1
        rwa [hlen] at this
      have hp : p = f j := by
        have : ((List.range len).map f)[j]? = some (f j) := by simp [hj']
        rw [this] at hj
        exact (Option.some.inj hj).symm
      obtain ⟨⟨cs', hc, hK⟩, _⟩ := hf j hj'
      obtain ⟨_, hcl, hat⟩ := World.cells?_some hc
      subst hp
      refine ⟨cs', d.K_len hK, hK, fun i u hu => ?_⟩
      have hil : i < P.cellsOf e := by
        have := (List.getElem?_eq_some_iff.1 hu).1
        omega
      have h2 := hat i hil
      rw [hu] at h2
      rw [← hC, ← Go.Deep.add_add]
      exact h2
    · intro y hy
      obtain ⟨i, hir, rfl⟩ := List.mem_map.1 hy
      exact (hf i (List.mem_range.1 hir)).2
theorem elem_int {k : IntKind} {e : TypeId} (he : P.underlying e = some (.int k)) (cs : List Value) (x : DataW H × List MemPlace) (n : Nat) (h : DataW.trod enc P w base (fun _ => true) held n e cs = some x) :
    ∃ p, (Kd.int k).K w p cs ∧ (Lit.int k p).wf = true := by
  obtain ⟨p, hcs, _, hw⟩ := DataW.trod_int he h
  exact ⟨p, hcs, hw⟩
theorem elem_string {e : TypeId} (he : P.underlying e = some .string) (cs : List Value) (x : DataW H × List MemPlace) (n : Nat) (h : DataW.trod enc P w base (fun _ => true) held n e cs = some x) :
    ∃ p, Kd.string.K w p cs ∧ p.size ≤ maxLen := by
  obtain ⟨p, hcs, _, hw⟩ := DataW.trod_string he h
  exact ⟨p, hcs, hw⟩
theorem elem_slice {α : Type} [Inhabited α] (d : Kd α) (Q : α → Prop) {t e : TypeId} (ht : P.underlying t = some (.slice e)) (hC : P.cellsOf e = d.sz)
    (elem : ∀ (cs : List Value) (x : DataW H × List MemPlace) (n : Nat), DataW.trod enc P w base (fun _ => true) held n e cs = some x → ∃ p, d.K w p cs ∧ Q p)
    (cs : List Value) (x : DataW H × List MemPlace) (n : Nat) (h : DataW.trod enc P w base (fun _ => true) held n t cs = some x) :
    ∃ p, (Kd.slice e d).K w p cs ∧ (p.length ≤ maxLen ∧ ∀ y ∈ p, Q y) := by
  obtain ⟨A, c, xs, hcs, hl, hc, hq⟩ := open_C d Q ht hC elem h
  exact ⟨xs, ⟨A, c, hcs, hl, hc⟩, by have := hc.2.1; simpa [maxLen] using this, hq⟩
/-- The argument itself. -/
theorem open_arg {α : Type} [Inhabited α] (d : Kd α) (Q : α → Prop) {t e : TypeId} (ht : P.underlying t = some (.slice e)) (hC : P.cellsOf e = d.sz)
    (elem : ∀ (cs : List Value) (x : DataW H × List MemPlace) (n : Nat), DataW.trod enc P w base (fun _ => true) held n e cs = some x → ∃ p, d.K w p cs ∧ Q p)
    {r : Reach} {b0 : Nat} {v : Value} {x : DataW H} {ps : List MemPlace} (hv : Value.okWide P w r b0 t v) (h : DataW.Trod enc P w base (fun _ => true) held t v x ps) :
    ∃ (A : Option Addr) (c : Nat) (xs : List α), v = .slice A xs.length c ∧ xs.length ≤ c ∧ d.C w A xs.length xs ∧ ∀ y ∈ xs, Q y := by
  obtain ⟨a0, len, cap, rfl⟩ := okWide_slice ht hv
  obtain ⟨fuel, hf⟩ := h
  obtain ⟨A, c, xs, hcs, hl, hc, hq⟩ := open_C d Q ht hC elem hf
  refine ⟨A, c, xs, ?_, hl, hc, hq⟩
  simpa [Value.cells] using hcs
end
section
variable {H : Type} {enc : TypeId × Value → H} {P : Program} {w : World} {base : Nat} {spare : Nat → Bool} {held : Bool}
theorem open_agg9 {r : Reach} {b0 : Nat} {t : TypeId} {f0 f1 f2 f3 f4 f5 f6 f7 f8 : Field} {v : Value} {d : DataW H} {p : List MemPlace} (hs : P.underlying t = some (.struct #[f0, f1, f2, f3, f4, f5, f6, f7, f8])) (hone : oneCellFields P #[f0, f1, f2, f3, f4, f5, f6, f7, f8] = true) (hC : P.cellsOf t = 9)
    (hv : Value.okWide P w r b0 t v) (h : DataW.Trod enc P w base spare held t v d p) :
    ∃ (v0 v1 v2 v3 v4 v5 v6 v7 v8 : Value) (y0 y1 y2 y3 y4 y5 y6 y7 y8 : DataW H × List MemPlace) (n : Nat), v = .agg #[v0, v1, v2, v3, v4, v5, v6, v7, v8] ∧
      DataW.trod enc P w base spare held n f0.type [v0] = some y0 ∧ DataW.trod enc P w base spare held n f1.type [v1] = some y1 ∧ DataW.trod enc P w base spare held n f2.type [v2] = some y2 ∧ DataW.trod enc P w base spare held n f3.type [v3] = some y3 ∧ DataW.trod enc P w base spare held n f4.type [v4] = some y4 ∧
      DataW.trod enc P w base spare held n f5.type [v5] = some y5 ∧ DataW.trod enc P w base spare held n f6.type [v6] = some y6 ∧ DataW.trod enc P w base spare held n f7.type [v7] = some y7 ∧ DataW.trod enc P w base spare held n f8.type [v8] = some y8 := by
  obtain ⟨cs, rfl, hsz⟩ := okWide_struct hs hv
  obtain ⟨l⟩ := cs
  match l, hsz.trans hC with
  | [c0, c1, c2, c3, c4, c5, c6, c7, c8], _ =>
    obtain ⟨fuel, hf⟩ := h
    obtain ⟨xs, n, _, hx, _, hlen, hg⟩ := DataW.trod_struct hs hf
    obtain ⟨o0, k0⟩ := hone_of hone 0 f0 rfl
    obtain ⟨o1, k1⟩ := hone_of hone 1 f1 rfl
    obtain ⟨o2, k2⟩ := hone_of hone 2 f2 rfl
    obtain ⟨o3, k3⟩ := hone_of hone 3 f3 rfl
    obtain ⟨o4, k4⟩ := hone_of hone 4 f4 rfl
    obtain ⟨o5, k5⟩ := hone_of hone 5 f5 rfl
    obtain ⟨o6, k6⟩ := hone_of hone 6 f6 rfl
    obtain ⟨o7, k7⟩ := hone_of hone 7 f7 rfl
    obtain ⟨o8, k8⟩ := hone_of hone 8 f8 rfl
    match xs, hlen with
    | [y0, y1, y2, y3, y4, y5, y6, y7, y8], _ =>
      exact ⟨c0, c1, c2, c3, c4, c5, c6, c7, c8, y0, y1, y2, y3, y4, y5, y6, y7, y8, n, rfl, by simpa [Value.cells, o0, k0] using hg 0 f0 rfl, by simpa [Value.cells, o1, k1] using hg 1 f1 rfl, by simpa [Value.cells, o2, k2] using hg 2 f2 rfl, by simpa [Value.cells, o3, k3] using hg 3 f3 rfl, by simpa [Value.cells, o4, k4] using hg 4 f4 rfl, by simpa [Value.cells, o5, k5] using hg 5 f5 rfl, by simpa [Value.cells, o6, k6] using hg 6 f6 rfl, by simpa [Value.cells, o7, k7] using hg 7 f7 rfl, by simpa [Value.cells, o8, k8] using hg 8 f8 rfl⟩
end

theorem own : ownKnob Try.prog.godebug = none := by kernel_rfl
theorem laidOut : laidOutB Try.prog = true := by kernel_rfl
def IsRow (k : IntKind) (w : World) (a : Option Addr) (len cap : Nat) (zs : List Int) : Prop :=
  (a = none ∧ len = 0 ∧ cap = 0 ∧ zs = []) ∨
  ∃ x, a = some x ∧ len ≤ cap ∧ cap ≤ maxLen ∧ zs.length = cap ∧ (∀ i, i < zs.length → w.cell? (x.add i) = some (.int k (zs.getD i 0))) ∧ ∀ n ∈ zs, (Lit.int k n).wf = true
set_option maxRecDepth 100000 in
theorem lifted (os : Os) (started : os.Started) (H : Type) (enc : TypeId × Value → H) :
    ReturnsInHanded {} Try.checked os 6 .any (Rows.fnExactNameInSpec.pre6 enc Try.prog Try.f6 Rows.fnExactNameInRow.domain false) (Rows.fnExactNameInSpec.post enc Try.prog Try.f6 false true false false) := by
  refine returnsInHanded_of_change_sized (C := Try.checked) own started (by kernel_rfl) Try.func6
    (ChangeSpec.witness6 (enc := enc) (C := Try.checked) false ⟨#[], #[.agg #[.int .i64 0, .string ByteArray.empty, .int .i64 0, .slice none 0 0, .slice none 0 0, .slice none 0 0, .slice none 0 0, .slice none 0 0, .bool false], .string ByteArray.empty], []⟩ 8 (by kernel_rfl) (by kernel_rfl) (by kernel_rfl) (by kernel_rfl)) ?_
  intro W base args ds gs before hval0 hW hcnd hsz0 _
  have hsz : (DataW.weightsEach Try.prog (Try.f6.params.toList ++ Rows.fnExactNameInSpec.plain.varTypes Try.prog) (ds ++ gs)).all (· ≤ reachBytes) = true := hsz0
  have hval : ∀ (j : Nat) t v, Try.f6.params[j]? = some t → args[j]? = some v → Value.okWide Try.prog W .any base t v := hval0
  have hW' := hW
  obtain ⟨p, q, hA0, hV, rfl, hfz, hnd⟩ := hW
  have hA : DataW.TrodAll enc Try.prog W 0 (fun _ => true) true Try.f6.params.toList args.toList ds p := hA0
  rw [Try.params6] at hA hval hsz
  obtain ⟨v0, vs0, d0, ds0, p0, q0, hargs, rfl, rfl, h0, r0⟩ := trodAll_cons hA
  obtain ⟨v1, vs1, d1, ds1, p1, q1, rfl, rfl, rfl, h1, r1⟩ := trodAll_cons r0
  obtain ⟨rfl, rfl, rfl⟩ := trodAll_nil r1
  obtain rfl : args = #[v0, v1] := by cases args; simp_all
  obtain ⟨rfl, rfl⟩ := trodVars_none hV
  have k0 := h0
  have lt0 : ∀ x ∈ p0, x.block < W.heap.size := by obtain ⟨m, hm⟩ := k0; exact DataW.trod_lt m _ _ _ hm
  have k1 := h1
  have lt1 : ∀ x ∈ p1, x.block < W.heap.size := by obtain ⟨m, hm⟩ := k1; exact DataW.trod_lt m _ _ _ hm
  obtain ⟨v90, v91, v92, v93, v94, v95, v96, v97, v98, y90, y91, y92, y93, y94, y95, y96, y97, y98, fuel9, rfl, t90, t91, t92, t93, t94, t95, t96, t97, t98⟩ := open_agg9 Try.underlying42 (by kernel_rfl) (by kernel_rfl) (hval 0 42 v0 rfl rfl) h0
  obtain ⟨b0, e0, _, _⟩ := DataW.trod_int (k := .i64) Try.underlying3 t90
  injection e0 with e0 _
  subst e0
  obtain ⟨b1, e1, _, m1⟩ := DataW.trod_string Try.underlying9 t91
  injection e1 with e1 _
  subst e1
  obtain ⟨b2, e2, _, _⟩ := DataW.trod_int (k := .i64) Try.underlying3 t92
  injection e2 with e2 _
  subst e2
  obtain ⟨b8, e8, _⟩ := DataW.trod_bool Try.underlying4 t98
  injection e8 with e8 _
  subst e8
  obtain ⟨A3, c3, l3, e3, hc3, hr3, hq3⟩ := open_C Kd.string (fun p => p.size ≤ maxLen) Try.underlying40 (by kernel_rfl) (elem_string Try.underlying9) t93
  injection e3 with e3 _
  subst e3
  obtain ⟨A4, c4, l4, e4, hc4, hr4, hq4⟩ := open_C Kd.string (fun p => p.size ≤ maxLen) Try.underlying40 (by kernel_rfl) (elem_string Try.underlying9) t94
  injection e4 with e4 _
  subst e4
  obtain ⟨A5, c5, l5, e5, hc5, hr5, hq5⟩ := open_C Kd.string (fun p => p.size ≤ maxLen) Try.underlying40 (by kernel_rfl) (elem_string Try.underlying9) t95
  injection e5 with e5 _
  subst e5
  obtain ⟨A6, c6, l6, e6, hc6, hr6, hq6⟩ := open_C Kd.string (fun p => p.size ≤ maxLen) Try.underlying40 (by kernel_rfl) (elem_string Try.underlying9) t96
  injection e6 with e6 _
  subst e6
  obtain ⟨A7, c7, l7, e7, hc7, hr7, hq7⟩ := open_C Kd.string (fun p => p.size ≤ maxLen) Try.underlying40 (by kernel_rfl) (elem_string Try.underlying9) t97
  injection e7 with e7 _
  subst e7
  obtain ⟨a1, rfl, rfl, rfl, y1⟩ := open_string Try.underlying9 (hval 1 9 v1 rfl rfl) h1
  have w1 : a1.size ≤ 140737488351232 := by
    have z := sized_string hsz (j := 1) (t := 9) rfl rfl
    rw [Array.length_toList] at z
    exact z
  obtain ⟨k, hk⟩ := Pure.FnExactNameIn b0 b1 b2 l3 l4 l5 l6 l7 b8 a1 (by simpa [maxLen] using m1) hr3.2.1 (fun r h => by have := hq3 r h; simpa [maxLen] using this) hr4.2.1 (fun r h => by have := hq4 r h; simpa [maxLen] using this) hr5.2.1 (fun r h => by have := hq5 r h; simpa [maxLen] using this) hr6.2.1 (fun r h => by have := hq6 r h; simpa [maxLen] using this) hr7.2.1 (fun r h => by have := hq7 r h; simpa [maxLen] using this)
  refine (XFnExactNameIn.laws_FnExactNameIn.calls k b0 b1 b2 _ _ l3 _ _ l4 _ _ l5 _ _ l6 _ _ l7 b8 a1 true W hr3 hc3 hr4 hc4 hr5 hc5 hr6 hc6 hr7 hc7 hk).mono fun e W' ⟨he, bel⟩ => ?_
  subst he
  exact ⟨_, rfl, _, _, _, [], _, [], hW', trodAll_mk1 (shut_bool Try.underlying4 _), (trodAll_cons_mk (Below.trod laidOut (by kernel_rfl) (of_decide_eq_true (by kernel_rfl)) k0 bel lt0) (trodAll_cons_mk (Below.trod laidOut (by kernel_rfl) (of_decide_eq_true (by kernel_rfl)) k1 bel lt1) trodAll_mk0)), rfl, bel.frame _, fun h => by cases h⟩
theorem over : Rows.fnExactNameInRow.holds Try.pinned (OpenSpec.ofChange Rows.fnExactNameInSpec) :=
  OpenClaim.holds_of_wide 6 Try.f6 rfl rfl rfl rfl rfl rfl rfl ⟨rfl, rfl, rfl, rfl, rfl⟩ rfl rfl rfl rfl rfl (by kernel_rfl) Try.func6 (by kernel_rfl)
    (of_decide_eq_true (by kernel_rfl)) (by unfold Func.isWrapper; first | (rw [if_pos (by decide +kernel)]; kernel_rfl) | (rw [if_neg (by decide +kernel)]; exact ⟨rfl, rfl⟩))
    (fun os started H enc _ => lifted os started H enc)
theorem proved : Rows.FnExactNameInSaid := over
#print axioms proved
end Go.Proofs.Ytppbnfoagbipaah.fnExactNameIn
namespace Go.Proofs.Ytppbnfoagbipaah
/-- The row, under a short name, for the claim. -/
theorem fnExactNameIn_holds : Rows.FnExactNameInSaid := fnExactNameIn.proved
end Go.Proofs.Ytppbnfoagbipaah
