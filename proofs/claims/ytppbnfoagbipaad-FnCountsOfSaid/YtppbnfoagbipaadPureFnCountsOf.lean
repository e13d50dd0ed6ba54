/- FnCountsOf: for every code, counts are of all references. -/
import Derived.Test.YtppbnfoagbipaadXFnCountsOfx5
namespace Go.Proofs.Ytppbnfoagbipaad.Pure
open Go.RowKit Go.Proofs.Ytppbnfoagbipaad.XFnCountsOf Go.Proofs.YtppbnfoagbipaadW.PrintWords Go.Proofs.YtppbnfoagbipaadW.PrintLast Go.Proofs.YtppbnfoagbipaadW.PrintMore
set_option linter.unusedVariables false
set_option linter.unusedSimpArgs false

/-! ### Rounds, and words of 64 bits -/
theorem ev_succ {α : Type} {g : Nat → Option α} {r : α} (h : Ev (fun k => g (k + 1)) r) : Ev g r := Ev.step (fun _ => rfl) h
theorem ev_some {α : Type} {o : Option α} {r : α} (h : o = some r) : Ev (fun _ => o) r := ⟨0, fun _ _ => h⟩
theorem ev_pos {α : Type} {c : Prop} [Decidable c] {A B : Nat → Option α} {r : α} (h : c) (k : Ev A r) : Ev (fun n => if c then A n else B n) r :=
  Ev.congr (fun _ => if_pos h) k
theorem ev_neg {α : Type} {c : Prop} [Decidable c] {A B : Nat → Option α} {r : α} (h : ¬ c) (k : Ev B r) : Ev (fun n => if c then A n else B n) r :=
  Ev.congr (fun _ => if_neg h) k
theorem ev_eq {α : Type} {g : Nat → Option α} {r s : α} (h : Ev g r) (e : r = s) : Ev g s := e ▸ h
theorem ev_bind1 {α β : Type} {o : Option α} {f : Nat → α → Option β} {a : α} {r : β} (h : o = some a) (k : Ev (fun n => f n a) r) : Ev (fun n => o.bind (f n)) r :=
  Ev.bind (ev_some h) k
theorem ev_det {α : Type} {g : Nat → Option α} {r s : α} (h : Ev g r) (k : Ev g s) : r = s := by
  obtain ⟨K, h⟩ := h
  obtain ⟨L, k⟩ := k
  have h1 := h (max K L) (by omega)
  have h2 := k (max K L) (by omega)
  rw [h1] at h2
  exact Option.some.inj h2
theorem w64 {n : Int} (h : -9223372036854775808 ≤ n) (h' : n ≤ 9223372036854775807) : wrap64 n = n := by unfold wrap64; omega
theorem byte_of {l : List Int} (h : ∀ x ∈ l, (Lit.int .u8 x).wf = true) (i : Int) : 0 ≤ rd l i ∧ rd l i ≤ 255 := by
  unfold rd
  by_cases hi : i.toNat < l.length
  · have hm : l.getD i.toNat 0 ∈ l := by
      rw [List.getD_eq_getElem?_getD, List.getElem?_eq_getElem hi]
      exact List.getElem_mem hi
    have := h _ hm
    have m0 : IntKind.u8.min = 0 := by decide
    have m1 : IntKind.u8.max = 255 := by decide
    simp only [Lit.wf, m0, m1, Bool.and_eq_true, decide_eq_true_eq] at this
    exact this
  · rw [List.getD_eq_getElem?_getD, List.getElem?_eq_none (by omega)]
    simp

/-! ### Draws: what they pick, and that they never panic -/
theorem xor_ok (v u : Int) (h0 : 0 ≤ v) (h1 : v < 4611686018427387904) (u0 : 0 ≤ u) (u1 : u < 4611686018427387904) : 0 ≤ Go.bits .xor .i64 v u := by
  obtain ⟨a, rfl⟩ := Int.eq_ofNat_of_zero_le h0
  obtain ⟨b, rfl⟩ := Int.eq_ofNat_of_zero_le u0
  have ofInt : ∀ a : Nat, a < 9223372036854775808 → (BitVec.ofInt 64 (a : Int)).toNat = a := fun a ha => by
    rw [BitVec.ofInt_natCast, BitVec.toNat_ofNat]; exact Nat.mod_eq_of_lt (by omega)
  have hx : a ^^^ b < 2 ^ 63 := Nat.xor_lt_two_pow (by omega) (by omega)
  show 0 ≤ IntKind.i64.wrap ((BitVec.ofInt 64 (a : Int) ^^^ BitVec.ofInt 64 (b : Int)).toNat : Int)
  rw [BitVec.toNat_xor, ofInt a (by omega), ofInt b (by omega), IntKind.wrap_i64]
  omega

theorem pick_ok {code : List Int} (hl : code.length ≤ 4000) (hb : ∀ x ∈ code, (Lit.int .u8 x).wf = true) {p : Int} (h0 : 0 ≤ p) (h1 : p ≤ 1000000) (n : Int) :
    ∃ v q, spec_rnd_pick.f code p n = some (v, q) ∧ 0 ≤ v ∧ (v < n ∨ (n < 2 ∧ v = 0)) ∧ p ≤ q ∧ q ≤ p + 1 := by
  unfold spec_rnd_pick.f
  by_cases hn : n < 2
  · rw [if_pos hn]; exact ⟨0, p, rfl, by omega, .inr ⟨hn, rfl⟩, by omega, by omega⟩
  rw [if_neg hn]
  have hw : wrap64 (p + 1) = p + 1 := w64 (by omega) (by omega)
  have fin : ∀ v : Int, 0 ≤ v → ∃ v' q, (if n = 0 then none else some (Int.tmod v n, wrap64 (p + 1))) = some (v', q) ∧ 0 ≤ v' ∧ (v' < n ∨ (n < 2 ∧ v' = 0)) ∧ p ≤ q ∧ q ≤ p + 1 := by
    intro v hv
    rw [if_neg (by omega), hw, Int.tmod_eq_emod_of_nonneg hv]
    exact ⟨_, _, rfl, Int.emod_nonneg _ (by omega), .inl (Int.emod_lt_of_pos _ (by omega)), by omega, by omega⟩
  by_cases hc : (code.length : Int) > 0
  · rw [if_pos hc, if_neg (by omega)]
    have e1 : Int.tmod p (code.length : Int) = p % code.length := Int.tmod_eq_emod_of_nonneg h0
    have e2 : wrap64 (wrap64 (p * 7) + 3) = p * 7 + 3 := by rw [w64 (n := p * 7) (by omega) (by omega)]; exact w64 (by omega) (by omega)
    have e3 : Int.tmod (p * 7 + 3) (code.length : Int) = (p * 7 + 3) % code.length := Int.tmod_eq_emod_of_nonneg (by omega)
    have m0 := Int.emod_nonneg p (show (code.length : Int) ≠ 0 by omega)
    have m1 := Int.emod_lt_of_pos p hc
    have m2 := Int.emod_nonneg (p * 7 + 3) (show (code.length : Int) ≠ 0 by omega)
    have m3 := Int.emod_lt_of_pos (p * 7 + 3) hc
    have e4 : Int.tdiv p (code.length : Int) = p / code.length := Int.tdiv_eq_ediv_of_nonneg h0
    have d0 : 0 ≤ p / (code.length : Int) := Int.ediv_nonneg h0 (by omega)
    have d1 : p / (code.length : Int) ≤ p := Int.ediv_le_self _ h0
    rw [e1, if_pos m0, if_pos m1, e2, e3, if_pos m2, if_pos m3, e4]
    obtain ⟨a0, a1⟩ := byte_of hb (p % code.length)
    obtain ⟨b0, b1⟩ := byte_of hb ((p * 7 + 3) % code.length)
    generalize rd code (p % code.length) = a at a0 a1 ⊢
    generalize rd code ((p * 7 + 3) % code.length) = b at b0 b1 ⊢
    generalize p / (code.length : Int) = d at d0 d1 ⊢
    have w1 : wrap64 a = a := w64 (by omega) (by omega)
    have w2 : wrap64 b = b := w64 (by omega) (by omega)
    have w3 : wrap64 (a * 131) = a * 131 := w64 (by omega) (by omega)
    have w4 : wrap64 (b * 1117) = b * 1117 := w64 (by omega) (by omega)
    have w5 : wrap64 (p * 29) = p * 29 := w64 (by omega) (by omega)
    have w6 : wrap64 d = d := w64 (by omega) (by omega)
    have w7 : wrap64 (d * 53) = d * 53 := w64 (by omega) (by omega)
    have w8 : wrap64 (a * 131 + b * 1117) = a * 131 + b * 1117 := w64 (by omega) (by omega)
    have w9 : wrap64 (a * 131 + b * 1117 + p * 29) = a * 131 + b * 1117 + p * 29 := w64 (by omega) (by omega)
    have w10 : wrap64 (a * 131 + b * 1117 + p * 29 + d * 53) = a * 131 + b * 1117 + p * 29 + d * 53 := w64 (by omega) (by omega)
    rw [w1, w2, w3, w4, w5, w6, w7, w8, w9, w10]
    have big : 0 ≤ Go.bits .xor .i64 (a * 131 + b * 1117 + p * 29 + d * 53) (wrap64 (Int.tdiv (a * 131 + b * 1117 + p * 29 + d * 53) 64)) := by
      have t : Int.tdiv (a * 131 + b * 1117 + p * 29 + d * 53) 64 = (a * 131 + b * 1117 + p * 29 + d * 53) / 64 := Int.tdiv_eq_ediv_of_nonneg (by omega)
      rw [t, w64 (by omega) (by omega)]
      exact xor_ok _ _ (by omega) (by omega) (by omega) (by omega)
    by_cases h256 : n > 256
    · rw [if_pos h256]; exact fin _ big
    · rw [if_neg h256]
      by_cases hp : p ≥ (code.length : Int)
      · rw [if_pos hp]; exact fin _ big
      · rw [if_neg hp]; exact fin _ a0
  · rw [if_neg hc, if_neg (by omega), hw]
    exact ⟨_, _, rfl, by simp, .inl (by simp; omega), by omega, by omega⟩

theorem newRnd_ok {l : List Int} (hl : l.length ≤ 1048576) (hb : ∀ x ∈ l, (Lit.int .u8 x).wf = true) :
    ∃ code, spec_newRnd.f l = some (code, 0) ∧ code.length ≤ 4000 ∧ ∀ x ∈ code, (Lit.int .u8 x).wf = true := by
  unfold spec_newRnd.f
  have h : mn (l.length : Int) 4000 = min (l.length : Int) 4000 := by unfold mn; split <;> omega
  rw [h, if_pos (by omega), if_pos (by omega)]
  refine ⟨_, rfl, ?_, fun x hx => hb x (List.mem_of_mem_take hx)⟩
  rw [List.length_take]; omega

theorem one_ok {code : List Int} (hl : code.length ≤ 4000) (hb : ∀ x ∈ code, (Lit.int .u8 x).wf = true) {p : Int} (h0 : 0 ≤ p) (h1 : p ≤ 1000000) (list : List Int) (hn : list ≠ []) :
    ∃ v q, spec_rnd_one.f code p list = some (v, q) ∧ v ∈ list ∧ p ≤ q ∧ q ≤ p + 1 := by
  have hlen : 0 < list.length := List.length_pos_iff.2 hn
  obtain ⟨i, q, e, i0, i1, q0, q1⟩ := pick_ok hl hb h0 h1 (list.length : Int)
  unfold spec_rnd_one.f
  have hi : i < (list.length : Int) := by omega
  rw [e]
  simp only [Option.bind_some]
  rw [if_pos i0, if_pos hi]
  refine ⟨_, _, rfl, ?_, q0, q1⟩
  unfold rd
  rw [List.getD_eq_getElem?_getD, List.getElem?_eq_getElem (show i.toNat < list.length by omega)]
  exact List.getElem_mem _

/-! ### Reading a list -/
theorem rd_at (l : List Int) (i : Nat) (h : i < l.length) : rd l (i : Int) = l[i] := by
  unfold rd
  simp [List.getD_eq_getElem?_getD, h]
theorem next_i (i : Nat) (h : i ≤ 4611686018427387904) : wrap64 ((i : Int) + 1) = ((i + 1 : Nat) : Int) := by rw [w64 (by omega) (by omega)]; omega

theorem same_from (l : List Int) (hl : l.length ≤ 1048576) (d : Nat) : ∀ (i : Nat), i + d = l.length → Ev (fun k => spec_sameNums.l0 k l l (i : Int)) true := by
  induction d with
  | zero =>
    intro i hi
    refine ev_succ ?_
    simp only [spec_sameNums.l0]
    exact ev_neg (by omega) (ev_some rfl)
  | succ d ih =>
    intro i hi
    refine ev_succ ?_
    simp only [spec_sameNums.l0]
    refine ev_pos (by omega) (ev_pos (by omega) (ev_pos (by omega) (ev_pos trivial ?_)))
    rw [next_i i (by omega)]
    exact ih (i + 1) (by omega)
theorem same_ev (l : List Int) (hl : l.length ≤ 1048576) : Ev (fun k => spec_SameInts.f k l l) true := by
  unfold spec_SameInts.f spec_sameNums.f
  refine Ev.bind (a := true) (ev_pos rfl (same_from l hl l.length 0 (by omega))) (ev_some rfl)

theorem numbers_from {code : List Int} (hl : code.length ≤ 4000) (hb : ∀ x ∈ code, (Lit.int .u8 x).wf = true) (n : Int) (d : Nat) : ∀ (out : List Int) (p : Int), out.length + d ≤ 100 → 0 ≤ p → p + d ≤ 900000 →
    ∃ r q, Ev (fun k => spec_rnd_numbers.l0 k n out (d : Int) code p) (r, q) ∧ r.length = out.length + d ∧ (∀ x ∈ r, x ∈ out ∨ (0 ≤ x ∧ (x < n ∨ x = 0))) ∧ p ≤ q ∧ q ≤ p + d := by
  induction d with
  | zero =>
    intro out p ho p0 p1
    refine ⟨out, p, ev_succ ?_, by omega, fun x hx => .inl hx, by omega, by omega⟩
    simp only [spec_rnd_numbers.l0]
    exact ev_neg (by omega) (ev_some rfl)
  | succ d ih =>
    intro out p ho p0 p1
    obtain ⟨v, q, e, v0, v1, q0, q1⟩ := pick_ok hl hb p0 (by omega) n
    obtain ⟨r, q', hr, hrl, hx, q0', q1'⟩ := ih (out ++ [v]) q (by simp; omega) (by omega) (by omega)
    refine ⟨r, q', ev_succ ?_, by simp at hrl; omega, fun x hxr => ?_, by omega, by omega⟩
    · simp only [spec_rnd_numbers.l0]
      have hd : wrap64 (((d + 1 : Nat) : Int) - 1) = (d : Int) := by rw [w64 (by omega) (by omega)]; omega
      refine ev_pos (by omega) (ev_bind1 e (ev_pos (by omega) ?_))
      rw [hd]
      exact hr
    · rcases hx x hxr with h | h
      · simp only [List.mem_append, List.mem_singleton] at h
        rcases h with h | rfl
        · exact .inl h
        · exact .inr ⟨v0, by omega⟩
      · exact .inr h
theorem numbers_ok {code : List Int} (hl : code.length ≤ 4000) (hb : ∀ x ∈ code, (Lit.int .u8 x).wf = true) {p : Int} (h0 : 0 ≤ p) (h1 : p ≤ 800000) (most n : Int) (m0 : 1 ≤ most) (m1 : most ≤ 100) :
    ∃ r q, Ev (fun k => spec_rnd_numbers.f k code p most n) (r, q) ∧ r.length ≤ most.toNat ∧ (∀ x ∈ r, 0 ≤ x ∧ (x < n ∨ x = 0)) ∧ p ≤ q ∧ q ≤ p + 101 := by
  obtain ⟨v, q, e, v0, v1, q0, q1⟩ := pick_ok hl hb h0 (by omega) (most + 1)
  obtain ⟨m, rfl⟩ := Int.eq_ofNat_of_zero_le v0
  obtain ⟨r, q', hr, hrl, hx, q0', q1'⟩ := numbers_from hl hb n m [] q (by simp; omega) (by omega) (by omega)
  refine ⟨r, q', ?_, by simp at hrl; omega, fun x h => ?_, by omega, by omega⟩
  · unfold spec_rnd_numbers.f
    have hw : wrap64 (most + 1) = most + 1 := w64 (by omega) (by omega)
    rw [hw]
    exact ev_bind1 e hr
  · rcases hx x h with h | h
    · simp at h
    · exact h

/-! ### Graphs -/
theorem rdL_at (l : List (List Int)) (i : Nat) (h : i < l.length) : rd_L2 l (i : Int) = l[i] := by
  unfold rd_L2
  simp [List.getD_eq_getElem?_getD, h]
def idxB (n : Int) (l : List Int) : Bool := l.all fun k => decide (0 ≤ k ∧ k < n)
def rowB (n : Int) (l : List Int) : Bool := decide (l.length ≤ 5) && idxB n l
def refsB (refs : List (List Int)) : Bool := decide (refs.length ≤ 12) && refs.all (rowB refs.length)
def rootsB (n : Int) (roots : List Int) : Bool := decide (roots.length ≤ 12) && idxB n roots
def graphB (refs : List (List Int)) (roots : List Int) : Bool := refsB refs && rootsB refs.length roots

theorem idx_cons (n x : Int) (l : List Int) : idxB n (x :: l) = (decide (0 ≤ x ∧ x < n) && idxB n l) := rfl
theorem indices_from (l : List Int) (n : Int) (hl : l.length ≤ 1048576) (d : Nat) : ∀ i : Nat, i + d = l.length → Ev (fun k => impl_indicesOk.l0 k n l (l.length : Int) (i : Int)) (idxB n (l.drop i)) := by
  induction d with
  | zero =>
    intro i hi
    refine ev_succ ?_
    simp only [impl_indicesOk.l0]
    refine ev_neg (by omega) (ev_some ?_)
    rw [List.drop_of_length_le (by omega)]; rfl
  | succ d ih =>
    intro i hi
    have hlt : i < l.length := by omega
    refine ev_succ ?_
    simp only [impl_indicesOk.l0]
    rw [rd_at l i hlt, next_i i (by omega), List.drop_eq_getElem_cons hlt]
    refine ev_pos (by omega) (ev_pos (by omega) (ev_pos (by omega) ?_))
    by_cases h1 : l[i] < 0
    · exact ev_pos h1 (ev_some (by rw [idx_cons, decide_eq_false (by omega)]; rfl))
    · refine ev_neg h1 ?_
      by_cases h2 : l[i] ≥ n
      · exact ev_pos h2 (ev_some (by rw [idx_cons, decide_eq_false (by omega)]; rfl))
      · refine ev_neg h2 (ev_eq (ih (i + 1) (by omega)) ?_)
        have : decide (0 ≤ l[i] ∧ l[i] < n) = true := decide_eq_true (by omega)
        rw [idx_cons, this, Bool.true_and]
theorem indices_ev (l : List Int) (n : Int) (hl : l.length ≤ 1048576) : Ev (fun k => impl_indicesOk.f k l n) (idxB n l) := indices_from l n hl l.length 0 (by omega)

theorem graph_from (refs : List (List Int)) (hn : refs.length ≤ 1048576) (hr : ∀ l ∈ refs, l.length ≤ 1048576) (d : Nat) : ∀ i : Nat, i + d = refs.length →
    Ev (fun k => impl_GraphOk.l0 k refs refs (refs.length : Int) (i : Int)) ((refs.drop i).all (rowB refs.length)) := by
  induction d with
  | zero =>
    intro i hi
    refine ev_succ ?_
    simp only [impl_GraphOk.l0]
    refine ev_neg (by omega) (ev_some ?_)
    rw [List.drop_of_length_le (by omega)]; rfl
  | succ d ih =>
    intro i hi
    have hlt : i < refs.length := by omega
    refine ev_succ ?_
    simp only [impl_GraphOk.l0]
    rw [rdL_at refs i hlt, next_i i (by omega), List.drop_eq_getElem_cons hlt, List.all_cons]
    refine ev_pos (by omega) (ev_pos (by omega) (ev_pos (by omega) ?_))
    by_cases h1 : (refs[i].length : Int) > 5
    · exact ev_pos h1 (ev_some (by rw [rowB, decide_eq_false (by omega)]; rfl))
    · refine ev_neg h1 (Ev.bind (indices_ev refs[i] (refs.length : Int) (hr _ (List.getElem_mem hlt))) ?_)
      have e : rowB refs.length refs[i] = idxB refs.length refs[i] := by rw [rowB, decide_eq_true (by omega)]; rfl
      rw [e]
      cases idxB (refs.length : Int) refs[i] with
      | true => exact ev_pos rfl (ev_eq (ih (i + 1) (by omega)) (by simp))
      | false => exact ev_neg (by simp) (ev_some (by simp))

theorem graph_ev (refs : List (List Int)) (roots : List Int) (hn : refs.length ≤ 1048576) (hr : ∀ l ∈ refs, l.length ≤ 1048576) (hl : roots.length ≤ 1048576) : Ev (fun k => impl_GraphOk.f k refs roots) (graphB refs roots) := by
  have no : Ev (fun k => impl_GraphOk.j0 k refs true) false := by
    refine ev_succ ?_
    simp only [impl_GraphOk.j0]
    exact ev_pos trivial (ev_some rfl)
  unfold impl_GraphOk.f
  by_cases h1 : (refs.length : Int) > 12
  · refine ev_pos h1 (ev_eq no ?_)
    rw [graphB, refsB, decide_eq_false (by omega)]; rfl
  refine ev_neg h1 ?_
  by_cases h2 : (roots.length : Int) > 12
  · refine ev_pos h2 (ev_eq no ?_)
    rw [graphB, rootsB, decide_eq_false (by omega : ¬ roots.length ≤ 12)]; simp
  refine ev_neg h2 (Ev.bind (indices_ev roots (refs.length : Int) hl) ?_)
  have e : rootsB (refs.length : Int) roots = idxB refs.length roots := by rw [rootsB, decide_eq_true (by omega)]; rfl
  have e2 : refsB refs = refs.all (rowB refs.length) := by rw [refsB, decide_eq_true (by omega)]; rfl
  rw [graphB, e, e2]
  cases idxB (refs.length : Int) roots with
  | false => exact ev_eq no (by simp)
  | true =>
    refine ev_succ ?_
    simp only [impl_GraphOk.j0]
    refine ev_neg (by simp) (ev_eq (graph_from refs hn hr refs.length 0 (by omega)) (by simp))

theorem in_idx (k n : Int) (hn : 0 ≤ n) (hn' : n ≤ 1048576) : spec_inRange.f k 0 (wrap64 (n - 1)) = some (decide (0 ≤ k ∧ k < n)) := by
  have hw : wrap64 (n - 1) = n - 1 := w64 (by omega) (by omega)
  unfold spec_inRange.f
  rw [hw]
  by_cases h : k ≥ 0
  · have h' : 0 ≤ k := h
    rw [if_pos h]; congr 1; simp [h']; omega
  · rw [if_neg h, decide_eq_false (by omega)]

theorem roots_from (l : List Int) (n : Int) (hn : 0 ≤ n) (hn' : n ≤ 1048576) (hl : l.length ≤ 1048576) (d : Nat) : ∀ i : Nat, i + d = l.length → Ev (fun k => spec_validRoots.l0 k l n (i : Int)) (idxB n (l.drop i) && decide (l.length ≤ 12)) := by
  induction d with
  | zero =>
    intro i hi
    refine ev_succ ?_
    simp only [spec_validRoots.l0]
    refine ev_neg (by omega) (ev_some ?_)
    rw [List.drop_of_length_le (by omega)]; simp [idxB]; omega
  | succ d ih =>
    intro i hi
    have hlt : i < l.length := by omega
    refine ev_succ ?_
    simp only [spec_validRoots.l0]
    rw [rd_at l i hlt, next_i i (by omega), List.drop_eq_getElem_cons hlt]
    refine ev_pos (by omega) (ev_pos (by omega) (ev_bind1 (in_idx _ _ hn hn') ?_))
    simp only [idxB, List.all_cons]
    by_cases h : decide (0 ≤ l[i] ∧ l[i] < n) = true
    · refine ev_pos h (ev_eq (ih (i + 1) (by omega)) ?_)
      rw [h, Bool.true_and]; rfl
    · refine ev_neg h (ev_some ?_)
      rw [Bool.not_eq_true] at h
      rw [h]; rfl
theorem roots_ev (l : List Int) (n : Int) (hn : 0 ≤ n) (hn' : n ≤ 1048576) (hl : l.length ≤ 1048576) : Ev (fun k => spec_validRoots.f k l n) (rootsB n l) := by
  unfold spec_validRoots.f
  refine ev_eq (roots_from l n hn hn' hl l.length 0 (by omega)) ?_
  rw [List.drop_zero, rootsB, Bool.and_comm]

theorem refs_from (refs : List (List Int)) (hn : refs.length ≤ 1048576) (hr : ∀ l ∈ refs, l.length ≤ 1048576) (d : Nat) : ∀ i : Nat, i + d = refs.length →
    Ev (fun k => spec_validGraph.l0 k refs (i : Int)) ((refs.drop i).all (rowB refs.length) && decide (refs.length ≤ 12)) := by
  induction d with
  | zero =>
    intro i hi
    refine ev_succ ?_
    simp only [spec_validGraph.l0]
    refine ev_neg (by omega) (ev_some ?_)
    rw [List.drop_of_length_le (by omega)]; simp; omega
  | succ d ih =>
    intro i hi
    have hlt : i < refs.length := by omega
    have hrow := hr _ (List.getElem_mem hlt)
    rw [List.drop_eq_getElem_cons hlt, List.all_cons]
    have row : ∀ (c j : Nat), j + c = refs[i].length → Ev (fun k => spec_validGraph.l1 k refs (i : Int) (j : Int)) ((idxB refs.length (refs[i].drop j) && decide (refs[i].length ≤ 5)) && ((refs.drop (i + 1)).all (rowB refs.length) && decide (refs.length ≤ 12))) := by
      intro c
      induction c with
      | zero =>
        intro j hj
        refine ev_succ ?_
        simp only [spec_validGraph.l1]
        rw [rdL_at refs i hlt]
        refine ev_pos (by omega) (ev_pos (by omega) (ev_neg (by omega) ?_))
        have e : idxB (refs.length : Int) (refs[i].drop j) = true := by rw [List.drop_of_length_le (by omega)]; rfl
        rw [e, next_i i (by omega)]
        by_cases h5 : (refs[i].length : Int) > 5
        · refine ev_pos h5 (ev_some ?_)
          rw [decide_eq_false (by omega : ¬ refs[i].length ≤ 5)]; rfl
        · refine ev_neg h5 (ev_eq (ih (i + 1) (by omega)) ?_)
          rw [decide_eq_true (by omega : refs[i].length ≤ 5)]; simp
      | succ c ihc =>
        intro j hj
        have hltj : j < refs[i].length := by omega
        refine ev_succ ?_
        simp only [spec_validGraph.l1]
        rw [rdL_at refs i hlt, rd_at _ j hltj, next_i j (by omega), List.drop_eq_getElem_cons hltj]
        refine ev_pos (by omega) (ev_pos (by omega) (ev_pos (by omega) (ev_pos (by omega) (ev_bind1 (in_idx _ _ (by omega) (by omega)) ?_))))
        simp only [idxB, List.all_cons]
        by_cases h : decide (0 ≤ refs[i][j] ∧ refs[i][j] < (refs.length : Int)) = true
        · refine ev_pos h (ev_eq (ihc (j + 1) (by omega)) ?_)
          rw [h, Bool.true_and]; rfl
        · refine ev_neg h (ev_some ?_)
          rw [Bool.not_eq_true] at h
          rw [h]; rfl
    refine ev_succ ?_
    simp only [spec_validGraph.l0]
    refine ev_pos (by omega) (ev_eq (row refs[i].length 0 (by omega)) ?_)
    rw [List.drop_zero, rowB, Bool.and_comm (idxB _ _), Bool.and_assoc, Bool.and_assoc, Bool.and_assoc]
theorem refs_ev (refs : List (List Int)) (hn : refs.length ≤ 1048576) (hr : ∀ l ∈ refs, l.length ≤ 1048576) : Ev (fun k => spec_validGraph.f k refs) (refsB refs) := by
  unfold spec_validGraph.f
  refine ev_eq (refs_from refs hn hr refs.length 0 (by omega)) ?_
  rw [List.drop_zero, refsB, Bool.and_comm]

theorem graph_end2 {code : List Int} (hl : code.length ≤ 4000) (hb : ∀ x ∈ code, (Lit.int .u8 x).wf = true) (refs : List (List Int)) (roots : List Int) {p : Int} (h0 : 0 ≤ p) (h1 : p ≤ 800000) (hr : roots.length ≤ 3) :
    ∃ r q, Ev (fun k => spec_rnd_graph.j2 k refs roots code p) (refs, r, q) ∧ r.length ≤ 4 := by
  obtain ⟨v, q, e, _, _, q0, q1⟩ := pick_ok hl hb h0 (by omega) 14
  by_cases hv : v = 0
  · obtain ⟨u, q', e', _, q0', q1'⟩ := one_ok hl hb (p := q) (by omega) (by omega) [(-1), 4611686018427387904, (-4611686018427387904), 1001, 7, 1000001, (-9223372036854775808), 9223372036854775807] (by simp)
    refine ⟨roots ++ [u], q', ev_succ ?_, by simp; omega⟩
    simp only [spec_rnd_graph.j2]
    refine ev_bind1 e (ev_pos hv (ev_bind1 (a := (u, q')) ?_ (ev_pos (by omega) (ev_some rfl))))
    unfold spec_rnd_odd.f
    rw [e']; rfl
  · refine ⟨roots, q, ev_succ ?_, by omega⟩
    simp only [spec_rnd_graph.j2]
    exact ev_bind1 e (ev_neg hv (ev_some rfl))
theorem graph_end1 {code : List Int} (hl : code.length ≤ 4000) (hb : ∀ x ∈ code, (Lit.int .u8 x).wf = true) (refs : List (List Int)) (roots : List Int) {p : Int} (h0 : 0 ≤ p) (h1 : p ≤ 700000) (hr : roots.length ≤ 3) (hn : refs.length ≤ 8) (hrl : ∀ l ∈ refs, l.length ≤ 3) :
    ∃ f r q, Ev (fun k => spec_rnd_graph.j1 k refs roots code p) (f, r, q) ∧ r.length ≤ 4 ∧ f.length ≤ 9 ∧ ∀ l ∈ f, l.length ≤ 3 := by
  obtain ⟨v, q, e, _, _, q0, q1⟩ := pick_ok hl hb h0 (by omega) 14
  by_cases hv : v = 0
  · obtain ⟨u, q', e', _, q0', q1'⟩ := one_ok hl hb (p := q) (by omega) (by omega) [(-1), 4611686018427387904, (-4611686018427387904), 1001, 7, 1000001, (-9223372036854775808), 9223372036854775807] (by simp)
    obtain ⟨r, q2, hr2, hrl2⟩ := graph_end2 hl hb (refs ++ [[u]]) roots (p := q') (by omega) (by omega) hr
    refine ⟨refs ++ [[u]], r, q2, ev_succ ?_, hrl2, by simp; omega, ?_⟩
    · simp only [spec_rnd_graph.j1]
      refine ev_bind1 e (ev_pos hv (ev_bind1 (a := (u, q')) ?_ (ev_pos (by omega) hr2)))
      unfold spec_rnd_odd.f
      rw [e']; rfl
    · intro l h
      simp only [List.mem_append, List.mem_singleton] at h
      rcases h with h | rfl
      · exact hrl l h
      · simp
  · obtain ⟨r, q2, hr2, hrl2⟩ := graph_end2 hl hb refs roots (p := q) (by omega) (by omega) hr
    refine ⟨refs, r, q2, ev_succ ?_, hrl2, by omega, hrl⟩
    simp only [spec_rnd_graph.j1]
    exact ev_bind1 e (ev_neg hv hr2)
theorem graph_rows {code : List Int} (hl : code.length ≤ 4000) (hb : ∀ x ∈ code, (Lit.int .u8 x).wf = true) (n : Int) (n0 : 0 ≤ n) (n1 : n ≤ 8) (d : Nat) : ∀ (refs : List (List Int)) (p : Int), (refs.length : Int) + d = n → 0 ≤ p → p + 200 * d ≤ 600000 → (∀ l ∈ refs, l.length ≤ 3) →
    ∃ f r q, Ev (fun k => spec_rnd_graph.l0 k n refs (refs.length : Int) code p) (f, r, q) ∧ r.length ≤ 4 ∧ f.length ≤ 9 ∧ ∀ l ∈ f, l.length ≤ 3 := by
  induction d with
  | zero =>
    intro refs p hn p0 p1 hrl
    by_cases hz : n > 0
    · obtain ⟨g, q, hg, hgl, _, q0, q1⟩ := numbers_ok hl hb p0 (by omega) 3 n (by omega) (by omega)
      obtain ⟨f, r, q2, h, h1, h2, h3⟩ := graph_end1 hl hb refs g (p := q) (by omega) (by omega) (by simpa using hgl) (by omega) hrl
      refine ⟨f, r, q2, ev_succ ?_, h1, h2, h3⟩
      simp only [spec_rnd_graph.l0]
      exact ev_neg (by omega) (ev_pos hz (Ev.bind hg h))
    · obtain ⟨f, r, q2, h, h1, h2, h3⟩ := graph_end1 hl hb refs [] p0 (by omega) (by simp) (by omega) hrl
      refine ⟨f, r, q2, ev_succ ?_, h1, h2, h3⟩
      simp only [spec_rnd_graph.l0]
      exact ev_neg (by omega) (ev_neg hz h)
  | succ d ih =>
    intro refs p hn p0 p1 hrl
    obtain ⟨g, q, hg, hgl, _, q0, q1⟩ := numbers_ok hl hb p0 (by omega) 3 n (by omega) (by omega)
    obtain ⟨f, r, q2, h, h1, h2, h3⟩ := ih (refs ++ [g]) q (by simp; omega) (by omega) (by omega) (by
      intro l hm
      simp only [List.mem_append, List.mem_singleton] at hm
      rcases hm with hm | rfl
      · exact hrl l hm
      · simpa using hgl)
    refine ⟨f, r, q2, ev_succ ?_, h1, h2, h3⟩
    simp only [spec_rnd_graph.l0]
    refine ev_pos (by omega) (Ev.bind hg (ev_pos (by omega) ?_))
    have hw : wrap64 ((refs.length : Int) + 1) = ((refs ++ [g]).length : Int) := by rw [w64 (by omega) (by omega)]; simp
    rw [hw]
    exact h
theorem draw_graph {l : List Int} (hl : l.length ≤ 1048576) (hb : ∀ x ∈ l, (Lit.int .u8 x).wf = true) :
    ∃ f r, Ev (fun k => spec_DrawCountsOf.f k l) (f, r) ∧ r.length ≤ 4 ∧ f.length ≤ 9 ∧ ∀ l ∈ f, l.length ≤ 3 := by
  obtain ⟨code, e, hc, hbc⟩ := newRnd_ok (l := l) hl hb
  obtain ⟨v, q, e1, v0, v1, q0, q1⟩ := pick_ok hc hbc (p := 0) (by omega) (by omega) 9
  obtain ⟨f, r, q2, h, h1, h2, h3⟩ := graph_rows hc hbc v v0 (by omega) v.toNat [] q (by simp; omega) (by omega) (by omega) (by simp)
  refine ⟨f, r, ?_, h1, h2, h3⟩
  unfold spec_DrawCountsOf.f
  refine ev_bind1 e (Ev.bind (a := (f, r, q2)) ?_ (ev_some rfl))
  unfold spec_rnd_graph.f
  exact ev_bind1 e1 h

/-! ### Counts -/
def bump (l : List Int) (k : Int) : List Int := l.set k.toNat (rd l k + 1)
def rowsC (refs : List (List Int)) (x : List Int) : List Int := refs.foldl (fun acc row => row.foldl bump acc) x
def countsL (refs : List (List Int)) (roots : List Int) : List Int := rowsC refs (roots.foldl bump (List.replicate refs.length 0))
theorem bump_length (l : List Int) (k : Int) : (bump l k).length = l.length := by simp [bump]
theorem foldb_length : ∀ (ks : List Int) (l : List Int), (ks.foldl bump l).length = l.length
  | [], _ => rfl
  | k :: ks, l => by rw [List.foldl_cons, foldb_length ks, bump_length]
theorem rowsC_length : ∀ (refs : List (List Int)) (x : List Int), (rowsC refs x).length = x.length
  | [], _ => rfl
  | r :: refs, x => by
    have := rowsC_length refs (r.foldl bump x)
    rw [foldb_length] at this
    exact this
def Bd (m : Int) (l : List Int) : Prop := ∀ x ∈ l, 0 ≤ x ∧ x ≤ m
theorem rd_bd {m : Int} {l : List Int} (h : Bd m l) (hm : 0 ≤ m) (k : Int) : 0 ≤ rd l k ∧ rd l k ≤ m := by
  unfold rd
  by_cases hk : k.toNat < l.length
  · rw [List.getD_eq_getElem?_getD, List.getElem?_eq_getElem hk]; exact h _ (List.getElem_mem hk)
  · rw [List.getD_eq_getElem?_getD, List.getElem?_eq_none (by omega)]; simp; omega
theorem bump_bd {m : Int} {l : List Int} (h : Bd m l) (hm : 0 ≤ m) (k : Int) : Bd (m + 1) (bump l k) := by
  intro x hx
  rcases List.mem_or_eq_of_mem_set hx with hx | rfl
  · have := h x hx; omega
  · have := rd_bd h hm k; omega
theorem foldb_bd : ∀ (ks : List Int) (l : List Int) (m : Int), Bd m l → 0 ≤ m → Bd (m + ks.length) (ks.foldl bump l)
  | [], l, m, h, _ => by simpa using h
  | k :: ks, l, m, h, hm => by
    have := foldb_bd ks (bump l k) (m + 1) (bump_bd h hm k) (by omega)
    rw [List.foldl_cons, List.length_cons]
    have e : m + 1 + (ks.length : Int) = m + ((ks.length + 1 : Nat) : Int) := by omega
    rw [e] at this; exact this
theorem idx_mem {n : Int} {l : List Int} (h : idxB n l = true) {x : Int} (hx : x ∈ l) : 0 ≤ x ∧ x < n := by
  rw [idxB, List.all_eq_true] at h
  simpa using h x hx

section
variable (refs : List (List Int)) (hn : refs.length ≤ 1048576) (hr : ∀ l ∈ refs, l.length ≤ 5) (hi : ∀ l ∈ refs, idxB refs.length l = true)
include hn hr hi
theorem impl_rows (d : Nat) : ∀ (i : Nat) (x : List Int) (m : Int), i + d = refs.length → x.length = refs.length → Bd m x → 0 ≤ m → m + 5 * d ≤ 1000000000 →
    Ev (fun k => impl_counts.l1 k x refs (refs.length : Int) (i : Int)) (rowsC (refs.drop i) x) := by
  induction d with
  | zero =>
    intro i x m hid hx _ _ _
    refine ev_succ ?_
    simp only [impl_counts.l1]
    refine ev_neg (by omega) (ev_some ?_)
    rw [List.drop_of_length_le (by omega)]; rfl
  | succ d ih =>
    intro i x m hid hx hb hm hmx
    have hlt : i < refs.length := by omega
    have hrow := hr _ (List.getElem_mem hlt)
    have hidx := hi _ (List.getElem_mem hlt)
    have row : ∀ (c j : Nat) (y : List Int) (m' : Int), j + c = refs[i].length → y.length = refs.length → Bd m' y → 0 ≤ m' → m' + c + 5 * d ≤ 1000000000 →
        Ev (fun k => impl_counts.l2 k y refs (refs.length : Int) (i : Int) refs[i] (refs[i].length : Int) (j : Int)) (rowsC (refs.drop (i + 1)) ((refs[i].drop j).foldl bump y)) := by
      intro c
      induction c with
      | zero =>
        intro j y m' hj hy hby hm' hmy
        refine ev_succ ?_
        simp only [impl_counts.l2]
        rw [next_i i (by omega)]
        refine ev_neg (by omega) (ev_eq (ih (i + 1) y m' (by omega) hy hby hm' (by omega)) ?_)
        rw [List.drop_of_length_le (by omega : refs[i].length ≤ j)]; rfl
      | succ c ihc =>
        intro j y m' hj hy hby hm' hmy
        have hltj : j < refs[i].length := by omega
        have hk := idx_mem hidx (List.getElem_mem hltj)
        have hv := rd_bd hby hm' refs[i][j]
        have hw : wrap64 (rd y refs[i][j] + 1) = rd y refs[i][j] + 1 := w64 (by omega) (by omega)
        refine ev_succ ?_
        simp only [impl_counts.l2]
        rw [rd_at _ j hltj, next_i j (by omega), hw, List.drop_eq_getElem_cons hltj, List.foldl_cons]
        exact ev_pos (by omega) (ev_pos (by omega) (ev_pos (by omega) (ev_pos hk.1 (ev_pos (by omega) (ihc (j + 1) (bump y refs[i][j]) (m' + 1) (by omega) (by rw [bump_length, hy]) (bump_bd hby hm' _) (by omega) (by omega))))))
    refine ev_succ ?_
    simp only [impl_counts.l1]
    rw [rdL_at refs i hlt, List.drop_eq_getElem_cons hlt]
    exact ev_pos (by omega) (ev_pos (by omega) (ev_pos (by omega) (row refs[i].length 0 x m (by omega) hx hb hm (by omega))))
theorem impl_roots (roots : List Int) (hl : roots.length ≤ 1048576) (hir : idxB refs.length roots = true) (d : Nat) : ∀ (i : Nat) (x : List Int) (m : Int), i + d = roots.length → x.length = refs.length → Bd m x → 0 ≤ m → m + d + 5 * refs.length ≤ 1000000000 →
    Ev (fun k => impl_counts.l0 k refs x roots (roots.length : Int) (i : Int)) (rowsC refs ((roots.drop i).foldl bump x)) := by
  induction d with
  | zero =>
    intro i x m hid hx hb hm hmx
    refine ev_succ ?_
    simp only [impl_counts.l0]
    refine ev_neg (by omega) (ev_eq (impl_rows refs hn hr hi refs.length 0 x m (by omega) hx hb hm (by omega)) ?_)
    rw [List.drop_of_length_le (by omega : roots.length ≤ i)]; rfl
  | succ d ih =>
    intro i x m hid hx hb hm hmx
    have hlt : i < roots.length := by omega
    have hk := idx_mem hir (List.getElem_mem hlt)
    have hv := rd_bd hb hm roots[i]
    have hw : wrap64 (rd x roots[i] + 1) = rd x roots[i] + 1 := w64 (by omega) (by omega)
    refine ev_succ ?_
    simp only [impl_counts.l0]
    rw [rd_at _ i hlt, next_i i (by omega), hw, List.drop_eq_getElem_cons hlt, List.foldl_cons]
    exact ev_pos (by omega) (ev_pos (by omega) (ev_pos (by omega) (ev_pos hk.1 (ev_pos (by omega) (ih (i + 1) (bump x roots[i]) (m + 1) (by omega) (by rw [bump_length, hx]) (bump_bd hb hm _) (by omega) (by omega))))))
theorem impl_counts_ev (roots : List Int) (hl : roots.length ≤ 1048576) (hir : idxB refs.length roots = true) : Ev (fun k => impl_counts.f k refs roots) (countsL refs roots) := by
  unfold impl_counts.f
  refine ev_pos (by omega) (ev_pos (by omega) ?_)
  have e : ((refs.length : Int)).toNat = refs.length := by omega
  rw [e]
  have := impl_roots refs hn hr hi roots hl hir roots.length 0 (List.replicate refs.length 0) 0 (by omega) (by simp) (by intro x hx; have := List.eq_of_mem_replicate hx; omega) (by omega) (by omega)
  exact this
theorem spec_rows (d : Nat) : ∀ (i : Nat) (x : List Int) (m : Int), i + d = refs.length → x.length = refs.length → Bd m x → 0 ≤ m → m + 5 * d ≤ 1000000000 →
    Ev (fun k => spec_countsOf.l1 k refs x (i : Int)) (rowsC (refs.drop i) x) := by
  induction d with
  | zero =>
    intro i x m hid hx _ _ _
    refine ev_succ ?_
    simp only [spec_countsOf.l1]
    refine ev_neg (by omega) (ev_some ?_)
    rw [List.drop_of_length_le (by omega)]; rfl
  | succ d ih =>
    intro i x m hid hx hb hm hmx
    have hlt : i < refs.length := by omega
    have hrow := hr _ (List.getElem_mem hlt)
    have hidx := hi _ (List.getElem_mem hlt)
    have row : ∀ (c j : Nat) (y : List Int) (m' : Int), j + c = refs[i].length → y.length = refs.length → Bd m' y → 0 ≤ m' → m' + c + 5 * d ≤ 1000000000 →
        Ev (fun k => spec_countsOf.l2 k refs y (i : Int) (j : Int)) (rowsC (refs.drop (i + 1)) ((refs[i].drop j).foldl bump y)) := by
      intro c
      induction c with
      | zero =>
        intro j y m' hj hy hby hm' hmy
        refine ev_succ ?_
        simp only [spec_countsOf.l2]
        rw [rdL_at refs i hlt, next_i i (by omega)]
        refine ev_pos (by omega) (ev_pos (by omega) (ev_neg (by omega) (ev_eq (ih (i + 1) y m' (by omega) hy hby hm' (by omega)) ?_)))
        rw [List.drop_of_length_le (by omega : refs[i].length ≤ j)]; rfl
      | succ c ihc =>
        intro j y m' hj hy hby hm' hmy
        have hltj : j < refs[i].length := by omega
        have hk := idx_mem hidx (List.getElem_mem hltj)
        have hv := rd_bd hby hm' refs[i][j]
        have hw : wrap64 (rd y refs[i][j] + 1) = rd y refs[i][j] + 1 := w64 (by omega) (by omega)
        refine ev_succ ?_
        simp only [spec_countsOf.l2]
        rw [rdL_at refs i hlt, rd_at _ j hltj, next_i j (by omega), hw, List.drop_eq_getElem_cons hltj, List.foldl_cons]
        exact ev_pos (by omega) (ev_pos (by omega) (ev_pos (by omega) (ev_pos (by omega) (ev_pos hk.1 (ev_pos (by omega) (ihc (j + 1) (bump y refs[i][j]) (m' + 1) (by omega) (by rw [bump_length, hy]) (bump_bd hby hm' _) (by omega) (by omega)))))))
    refine ev_succ ?_
    simp only [spec_countsOf.l1]
    rw [List.drop_eq_getElem_cons hlt]
    exact ev_pos (by omega) (row refs[i].length 0 x m (by omega) hx hb hm (by omega))
theorem spec_roots (roots : List Int) (hl : roots.length ≤ 1048576) (hir : idxB refs.length roots = true) (d : Nat) : ∀ (i : Nat) (x : List Int) (m : Int), i + d = roots.length → x.length = refs.length → Bd m x → 0 ≤ m → m + d + 5 * refs.length ≤ 1000000000 →
    Ev (fun k => spec_countsOf.l0 k refs roots x (i : Int)) (rowsC refs ((roots.drop i).foldl bump x)) := by
  induction d with
  | zero =>
    intro i x m hid hx hb hm hmx
    refine ev_succ ?_
    simp only [spec_countsOf.l0]
    refine ev_neg (by omega) (ev_eq (spec_rows refs hn hr hi refs.length 0 x m (by omega) hx hb hm (by omega)) ?_)
    rw [List.drop_of_length_le (by omega : roots.length ≤ i)]; rfl
  | succ d ih =>
    intro i x m hid hx hb hm hmx
    have hlt : i < roots.length := by omega
    have hk := idx_mem hir (List.getElem_mem hlt)
    have hv := rd_bd hb hm roots[i]
    have hw : wrap64 (rd x roots[i] + 1) = rd x roots[i] + 1 := w64 (by omega) (by omega)
    refine ev_succ ?_
    simp only [spec_countsOf.l0]
    rw [rd_at _ i hlt, next_i i (by omega), hw, List.drop_eq_getElem_cons hlt, List.foldl_cons]
    exact ev_pos (by omega) (ev_pos (by omega) (ev_pos hk.1 (ev_pos (by omega) (ih (i + 1) (bump x roots[i]) (m + 1) (by omega) (by rw [bump_length, hx]) (bump_bd hb hm _) (by omega) (by omega)))))
theorem spec_counts_ev (roots : List Int) (hl : roots.length ≤ 1048576) (hir : idxB refs.length roots = true) : Ev (fun k => spec_countsOf.f k refs roots) (countsL refs roots) := by
  unfold spec_countsOf.f
  refine ev_pos (by omega) (ev_pos (by omega) ?_)
  have e : ((refs.length : Int)).toNat = refs.length := by omega
  rw [e]
  have := spec_roots refs hn hr hi roots hl hir roots.length 0 (List.replicate refs.length 0) 0 (by omega) (by simp) (by intro x hx; have := List.eq_of_mem_replicate hx; omega) (by omega) (by omega)
  exact this
end
/-- What CountsOf answers. -/
def countsR (refs : List (List Int)) (roots : List Int) : List Int := if graphB refs roots = true then countsL refs roots else []
theorem graph_parts {refs : List (List Int)} {roots : List Int} (h : graphB refs roots = true) : refs.length ≤ 12 ∧ (∀ l ∈ refs, l.length ≤ 5) ∧ (∀ l ∈ refs, idxB refs.length l = true) ∧ roots.length ≤ 12 ∧ idxB refs.length roots = true := by
  simp only [graphB, refsB, rootsB, rowB, Bool.and_eq_true, decide_eq_true_eq, List.all_eq_true] at h
  exact ⟨h.1.1, fun l hl => (h.1.2 l hl).1, fun l hl => (h.1.2 l hl).2, h.2.1, h.2.2⟩
theorem countsL_length (refs : List (List Int)) (roots : List Int) : (countsL refs roots).length = refs.length := by
  rw [countsL, rowsC_length, foldb_length]; simp

theorem impl_CountsOf_ev (refs : List (List Int)) (roots : List Int) (hn : refs.length ≤ 1048576) (hr : ∀ l ∈ refs, l.length ≤ 1048576) (hl : roots.length ≤ 1048576) : Ev (fun k => impl_CountsOf.f k refs roots) (countsR refs roots) := by
  unfold impl_CountsOf.f
  refine Ev.bind (graph_ev refs roots hn hr hl) ?_
  rw [countsR]
  cases hg : graphB refs roots with
  | false => exact ev_neg (by simp) (ev_some (by simp))
  | true =>
    obtain ⟨g1, g2, g3, g4, g5⟩ := graph_parts hg
    exact ev_pos rfl (Ev.bind (impl_counts_ev refs hn g2 g3 roots hl g5) (ev_some (by simp)))
theorem spec_CountsOf_ev (refs : List (List Int)) (roots : List Int) (hn : refs.length ≤ 1048576) (hr : ∀ l ∈ refs, l.length ≤ 1048576) (hl : roots.length ≤ 1048576) : Ev (fun k => spec_CountsOf.f k refs roots) (countsR refs roots) := by
  unfold spec_CountsOf.f
  refine Ev.bind (refs_ev refs hn hr) ?_
  rw [countsR]
  cases h1 : refsB refs with
  | false => exact ev_neg (by simp) (ev_some (by simp [graphB, h1]))
  | true =>
    refine ev_pos rfl (Ev.bind (roots_ev roots (refs.length : Int) (by omega) (by omega) hl) ?_)
    cases h2 : rootsB (refs.length : Int) roots with
    | false => exact ev_neg (by simp) (ev_some (by simp [graphB, h1, h2]))
    | true =>
      have hg : graphB refs roots = true := by rw [graphB, h1, h2]; rfl
      obtain ⟨g1, g2, g3, g4, g5⟩ := graph_parts hg
      exact ev_pos rfl (Ev.bind (spec_counts_ev refs hn g2 g3 roots hl g5) (ev_some (by simp [hg])))

def sumI : List Int → Int
  | [] => 0
  | x :: l => x + sumI l
theorem sum_set : ∀ (l : List Int) (i : Nat) (v : Int) (h : i < l.length), sumI (l.set i v) = sumI l + v - l[i]
  | x :: l, 0, v, _ => by simp [sumI]; omega
  | x :: l, i + 1, v, h => by
    have := sum_set l i v (by simpa using h)
    simp only [List.set_cons_succ, sumI, List.getElem_cons_succ]
    omega
theorem sum_bump (l : List Int) (k : Int) (h0 : 0 ≤ k) (h1 : k < l.length) : sumI (bump l k) = sumI l + 1 := by
  obtain ⟨i, rfl⟩ := Int.eq_ofNat_of_zero_le h0
  have hi : i < l.length := by omega
  rw [bump, rd_at l i hi, Int.toNat_natCast, sum_set _ _ _ hi]
  omega
theorem sum_foldb : ∀ (ks l : List Int), (∀ k ∈ ks, 0 ≤ k ∧ k < (l.length : Int)) → sumI (ks.foldl bump l) = sumI l + ks.length
  | [], l, _ => by simp
  | k :: ks, l, h => by
    have hk := h k (by simp)
    have := sum_foldb ks (bump l k) (fun x hx => by rw [bump_length]; exact h x (by simp [hx]))
    rw [List.foldl_cons, this, sum_bump l k hk.1 hk.2, List.length_cons]
    omega
def lensI : List (List Int) → Int
  | [] => 0
  | r :: refs => r.length + lensI refs
theorem sum_rows : ∀ (refs : List (List Int)) (x : List Int), (∀ r ∈ refs, ∀ k ∈ r, 0 ≤ k ∧ k < (x.length : Int)) → sumI (rowsC refs x) = sumI x + lensI refs
  | [], x, _ => by simp [rowsC, lensI]
  | r :: refs, x, h => by
    have := sum_rows refs (r.foldl bump x) (fun s hs k hk => by rw [foldb_length]; exact h s (by simp [hs]) k hk)
    have e : rowsC (r :: refs) x = rowsC refs (r.foldl bump x) := rfl
    rw [e, this, sum_foldb r x (h r (by simp)), lensI]
    omega
theorem sum_zero : ∀ n : Nat, sumI (List.replicate n 0) = 0
  | 0 => rfl
  | n + 1 => by rw [List.replicate_succ, sumI, sum_zero n]; rfl
theorem sum_counts {refs : List (List Int)} {roots : List Int} (h : graphB refs roots = true) : sumI (countsL refs roots) = roots.length + lensI refs := by
  obtain ⟨g1, g2, g3, g4, g5⟩ := graph_parts h
  rw [countsL, sum_rows refs _ (fun r hr k hk => by rw [foldb_length]; simpa using idx_mem (g3 r hr) hk), sum_foldb roots _ (fun k hk => by simpa using idx_mem g5 hk), sum_zero]
  omega
theorem lensI_bd : ∀ (refs : List (List Int)), (∀ l ∈ refs, l.length ≤ 5) → 0 ≤ lensI refs ∧ lensI refs ≤ 5 * refs.length
  | [], _ => by simp [lensI]
  | r :: refs, h => by
    have := lensI_bd refs (fun l hl => h l (by simp [hl]))
    have := h r (by simp)
    simp only [lensI, List.length_cons]; omega
theorem sum_bd : ∀ (l : List Int), (∀ x ∈ l, 0 ≤ x) → 0 ≤ sumI l
  | [], _ => by simp [sumI]
  | x :: l, h => by
    have := sum_bd l (fun y hy => h y (by simp [hy]))
    have := h x (by simp)
    simp only [sumI]; omega

theorem less_from (refs : List (List Int)) (out : List Int) (hn : refs.length ≤ 12) (ho : out.length = refs.length) (hp : ∀ x ∈ out, 0 ≤ x) (d : Nat) : ∀ (i : Nat) (n : Int), i + d = out.length → n = sumI (out.drop i) → n ≤ 1000 →
    Ev (fun k => laws_FnCountsOf.l1 k refs out n (i : Int)) true := by
  induction d with
  | zero =>
    intro i n hi hs _
    refine ev_succ ?_
    simp only [laws_FnCountsOf.l1]
    rw [List.drop_of_length_le (by omega)] at hs
    exact ev_neg (by omega) (ev_pos hs (ev_some (by simp [ho])))
  | succ d ih =>
    intro i n hi hs hb
    have hlt : i < out.length := by omega
    rw [List.drop_eq_getElem_cons hlt, sumI] at hs
    have h1 := hp _ (List.getElem_mem hlt)
    have h2 := sum_bd (out.drop (i + 1)) (fun x hx => hp x (List.mem_of_mem_drop hx))
    have hw : wrap64 (n - out[i]) = n - out[i] := w64 (by omega) (by omega)
    refine ev_succ ?_
    simp only [laws_FnCountsOf.l1]
    rw [rd_at _ i hlt, hw, next_i i (by omega)]
    exact ev_pos (by omega) (ev_pos (by omega) (ih (i + 1) (n - out[i]) (by omega) (by omega) (by omega)))

theorem more_from (refs : List (List Int)) (out : List Int) (hn : refs.length ≤ 12) (hr : ∀ l ∈ refs, l.length ≤ 5) (ho : out.length = refs.length) (hp : ∀ x ∈ out, 0 ≤ x) (d : Nat) : ∀ (i : Nat) (n : Int), i + d = refs.length → 0 ≤ n → n + lensI (refs.drop i) = sumI out → n + 5 * d ≤ 1000 →
    Ev (fun k => laws_FnCountsOf.l0 k refs out n (i : Int)) true := by
  induction d with
  | zero =>
    intro i n hi n0 hs hb
    refine ev_succ ?_
    simp only [laws_FnCountsOf.l0]
    rw [List.drop_of_length_le (by omega)] at hs
    have e : lensI [] = 0 := rfl
    exact ev_neg (by omega) (less_from refs out hn ho hp out.length 0 n (by omega) (by rw [List.drop_zero]; omega) (by omega))
  | succ d ih =>
    intro i n hi n0 hs hb
    have hlt : i < refs.length := by omega
    rw [List.drop_eq_getElem_cons hlt, lensI] at hs
    have h1 := hr _ (List.getElem_mem hlt)
    have hw : wrap64 (n + (refs[i].length : Int)) = n + refs[i].length := w64 (by omega) (by omega)
    refine ev_succ ?_
    simp only [laws_FnCountsOf.l0]
    rw [rdL_at _ i hlt, hw, next_i i (by omega)]
    exact ev_pos (by omega) (ev_pos (by omega) (ih (i + 1) (n + refs[i].length) (by omega) (by omega) (by omega) (by omega)))

theorem counts_pos (refs : List (List Int)) (roots : List Int) : ∀ x ∈ countsL refs roots, 0 ≤ x := by
  have h0 : Bd 0 (List.replicate refs.length 0) := by intro x hx; have := List.eq_of_mem_replicate hx; omega
  have h1 := foldb_bd roots _ 0 h0 (by omega)
  have key : ∀ (rs : List (List Int)) (x : List Int) (m : Int), Bd m x → 0 ≤ m → ∃ m', Bd m' (rowsC rs x) := by
    intro rs
    induction rs with
    | nil => intro x m h _; exact ⟨m, h⟩
    | cons r rs ih => intro x m h hm; exact ih _ _ (foldb_bd r x m h hm) (by omega)
  obtain ⟨m', h2⟩ := key refs _ _ h1 (by omega)
  exact fun x hx => (h2 x hx).1

theorem FnCountsOf : laws_FnCountsOf.Pure := by
  intro l hm _ hb
  refine Ev.rounds ?_
  unfold laws_FnCountsOf.f
  by_cases hl : (l.length : Int) > 1048576
  · exact ev_pos hl (ev_some rfl)
  refine ev_neg hl ?_
  obtain ⟨f, r, D, h1, h2, h3⟩ := draw_graph (l := l) (by omega) hb
  have hf : ∀ l ∈ f, l.length ≤ 1048576 := fun l h => by have := h3 l h; omega
  have hlen : (countsR f r).length ≤ 1048576 := by
    unfold countsR; split
    · rw [countsL_length]; omega
    · simp
  refine Ev.bind D ?_
  dsimp only
  refine Ev.bind (impl_CountsOf_ev f r (by omega) hf (by omega)) (Ev.bind (spec_CountsOf_ev f r (by omega) hf (by omega)) (Ev.bind (same_ev _ hlen) (ev_pos rfl ?_)))
  refine ev_succ ?_
  simp only [laws_FnCountsOf.j0]
  by_cases hz : (countsR f r).length = 0
  · exact ev_pos (by simp [hz]) (ev_some rfl)
  · refine ev_neg (by simpa using hz) ?_
    cases hg : graphB f r with
    | false => rw [countsR, hg] at hz; simp at hz
    | true =>
      have e : countsR f r = countsL f r := by rw [countsR, hg]; rfl
      obtain ⟨g1, g2, g3, g4, g5⟩ := graph_parts hg
      have hs := sum_counts hg
      have hb := lensI_bd f g2
      rw [e]
      exact more_from f (countsL f r) g1 g2 (countsL_length f r) (counts_pos f r) f.length 0 (r.length : Int) (by omega) (by omega) (by rw [List.drop_zero]; omega) (by omega)

end Go.Proofs.Ytppbnfoagbipaad.Pure
