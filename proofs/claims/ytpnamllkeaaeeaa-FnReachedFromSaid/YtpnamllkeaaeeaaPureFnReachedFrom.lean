/- FnReachedFrom: for every code, what is reached goes on. -/
import Derived.Test.YtpnamllkeaaeeaaXFnReachedFromx5
namespace Go.Proofs.Ytpnamllkeaaeeaa.Pure
open Go.RowKit Go.Proofs.Ytpnamllkeaaeeaa.XFnReachedFrom Go.Proofs.YtpnamllkeaaeeaaW.PrintWords Go.Proofs.YtpnamllkeaaeeaaW.PrintLast Go.Proofs.YtpnamllkeaaeeaaW.PrintMore
set_option linter.unusedVariables false
set_option linter.unusedSimpArgs false

/-! ### Rounds, and words of 64 bits -/
theorem ev_succ {α : Type} {g : Nat → Option α} {r : α} (h : Ev (fun k => g (k + 1)) r) : Ev g r := Ev.step (fun _ => rfl) h
theorem ev_some {α : Type} {o : Option α} {r : α} (h : o = some r) : Ev (fun _ => o) r := ⟨0, fun _ _ => h⟩
theorem ev_pos {α : Type} {c : Prop} [Decidable c] {A B : Nat → Option α} {r : α} (h : c) (k : Ev A r) : Ev (fun n => if c then A n else B n) r :=
  Ev.congr (fun _ => if_pos h) k
theorem ev_neg {α : Type} {c : Prop} [Decidable c] {A B : Nat → Option α} {r : α} (h : ¬ c) (k : Ev B r) : Ev (fun n => if c then A n else B n) r :=
  Ev.congr (fun _ => if_neg h) k
theorem ev_eq {α : Type} {g : Nat → Option α} {r s : α} (h : Ev g r) (e : r = s) : Ev g s := e ▸ h
theorem ev_bind1 {α β : Type} {o : Option α} {f : Nat → α → Option β} {a : α} {r : β} (h : o = some a) (k : Ev (fun n => f n a) r) : Ev (fun n => o.bind (f n)) r :=
  Ev.bind (ev_some h) k
theorem ev_det {α : Type} {g : Nat → Option α} {r s : α} (h : Ev g r) (k : Ev g s) : r = s := by
  obtain ⟨K, h⟩ := h
  obtain ⟨L, k⟩ := k
  have h1 := h (max K L) (by omega)
  have h2 := k (max K L) (by omega)
  rw [h1] at h2
  exact Option.some.inj h2
theorem w64 {n : Int} (h : -9223372036854775808 ≤ n) (h' : n ≤ 9223372036854775807) : wrap64 n = n := by unfold wrap64; omega
theorem byte_of {l : List Int} (h : ∀ x ∈ l, (Lit.int .u8 x).wf = true) (i : Int) : 0 ≤ rd l i ∧ rd l i ≤ 255 := by
  unfold rd
  by_cases hi : i.toNat < l.length
  · have hm : l.getD i.toNat 0 ∈ l := by
      rw [List.getD_eq_getElem?_getD, List.getElem?_eq_getElem hi]
      exact List.getElem_mem hi
    have := h _ hm
    have m0 : IntKind.u8.min = 0 := by decide
    have m1 : IntKind.u8.max = 255 := by decide
    simp only [Lit.wf, m0, m1, Bool.and_eq_true, decide_eq_true_eq] at this
    exact this
  · rw [List.getD_eq_getElem?_getD, List.getElem?_eq_none (by omega)]
    simp

/-! ### Draws: what they pick, and that they never panic -/
theorem xor_ok (v u : Int) (h0 : 0 ≤ v) (h1 : v < 4611686018427387904) (u0 : 0 ≤ u) (u1 : u < 4611686018427387904) : 0 ≤ Go.bits .xor .i64 v u := by
  obtain ⟨a, rfl⟩ := Int.eq_ofNat_of_zero_le h0
  obtain ⟨b, rfl⟩ := Int.eq_ofNat_of_zero_le u0
  have ofInt : ∀ a : Nat, a < 9223372036854775808 → (BitVec.ofInt 64 (a : Int)).toNat = a := fun a ha => by
    rw [BitVec.ofInt_natCast, BitVec.toNat_ofNat]; exact Nat.mod_eq_of_lt (by omega)
  have hx : a ^^^ b < 2 ^ 63 := Nat.xor_lt_two_pow (by omega) (by omega)
  show 0 ≤ IntKind.i64.wrap ((BitVec.ofInt 64 (a : Int) ^^^ BitVec.ofInt 64 (b : Int)).toNat : Int)
  rw [BitVec.toNat_xor, ofInt a (by omega), ofInt b (by omega), IntKind.wrap_i64]
  omega

theorem pick_ok {code : List Int} (hl : code.length ≤ 4000) (hb : ∀ x ∈ code, (Lit.int .u8 x).wf = true) {p : Int} (h0 : 0 ≤ p) (h1 : p ≤ 1000000) (n : Int) :
    ∃ v q, spec_rnd_pick.f code p n = some (v, q) ∧ 0 ≤ v ∧ (v < n ∨ (n < 2 ∧ v = 0)) ∧ p ≤ q ∧ q ≤ p + 1 := by
  unfold spec_rnd_pick.f
  by_cases hn : n < 2
  · rw [if_pos hn]; exact ⟨0, p, rfl, by omega, .inr ⟨hn, rfl⟩, by omega, by omega⟩
  rw [if_neg hn]
  have hw : wrap64 (p + 1) = p + 1 := w64 (by omega) (by omega)
  have fin : ∀ v : Int, 0 ≤ v → ∃ v' q, (if n = 0 then none else some (Int.tmod v n, wrap64 (p + 1))) = some (v', q) ∧ 0 ≤ v' ∧ (v' < n ∨ (n < 2 ∧ v' = 0)) ∧ p ≤ q ∧ q ≤ p + 1 := by
    intro v hv
    rw [if_neg (by omega), hw, Int.tmod_eq_emod_of_nonneg hv]
    exact ⟨_, _, rfl, Int.emod_nonneg _ (by omega), .inl (Int.emod_lt_of_pos _ (by omega)), by omega, by omega⟩
  by_cases hc : (code.length : Int) > 0
  · rw [if_pos hc, if_neg (by omega)]
    have e1 : Int.tmod p (code.length : Int) = p % code.length := Int.tmod_eq_emod_of_nonneg h0
    have e2 : wrap64 (wrap64 (p * 7) + 3) = p * 7 + 3 := by rw [w64 (n := p * 7) (by omega) (by omega)]; exact w64 (by omega) (by omega)
    have e3 : Int.tmod (p * 7 + 3) (code.length : Int) = (p * 7 + 3) % code.length := Int.tmod_eq_emod_of_nonneg (by omega)
    have m0 := Int.emod_nonneg p (show (code.length : Int) ≠ 0 by omega)
    have m1 := Int.emod_lt_of_pos p hc
    have m2 := Int.emod_nonneg (p * 7 + 3) (show (code.length : Int) ≠ 0 by omega)
    have m3 := Int.emod_lt_of_pos (p * 7 + 3) hc
    have e4 : Int.tdiv p (code.length : Int) = p / code.length := Int.tdiv_eq_ediv_of_nonneg h0
    have d0 : 0 ≤ p / (code.length : Int) := Int.ediv_nonneg h0 (by omega)
    have d1 : p / (code.length : Int) ≤ p := Int.ediv_le_self _ h0
    rw [e1, if_pos m0, if_pos m1, e2, e3, if_pos m2, if_pos m3, e4]
    obtain ⟨a0, a1⟩ := byte_of hb (p % code.length)
    obtain ⟨b0, b1⟩ := byte_of hb ((p * 7 + 3) % code.length)
    generalize rd code (p % code.length) = a at a0 a1 ⊢
    generalize rd code ((p * 7 + 3) % code.length) = b at b0 b1 ⊢
    generalize p / (code.length : Int) = d at d0 d1 ⊢
    have w1 : wrap64 a = a := w64 (by omega) (by omega)
    have w2 : wrap64 b = b := w64 (by omega) (by omega)
    have w3 : wrap64 (a * 131) = a * 131 := w64 (by omega) (by omega)
    have w4 : wrap64 (b * 1117) = b * 1117 := w64 (by omega) (by omega)
    have w5 : wrap64 (p * 29) = p * 29 := w64 (by omega) (by omega)
    have w6 : wrap64 d = d := w64 (by omega) (by omega)
    have w7 : wrap64 (d * 53) = d * 53 := w64 (by omega) (by omega)
    have w8 : wrap64 (a * 131 + b * 1117) = a * 131 + b * 1117 := w64 (by omega) (by omega)
    have w9 : wrap64 (a * 131 + b * 1117 + p * 29) = a * 131 + b * 1117 + p * 29 := w64 (by omega) (by omega)
    have w10 : wrap64 (a * 131 + b * 1117 + p * 29 + d * 53) = a * 131 + b * 1117 + p * 29 + d * 53 := w64 (by omega) (by omega)
    rw [w1, w2, w3, w4, w5, w6, w7, w8, w9, w10]
    have big : 0 ≤ Go.bits .xor .i64 (a * 131 + b * 1117 + p * 29 + d * 53) (wrap64 (Int.tdiv (a * 131 + b * 1117 + p * 29 + d * 53) 64)) := by
      have t : Int.tdiv (a * 131 + b * 1117 + p * 29 + d * 53) 64 = (a * 131 + b * 1117 + p * 29 + d * 53) / 64 := Int.tdiv_eq_ediv_of_nonneg (by omega)
      rw [t, w64 (by omega) (by omega)]
      exact xor_ok _ _ (by omega) (by omega) (by omega) (by omega)
    by_cases h256 : n > 256
    · rw [if_pos h256]; exact fin _ big
    · rw [if_neg h256]
      by_cases hp : p ≥ (code.length : Int)
      · rw [if_pos hp]; exact fin _ big
      · rw [if_neg hp]; exact fin _ a0
  · rw [if_neg hc, if_neg (by omega), hw]
    exact ⟨_, _, rfl, by simp, .inl (by simp; omega), by omega, by omega⟩

theorem newRnd_ok {l : List Int} (hl : l.length ≤ 1048576) (hb : ∀ x ∈ l, (Lit.int .u8 x).wf = true) :
    ∃ code, spec_newRnd.f l = some (code, 0) ∧ code.length ≤ 4000 ∧ ∀ x ∈ code, (Lit.int .u8 x).wf = true := by
  unfold spec_newRnd.f
  have h : mn (l.length : Int) 4000 = min (l.length : Int) 4000 := by unfold mn; split <;> omega
  rw [h, if_pos (by omega), if_pos (by omega)]
  refine ⟨_, rfl, ?_, fun x hx => hb x (List.mem_of_mem_take hx)⟩
  rw [List.length_take]; omega

theorem one_ok {code : List Int} (hl : code.length ≤ 4000) (hb : ∀ x ∈ code, (Lit.int .u8 x).wf = true) {p : Int} (h0 : 0 ≤ p) (h1 : p ≤ 1000000) (list : List Int) (hn : list ≠ []) :
    ∃ v q, spec_rnd_one.f code p list = some (v, q) ∧ v ∈ list ∧ p ≤ q ∧ q ≤ p + 1 := by
  have hlen : 0 < list.length := List.length_pos_iff.2 hn
  obtain ⟨i, q, e, i0, i1, q0, q1⟩ := pick_ok hl hb h0 h1 (list.length : Int)
  unfold spec_rnd_one.f
  have hi : i < (list.length : Int) := by omega
  rw [e]
  simp only [Option.bind_some]
  rw [if_pos i0, if_pos hi]
  refine ⟨_, _, rfl, ?_, q0, q1⟩
  unfold rd
  rw [List.getD_eq_getElem?_getD, List.getElem?_eq_getElem (show i.toNat < list.length by omega)]
  exact List.getElem_mem _

/-! ### Reading a list -/
theorem rd_at (l : List Int) (i : Nat) (h : i < l.length) : rd l (i : Int) = l[i] := by
  unfold rd
  simp [List.getD_eq_getElem?_getD, h]
theorem next_i (i : Nat) (h : i ≤ 4611686018427387904) : wrap64 ((i : Int) + 1) = ((i + 1 : Nat) : Int) := by rw [w64 (by omega) (by omega)]; omega

theorem same_from (l : List Int) (hl : l.length ≤ 1048576) (d : Nat) : ∀ (i : Nat), i + d = l.length → Ev (fun k => spec_sameNums.l0 k l l (i : Int)) true := by
  induction d with
  | zero =>
    intro i hi
    refine ev_succ ?_
    simp only [spec_sameNums.l0]
    exact ev_neg (by omega) (ev_some rfl)
  | succ d ih =>
    intro i hi
    refine ev_succ ?_
    simp only [spec_sameNums.l0]
    refine ev_pos (by omega) (ev_pos (by omega) (ev_pos (by omega) (ev_pos trivial ?_)))
    rw [next_i i (by omega)]
    exact ih (i + 1) (by omega)
theorem same_ev (l : List Int) (hl : l.length ≤ 1048576) : Ev (fun k => spec_SameInts.f k l l) true := by
  unfold spec_SameInts.f spec_sameNums.f
  refine Ev.bind (a := true) (ev_pos rfl (same_from l hl l.length 0 (by omega))) (ev_some rfl)

theorem numbers_from {code : List Int} (hl : code.length ≤ 4000) (hb : ∀ x ∈ code, (Lit.int .u8 x).wf = true) (n : Int) (d : Nat) : ∀ (out : List Int) (p : Int), out.length + d ≤ 100 → 0 ≤ p → p + d ≤ 900000 →
    ∃ r q, Ev (fun k => spec_rnd_numbers.l0 k n out (d : Int) code p) (r, q) ∧ r.length = out.length + d ∧ (∀ x ∈ r, x ∈ out ∨ (0 ≤ x ∧ (x < n ∨ x = 0))) ∧ p ≤ q ∧ q ≤ p + d := by
  induction d with
  | zero =>
    intro out p ho p0 p1
    refine ⟨out, p, ev_succ ?_, by omega, fun x hx => .inl hx, by omega, by omega⟩
    simp only [spec_rnd_numbers.l0]
    exact ev_neg (by omega) (ev_some rfl)
  | succ d ih =>
    intro out p ho p0 p1
    obtain ⟨v, q, e, v0, v1, q0, q1⟩ := pick_ok hl hb p0 (by omega) n
    obtain ⟨r, q', hr, hrl, hx, q0', q1'⟩ := ih (out ++ [v]) q (by simp; omega) (by omega) (by omega)
    refine ⟨r, q', ev_succ ?_, by simp at hrl; omega, fun x hxr => ?_, by omega, by omega⟩
    · simp only [spec_rnd_numbers.l0]
      have hd : wrap64 (((d + 1 : Nat) : Int) - 1) = (d : Int) := by rw [w64 (by omega) (by omega)]; omega
      refine ev_pos (by omega) (ev_bind1 e (ev_pos (by omega) ?_))
      rw [hd]
      exact hr
    · rcases hx x hxr with h | h
      · simp only [List.mem_append, List.mem_singleton] at h
        rcases h with h | rfl
        · exact .inl h
        · exact .inr ⟨v0, by omega⟩
      · exact .inr h
theorem numbers_ok {code : List Int} (hl : code.length ≤ 4000) (hb : ∀ x ∈ code, (Lit.int .u8 x).wf = true) {p : Int} (h0 : 0 ≤ p) (h1 : p ≤ 800000) (most n : Int) (m0 : 1 ≤ most) (m1 : most ≤ 100) :
    ∃ r q, Ev (fun k => spec_rnd_numbers.f k code p most n) (r, q) ∧ r.length ≤ most.toNat ∧ (∀ x ∈ r, 0 ≤ x ∧ (x < n ∨ x = 0)) ∧ p ≤ q ∧ q ≤ p + 101 := by
  obtain ⟨v, q, e, v0, v1, q0, q1⟩ := pick_ok hl hb h0 (by omega) (most + 1)
  obtain ⟨m, rfl⟩ := Int.eq_ofNat_of_zero_le v0
  obtain ⟨r, q', hr, hrl, hx, q0', q1'⟩ := numbers_from hl hb n m [] q (by simp; omega) (by omega) (by omega)
  refine ⟨r, q', ?_, by simp at hrl; omega, fun x h => ?_, by omega, by omega⟩
  · unfold spec_rnd_numbers.f
    have hw : wrap64 (most + 1) = most + 1 := w64 (by omega) (by omega)
    rw [hw]
    exact ev_bind1 e hr
  · rcases hx x h with h | h
    · simp at h
    · exact h

/-! ### Graphs -/
theorem rdL_at (l : List (List Int)) (i : Nat) (h : i < l.length) : rd_L1 l (i : Int) = l[i] := by
  unfold rd_L1
  simp [List.getD_eq_getElem?_getD, h]
def idxB (n : Int) (l : List Int) : Bool := l.all fun k => decide (0 ≤ k ∧ k < n)
def rowB (n : Int) (l : List Int) : Bool := decide (l.length ≤ 5) && idxB n l
def refsB (refs : List (List Int)) : Bool := decide (refs.length ≤ 12) && refs.all (rowB refs.length)
def rootsB (n : Int) (roots : List Int) : Bool := decide (roots.length ≤ 12) && idxB n roots
def graphB (refs : List (List Int)) (roots : List Int) : Bool := refsB refs && rootsB refs.length roots

theorem idx_cons (n x : Int) (l : List Int) : idxB n (x :: l) = (decide (0 ≤ x ∧ x < n) && idxB n l) := rfl
theorem indices_from (l : List Int) (n : Int) (hl : l.length ≤ 1048576) (d : Nat) : ∀ i : Nat, i + d = l.length → Ev (fun k => impl_indicesOk.l0 k n l (l.length : Int) (i : Int)) (idxB n (l.drop i)) := by
  induction d with
  | zero =>
    intro i hi
    refine ev_succ ?_
    simp only [impl_indicesOk.l0]
    refine ev_neg (by omega) (ev_some ?_)
    rw [List.drop_of_length_le (by omega)]; rfl
  | succ d ih =>
    intro i hi
    have hlt : i < l.length := by omega
    refine ev_succ ?_
    simp only [impl_indicesOk.l0]
    rw [rd_at l i hlt, next_i i (by omega), List.drop_eq_getElem_cons hlt]
    refine ev_pos (by omega) (ev_pos (by omega) (ev_pos (by omega) ?_))
    by_cases h1 : l[i] < 0
    · exact ev_pos h1 (ev_some (by rw [idx_cons, decide_eq_false (by omega)]; rfl))
    · refine ev_neg h1 ?_
      by_cases h2 : l[i] ≥ n
      · exact ev_pos h2 (ev_some (by rw [idx_cons, decide_eq_false (by omega)]; rfl))
      · refine ev_neg h2 (ev_eq (ih (i + 1) (by omega)) ?_)
        have : decide (0 ≤ l[i] ∧ l[i] < n) = true := decide_eq_true (by omega)
        rw [idx_cons, this, Bool.true_and]
theorem indices_ev (l : List Int) (n : Int) (hl : l.length ≤ 1048576) : Ev (fun k => impl_indicesOk.f k l n) (idxB n l) := indices_from l n hl l.length 0 (by omega)

theorem graph_from (refs : List (List Int)) (hn : refs.length ≤ 1048576) (hr : ∀ l ∈ refs, l.length ≤ 1048576) (d : Nat) : ∀ i : Nat, i + d = refs.length →
    Ev (fun k => impl_GraphOk.l0 k refs refs (refs.length : Int) (i : Int)) ((refs.drop i).all (rowB refs.length)) := by
  induction d with
  | zero =>
    intro i hi
    refine ev_succ ?_
    simp only [impl_GraphOk.l0]
    refine ev_neg (by omega) (ev_some ?_)
    rw [List.drop_of_length_le (by omega)]; rfl
  | succ d ih =>
    intro i hi
    have hlt : i < refs.length := by omega
    refine ev_succ ?_
    simp only [impl_GraphOk.l0]
    rw [rdL_at refs i hlt, next_i i (by omega), List.drop_eq_getElem_cons hlt, List.all_cons]
    refine ev_pos (by omega) (ev_pos (by omega) (ev_pos (by omega) ?_))
    by_cases h1 : (refs[i].length : Int) > 5
    · exact ev_pos h1 (ev_some (by rw [rowB, decide_eq_false (by omega)]; rfl))
    · refine ev_neg h1 (Ev.bind (indices_ev refs[i] (refs.length : Int) (hr _ (List.getElem_mem hlt))) ?_)
      have e : rowB refs.length refs[i] = idxB refs.length refs[i] := by rw [rowB, decide_eq_true (by omega)]; rfl
      rw [e]
      cases idxB (refs.length : Int) refs[i] with
      | true => exact ev_pos rfl (ev_eq (ih (i + 1) (by omega)) (by simp))
      | false => exact ev_neg (by simp) (ev_some (by simp))

theorem graph_ev (refs : List (List Int)) (roots : List Int) (hn : refs.length ≤ 1048576) (hr : ∀ l ∈ refs, l.length ≤ 1048576) (hl : roots.length ≤ 1048576) : Ev (fun k => impl_GraphOk.f k refs roots) (graphB refs roots) := by
  have no : Ev (fun k => impl_GraphOk.j0 k refs true) false := by
    refine ev_succ ?_
    simp only [impl_GraphOk.j0]
    exact ev_pos trivial (ev_some rfl)
  unfold impl_GraphOk.f
  by_cases h1 : (refs.length : Int) > 12
  · refine ev_pos h1 (ev_eq no ?_)
    rw [graphB, refsB, decide_eq_false (by omega)]; rfl
  refine ev_neg h1 ?_
  by_cases h2 : (roots.length : Int) > 12
  · refine ev_pos h2 (ev_eq no ?_)
    rw [graphB, rootsB, decide_eq_false (by omega : ¬ roots.length ≤ 12)]; simp
  refine ev_neg h2 (Ev.bind (indices_ev roots (refs.length : Int) hl) ?_)
  have e : rootsB (refs.length : Int) roots = idxB refs.length roots := by rw [rootsB, decide_eq_true (by omega)]; rfl
  have e2 : refsB refs = refs.all (rowB refs.length) := by rw [refsB, decide_eq_true (by omega)]; rfl
  rw [graphB, e, e2]
  cases idxB (refs.length : Int) roots with
  | false => exact ev_eq no (by simp)
  | true =>
    refine ev_succ ?_
    simp only [impl_GraphOk.j0]
    refine ev_neg (by simp) (ev_eq (graph_from refs hn hr refs.length 0 (by omega)) (by simp))

theorem in_idx (k n : Int) (hn : 0 ≤ n) (hn' : n ≤ 1048576) : spec_inRange.f k 0 (wrap64 (n - 1)) = some (decide (0 ≤ k ∧ k < n)) := by
  have hw : wrap64 (n - 1) = n - 1 := w64 (by omega) (by omega)
  unfold spec_inRange.f
  rw [hw]
  by_cases h : k ≥ 0
  · have h' : 0 ≤ k := h
    rw [if_pos h]; congr 1; simp [h']; omega
  · rw [if_neg h, decide_eq_false (by omega)]

theorem roots_from (l : List Int) (n : Int) (hn : 0 ≤ n) (hn' : n ≤ 1048576) (hl : l.length ≤ 1048576) (d : Nat) : ∀ i : Nat, i + d = l.length → Ev (fun k => spec_validRoots.l0 k l n (i : Int)) (idxB n (l.drop i) && decide (l.length ≤ 12)) := by
  induction d with
  | zero =>
    intro i hi
    refine ev_succ ?_
    simp only [spec_validRoots.l0]
    refine ev_neg (by omega) (ev_some ?_)
    rw [List.drop_of_length_le (by omega)]; simp [idxB]; omega
  | succ d ih =>
    intro i hi
    have hlt : i < l.length := by omega
    refine ev_succ ?_
    simp only [spec_validRoots.l0]
    rw [rd_at l i hlt, next_i i (by omega), List.drop_eq_getElem_cons hlt]
    refine ev_pos (by omega) (ev_pos (by omega) (ev_bind1 (in_idx _ _ hn hn') ?_))
    simp only [idxB, List.all_cons]
    by_cases h : decide (0 ≤ l[i] ∧ l[i] < n) = true
    · refine ev_pos h (ev_eq (ih (i + 1) (by omega)) ?_)
      rw [h, Bool.true_and]; rfl
    · refine ev_neg h (ev_some ?_)
      rw [Bool.not_eq_true] at h
      rw [h]; rfl
theorem roots_ev (l : List Int) (n : Int) (hn : 0 ≤ n) (hn' : n ≤ 1048576) (hl : l.length ≤ 1048576) : Ev (fun k => spec_validRoots.f k l n) (rootsB n l) := by
  unfold spec_validRoots.f
  refine ev_eq (roots_from l n hn hn' hl l.length 0 (by omega)) ?_
  rw [List.drop_zero, rootsB, Bool.and_comm]

theorem refs_from (refs : List (List Int)) (hn : refs.length ≤ 1048576) (hr : ∀ l ∈ refs, l.length ≤ 1048576) (d : Nat) : ∀ i : Nat, i + d = refs.length →
    Ev (fun k => spec_validGraph.l0 k refs (i : Int)) ((refs.drop i).all (rowB refs.length) && decide (refs.length ≤ 12)) := by
  induction d with
  | zero =>
    intro i hi
    refine ev_succ ?_
    simp only [spec_validGraph.l0]
    refine ev_neg (by omega) (ev_some ?_)
    rw [List.drop_of_length_le (by omega)]; simp; omega
  | succ d ih =>
    intro i hi
    have hlt : i < refs.length := by omega
    have hrow := hr _ (List.getElem_mem hlt)
    rw [List.drop_eq_getElem_cons hlt, List.all_cons]
    have row : ∀ (c j : Nat), j + c = refs[i].length → Ev (fun k => spec_validGraph.l1 k refs (i : Int) (j : Int)) ((idxB refs.length (refs[i].drop j) && decide (refs[i].length ≤ 5)) && ((refs.drop (i + 1)).all (rowB refs.length) && decide (refs.length ≤ 12))) := by
      intro c
      induction c with
      | zero =>
        intro j hj
        refine ev_succ ?_
        simp only [spec_validGraph.l1]
        rw [rdL_at refs i hlt]
        refine ev_pos (by omega) (ev_pos (by omega) (ev_neg (by omega) ?_))
        have e : idxB (refs.length : Int) (refs[i].drop j) = true := by rw [List.drop_of_length_le (by omega)]; rfl
        rw [e, next_i i (by omega)]
        by_cases h5 : (refs[i].length : Int) > 5
        · refine ev_pos h5 (ev_some ?_)
          rw [decide_eq_false (by omega : ¬ refs[i].length ≤ 5)]; rfl
        · refine ev_neg h5 (ev_eq (ih (i + 1) (by omega)) ?_)
          rw [decide_eq_true (by omega : refs[i].length ≤ 5)]; simp
      | succ c ihc =>
        intro j hj
        have hltj : j < refs[i].length := by omega
        refine ev_succ ?_
        simp only [spec_validGraph.l1]
        rw [rdL_at refs i hlt, rd_at _ j hltj, next_i j (by omega), List.drop_eq_getElem_cons hltj]
        refine ev_pos (by omega) (ev_pos (by omega) (ev_pos (by omega) (ev_pos (by omega) (ev_bind1 (in_idx _ _ (by omega) (by omega)) ?_))))
        simp only [idxB, List.all_cons]
        by_cases h : decide (0 ≤ refs[i][j] ∧ refs[i][j] < (refs.length : Int)) = true
        · refine ev_pos h (ev_eq (ihc (j + 1) (by omega)) ?_)
          rw [h, Bool.true_and]; rfl
        · refine ev_neg h (ev_some ?_)
          rw [Bool.not_eq_true] at h
          rw [h]; rfl
    refine ev_succ ?_
    simp only [spec_validGraph.l0]
    refine ev_pos (by omega) (ev_eq (row refs[i].length 0 (by omega)) ?_)
    rw [List.drop_zero, rowB, Bool.and_comm (idxB _ _), Bool.and_assoc, Bool.and_assoc, Bool.and_assoc]
theorem refs_ev (refs : List (List Int)) (hn : refs.length ≤ 1048576) (hr : ∀ l ∈ refs, l.length ≤ 1048576) : Ev (fun k => spec_validGraph.f k refs) (refsB refs) := by
  unfold spec_validGraph.f
  refine ev_eq (refs_from refs hn hr refs.length 0 (by omega)) ?_
  rw [List.drop_zero, refsB, Bool.and_comm]

theorem graph_end2 {code : List Int} (hl : code.length ≤ 4000) (hb : ∀ x ∈ code, (Lit.int .u8 x).wf = true) (refs : List (List Int)) (roots : List Int) {p : Int} (h0 : 0 ≤ p) (h1 : p ≤ 800000) (hr : roots.length ≤ 3) :
    ∃ r q, Ev (fun k => spec_rnd_graph.j2 k refs roots code p) (refs, r, q) ∧ r.length ≤ 4 := by
  obtain ⟨v, q, e, _, _, q0, q1⟩ := pick_ok hl hb h0 (by omega) 14
  by_cases hv : v = 0
  · obtain ⟨u, q', e', _, q0', q1'⟩ := one_ok hl hb (p := q) (by omega) (by omega) [(-1), 4611686018427387904, (-4611686018427387904), 1001, 7, 1000001, (-9223372036854775808), 9223372036854775807] (by simp)
    refine ⟨roots ++ [u], q', ev_succ ?_, by simp; omega⟩
    simp only [spec_rnd_graph.j2]
    refine ev_bind1 e (ev_pos hv (ev_bind1 (a := (u, q')) ?_ (ev_pos (by omega) (ev_some rfl))))
    unfold spec_rnd_odd.f
    rw [e']; rfl
  · refine ⟨roots, q, ev_succ ?_, by omega⟩
    simp only [spec_rnd_graph.j2]
    exact ev_bind1 e (ev_neg hv (ev_some rfl))
theorem graph_end1 {code : List Int} (hl : code.length ≤ 4000) (hb : ∀ x ∈ code, (Lit.int .u8 x).wf = true) (refs : List (List Int)) (roots : List Int) {p : Int} (h0 : 0 ≤ p) (h1 : p ≤ 700000) (hr : roots.length ≤ 3) (hn : refs.length ≤ 8) (hrl : ∀ l ∈ refs, l.length ≤ 3) :
    ∃ f r q, Ev (fun k => spec_rnd_graph.j1 k refs roots code p) (f, r, q) ∧ r.length ≤ 4 ∧ f.length ≤ 9 ∧ ∀ l ∈ f, l.length ≤ 3 := by
  obtain ⟨v, q, e, _, _, q0, q1⟩ := pick_ok hl hb h0 (by omega) 14
  by_cases hv : v = 0
  · obtain ⟨u, q', e', _, q0', q1'⟩ := one_ok hl hb (p := q) (by omega) (by omega) [(-1), 4611686018427387904, (-4611686018427387904), 1001, 7, 1000001, (-9223372036854775808), 9223372036854775807] (by simp)
    obtain ⟨r, q2, hr2, hrl2⟩ := graph_end2 hl hb (refs ++ [[u]]) roots (p := q') (by omega) (by omega) hr
    refine ⟨refs ++ [[u]], r, q2, ev_succ ?_, hrl2, by simp; omega, ?_⟩
    · simp only [spec_rnd_graph.j1]
      refine ev_bind1 e (ev_pos hv (ev_bind1 (a := (u, q')) ?_ (ev_pos (by omega) hr2)))
      unfold spec_rnd_odd.f
      rw [e']; rfl
    · intro l h
      simp only [List.mem_append, List.mem_singleton] at h
      rcases h with h | rfl
      · exact hrl l h
      · simp
  · obtain ⟨r, q2, hr2, hrl2⟩ := graph_end2 hl hb refs roots (p := q) (by omega) (by omega) hr
    refine ⟨refs, r, q2, ev_succ ?_, hrl2, by omega, hrl⟩
    simp only [spec_rnd_graph.j1]
    exact ev_bind1 e (ev_neg hv hr2)
theorem graph_rows {code : List Int} (hl : code.length ≤ 4000) (hb : ∀ x ∈ code, (Lit.int .u8 x).wf = true) (n : Int) (n0 : 0 ≤ n) (n1 : n ≤ 8) (d : Nat) : ∀ (refs : List (List Int)) (p : Int), (refs.length : Int) + d = n → 0 ≤ p → p + 200 * d ≤ 600000 → (∀ l ∈ refs, l.length ≤ 3) →
    ∃ f r q, Ev (fun k => spec_rnd_graph.l0 k n refs (refs.length : Int) code p) (f, r, q) ∧ r.length ≤ 4 ∧ f.length ≤ 9 ∧ ∀ l ∈ f, l.length ≤ 3 := by
  induction d with
  | zero =>
    intro refs p hn p0 p1 hrl
    by_cases hz : n > 0
    · obtain ⟨g, q, hg, hgl, _, q0, q1⟩ := numbers_ok hl hb p0 (by omega) 3 n (by omega) (by omega)
      obtain ⟨f, r, q2, h, h1, h2, h3⟩ := graph_end1 hl hb refs g (p := q) (by omega) (by omega) (by simpa using hgl) (by omega) hrl
      refine ⟨f, r, q2, ev_succ ?_, h1, h2, h3⟩
      simp only [spec_rnd_graph.l0]
      exact ev_neg (by omega) (ev_pos hz (Ev.bind hg h))
    · obtain ⟨f, r, q2, h, h1, h2, h3⟩ := graph_end1 hl hb refs [] p0 (by omega) (by simp) (by omega) hrl
      refine ⟨f, r, q2, ev_succ ?_, h1, h2, h3⟩
      simp only [spec_rnd_graph.l0]
      exact ev_neg (by omega) (ev_neg hz h)
  | succ d ih =>
    intro refs p hn p0 p1 hrl
    obtain ⟨g, q, hg, hgl, _, q0, q1⟩ := numbers_ok hl hb p0 (by omega) 3 n (by omega) (by omega)
    obtain ⟨f, r, q2, h, h1, h2, h3⟩ := ih (refs ++ [g]) q (by simp; omega) (by omega) (by omega) (by
      intro l hm
      simp only [List.mem_append, List.mem_singleton] at hm
      rcases hm with hm | rfl
      · exact hrl l hm
      · simpa using hgl)
    refine ⟨f, r, q2, ev_succ ?_, h1, h2, h3⟩
    simp only [spec_rnd_graph.l0]
    refine ev_pos (by omega) (Ev.bind hg (ev_pos (by omega) ?_))
    have hw : wrap64 ((refs.length : Int) + 1) = ((refs ++ [g]).length : Int) := by rw [w64 (by omega) (by omega)]; simp
    rw [hw]
    exact h
theorem draw_graph {l : List Int} (hl : l.length ≤ 1048576) (hb : ∀ x ∈ l, (Lit.int .u8 x).wf = true) :
    ∃ f r, Ev (fun k => spec_DrawReachedFrom.f k l) (f, r) ∧ r.length ≤ 4 ∧ f.length ≤ 9 ∧ ∀ l ∈ f, l.length ≤ 3 := by
  obtain ⟨code, e, hc, hbc⟩ := newRnd_ok (l := l) hl hb
  obtain ⟨v, q, e1, v0, v1, q0, q1⟩ := pick_ok hc hbc (p := 0) (by omega) (by omega) 9
  obtain ⟨f, r, q2, h, h1, h2, h3⟩ := graph_rows hc hbc v v0 (by omega) v.toNat [] q (by simp; omega) (by omega) (by omega) (by simp)
  refine ⟨f, r, ?_, h1, h2, h3⟩
  unfold spec_DrawReachedFrom.f
  refine ev_bind1 e (Ev.bind (a := (f, r, q2)) ?_ (ev_some rfl))
  unfold spec_rnd_graph.f
  exact ev_bind1 e1 h

theorem idx_memR {n : Int} {l : List Int} (h : idxB n l = true) {x : Int} (hx : x ∈ l) : 0 ≤ x ∧ x < n := by
  rw [idxB, List.all_eq_true] at h
  simpa using h x hx
theorem graph_partsR {refs : List (List Int)} {roots : List Int} (h : graphB refs roots = true) : refs.length ≤ 12 ∧ (∀ l ∈ refs, l.length ≤ 5) ∧ (∀ l ∈ refs, idxB refs.length l = true) ∧ roots.length ≤ 12 ∧ idxB refs.length roots = true := by
  simp only [graphB, refsB, rootsB, rowB, Bool.and_eq_true, decide_eq_true_eq, List.all_eq_true] at h
  exact ⟨h.1.1, fun l hl => (h.1.2 l hl).1, fun l hl => (h.1.2 l hl).2, h.2.1, h.2.2⟩

/-! ### What is reached -/
def IxR (n : Nat) (l : List Int) : Prop := ∀ x ∈ l, 0 ≤ x ∧ x < (n : Int)
theorem ixr_nat {n : Nat} {l : List Int} (h : IxR n l) {x : Int} (hx : x ∈ l) : ∃ j : Nat, x = (j : Int) ∧ j < n := by
  have := h x hx
  exact ⟨x.toNat, by omega, by omega⟩
theorem rdB_at (m : List Bool) (i : Nat) (h : i < m.length) : rdOf false m (i : Int) = m[i] := by
  unfold rdOf
  simp [List.getD_eq_getElem?_getD, h]
inductive Rch (refs : List (List Int)) (roots : List Int) : Int → Prop
  | root {v : Int} : v ∈ roots → Rch refs roots v
  | step {u v : Int} : Rch refs roots u → v ∈ rd_L1 refs u → Rch refs roots v
structure Inv (refs : List (List Int)) (roots : List Int) (m : List Bool) (work : List Int) : Prop where
  len : m.length = refs.length
  ix : IxR refs.length work
  s1 : ∀ v ∈ work, Rch refs roots v
  s2 : ∀ v : Nat, v < refs.length → rdOf false m (v : Int) = true → Rch refs roots (v : Int)
  c1 : ∀ v ∈ roots, rdOf false m v = true ∨ v ∈ work
  c2 : ∀ u : Nat, u < refs.length → rdOf false m (u : Int) = true → ∀ v ∈ rd_L1 refs (u : Int), rdOf false m v = true ∨ v ∈ work
def Fin_ (refs : List (List Int)) (roots : List Int) (m : List Bool) : Prop := m.length = refs.length ∧ ∀ v : Nat, v < refs.length → (rdOf false m (v : Int) = true ↔ Rch refs roots (v : Int))
theorem fin_unique {refs : List (List Int)} {r1 r2 : List Int} {m1 m2 : List Bool} (h1 : Fin_ refs r1 m1) (h2 : Fin_ refs r2 m2) (h : ∀ v, Rch refs r1 v ↔ Rch refs r2 v) : m1 = m2 := by
  refine List.ext_getElem (h1.1.trans h2.1.symm) (fun i hi hi2 => ?_)
  have a := h1.2 i (by have := h1.1; omega)
  have b := h2.2 i (by have := h1.1; omega)
  rw [rdB_at _ i hi, h] at a
  rw [rdB_at _ i hi2] at b
  rw [Bool.eq_iff_iff]
  exact a.trans b.symm
theorem inv_done {refs : List (List Int)} {roots : List Int} {m : List Bool} (hi : ∀ r ∈ refs, IxR refs.length r) (hr : IxR refs.length roots) (h : Inv refs roots m []) : Fin_ refs roots m := by
  refine ⟨h.len, fun v hv => ⟨h.s2 v hv, fun hR => ?_⟩⟩
  have key : ∀ x : Int, Rch refs roots x → ∃ j : Nat, x = (j : Int) ∧ j < refs.length ∧ rdOf false m (j : Int) = true := by
    intro x hx
    induction hx with
    | root hv =>
      obtain ⟨j, rfl, hj⟩ := ixr_nat hr hv
      exact ⟨j, rfl, hj, (h.c1 _ hv).resolve_right (by simp)⟩
    | step hu hv ih =>
      obtain ⟨j, rfl, hj, hm⟩ := ih
      have e := rdL_at refs j hj
      have hv2 := hv
      rw [e] at hv
      obtain ⟨i, rfl, hi2⟩ := ixr_nat (hi _ (List.getElem_mem hj)) hv
      exact ⟨i, rfl, hi2, (h.c2 j hj hm _ hv2).resolve_right (by simp)⟩
  obtain ⟨j, e, hj, hm⟩ := key _ hR
  have : j = v := by omega
  subst this
  exact hm
theorem inv_skip {refs : List (List Int)} {roots : List Int} {m : List Bool} {w w' : List Int} {t : Int} (h : Inv refs roots m w) (ht : rdOf false m t = true) (h1 : ∀ v ∈ w, v = t ∨ v ∈ w') (h2 : ∀ v ∈ w', v ∈ w) : Inv refs roots m w' where
  len := h.len
  ix := fun x hx => h.ix x (h2 x hx)
  s1 := fun v hv => h.s1 v (h2 v hv)
  s2 := h.s2
  c1 := fun v hv => (h.c1 v hv).elim .inl (fun hw => (h1 v hw).elim (fun e => .inl (e ▸ ht)) .inr)
  c2 := fun u hu hm v hv => (h.c2 u hu hm v hv).elim .inl (fun hw => (h1 v hw).elim (fun e => .inl (e ▸ ht)) .inr)
theorem rdB_set (m : List Bool) (t : Nat) (v : Nat) (ht : t < m.length) (hv : v < m.length) : rdOf false (m.set t true) (v : Int) = true ↔ v = t ∨ rdOf false m (v : Int) = true := by
  rw [rdB_at _ v (by simpa using hv), rdB_at _ v hv, List.getElem_set]
  by_cases h : t = v
  · subst h; simp
  · rw [if_neg h]
    constructor
    · exact .inr
    · rintro (e | e)
      · exact absurd e.symm h
      · exact e
theorem inv_mark {refs : List (List Int)} {roots : List Int} {m : List Bool} {w w' : List Int} {t : Nat} (hi : ∀ r ∈ refs, IxR refs.length r) (hr : IxR refs.length roots) (h : Inv refs roots m w) (htn : t < refs.length) (htw : (t : Int) ∈ w) (h1 : ∀ v ∈ w, v = (t : Int) ∨ v ∈ w') (h2 : ∀ v ∈ refs[t], v ∈ w') (h3 : ∀ v ∈ w', v ∈ w ∨ v ∈ refs[t]) : Inv refs roots (m.set t true) w' where
  len := by rw [List.length_set]; exact h.len
  ix := fun x hx => (h3 x hx).elim (h.ix x) (hi _ (List.getElem_mem htn) x)
  s1 := fun v hv => (h3 v hv).elim (h.s1 v) (fun hm => .step (h.s1 _ htw) (by rw [rdL_at refs t htn]; exact hm))
  s2 := fun v hv hm => ((rdB_set m t v (by have := h.len; omega) (by have := h.len; omega)).1 hm).elim (fun e => e ▸ h.s1 _ htw) (h.s2 v hv)
  c1 := fun v hv => by
    obtain ⟨j, rfl, hj⟩ := ixr_nat hr hv
    rw [rdB_set m t j (by have := h.len; omega) (by have := h.len; omega)]
    rcases h.c1 _ hv with hm | hw
    · exact .inl (.inr hm)
    · rcases h1 _ hw with e | hw
      · exact .inl (.inl (by omega))
      · exact .inr hw
  c2 := fun u hu hm v hv => by
    have hv2 := hv
    rw [rdL_at refs u hu] at hv2
    obtain ⟨j, rfl, hj⟩ := ixr_nat (hi _ (List.getElem_mem hu)) hv2
    rw [rdB_set m t j (by have := h.len; omega) (by have := h.len; omega)]
    rcases (rdB_set m t u (by have := h.len; omega) (by have := h.len; omega)).1 hm with rfl | hm
    · exact .inr (h2 _ hv2)
    · rcases h.c2 u hu hm _ hv with hm | hw
      · exact .inl (.inr hm)
      · rcases h1 _ hw with e | hw
        · exact .inl (.inl (by omega))
        · exact .inr hw
def unS : List Bool → Nat
  | [] => 0
  | b :: m => (if b then 0 else 1) + unS m
theorem unS_le : ∀ m : List Bool, unS m ≤ m.length
  | [] => Nat.le_refl _
  | b :: m => by
    have := unS_le m
    unfold unS
    rw [List.length_cons]
    split <;> omega
theorem unS_set : ∀ (m : List Bool) (t : Nat) (h : t < m.length), m[t] = false → unS (m.set t true) + 1 = unS m
  | b :: m, 0, _, hb => by
    simp only [List.getElem_cons_zero] at hb
    subst hb
    simp [unS]
    omega
  | b :: m, t + 1, h, hb => by
    have := unS_set m t (by simpa using h) (by simpa using hb)
    simp only [List.set_cons_succ, unS]
    omega
theorem snocR (q : List Int) (t : Int) (h : q.length ≤ 1000000) : wrap64 (((q ++ [t]).length : Int) - 1) = (q.length : Int) ∧ rd (q ++ [t]) (q.length : Int) = t ∧ (q ++ [t]).take q.length = q := by
  have e : ((q ++ [t]).length : Int) - 1 = (q.length : Int) := by simp
  refine ⟨by rw [e, w64 (by omega) (by omega)], ?_, by simp⟩
  rw [rd_at _ q.length (by simp)]
  simp
theorem impl_reach (refs : List (List Int)) (roots : List Int) (hr : ∀ r ∈ refs, r.length ≤ 5) (hi : ∀ r ∈ refs, IxR refs.length r) (hx : IxR refs.length roots) (d : Nat) : ∀ (m : List Bool) (w : List Int), Inv refs roots m w → w.length + 6 * unS m ≤ d → d ≤ 100000 →
    ∃ m', Ev (fun k => impl_reached.l0 k refs m w) m' ∧ Fin_ refs roots m' := by
  induction d with
  | zero =>
    intro m w h hd _
    obtain rfl : w = [] := List.eq_nil_of_length_eq_zero (by omega)
    refine ⟨m, ev_succ ?_, inv_done hi hx h⟩
    simp only [impl_reached.l0]
    exact ev_neg (by simp) (ev_some rfl)
  | succ d ih =>
    intro m w h hd hb
    rcases List.eq_nil_or_concat w with rfl | ⟨q, x, rfl⟩
    · refine ⟨m, ev_succ ?_, inv_done hi hx h⟩
      simp only [impl_reached.l0]
      exact ev_neg (by simp) (ev_some rfl)
    · rw [List.concat_eq_append] at *
      obtain ⟨t, rfl, htn⟩ := ixr_nat h.ix (by simp : x ∈ q ++ [x])
      have hl : (q ++ [(t : Int)]).length = q.length + 1 := by simp
      obtain ⟨s1, s2, s3⟩ := snocR q (t : Int) (by omega)
      have htm : t < m.length := by have := h.len; omega
      cases hm : m[t] with
      | true =>
        have hm' : rdOf false m (t : Int) = true := by rw [rdB_at m t htm, hm]
        obtain ⟨m', E, F⟩ := ih m q (inv_skip h hm' (fun v hv => by simp at hv; exact hv.symm) (fun v hv => by simp [hv])) (by omega) (by omega)
        refine ⟨m', ev_succ ?_, F⟩
        simp only [impl_reached.l0]
        rw [s1, s2, Int.toNat_natCast, s3]
        exact ev_pos (by omega) (ev_pos (by omega) (ev_pos (by omega) (ev_pos (by omega) (ev_bind1 rfl (ev_pos (by omega) (ev_pos (by omega) (ev_pos hm' E)))))))
      | false =>
        have hm' : ¬ rdOf false m (t : Int) = true := by rw [rdB_at m t htm, hm]; simp
        have hu := unS_set m t htm hm
        have h5 := hr _ (List.getElem_mem htn)
        obtain ⟨m', E, F⟩ := ih (m.set t true) (q ++ refs[t]) (inv_mark hi hx h htn (by simp) (fun v hv => by
          simp only [List.mem_append, List.mem_singleton] at hv ⊢
          rcases hv with hv | hv
          · exact .inr (.inl hv)
          · exact .inl hv) (fun v hv => by simp [hv]) (fun v hv => by
          simp only [List.mem_append, List.mem_singleton] at hv ⊢
          rcases hv with hv | hv
          · exact .inl (.inl hv)
          · exact .inr hv)) (by rw [List.length_append]; omega) (by omega)
        refine ⟨m', ev_succ ?_, F⟩
        simp only [impl_reached.l0]
        rw [s1, s2, Int.toNat_natCast, s3, rdL_at refs t htn]
        exact ev_pos (by omega) (ev_pos (by omega) (ev_pos (by omega) (ev_pos (by omega) (ev_bind1 rfl (ev_pos (by omega) (ev_pos (by omega) (ev_neg hm' (ev_pos (by omega) (ev_pos (by omega) E)))))))))
theorem spec_reach (refs : List (List Int)) (roots : List Int) (hr : ∀ r ∈ refs, r.length ≤ 5) (hi : ∀ r ∈ refs, IxR refs.length r) (hx : IxR refs.length roots) (d : Nat) : ∀ (m : List Bool) (w : List Int) (i : Nat), Inv refs roots m (w.drop i) → i ≤ w.length → (w.length - i) + 6 * unS m ≤ d → w.length + 6 * unS m ≤ 100000 →
    ∃ m', Ev (fun k => spec_marked.l0 k refs m w (i : Int)) m' ∧ Fin_ refs roots m' := by
  induction d with
  | zero =>
    intro m w i h hi2 hd _
    rw [List.drop_of_length_le (by omega)] at h
    refine ⟨m, ev_succ ?_, inv_done hi hx h⟩
    simp only [spec_marked.l0]
    exact ev_neg (by omega) (ev_some rfl)
  | succ d ih =>
    intro m w i h hi2 hd hb
    by_cases hlt : i < w.length
    · rw [List.drop_eq_getElem_cons hlt] at h
      obtain ⟨t, ht, htn⟩ := ixr_nat h.ix (List.mem_cons_self : w[i] ∈ _)
      rw [ht] at h
      have htm : t < m.length := by have := h.len; omega
      cases hm : m[t] with
      | true =>
        have hm' : rdOf false m (t : Int) = true := by rw [rdB_at m t htm, hm]
        obtain ⟨m', E, F⟩ := ih m w (i + 1) (inv_skip h hm' (fun v hv => by simp at hv; exact hv) (fun v hv => by simp [hv])) (by omega) (by omega) (by omega)
        refine ⟨m', ev_succ ?_, F⟩
        simp only [spec_marked.l0]
        rw [rd_at w i hlt, ht, next_i i (by omega)]
        exact ev_pos (by omega) (ev_pos (by omega) (ev_pos (by omega) (ev_pos (by omega) (ev_pos hm' E))))
      | false =>
        have hm' : ¬ rdOf false m (t : Int) = true := by rw [rdB_at m t htm, hm]; simp
        have hu := unS_set m t htm hm
        have h5 := hr _ (List.getElem_mem htn)
        have hdr : (w ++ refs[t]).drop (i + 1) = w.drop (i + 1) ++ refs[t] := List.drop_append_of_le_length (by omega)
        obtain ⟨m', E, F⟩ := ih (m.set t true) (w ++ refs[t]) (i + 1) (by
          rw [hdr]
          refine inv_mark hi hx h htn (by simp) (fun v hv => ?_) (fun v hv => by simp [hv]) (fun v hv => ?_)
          · rcases List.mem_cons.1 hv with hv | hv
            · exact .inl hv
            · exact .inr (List.mem_append_left _ hv)
          · rcases List.mem_append.1 hv with hv | hv
            · exact .inl (List.mem_cons_of_mem _ hv)
            · exact .inr hv) (by rw [List.length_append]; omega) (by rw [List.length_append]; omega) (by rw [List.length_append]; omega)
        refine ⟨m', ev_succ ?_, F⟩
        simp only [spec_marked.l0]
        rw [rd_at w i hlt, ht, next_i i (by omega), rdL_at refs t htn, Int.toNat_natCast]
        exact ev_pos (by omega) (ev_pos (by omega) (ev_pos (by omega) (ev_pos (by omega) (ev_neg hm' (ev_pos (by omega) (ev_pos (by omega) E))))))
    · rw [List.drop_of_length_le (by omega)] at h
      refine ⟨m, ev_succ ?_, inv_done hi hx h⟩
      simp only [spec_marked.l0]
      exact ev_neg (by omega) (ev_some rfl)
theorem inv_start (refs : List (List Int)) (roots : List Int) (hx : IxR refs.length roots) : Inv refs roots (List.replicate refs.length false) roots where
  len := by simp
  ix := hx
  s1 := fun v hv => .root hv
  s2 := fun v hv hm => by rw [rdB_at _ v (by simpa using hv)] at hm; simp at hm
  c1 := fun v hv => .inr hv
  c2 := fun v hv hm => by rw [rdB_at _ v (by simpa using hv)] at hm; simp at hm
theorem reach_both (refs : List (List Int)) (roots : List Int) (hn : refs.length ≤ 12) (hl : roots.length ≤ 1000) (hr : ∀ r ∈ refs, r.length ≤ 5) (hi : ∀ r ∈ refs, IxR refs.length r) (hx : IxR refs.length roots) :
    ∃ m, Ev (fun k => impl_reached.f k refs roots) m ∧ Ev (fun k => spec_marked.f k refs roots) m ∧ Fin_ refs roots m := by
  have hu := unS_le (List.replicate refs.length false)
  rw [List.length_replicate] at hu
  have h0 := inv_start refs roots hx
  obtain ⟨m1, E1, F1⟩ := impl_reach refs roots hr hi hx _ _ _ h0 (Nat.le_refl _) (by omega)
  obtain ⟨m2, E2, F2⟩ := spec_reach refs roots hr hi hx _ (List.replicate refs.length false) roots 0 (by rw [List.drop_zero]; exact h0) (by omega) (Nat.le_refl _) (by omega)
  have e : m2 = m1 := fin_unique F2 F1 (fun _ => Iff.rfl)
  subst e
  refine ⟨m2, ?_, ?_, F2⟩
  · unfold impl_reached.f
    refine ev_pos (by omega) (ev_pos (by simp; omega) (ev_bind1 (a := roots) ?_ ?_))
    · unfold slices_Clone_int_int.f
      rw [if_pos (by omega)]
    · rw [Int.toNat_natCast]; exact E1
  · unfold spec_marked.f
    refine ev_pos (by omega) (ev_pos (by simp; omega) (ev_bind1 rfl (ev_pos (by simp; omega) ?_)))
    rw [Int.toNat_natCast, List.nil_append]; exact E2

def idxF : List Bool → Nat → List Int
  | [], _ => []
  | b :: m, i => if b then (i : Int) :: idxF m (i + 1) else idxF m (i + 1)
theorem idxF_len : ∀ (m : List Bool) (i : Nat), (idxF m i).length ≤ m.length
  | [], _ => Nat.le_refl _
  | b :: m, i => by
    have := idxF_len m (i + 1)
    unfold idxF
    split <;> simp only [List.length_cons] <;> omega
theorem impl_idx (m : List Bool) (hm : m.length ≤ 1048576) (d : Nat) : ∀ (i : Nat) (acc : List Int), i + d = m.length → acc.length ≤ i → Ev (fun k => impl_marked.l0 k true acc m (m.length : Int) (i : Int)) (acc ++ idxF (m.drop i) i) := by
  induction d with
  | zero =>
    intro i acc hi ha
    refine ev_succ ?_
    simp only [impl_marked.l0]
    refine ev_neg (by omega) (ev_some ?_)
    rw [List.drop_of_length_le (by omega)]; simp [idxF]
  | succ d ih =>
    intro i acc hi ha
    have hlt : i < m.length := by omega
    refine ev_succ ?_
    simp only [impl_marked.l0]
    rw [rdB_at m i hlt, next_i i (by omega), List.drop_eq_getElem_cons hlt]
    unfold idxF
    refine ev_pos (by omega) (ev_pos (by omega) (ev_pos (by omega) ?_))
    cases m[i] with
    | true =>
      refine ev_pos rfl (ev_pos (by omega) (ev_eq (ih (i + 1) _ (by omega) (by simp; omega)) ?_))
      simp
    | false => exact ev_neg (by simp) (ev_eq (ih (i + 1) _ (by omega) (by omega)) (by simp))
theorem spec_idx (m : List Bool) (hm : m.length ≤ 1048576) (d : Nat) : ∀ (i : Nat) (acc : List Int), i + d = m.length → acc.length ≤ i → Ev (fun k => spec_indices.l0 k m true acc (i : Int)) (acc ++ idxF (m.drop i) i) := by
  induction d with
  | zero =>
    intro i acc hi ha
    refine ev_succ ?_
    simp only [spec_indices.l0]
    refine ev_neg (by omega) (ev_some ?_)
    rw [List.drop_of_length_le (by omega)]; simp [idxF]
  | succ d ih =>
    intro i acc hi ha
    have hlt : i < m.length := by omega
    refine ev_succ ?_
    simp only [spec_indices.l0]
    rw [rdB_at m i hlt, next_i i (by omega), List.drop_eq_getElem_cons hlt]
    unfold idxF
    refine ev_pos (by omega) (ev_pos (by omega) ?_)
    cases m[i] with
    | true =>
      refine ev_pos rfl (ev_pos (by omega) (ev_eq (ih (i + 1) _ (by omega) (by simp; omega)) ?_))
      simp
    | false => exact ev_neg (by simp) (ev_eq (ih (i + 1) _ (by omega) (by omega)) (by simp))
theorem graph_ixr {refs : List (List Int)} {roots : List Int} (hg : graphB refs roots = true) : refs.length ≤ 12 ∧ (∀ r ∈ refs, r.length ≤ 5) ∧ (∀ r ∈ refs, IxR refs.length r) ∧ roots.length ≤ 12 ∧ IxR refs.length roots := by
  obtain ⟨g1, g2, g3, g4, g5⟩ := graph_partsR hg
  exact ⟨g1, g2, fun r hr x hm => idx_memR (g3 r hr) hm, g4, fun x hm => idx_memR g5 hm⟩
theorem reached_ev (refs : List (List Int)) (roots : List Int) (hn : refs.length ≤ 1048576) (hr : ∀ l ∈ refs, l.length ≤ 1048576) (hl : roots.length ≤ 1048576) :
    ∃ r, Ev (fun k => impl_ReachedFrom.f k refs roots) r ∧ Ev (fun k => spec_ReachedFrom.f k refs roots) r ∧ r.length ≤ 12 ∧ ((graphB refs roots = false ∧ r = []) ∨ (graphB refs roots = true ∧ ∃ m, Fin_ refs roots m ∧ r = idxF m 0)) := by
  have no : Ev (fun k => spec_ReachedFrom.j0 k refs roots true) [] := by
    refine ev_succ ?_
    simp only [spec_ReachedFrom.j0]
    exact ev_pos trivial (ev_some rfl)
  cases hg : graphB refs roots with
  | false =>
    refine ⟨[], ?_, ?_, by simp, .inl ⟨rfl, rfl⟩⟩
    · unfold impl_ReachedFrom.f
      refine Ev.bind (graph_ev refs roots hn hr hl) ?_
      rw [hg]
      exact ev_neg (by simp) (ev_some rfl)
    · unfold spec_ReachedFrom.f
      refine Ev.bind (refs_ev refs hn hr) ?_
      cases h1 : refsB refs with
      | false => exact ev_neg (by simp) no
      | true =>
        refine ev_pos rfl (Ev.bind (roots_ev roots (refs.length : Int) (by omega) (by omega) hl) ?_)
        rw [graphB, h1, Bool.true_and] at hg
        rw [hg]
        exact no
  | true =>
    obtain ⟨g1, g2, g3, g4, g5⟩ := graph_ixr hg
    obtain ⟨m, E1, E2, F⟩ := reach_both refs roots g1 (by omega) g2 g3 g5
    have hml : m.length ≤ 12 := by have := F.1; omega
    have hil := idxF_len m 0
    refine ⟨idxF m 0, ?_, ?_, by omega, .inr ⟨rfl, m, F, rfl⟩⟩
    · unfold impl_ReachedFrom.f
      refine Ev.bind (graph_ev refs roots hn hr hl) ?_
      rw [hg]
      refine ev_pos rfl (Ev.bind E1 (Ev.bind (a := idxF m 0) ?_ (ev_some rfl)))
      unfold impl_marked.f
      refine ev_eq (impl_idx m (by omega) m.length 0 [] (by omega) (by simp)) ?_
      rw [List.nil_append, List.drop_zero]
    · unfold spec_ReachedFrom.f
      refine Ev.bind (refs_ev refs hn hr) ?_
      rw [graphB, Bool.and_eq_true] at hg
      rw [hg.1]
      refine ev_pos rfl (Ev.bind (roots_ev roots (refs.length : Int) (by omega) (by omega) hl) ?_)
      rw [hg.2]
      refine ev_succ ?_
      simp only [spec_ReachedFrom.j0]
      refine ev_neg (by simp) (Ev.bind E2 (Ev.bind (a := idxF m 0) ?_ (ev_some rfl)))
      unfold spec_indices.f
      refine ev_eq (spec_idx m (by omega) m.length 0 [] (by omega) (by simp)) ?_
      rw [List.nil_append, List.drop_zero]

theorem idxF_mem : ∀ (m : List Bool) (i : Nat) (v : Int), v ∈ idxF m i ↔ ∃ j : Nat, v = ((i + j : Nat) : Int) ∧ ∃ h : j < m.length, m[j] = true
  | [], i, v => by
    simp [idxF]
  | b :: m, i, v => by
    have ih := idxF_mem m (i + 1) v
    have tail : v ∈ idxF m (i + 1) ↔ ∃ j : Nat, v = ((i + (j + 1) : Nat) : Int) ∧ ∃ h : j + 1 < (b :: m).length, (b :: m)[j + 1] = true := by
      rw [ih]
      constructor
      · rintro ⟨j, e, h, hm⟩
        exact ⟨j, by rw [e]; omega, by simpa using h, by simpa using hm⟩
      · rintro ⟨j, e, h, hm⟩
        exact ⟨j, by rw [e]; omega, by simpa using h, by simpa using hm⟩
    unfold idxF
    constructor
    · intro hv
      cases b with
      | true =>
        rw [if_pos rfl] at hv
        rcases List.mem_cons.1 hv with rfl | hv
        · exact ⟨0, by simp, by simp, rfl⟩
        · obtain ⟨j, e, h, hm⟩ := tail.1 hv
          exact ⟨j + 1, e, h, hm⟩
      | false =>
        rw [if_neg (by simp)] at hv
        obtain ⟨j, e, h, hm⟩ := tail.1 hv
        exact ⟨j + 1, e, h, hm⟩
    · rintro ⟨j, e, h, hm⟩
      cases j with
      | zero =>
        have hb : b = true := by simpa using hm
        subst hb
        rw [if_pos rfl, e]
        exact List.mem_cons_self
      | succ j =>
        have := tail.2 ⟨j, e, h, hm⟩
        cases b with
        | true => rw [if_pos rfl]; exact List.mem_cons_of_mem _ this
        | false => rw [if_neg (by simp)]; exact this
theorem idxF_asc : ∀ (m : List Bool) (i : Nat), (idxF m i).Pairwise (· < ·)
  | [], i => by unfold idxF; exact List.Pairwise.nil
  | b :: m, i => by
    have ih := idxF_asc m (i + 1)
    unfold idxF
    split
    · refine List.Pairwise.cons (fun v hv => ?_) ih
      obtain ⟨j, e, _⟩ := (idxF_mem m (i + 1) v).1 hv
      omega
    · exact ih
theorem has_from (l : List Int) (v : Int) (hl : l.length ≤ 1048576) (d : Nat) : ∀ i : Nat, i + d = l.length → v ∈ l.drop i → Ev (fun k => spec_inList.l0 k l v (i : Int)) true := by
  induction d with
  | zero =>
    intro i hi hv
    rw [List.drop_of_length_le (by omega)] at hv
    cases hv
  | succ d ih =>
    intro i hi hv
    have hlt : i < l.length := by omega
    rw [List.drop_eq_getElem_cons hlt] at hv
    refine ev_succ ?_
    simp only [spec_inList.l0]
    rw [rd_at l i hlt, next_i i (by omega)]
    refine ev_pos (by omega) (ev_pos (by omega) ?_)
    by_cases h : l[i] = v
    · exact ev_pos h (ev_some rfl)
    · refine ev_neg h (ih (i + 1) (by omega) ?_)
      rcases List.mem_cons.1 hv with e | hv
      · exact absurd e.symm h
      · exact hv
theorem asc_from (l : List Int) (hl : l.length ≤ 1048576) (hp : l.Pairwise (· < ·)) (d : Nat) : ∀ i : Nat, i + d = l.length → 1 ≤ i → Ev (fun k => spec_Ascends.l0 k l (i : Int)) true := by
  induction d with
  | zero =>
    intro i hi h1
    refine ev_succ ?_
    simp only [spec_Ascends.l0]
    exact ev_neg (by omega) (ev_some rfl)
  | succ d ih =>
    intro i hi h1
    have hlt : i < l.length := by omega
    have hq := List.pairwise_iff_getElem.1 hp (i - 1) i (by omega) hlt (by omega)
    have e : wrap64 ((i : Int) - 1) = ((i - 1 : Nat) : Int) := by rw [w64 (by omega) (by omega)]; omega
    refine ev_succ ?_
    simp only [spec_Ascends.l0]
    rw [e, rd_at l i hlt, rd_at l (i - 1) (by omega), next_i i (by omega)]
    exact ev_pos (by omega) (ev_pos (by omega) (ev_pos (by omega) (ev_pos (by omega) (ev_neg (by omega) (ih (i + 1) (by omega) (by omega))))))
theorem FnReachedFrom : laws_FnReachedFrom.Pure := by
  intro l hm _ hb
  refine Ev.rounds ?_
  unfold laws_FnReachedFrom.f
  by_cases hl : (l.length : Int) > 1048576
  · exact ev_pos hl (ev_some rfl)
  refine ev_neg hl ?_
  obtain ⟨f, rt, D, h1, h2, h3⟩ := draw_graph (l := l) (by omega) hb
  have hf : ∀ l ∈ f, l.length ≤ 1048576 := fun l h => by have := h3 l h; omega
  obtain ⟨r, I, S, hlen, hr⟩ := reached_ev f rt (by omega) hf (by omega)
  refine Ev.bind D ?_
  dsimp only
  refine Ev.bind I (Ev.bind S (Ev.bind (same_ev _ (by omega)) (ev_pos (show true = true from rfl) ?_)))
  refine ev_succ ?_
  simp only [laws_FnReachedFrom.j0]
  by_cases hz : r.length = 0
  · exact ev_pos (by simp [hz]) (ev_some rfl)
  · refine ev_neg (by simpa using hz) ?_
    rcases hr with ⟨_, rfl⟩ | ⟨hg, m, F, rfl⟩
    · simp at hz
    · obtain ⟨g1, g2, g3, g4, g5⟩ := graph_ixr hg
      have hmn : m.length = f.length := F.1
      have mem : ∀ v : Int, v ∈ idxF m 0 ↔ (0 ≤ v ∧ v < (f.length : Int)) ∧ Rch f rt v := by
        intro v
        rw [idxF_mem]
        constructor
        · rintro ⟨j, e, h, hm⟩
          have e' : v = (j : Int) := by omega
          subst e'
          exact ⟨by omega, (F.2 j (by omega)).1 (by rw [rdB_at m j h, hm])⟩
        · rintro ⟨hv, hR⟩
          obtain ⟨j, rfl⟩ := Int.eq_ofNat_of_zero_le hv.1
          have hj : j < m.length := by omega
          exact ⟨j, by omega, hj, by rw [← rdB_at m j hj]; exact (F.2 j (by omega)).2 hR⟩
      have gx : graphB f (idxF m 0) = true := by
        have hg' := hg
        rw [graphB, Bool.and_eq_true] at hg'
        rw [graphB, hg'.1, Bool.true_and, rootsB, decide_eq_true (by omega), Bool.true_and, idxB, List.all_eq_true]
        intro x hx
        exact decide_eq_true ((mem x).1 hx).1
      obtain ⟨r2, I2, S2, hlen2, hr2⟩ := reached_ev f (idxF m 0) (by omega) hf (by omega)
      have e2 : r2 = idxF m 0 := by
        rcases hr2 with ⟨h, _⟩ | ⟨_, m2, F2, rfl⟩
        · rw [gx] at h; cases h
        · have : m2 = m := fin_unique F2 F (fun v => ⟨fun h => ?_, fun h => ?_⟩)
          · rw [this]
          · induction h with
            | root hv => exact ((mem _).1 hv).2
            | step _ hv ih => exact .step ih hv
          · have hin : ∀ x : Int, Rch f rt x → 0 ≤ x ∧ x < (f.length : Int) := by
              intro x hx
              induction hx with
              | root hv => exact g5 _ hv
              | step _ hv ih =>
                rename_i u w
                obtain ⟨j, rfl⟩ := Int.eq_ofNat_of_zero_le ih.1
                have hj : j < f.length := by omega
                rw [rdL_at f j hj] at hv
                exact g3 _ (List.getElem_mem hj) _ hv
            exact .root ((mem v).2 ⟨hin v h, h⟩)
      subst e2
      have loop : ∀ (d i : Nat), i + d = rt.length → Ev (fun k => laws_FnReachedFrom.l0 k f rt (idxF m 0) (i : Int)) true := by
        intro d
        induction d with
        | zero =>
          intro i hi
          refine ev_succ ?_
          simp only [laws_FnReachedFrom.l0]
          refine ev_neg (by omega) (Ev.bind (a := true) ?_ (ev_pos (show true = true from rfl) (Ev.bind I2 (Ev.bind (same_ev _ (by omega)) (ev_some rfl)))))
          unfold spec_Ascends.f
          exact asc_from (idxF m 0) (by omega) (idxF_asc m 0) ((idxF m 0).length - 1) 1 (by omega) (by omega)
        | succ d ih =>
          intro i hi
          have hlt : i < rt.length := by omega
          refine ev_succ ?_
          simp only [laws_FnReachedFrom.l0]
          rw [rd_at rt i hlt, next_i i (by omega)]
          refine ev_pos (by omega) (ev_pos (by omega) (Ev.bind (a := true) ?_ (ev_pos (show true = true from rfl) (ih (i + 1) (by omega)))))
          unfold spec_HasInt.f
          refine Ev.bind (a := true) ?_ (ev_some rfl)
          unfold spec_inList.f
          refine has_from (idxF m 0) _ (by omega) (idxF m 0).length 0 (by omega) ?_
          rw [List.drop_zero]
          exact (mem _).2 ⟨g5 _ (List.getElem_mem hlt), .root (List.getElem_mem hlt)⟩
      exact loop rt.length 0 (by omega)

end Go.Proofs.Ytpnamllkeaaeeaa.Pure
