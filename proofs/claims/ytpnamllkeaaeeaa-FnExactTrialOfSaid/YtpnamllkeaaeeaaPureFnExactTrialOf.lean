/- FnExactTrialOf: the program counts the references that do not come from a set as the reference does, for all references, roots and sets of at most 2^20 numbers. -/
import Derived.Test.YtpnamllkeaaeeaaXFnExactTrialOfx8
namespace Go.Proofs.Ytpnamllkeaaeeaa.Pure
open Go.RowKit Go.Proofs.Ytpnamllkeaaeeaa.XFnExactTrialOf Go.Proofs.YtpnamllkeaaeeaaW.PrintWords Go.Proofs.YtpnamllkeaaeeaaW.PrintLast Go.Proofs.YtpnamllkeaaeeaaW.PrintMore
set_option linter.unusedVariables false
set_option linter.unusedSimpArgs false

/-! ### Rounds, and words of 64 bits -/
theorem ev_succ {α : Type} {g : Nat → Option α} {r : α} (h : Ev (fun k => g (k + 1)) r) : Ev g r := Ev.step (fun _ => rfl) h
theorem ev_some {α : Type} {o : Option α} {r : α} (h : o = some r) : Ev (fun _ => o) r := ⟨0, fun _ _ => h⟩
theorem ev_pos {α : Type} {c : Prop} [Decidable c] {A B : Nat → Option α} {r : α} (h : c) (k : Ev A r) : Ev (fun n => if c then A n else B n) r :=
  Ev.congr (fun _ => if_pos h) k
theorem ev_neg {α : Type} {c : Prop} [Decidable c] {A B : Nat → Option α} {r : α} (h : ¬ c) (k : Ev B r) : Ev (fun n => if c then A n else B n) r :=
  Ev.congr (fun _ => if_neg h) k
theorem ev_eq {α : Type} {g : Nat → Option α} {r s : α} (h : Ev g r) (e : r = s) : Ev g s := e ▸ h
theorem ev_bind1 {α β : Type} {o : Option α} {f : Nat → α → Option β} {a : α} {r : β} (h : o = some a) (k : Ev (fun n => f n a) r) : Ev (fun n => o.bind (f n)) r :=
  Ev.bind (ev_some h) k
theorem ev_det {α : Type} {g : Nat → Option α} {r s : α} (h : Ev g r) (k : Ev g s) : r = s := by
  obtain ⟨K, h⟩ := h
  obtain ⟨L, k⟩ := k
  have h1 := h (max K L) (by omega)
  have h2 := k (max K L) (by omega)
  rw [h1] at h2
  exact Option.some.inj h2
theorem w64 {n : Int} (h : -9223372036854775808 ≤ n) (h' : n ≤ 9223372036854775807) : wrap64 n = n := by unfold wrap64; omega
theorem byte_of {l : List Int} (h : ∀ x ∈ l, (Lit.int .u8 x).wf = true) (i : Int) : 0 ≤ rd l i ∧ rd l i ≤ 255 := by
  unfold rd
  by_cases hi : i.toNat < l.length
  · have hm : l.getD i.toNat 0 ∈ l := by
      rw [List.getD_eq_getElem?_getD, List.getElem?_eq_getElem hi]
      exact List.getElem_mem hi
    have := h _ hm
    have m0 : IntKind.u8.min = 0 := by decide
    have m1 : IntKind.u8.max = 255 := by decide
    simp only [Lit.wf, m0, m1, Bool.and_eq_true, decide_eq_true_eq] at this
    exact this
  · rw [List.getD_eq_getElem?_getD, List.getElem?_eq_none (by omega)]
    simp

/-! ### Reading a list -/
theorem rd_at (l : List Int) (i : Nat) (h : i < l.length) : rd l (i : Int) = l[i] := by
  unfold rd
  simp [List.getD_eq_getElem?_getD, h]
theorem next_i (i : Nat) (h : i ≤ 4611686018427387904) : wrap64 ((i : Int) + 1) = ((i + 1 : Nat) : Int) := by rw [w64 (by omega) (by omega)]; omega

/-! ### Lists of numbers: copied, compared -/
theorem toInt_from (l : List Int) (hl : l.length ≤ 1048576) (d : Nat) : ∀ (i : Nat) (x : List Int), i + d = l.length → x.length = l.length → x.take i = l.take i → Ev (fun k => laws_toIntS.l0 k l x (i : Int)) l := by
  induction d with
  | zero =>
    intro i x hi hx ht
    refine ev_succ ?_
    simp only [laws_toIntS.l0]
    refine ev_neg (by omega) (ev_some ?_)
    rw [List.take_of_length_le (by omega), List.take_of_length_le (by omega)] at ht
    rw [ht]
  | succ d ih =>
    intro i x hi hx ht
    refine ev_succ ?_
    simp only [laws_toIntS.l0]
    refine ev_pos (by omega) (ev_pos (by omega) (ev_pos (by omega) ?_))
    rw [next_i i (by omega), rd_at l i (by omega)]
    refine ih (i + 1) _ (by omega) (by simp [hx]) ?_
    have hi' : i < x.length := by omega
    rw [List.take_succ_eq_append_getElem (by simp; omega), List.take_succ_eq_append_getElem (by omega)]
    simp only [Int.toNat_natCast, List.getElem_set_self]
    rw [List.take_set_of_le (Nat.le_refl i), ht]

theorem toInt_ev (l : List Int) (hl : l.length ≤ 1048576) : Ev (fun k => laws_toIntS.f k l) l := by
  unfold laws_toIntS.f
  refine ev_pos (by omega) (ev_pos (by simp; omega) ?_)
  exact toInt_from l hl l.length 0 _ (by omega) (by simp) (by simp)

theorem eqSelf_from (l : List Int) (hl : l.length ≤ 1048576) (d : Nat) : ∀ (i : Nat), i + d = l.length → Ev (fun k => laws_eqIntS.l0 k l l (i : Int)) true := by
  induction d with
  | zero =>
    intro i hi
    refine ev_succ ?_
    simp only [laws_eqIntS.l0]
    exact ev_neg (by omega) (ev_some rfl)
  | succ d ih =>
    intro i hi
    refine ev_succ ?_
    simp only [laws_eqIntS.l0]
    refine ev_pos (by omega) (ev_pos (by omega) (ev_pos (by omega) (ev_pos trivial ?_)))
    rw [next_i i (by omega)]
    exact ih (i + 1) (by omega)

theorem eqSelf_ev (l : List Int) (hl : l.length ≤ 1048576) : Ev (fun k => laws_eqIntS.f k l l) true := by
  unfold laws_eqIntS.f
  exact ev_pos rfl (eqSelf_from l hl l.length 0 (by omega))

/-! ### Graphs -/
theorem rdL_at (l : List (List Int)) (i : Nat) (h : i < l.length) : rd_L1 l (i : Int) = l[i] := by
  unfold rd_L1
  simp [List.getD_eq_getElem?_getD, h]
def idxB (n : Int) (l : List Int) : Bool := l.all fun k => decide (0 ≤ k ∧ k < n)
def rowB (n : Int) (l : List Int) : Bool := decide (l.length ≤ 5) && idxB n l
def refsB (refs : List (List Int)) : Bool := decide (refs.length ≤ 12) && refs.all (rowB refs.length)
def rootsB (n : Int) (roots : List Int) : Bool := decide (roots.length ≤ 12) && idxB n roots
def graphB (refs : List (List Int)) (roots : List Int) : Bool := refsB refs && rootsB refs.length roots

theorem idx_cons (n x : Int) (l : List Int) : idxB n (x :: l) = (decide (0 ≤ x ∧ x < n) && idxB n l) := rfl
theorem indices_from (l : List Int) (n : Int) (hl : l.length ≤ 1048576) (d : Nat) : ∀ i : Nat, i + d = l.length → Ev (fun k => impl_indicesOk.l0 k n l (l.length : Int) (i : Int)) (idxB n (l.drop i)) := by
  induction d with
  | zero =>
    intro i hi
    refine ev_succ ?_
    simp only [impl_indicesOk.l0]
    refine ev_neg (by omega) (ev_some ?_)
    rw [List.drop_of_length_le (by omega)]; rfl
  | succ d ih =>
    intro i hi
    have hlt : i < l.length := by omega
    refine ev_succ ?_
    simp only [impl_indicesOk.l0]
    rw [rd_at l i hlt, next_i i (by omega), List.drop_eq_getElem_cons hlt]
    refine ev_pos (by omega) (ev_pos (by omega) (ev_pos (by omega) ?_))
    by_cases h1 : l[i] < 0
    · exact ev_pos h1 (ev_some (by rw [idx_cons, decide_eq_false (by omega)]; rfl))
    · refine ev_neg h1 ?_
      by_cases h2 : l[i] ≥ n
      · exact ev_pos h2 (ev_some (by rw [idx_cons, decide_eq_false (by omega)]; rfl))
      · refine ev_neg h2 (ev_eq (ih (i + 1) (by omega)) ?_)
        have : decide (0 ≤ l[i] ∧ l[i] < n) = true := decide_eq_true (by omega)
        rw [idx_cons, this, Bool.true_and]
theorem indices_ev (l : List Int) (n : Int) (hl : l.length ≤ 1048576) : Ev (fun k => impl_indicesOk.f k l n) (idxB n l) := indices_from l n hl l.length 0 (by omega)

theorem graph_from (refs : List (List Int)) (hn : refs.length ≤ 1048576) (hr : ∀ l ∈ refs, l.length ≤ 1048576) (d : Nat) : ∀ i : Nat, i + d = refs.length →
    Ev (fun k => impl_GraphOk.l0 k refs refs (refs.length : Int) (i : Int)) ((refs.drop i).all (rowB refs.length)) := by
  induction d with
  | zero =>
    intro i hi
    refine ev_succ ?_
    simp only [impl_GraphOk.l0]
    refine ev_neg (by omega) (ev_some ?_)
    rw [List.drop_of_length_le (by omega)]; rfl
  | succ d ih =>
    intro i hi
    have hlt : i < refs.length := by omega
    refine ev_succ ?_
    simp only [impl_GraphOk.l0]
    rw [rdL_at refs i hlt, next_i i (by omega), List.drop_eq_getElem_cons hlt, List.all_cons]
    refine ev_pos (by omega) (ev_pos (by omega) (ev_pos (by omega) ?_))
    by_cases h1 : (refs[i].length : Int) > 5
    · exact ev_pos h1 (ev_some (by rw [rowB, decide_eq_false (by omega)]; rfl))
    · refine ev_neg h1 (Ev.bind (indices_ev refs[i] (refs.length : Int) (hr _ (List.getElem_mem hlt))) ?_)
      have e : rowB refs.length refs[i] = idxB refs.length refs[i] := by rw [rowB, decide_eq_true (by omega)]; rfl
      rw [e]
      cases idxB (refs.length : Int) refs[i] with
      | true => exact ev_pos rfl (ev_eq (ih (i + 1) (by omega)) (by simp))
      | false => exact ev_neg (by simp) (ev_some (by simp))

theorem graph_ev (refs : List (List Int)) (roots : List Int) (hn : refs.length ≤ 1048576) (hr : ∀ l ∈ refs, l.length ≤ 1048576) (hl : roots.length ≤ 1048576) : Ev (fun k => impl_GraphOk.f k refs roots) (graphB refs roots) := by
  have no : Ev (fun k => impl_GraphOk.j0 k refs true) false := by
    refine ev_succ ?_
    simp only [impl_GraphOk.j0]
    exact ev_pos trivial (ev_some rfl)
  unfold impl_GraphOk.f
  by_cases h1 : (refs.length : Int) > 12
  · refine ev_pos h1 (ev_eq no ?_)
    rw [graphB, refsB, decide_eq_false (by omega)]; rfl
  refine ev_neg h1 ?_
  by_cases h2 : (roots.length : Int) > 12
  · refine ev_pos h2 (ev_eq no ?_)
    rw [graphB, rootsB, decide_eq_false (by omega : ¬ roots.length ≤ 12)]; simp
  refine ev_neg h2 (Ev.bind (indices_ev roots (refs.length : Int) hl) ?_)
  have e : rootsB (refs.length : Int) roots = idxB refs.length roots := by rw [rootsB, decide_eq_true (by omega)]; rfl
  have e2 : refsB refs = refs.all (rowB refs.length) := by rw [refsB, decide_eq_true (by omega)]; rfl
  rw [graphB, e, e2]
  cases idxB (refs.length : Int) roots with
  | false => exact ev_eq no (by simp)
  | true =>
    refine ev_succ ?_
    simp only [impl_GraphOk.j0]
    refine ev_neg (by simp) (ev_eq (graph_from refs hn hr refs.length 0 (by omega)) (by simp))

theorem in_idx (k n : Int) (hn : 0 ≤ n) (hn' : n ≤ 1048576) : spec_inRange.f k 0 (wrap64 (n - 1)) = some (decide (0 ≤ k ∧ k < n)) := by
  have hw : wrap64 (n - 1) = n - 1 := w64 (by omega) (by omega)
  unfold spec_inRange.f
  rw [hw]
  by_cases h : k ≥ 0
  · have h' : 0 ≤ k := h
    rw [if_pos h]; congr 1; simp [h']; omega
  · rw [if_neg h, decide_eq_false (by omega)]

theorem roots_from (l : List Int) (n : Int) (hn : 0 ≤ n) (hn' : n ≤ 1048576) (hl : l.length ≤ 1048576) (d : Nat) : ∀ i : Nat, i + d = l.length → Ev (fun k => spec_validRoots.l0 k l n (i : Int)) (idxB n (l.drop i) && decide (l.length ≤ 12)) := by
  induction d with
  | zero =>
    intro i hi
    refine ev_succ ?_
    simp only [spec_validRoots.l0]
    refine ev_neg (by omega) (ev_some ?_)
    rw [List.drop_of_length_le (by omega)]; simp [idxB]; omega
  | succ d ih =>
    intro i hi
    have hlt : i < l.length := by omega
    refine ev_succ ?_
    simp only [spec_validRoots.l0]
    rw [rd_at l i hlt, next_i i (by omega), List.drop_eq_getElem_cons hlt]
    refine ev_pos (by omega) (ev_pos (by omega) (ev_bind1 (in_idx _ _ hn hn') ?_))
    simp only [idxB, List.all_cons]
    by_cases h : decide (0 ≤ l[i] ∧ l[i] < n) = true
    · refine ev_pos h (ev_eq (ih (i + 1) (by omega)) ?_)
      rw [h, Bool.true_and]; rfl
    · refine ev_neg h (ev_some ?_)
      rw [Bool.not_eq_true] at h
      rw [h]; rfl
theorem roots_ev (l : List Int) (n : Int) (hn : 0 ≤ n) (hn' : n ≤ 1048576) (hl : l.length ≤ 1048576) : Ev (fun k => spec_validRoots.f k l n) (rootsB n l) := by
  unfold spec_validRoots.f
  refine ev_eq (roots_from l n hn hn' hl l.length 0 (by omega)) ?_
  rw [List.drop_zero, rootsB, Bool.and_comm]

theorem refs_from (refs : List (List Int)) (hn : refs.length ≤ 1048576) (hr : ∀ l ∈ refs, l.length ≤ 1048576) (d : Nat) : ∀ i : Nat, i + d = refs.length →
    Ev (fun k => spec_validGraph.l0 k refs (i : Int)) ((refs.drop i).all (rowB refs.length) && decide (refs.length ≤ 12)) := by
  induction d with
  | zero =>
    intro i hi
    refine ev_succ ?_
    simp only [spec_validGraph.l0]
    refine ev_neg (by omega) (ev_some ?_)
    rw [List.drop_of_length_le (by omega)]; simp; omega
  | succ d ih =>
    intro i hi
    have hlt : i < refs.length := by omega
    have hrow := hr _ (List.getElem_mem hlt)
    rw [List.drop_eq_getElem_cons hlt, List.all_cons]
    have row : ∀ (c j : Nat), j + c = refs[i].length → Ev (fun k => spec_validGraph.l1 k refs (i : Int) (j : Int)) ((idxB refs.length (refs[i].drop j) && decide (refs[i].length ≤ 5)) && ((refs.drop (i + 1)).all (rowB refs.length) && decide (refs.length ≤ 12))) := by
      intro c
      induction c with
      | zero =>
        intro j hj
        refine ev_succ ?_
        simp only [spec_validGraph.l1]
        rw [rdL_at refs i hlt]
        refine ev_pos (by omega) (ev_pos (by omega) (ev_neg (by omega) ?_))
        have e : idxB (refs.length : Int) (refs[i].drop j) = true := by rw [List.drop_of_length_le (by omega)]; rfl
        rw [e, next_i i (by omega)]
        by_cases h5 : (refs[i].length : Int) > 5
        · refine ev_pos h5 (ev_some ?_)
          rw [decide_eq_false (by omega : ¬ refs[i].length ≤ 5)]; rfl
        · refine ev_neg h5 (ev_eq (ih (i + 1) (by omega)) ?_)
          rw [decide_eq_true (by omega : refs[i].length ≤ 5)]; simp
      | succ c ihc =>
        intro j hj
        have hltj : j < refs[i].length := by omega
        refine ev_succ ?_
        simp only [spec_validGraph.l1]
        rw [rdL_at refs i hlt, rd_at _ j hltj, next_i j (by omega), List.drop_eq_getElem_cons hltj]
        refine ev_pos (by omega) (ev_pos (by omega) (ev_pos (by omega) (ev_pos (by omega) (ev_bind1 (in_idx _ _ (by omega) (by omega)) ?_))))
        simp only [idxB, List.all_cons]
        by_cases h : decide (0 ≤ refs[i][j] ∧ refs[i][j] < (refs.length : Int)) = true
        · refine ev_pos h (ev_eq (ihc (j + 1) (by omega)) ?_)
          rw [h, Bool.true_and]; rfl
        · refine ev_neg h (ev_some ?_)
          rw [Bool.not_eq_true] at h
          rw [h]; rfl
    refine ev_succ ?_
    simp only [spec_validGraph.l0]
    refine ev_pos (by omega) (ev_eq (row refs[i].length 0 (by omega)) ?_)
    rw [List.drop_zero, rowB, Bool.and_comm (idxB _ _), Bool.and_assoc, Bool.and_assoc, Bool.and_assoc]
theorem refs_ev (refs : List (List Int)) (hn : refs.length ≤ 1048576) (hr : ∀ l ∈ refs, l.length ≤ 1048576) : Ev (fun k => spec_validGraph.f k refs) (refsB refs) := by
  unfold spec_validGraph.f
  refine ev_eq (refs_from refs hn hr refs.length 0 (by omega)) ?_
  rw [List.drop_zero, refsB, Bool.and_comm]

/-! ### Lists of lists: how long, copied, compared -/
theorem szInt_ev (l : List Int) (a : Int) (ha : 0 ≤ a ∧ a ≤ 1048576) (hl : l.length ≤ 9223372036854775807) : laws_szIntS.f l a = some (if a - (l.length : Int) < 0 then -1 else a - l.length) := by
  have hw : wrap64 (a - (l.length : Int)) = a - l.length := w64 (by omega) (by omega)
  unfold laws_szIntS.f
  rw [hw]; split <;> rfl
theorem szIntSS_from (l : List (List Int)) (hl : l.length ≤ 1048576) (hr : ∀ r ∈ l, r.length ≤ 9223372036854775807) (d : Nat) : ∀ (i : Nat) (a : Int), i + d = l.length → 0 ≤ a ∧ a ≤ 1048576 →
    ∃ r, Ev (fun k => laws_szIntSS.l0 k l a (i : Int)) r ∧ (0 ≤ r → ∀ x ∈ l.drop i, x.length ≤ 1048576) := by
  induction d with
  | zero =>
    intro i a hi ha
    refine ⟨a, ev_succ ?_, fun _ => by rw [List.drop_of_length_le (by omega)]; simp⟩
    simp only [laws_szIntSS.l0]
    exact ev_neg (by omega) (ev_some rfl)
  | succ d ih =>
    intro i a hi ha
    have hlt : i < l.length := by omega
    have hlr := hr _ (List.getElem_mem hlt)
    have e := szInt_ev l[i] a ha hlr
    by_cases h : a - (l[i].length : Int) < 0
    · refine ⟨-1, ev_succ ?_, fun h0 => absurd h0 (by omega)⟩
      simp only [laws_szIntSS.l0]
      rw [rdL_at l i hlt]
      rw [if_pos h] at e
      exact ev_pos (by omega) (ev_pos (by omega) (ev_bind1 e (ev_pos (by omega) (ev_some rfl))))
    · rw [if_neg h] at e
      obtain ⟨r, hr', hx⟩ := ih (i + 1) (a - l[i].length) (by omega) (by omega)
      refine ⟨r, ev_succ ?_, fun h0 => ?_⟩
      · simp only [laws_szIntSS.l0]
        rw [rdL_at l i hlt, next_i i (by omega)]
        exact ev_pos (by omega) (ev_pos (by omega) (ev_bind1 e (ev_neg h hr')))
      · rw [List.drop_eq_getElem_cons hlt]
        intro x hm
        rcases List.mem_cons.1 hm with rfl | hm
        · omega
        · exact hx h0 x hm
theorem szIntSS_ev (l : List (List Int)) (hl : l.length ≤ 9223372036854775807) (hr : ∀ r ∈ l, r.length ≤ 9223372036854775807) :
    ∃ r, Ev (fun k => laws_szIntSS.f k l 1048576) r ∧ (0 ≤ r → l.length ≤ 1048576 ∧ ∀ x ∈ l, x.length ≤ 1048576) := by
  have hw : wrap64 (1048576 - (l.length : Int)) = 1048576 - l.length := w64 (by omega) (by omega)
  by_cases h : 1048576 - (l.length : Int) < 0
  · refine ⟨-1, ?_, fun h0 => absurd h0 (by omega)⟩
    unfold laws_szIntSS.f
    rw [hw]
    exact ev_pos h (ev_some rfl)
  · obtain ⟨r, e, hx⟩ := szIntSS_from l (by omega) hr l.length 0 (1048576 - l.length) (by omega) (by omega)
    refine ⟨r, ?_, fun h0 => ⟨by omega, hx h0⟩⟩
    unfold laws_szIntSS.f
    rw [hw]
    exact ev_neg h e
theorem toIntSS_from (l : List (List Int)) (hl : l.length ≤ 1048576) (hr : ∀ r ∈ l, r.length ≤ 1048576) (d : Nat) : ∀ (i : Nat) (x : List (List Int)), i + d = l.length → x.length = l.length → x.take i = l.take i → Ev (fun k => laws_toIntSS.l0 k l x (i : Int)) l := by
  induction d with
  | zero =>
    intro i x hi hx ht
    refine ev_succ ?_
    simp only [laws_toIntSS.l0]
    refine ev_neg (by omega) (ev_some ?_)
    rw [List.take_of_length_le (by omega), List.take_of_length_le (by omega)] at ht
    rw [ht]
  | succ d ih =>
    intro i x hi hx ht
    have hlt : i < l.length := by omega
    refine ev_succ ?_
    simp only [laws_toIntSS.l0]
    rw [rdL_at l i hlt, next_i i (by omega)]
    refine ev_pos (by omega) (ev_pos (by omega) (Ev.bind (toInt_ev _ (hr _ (List.getElem_mem hlt))) (ev_pos (by omega) ?_)))
    refine ih (i + 1) _ (by omega) (by simp [hx]) ?_
    have hi' : i < x.length := by omega
    rw [List.take_succ_eq_append_getElem (by simp; omega), List.take_succ_eq_append_getElem (by omega)]
    simp only [Int.toNat_natCast, List.getElem_set_self]
    rw [List.take_set_of_le (Nat.le_refl i), ht]
theorem toIntSS_ev (l : List (List Int)) (hl : l.length ≤ 1048576) (hr : ∀ r ∈ l, r.length ≤ 1048576) : Ev (fun k => laws_toIntSS.f k l) l := by
  unfold laws_toIntSS.f
  refine ev_pos (by omega) (ev_pos (by simp; omega) ?_)
  exact toIntSS_from l hl hr l.length 0 _ (by omega) (by simp) (by simp)
theorem eqSelfSS_from (l : List (List Int)) (hl : l.length ≤ 1048576) (hr : ∀ r ∈ l, r.length ≤ 1048576) (d : Nat) : ∀ (i : Nat), i + d = l.length → Ev (fun k => laws_eqIntSS.l0 k l l (i : Int)) true := by
  induction d with
  | zero =>
    intro i hi
    refine ev_succ ?_
    simp only [laws_eqIntSS.l0]
    exact ev_neg (by omega) (ev_some rfl)
  | succ d ih =>
    intro i hi
    have hlt : i < l.length := by omega
    refine ev_succ ?_
    simp only [laws_eqIntSS.l0]
    rw [rdL_at l i hlt, next_i i (by omega)]
    exact ev_pos (by omega) (ev_pos (by omega) (ev_pos (by omega) (Ev.bind (eqSelf_ev _ (hr _ (List.getElem_mem hlt))) (ev_pos rfl (ih (i + 1) (by omega))))))
theorem eqSelfSS_ev (l : List (List Int)) (hl : l.length ≤ 1048576) (hr : ∀ r ∈ l, r.length ≤ 1048576) : Ev (fun k => laws_eqIntSS.f k l l) true := by
  unfold laws_eqIntSS.f
  exact ev_pos rfl (eqSelfSS_from l hl hr l.length 0 (by omega))

/-! ### Counts -/
def bump (l : List Int) (k : Int) : List Int := l.set k.toNat (rd l k + 1)
def rowsC (refs : List (List Int)) (x : List Int) : List Int := refs.foldl (fun acc row => row.foldl bump acc) x
def countsL (refs : List (List Int)) (roots : List Int) : List Int := rowsC refs (roots.foldl bump (List.replicate refs.length 0))
theorem bump_length (l : List Int) (k : Int) : (bump l k).length = l.length := by simp [bump]
theorem foldb_length : ∀ (ks : List Int) (l : List Int), (ks.foldl bump l).length = l.length
  | [], _ => rfl
  | k :: ks, l => by rw [List.foldl_cons, foldb_length ks, bump_length]
theorem rowsC_length : ∀ (refs : List (List Int)) (x : List Int), (rowsC refs x).length = x.length
  | [], _ => rfl
  | r :: refs, x => by
    have := rowsC_length refs (r.foldl bump x)
    rw [foldb_length] at this
    exact this
def Bd (m : Int) (l : List Int) : Prop := ∀ x ∈ l, 0 ≤ x ∧ x ≤ m
theorem rd_bd {m : Int} {l : List Int} (h : Bd m l) (hm : 0 ≤ m) (k : Int) : 0 ≤ rd l k ∧ rd l k ≤ m := by
  unfold rd
  by_cases hk : k.toNat < l.length
  · rw [List.getD_eq_getElem?_getD, List.getElem?_eq_getElem hk]; exact h _ (List.getElem_mem hk)
  · rw [List.getD_eq_getElem?_getD, List.getElem?_eq_none (by omega)]; simp; omega
theorem bump_bd {m : Int} {l : List Int} (h : Bd m l) (hm : 0 ≤ m) (k : Int) : Bd (m + 1) (bump l k) := by
  intro x hx
  rcases List.mem_or_eq_of_mem_set hx with hx | rfl
  · have := h x hx; omega
  · have := rd_bd h hm k; omega
theorem foldb_bd : ∀ (ks : List Int) (l : List Int) (m : Int), Bd m l → 0 ≤ m → Bd (m + ks.length) (ks.foldl bump l)
  | [], l, m, h, _ => by simpa using h
  | k :: ks, l, m, h, hm => by
    have := foldb_bd ks (bump l k) (m + 1) (bump_bd h hm k) (by omega)
    rw [List.foldl_cons, List.length_cons]
    have e : m + 1 + (ks.length : Int) = m + ((ks.length + 1 : Nat) : Int) := by omega
    rw [e] at this; exact this
theorem idx_mem {n : Int} {l : List Int} (h : idxB n l = true) {x : Int} (hx : x ∈ l) : 0 ≤ x ∧ x < n := by
  rw [idxB, List.all_eq_true] at h
  simpa using h x hx

section
variable (refs : List (List Int)) (hn : refs.length ≤ 1048576) (hr : ∀ l ∈ refs, l.length ≤ 5) (hi : ∀ l ∈ refs, idxB refs.length l = true)
include hn hr hi
theorem impl_rows (d : Nat) : ∀ (i : Nat) (x : List Int) (m : Int), i + d = refs.length → x.length = refs.length → Bd m x → 0 ≤ m → m + 5 * d ≤ 1000000000 →
    Ev (fun k => impl_counts.l1 k x refs (refs.length : Int) (i : Int)) (rowsC (refs.drop i) x) := by
  induction d with
  | zero =>
    intro i x m hid hx _ _ _
    refine ev_succ ?_
    simp only [impl_counts.l1]
    refine ev_neg (by omega) (ev_some ?_)
    rw [List.drop_of_length_le (by omega)]; rfl
  | succ d ih =>
    intro i x m hid hx hb hm hmx
    have hlt : i < refs.length := by omega
    have hrow := hr _ (List.getElem_mem hlt)
    have hidx := hi _ (List.getElem_mem hlt)
    have row : ∀ (c j : Nat) (y : List Int) (m' : Int), j + c = refs[i].length → y.length = refs.length → Bd m' y → 0 ≤ m' → m' + c + 5 * d ≤ 1000000000 →
        Ev (fun k => impl_counts.l2 k y refs (refs.length : Int) (i : Int) refs[i] (refs[i].length : Int) (j : Int)) (rowsC (refs.drop (i + 1)) ((refs[i].drop j).foldl bump y)) := by
      intro c
      induction c with
      | zero =>
        intro j y m' hj hy hby hm' hmy
        refine ev_succ ?_
        simp only [impl_counts.l2]
        rw [next_i i (by omega)]
        refine ev_neg (by omega) (ev_eq (ih (i + 1) y m' (by omega) hy hby hm' (by omega)) ?_)
        rw [List.drop_of_length_le (by omega : refs[i].length ≤ j)]; rfl
      | succ c ihc =>
        intro j y m' hj hy hby hm' hmy
        have hltj : j < refs[i].length := by omega
        have hk := idx_mem hidx (List.getElem_mem hltj)
        have hv := rd_bd hby hm' refs[i][j]
        have hw : wrap64 (rd y refs[i][j] + 1) = rd y refs[i][j] + 1 := w64 (by omega) (by omega)
        refine ev_succ ?_
        simp only [impl_counts.l2]
        rw [rd_at _ j hltj, next_i j (by omega), hw, List.drop_eq_getElem_cons hltj, List.foldl_cons]
        exact ev_pos (by omega) (ev_pos (by omega) (ev_pos (by omega) (ev_pos hk.1 (ev_pos (by omega) (ihc (j + 1) (bump y refs[i][j]) (m' + 1) (by omega) (by rw [bump_length, hy]) (bump_bd hby hm' _) (by omega) (by omega))))))
    refine ev_succ ?_
    simp only [impl_counts.l1]
    rw [rdL_at refs i hlt, List.drop_eq_getElem_cons hlt]
    exact ev_pos (by omega) (ev_pos (by omega) (ev_pos (by omega) (row refs[i].length 0 x m (by omega) hx hb hm (by omega))))
theorem impl_roots (roots : List Int) (hl : roots.length ≤ 1048576) (hir : idxB refs.length roots = true) (d : Nat) : ∀ (i : Nat) (x : List Int) (m : Int), i + d = roots.length → x.length = refs.length → Bd m x → 0 ≤ m → m + d + 5 * refs.length ≤ 1000000000 →
    Ev (fun k => impl_counts.l0 k refs x roots (roots.length : Int) (i : Int)) (rowsC refs ((roots.drop i).foldl bump x)) := by
  induction d with
  | zero =>
    intro i x m hid hx hb hm hmx
    refine ev_succ ?_
    simp only [impl_counts.l0]
    refine ev_neg (by omega) (ev_eq (impl_rows refs hn hr hi refs.length 0 x m (by omega) hx hb hm (by omega)) ?_)
    rw [List.drop_of_length_le (by omega : roots.length ≤ i)]; rfl
  | succ d ih =>
    intro i x m hid hx hb hm hmx
    have hlt : i < roots.length := by omega
    have hk := idx_mem hir (List.getElem_mem hlt)
    have hv := rd_bd hb hm roots[i]
    have hw : wrap64 (rd x roots[i] + 1) = rd x roots[i] + 1 := w64 (by omega) (by omega)
    refine ev_succ ?_
    simp only [impl_counts.l0]
    rw [rd_at _ i hlt, next_i i (by omega), hw, List.drop_eq_getElem_cons hlt, List.foldl_cons]
    exact ev_pos (by omega) (ev_pos (by omega) (ev_pos (by omega) (ev_pos hk.1 (ev_pos (by omega) (ih (i + 1) (bump x roots[i]) (m + 1) (by omega) (by rw [bump_length, hx]) (bump_bd hb hm _) (by omega) (by omega))))))
theorem impl_counts_ev (roots : List Int) (hl : roots.length ≤ 1048576) (hir : idxB refs.length roots = true) : Ev (fun k => impl_counts.f k refs roots) (countsL refs roots) := by
  unfold impl_counts.f
  refine ev_pos (by omega) (ev_pos (by omega) ?_)
  have e : ((refs.length : Int)).toNat = refs.length := by omega
  rw [e]
  have := impl_roots refs hn hr hi roots hl hir roots.length 0 (List.replicate refs.length 0) 0 (by omega) (by simp) (by intro x hx; have := List.eq_of_mem_replicate hx; omega) (by omega) (by omega)
  exact this
theorem spec_rows (d : Nat) : ∀ (i : Nat) (x : List Int) (m : Int), i + d = refs.length → x.length = refs.length → Bd m x → 0 ≤ m → m + 5 * d ≤ 1000000000 →
    Ev (fun k => spec_countsOf.l1 k refs x (i : Int)) (rowsC (refs.drop i) x) := by
  induction d with
  | zero =>
    intro i x m hid hx _ _ _
    refine ev_succ ?_
    simp only [spec_countsOf.l1]
    refine ev_neg (by omega) (ev_some ?_)
    rw [List.drop_of_length_le (by omega)]; rfl
  | succ d ih =>
    intro i x m hid hx hb hm hmx
    have hlt : i < refs.length := by omega
    have hrow := hr _ (List.getElem_mem hlt)
    have hidx := hi _ (List.getElem_mem hlt)
    have row : ∀ (c j : Nat) (y : List Int) (m' : Int), j + c = refs[i].length → y.length = refs.length → Bd m' y → 0 ≤ m' → m' + c + 5 * d ≤ 1000000000 →
        Ev (fun k => spec_countsOf.l2 k refs y (i : Int) (j : Int)) (rowsC (refs.drop (i + 1)) ((refs[i].drop j).foldl bump y)) := by
      intro c
      induction c with
      | zero =>
        intro j y m' hj hy hby hm' hmy
        refine ev_succ ?_
        simp only [spec_countsOf.l2]
        rw [rdL_at refs i hlt, next_i i (by omega)]
        refine ev_pos (by omega) (ev_pos (by omega) (ev_neg (by omega) (ev_eq (ih (i + 1) y m' (by omega) hy hby hm' (by omega)) ?_)))
        rw [List.drop_of_length_le (by omega : refs[i].length ≤ j)]; rfl
      | succ c ihc =>
        intro j y m' hj hy hby hm' hmy
        have hltj : j < refs[i].length := by omega
        have hk := idx_mem hidx (List.getElem_mem hltj)
        have hv := rd_bd hby hm' refs[i][j]
        have hw : wrap64 (rd y refs[i][j] + 1) = rd y refs[i][j] + 1 := w64 (by omega) (by omega)
        refine ev_succ ?_
        simp only [spec_countsOf.l2]
        rw [rdL_at refs i hlt, rd_at _ j hltj, next_i j (by omega), hw, List.drop_eq_getElem_cons hltj, List.foldl_cons]
        exact ev_pos (by omega) (ev_pos (by omega) (ev_pos (by omega) (ev_pos (by omega) (ev_pos hk.1 (ev_pos (by omega) (ihc (j + 1) (bump y refs[i][j]) (m' + 1) (by omega) (by rw [bump_length, hy]) (bump_bd hby hm' _) (by omega) (by omega)))))))
    refine ev_succ ?_
    simp only [spec_countsOf.l1]
    rw [List.drop_eq_getElem_cons hlt]
    exact ev_pos (by omega) (row refs[i].length 0 x m (by omega) hx hb hm (by omega))
theorem spec_roots (roots : List Int) (hl : roots.length ≤ 1048576) (hir : idxB refs.length roots = true) (d : Nat) : ∀ (i : Nat) (x : List Int) (m : Int), i + d = roots.length → x.length = refs.length → Bd m x → 0 ≤ m → m + d + 5 * refs.length ≤ 1000000000 →
    Ev (fun k => spec_countsOf.l0 k refs roots x (i : Int)) (rowsC refs ((roots.drop i).foldl bump x)) := by
  induction d with
  | zero =>
    intro i x m hid hx hb hm hmx
    refine ev_succ ?_
    simp only [spec_countsOf.l0]
    refine ev_neg (by omega) (ev_eq (spec_rows refs hn hr hi refs.length 0 x m (by omega) hx hb hm (by omega)) ?_)
    rw [List.drop_of_length_le (by omega : roots.length ≤ i)]; rfl
  | succ d ih =>
    intro i x m hid hx hb hm hmx
    have hlt : i < roots.length := by omega
    have hk := idx_mem hir (List.getElem_mem hlt)
    have hv := rd_bd hb hm roots[i]
    have hw : wrap64 (rd x roots[i] + 1) = rd x roots[i] + 1 := w64 (by omega) (by omega)
    refine ev_succ ?_
    simp only [spec_countsOf.l0]
    rw [rd_at _ i hlt, next_i i (by omega), hw, List.drop_eq_getElem_cons hlt, List.foldl_cons]
    exact ev_pos (by omega) (ev_pos (by omega) (ev_pos hk.1 (ev_pos (by omega) (ih (i + 1) (bump x roots[i]) (m + 1) (by omega) (by rw [bump_length, hx]) (bump_bd hb hm _) (by omega) (by omega)))))
theorem spec_counts_ev (roots : List Int) (hl : roots.length ≤ 1048576) (hir : idxB refs.length roots = true) : Ev (fun k => spec_countsOf.f k refs roots) (countsL refs roots) := by
  unfold spec_countsOf.f
  refine ev_pos (by omega) (ev_pos (by omega) ?_)
  have e : ((refs.length : Int)).toNat = refs.length := by omega
  rw [e]
  have := spec_roots refs hn hr hi roots hl hir roots.length 0 (List.replicate refs.length 0) 0 (by omega) (by simp) (by intro x hx; have := List.eq_of_mem_replicate hx; omega) (by omega) (by omega)
  exact this
end
/-- What CountsOf answers. -/
def countsR (refs : List (List Int)) (roots : List Int) : List Int := if graphB refs roots = true then countsL refs roots else []
theorem graph_parts {refs : List (List Int)} {roots : List Int} (h : graphB refs roots = true) : refs.length ≤ 12 ∧ (∀ l ∈ refs, l.length ≤ 5) ∧ (∀ l ∈ refs, idxB refs.length l = true) ∧ roots.length ≤ 12 ∧ idxB refs.length roots = true := by
  simp only [graphB, refsB, rootsB, rowB, Bool.and_eq_true, decide_eq_true_eq, List.all_eq_true] at h
  exact ⟨h.1.1, fun l hl => (h.1.2 l hl).1, fun l hl => (h.1.2 l hl).2, h.2.1, h.2.2⟩
theorem countsL_length (refs : List (List Int)) (roots : List Int) : (countsL refs roots).length = refs.length := by
  rw [countsL, rowsC_length, foldb_length]; simp



/-! ### Lists of numbers: marked -/
def seqL (s : Int) (n : Nat) : List Int := (List.range n).map fun (i : Nat) => s + (i : Int)
theorem seqL_length (s : Int) (n : Nat) : (seqL s n).length = n := by simp [seqL]
theorem mark_from (l : List Int) (s : Int) (hl : l.length ≤ 1048576) (h0 : 0 ≤ s) (h1 : s ≤ 1000000000000) (d : Nat) : ∀ (i : Nat) (x : List Int), i + d = l.length → x.length = l.length → x.take i = seqL s i →
    Ev (fun k => laws_markIntS.l0 k x (s + (i : Int)) (i : Int)) (s + (l.length : Int), seqL s l.length) := by
  induction d with
  | zero =>
    intro i x hi hx ht
    refine ev_succ ?_
    simp only [laws_markIntS.l0]
    refine ev_neg (by omega) (ev_some ?_)
    rw [List.take_of_length_le (by omega)] at ht
    have : i = l.length := by omega
    subst this
    rw [ht]
  | succ d ih =>
    intro i x hi hx ht
    refine ev_succ ?_
    simp only [laws_markIntS.l0]
    refine ev_pos (by omega) (ev_pos (by omega) ?_)
    rw [next_i i (by omega), show wrap64 (s + (i : Int) + 1) = s + ((i + 1 : Nat) : Int) by rw [w64 (by omega) (by omega)]; omega]
    refine ih (i + 1) _ (by omega) (by simp [hx]) ?_
    rw [List.take_succ_eq_append_getElem (by simp; omega)]
    simp only [Int.toNat_natCast, List.getElem_set_self]
    rw [List.take_set_of_le (Nat.le_refl i), ht]
    simp [seqL, List.range_succ]

theorem mark_ev (l : List Int) (s : Int) (hl : l.length ≤ 1048576) (h0 : 0 ≤ s) (h1 : s ≤ 1000000000000) : Ev (fun k => laws_markIntS.f k l s) (s + (l.length : Int), seqL s l.length) := by
  have h := mark_from l s hl h0 h1 l.length 0 l (by omega) rfl (by simp [seqL])
  have e : s + ((0 : Nat) : Int) = s := by omega
  rw [e] at h
  exact h

theorem held_from (s : Int) (n : Nat) (hl : n ≤ 1048576) (h0 : 0 ≤ s) (h1 : s ≤ 1000000000000) (d : Nat) : ∀ (i : Nat), i + d = n → Ev (fun k => laws_heldIntS.l0 k (seqL s n) (s + (i : Int)) (i : Int)) (s + (n : Int)) := by
  induction d with
  | zero =>
    intro i hi
    refine ev_succ ?_
    simp only [laws_heldIntS.l0, seqL_length]
    refine ev_neg (by omega) (ev_some ?_)
    have : i = n := by omega
    rw [this]
  | succ d ih =>
    intro i hi
    refine ev_succ ?_
    simp only [laws_heldIntS.l0, seqL_length]
    refine ev_pos (by omega) (ev_pos (by omega) (ev_pos ?_ ?_))
    · rw [rd_at _ i (by rw [seqL_length]; omega)]; simp [seqL]
    · rw [next_i i (by omega), show wrap64 (s + (i : Int) + 1) = s + ((i + 1 : Nat) : Int) by rw [w64 (by omega) (by omega)]; omega]
      exact ih (i + 1) (by omega)

theorem held_ev (s : Int) (n : Nat) (hl : n ≤ 1048576) (h0 : 0 ≤ s) (h1 : s ≤ 1000000000000) : Ev (fun k => laws_heldIntS.f k (seqL s n) s) (s + (n : Int)) := by
  have h := held_from s n hl h0 h1 n 0 (by omega)
  have e : s + ((0 : Nat) : Int) = s := by omega
  rw [e] at h
  exact h

/-! ### Lists of lists: marked -/
def lenSum (l : List (List Int)) : Nat := (l.map List.length).sum
theorem lenSum_cons (r : List Int) (l : List (List Int)) : lenSum (r :: l) = r.length + lenSum l := by simp [lenSum]
theorem lenSum_mem : ∀ (l : List (List Int)) (r : List Int), r ∈ l → r.length ≤ lenSum l
  | [], r, h => by cases h
  | x :: l, r, h => by
    rw [lenSum_cons]
    rcases List.mem_cons.1 h with rfl | h
    · omega
    · have := lenSum_mem l r h; omega
theorem szSum_from (l : List (List Int)) (hl : l.length ≤ 1048576) (hr : ∀ r ∈ l, r.length ≤ 9223372036854775807) (d : Nat) : ∀ (i : Nat) (a : Int), i + d = l.length → 0 ≤ a ∧ a ≤ 1048576 →
    ∃ r, Ev (fun k => laws_szIntSS.l0 k l a (i : Int)) r ∧ (0 ≤ r → (lenSum (l.drop i) : Int) ≤ a) := by
  induction d with
  | zero =>
    intro i a hi ha
    refine ⟨a, ev_succ ?_, fun _ => by rw [List.drop_of_length_le (by omega)]; simp [lenSum]; omega⟩
    simp only [laws_szIntSS.l0]
    exact ev_neg (by omega) (ev_some rfl)
  | succ d ih =>
    intro i a hi ha
    have hlt : i < l.length := by omega
    have hlr := hr _ (List.getElem_mem hlt)
    have e := szInt_ev l[i] a ha hlr
    by_cases h : a - (l[i].length : Int) < 0
    · refine ⟨-1, ev_succ ?_, fun h0 => absurd h0 (by omega)⟩
      simp only [laws_szIntSS.l0]
      rw [rdL_at l i hlt]
      rw [if_pos h] at e
      exact ev_pos (by omega) (ev_pos (by omega) (ev_bind1 e (ev_pos (by omega) (ev_some rfl))))
    · rw [if_neg h] at e
      obtain ⟨r, hr', hx⟩ := ih (i + 1) (a - l[i].length) (by omega) (by omega)
      refine ⟨r, ev_succ ?_, fun h0 => ?_⟩
      · simp only [laws_szIntSS.l0]
        rw [rdL_at l i hlt, next_i i (by omega)]
        exact ev_pos (by omega) (ev_pos (by omega) (ev_bind1 e (ev_neg h hr')))
      · rw [List.drop_eq_getElem_cons hlt, lenSum_cons]
        have := hx h0
        omega
theorem szSum_ev (l : List (List Int)) (hl : l.length ≤ 9223372036854775807) (hr : ∀ r ∈ l, r.length ≤ 9223372036854775807) :
    ∃ r, Ev (fun k => laws_szIntSS.f k l 1048576) r ∧ (0 ≤ r → l.length ≤ 1048576 ∧ lenSum l ≤ 1048576) := by
  have hw : wrap64 (1048576 - (l.length : Int)) = 1048576 - l.length := w64 (by omega) (by omega)
  by_cases h : 1048576 - (l.length : Int) < 0
  · refine ⟨-1, ?_, fun h0 => absurd h0 (by omega)⟩
    unfold laws_szIntSS.f
    rw [hw]
    exact ev_pos h (ev_some rfl)
  · obtain ⟨r, e, hx⟩ := szSum_from l (by omega) hr l.length 0 (1048576 - l.length) (by omega) (by omega)
    refine ⟨r, ?_, fun h0 => ⟨by omega, by have := hx h0; rw [List.drop_zero] at this; omega⟩⟩
    unfold laws_szIntSS.f
    rw [hw]
    exact ev_neg h e
theorem markSS_from : ∀ (l : List (List Int)) (s : Int), 0 ≤ s → s + (lenSum l : Int) ≤ 1000000000 → lenSum l ≤ 1048576 → Ev (fun k => markSS k l s) (s + (lenSum l : Int))
  | [], s, _, _, _ => ev_some (by simp [lenSum])
  | r :: l, s, h0, h1, h2 => by
    rw [lenSum_cons] at h1 h2
    have key : Ev (fun k => markSS k l (s + (r.length : Int))) (s + (lenSum (r :: l) : Int)) := ev_eq (markSS_from l (s + (r.length : Int)) (by omega) (by omega) (by omega)) (by rw [lenSum_cons]; omega)
    exact Ev.bind (mark_ev r s (by omega) h0 (by omega)) key
theorem markSS_ev (l : List (List Int)) (hl : l.length ≤ 1048576) (hs : lenSum l ≤ 1048576) : Ev (fun k => laws_markIntSS.f k l 1) (1 + (lenSum l : Int)) := by
  unfold laws_markIntSS.f
  exact ev_pos (by omega) (markSS_from l 1 (by omega) (by omega) hs)

def LB (B : Int) (c : List Int) : Prop := ∀ x ∈ c, -B ≤ x ∧ x ≤ 1000000
def Ix (n : Nat) (l : List Int) : Prop := ∀ x ∈ l, 0 ≤ x ∧ x < (n : Int)
theorem ix_nat {n : Nat} {l : List Int} (h : Ix n l) {x : Int} (hx : x ∈ l) : ∃ j : Nat, x = (j : Int) ∧ j < n := by
  have := h x hx
  exact ⟨x.toNat, by omega, by omega⟩
theorem lb_get {B : Int} {c : List Int} (h : LB B c) (j : Nat) (hj : j < c.length) : -B ≤ c[j] ∧ c[j] ≤ 1000000 := h _ (List.getElem_mem hj)
theorem lb_set {B : Int} {c : List Int} (h : LB B c) (j : Nat) (hj : j < c.length) : LB (B + 1) (c.set j (c[j] - 1)) := by
  intro x hx
  have h1 := lb_get h j hj
  rcases List.mem_or_eq_of_mem_set hx with hx | rfl
  · have := h x hx; omega
  · omega
theorem rd_set (c : List Int) (j : Nat) (hj : j < c.length) (v : Int) : rd (c.set j v) (j : Int) = v := by
  rw [rd_at _ j (by simpa using hj)]
  simp
theorem counts_bd (refs : List (List Int)) (roots : List Int) (hn : refs.length ≤ 12) (hr : ∀ r ∈ refs, r.length ≤ 5) (hl : roots.length ≤ 1000) : Bd 2000 (countsL refs roots) := by
  have h0 : Bd 0 (List.replicate refs.length 0) := by intro x hx; have := List.eq_of_mem_replicate hx; omega
  have h1 := foldb_bd roots _ 0 h0 (by omega)
  have key : ∀ (rs : List (List Int)) (x : List Int) (m : Int), (∀ r ∈ rs, r.length ≤ 5) → Bd m x → 0 ≤ m → Bd (m + 5 * rs.length) (rowsC rs x) := by
    intro rs
    induction rs with
    | nil => intro x m _ h _; simpa [rowsC] using h
    | cons r rs ih =>
      intro x m hr h hm
      have h5 := hr r (by simp)
      have := ih _ _ (fun s hs => hr s (by simp [hs])) (foldb_bd r x m h hm) (by omega)
      intro y hy
      have := this y hy
      rw [List.length_cons]
      omega
  intro x hx
  have := key refs _ _ hr h1 (by omega) x hx
  omega

/-! ### Counts less those from a set -/
def occ (v : Int) : List Int → Int
  | [] => 0
  | x :: l => (if x = v then 1 else 0) + occ v l
theorem occ_bd (v : Int) : ∀ l : List Int, 0 ≤ occ v l ∧ occ v l ≤ l.length
  | [] => by simp [occ]
  | x :: l => by
    have := occ_bd v l
    unfold occ
    rw [List.length_cons]
    split <;> omega
theorem occ_append (v : Int) : ∀ a b : List Int, occ v (a ++ b) = occ v a + occ v b
  | [], b => by simp [occ]
  | x :: a, b => by
    simp only [List.cons_append, occ, occ_append v a b]
    omega
def decL (c : List Int) : List Int → List Int
  | [] => c
  | t :: r => decL (c.set t.toNat (rd c t - 1)) r
theorem decL_append (c : List Int) : ∀ a b : List Int, decL c (a ++ b) = decL (decL c a) b
  | [], b => rfl
  | t :: a, b => decL_append _ a b
theorem decL_length : ∀ (r c : List Int), (decL c r).length = c.length
  | [], c => rfl
  | t :: r, c => by
    unfold decL
    rw [decL_length r]; simp
theorem decL_rd : ∀ (r c : List Int) (n : Nat), Ix n r → c.length = n → ∀ v : Nat, v < n → rd (decL c r) (v : Int) = rd c (v : Int) - occ (v : Int) r
  | [], c, n, _, _, v, _ => by simp [decL, occ]
  | t :: r, c, n, hr, hc, v, hv => by
    obtain ⟨j, rfl, hj⟩ := ix_nat hr (List.mem_cons_self)
    unfold decL occ
    rw [decL_rd r _ n (fun x hx => hr x (List.mem_cons_of_mem _ hx)) (by simpa using hc) v hv, Int.toNat_natCast]
    by_cases h : v = j
    · subst h
      rw [rd_set c v (by omega), if_pos rfl]
      omega
    · have e : rd (c.set j (rd c (j : Int) - 1)) (v : Int) = rd c (v : Int) := by
        rw [rd_at _ v (by simp; omega), rd_at c v (by omega), List.getElem_set_ne (Ne.symm h)]
      rw [e, if_neg (by omega)]
      omega
theorem decL_lb : ∀ (r c : List Int) (n : Nat) (B : Int), Ix n r → c.length = n → LB B c → LB (B + r.length) (decL c r)
  | [], c, n, B, _, _, h => by simpa [decL] using h
  | t :: r, c, n, B, hr, hc, h => by
    obtain ⟨j, rfl, hj⟩ := ix_nat hr (List.mem_cons_self)
    have hj' : j < c.length := by omega
    have := decL_lb r (c.set j (c[j] - 1)) n (B + 1) (fun x hx => hr x (List.mem_cons_of_mem _ hx)) (by simpa using hc) (lb_set h j hj')
    unfold decL
    rw [Int.toNat_natCast, rd_at c j hj', List.length_cons]
    rwa [show B + 1 + (r.length : Int) = B + ((r.length + 1 : Nat) : Int) by omega] at this
def flatS (refs : List (List Int)) : List Int → List Int
  | [] => []
  | k :: s => rd_L1 refs k ++ flatS refs s
theorem flatS_len (refs : List (List Int)) (hr : ∀ r ∈ refs, r.length ≤ 5) : ∀ s : List Int, Ix refs.length s → (flatS refs s).length ≤ 5 * s.length
  | [], _ => by simp [flatS]
  | k :: s, hs => by
    obtain ⟨j, rfl, hj⟩ := ix_nat hs (List.mem_cons_self)
    have := flatS_len refs hr s (fun x hx => hs x (List.mem_cons_of_mem _ hx))
    have := hr _ (List.getElem_mem hj)
    unfold flatS
    rw [rdL_at refs j hj, List.length_append, List.length_cons]
    omega
theorem flatS_ix (refs : List (List Int)) (hi : ∀ r ∈ refs, Ix refs.length r) : ∀ s : List Int, Ix refs.length s → Ix refs.length (flatS refs s)
  | [], _ => fun x hx => by cases hx
  | k :: s, hs => by
    obtain ⟨j, rfl, hj⟩ := ix_nat hs (List.mem_cons_self)
    have ih := flatS_ix refs hi s (fun x hx => hs x (List.mem_cons_of_mem _ hx))
    unfold flatS
    rw [rdL_at refs j hj]
    intro x hx
    rcases List.mem_append.1 hx with h | h
    · exact hi _ (List.getElem_mem hj) x h
    · exact ih x h
def ascD (l : List Int) : Nat → Nat → Bool
  | 0, _ => true
  | d + 1, i => (decide (i = 0) || decide (rd l ((i : Int) - 1) < rd l (i : Int))) && ascD l d (i + 1)
def setB (n : Int) (l : List Int) : Bool := ascD l l.length 0 && idxB n l
def trialL (c flat set : List Int) : List Int := set.map fun v => rd c v - occ v flat
def trialR (refs : List (List Int)) (roots set : List Int) : List Int := if graphB refs roots = true ∧ setB refs.length set = true then trialL (countsL refs roots) (flatS refs set) set else []
theorem impl_set (refs : List (List Int)) (roots set : List Int) (hn : refs.length ≤ 1048576) (hr : ∀ l ∈ refs, l.length ≤ 1048576) (hl : roots.length ≤ 1048576) (hs : set.length ≤ 1048576) (d : Nat) : ∀ i : Nat, i + d = set.length →
    Ev (fun k => impl_setOk.l0 k refs roots set set (set.length : Int) (i : Int)) (ascD set d i && (graphB refs roots && idxB refs.length set)) := by
  induction d with
  | zero =>
    intro i hi
    refine ev_succ ?_
    simp only [impl_setOk.l0]
    refine ev_neg (by omega) (Ev.bind (graph_ev refs roots hn hr hl) ?_)
    cases graphB refs roots with
    | false => exact ev_neg (by simp) (ev_some (by simp))
    | true => exact ev_pos rfl (Ev.bind (indices_ev set _ hs) (ev_some (by simp [ascD])))
  | succ d ih =>
    intro i hi
    have hlt : i < set.length := by omega
    refine ev_succ ?_
    simp only [impl_setOk.l0, ascD]
    rw [next_i i (by omega)]
    refine ev_pos (by omega) (ev_pos (by omega) (ev_pos (by omega) ?_))
    by_cases h0 : (i : Int) > 0
    · rw [w64 (by omega) (by omega)]
      refine ev_pos h0 (ev_pos (by omega) (ev_pos (by omega) ?_))
      rw [decide_eq_false (by omega : ¬ i = 0), Bool.false_or]
      by_cases h1 : rd set ((i : Int) - 1) ≥ rd set (i : Int)
      · rw [decide_eq_false (by omega : ¬ rd set ((i : Int) - 1) < rd set (i : Int))]
        exact ev_pos h1 (ev_some (by simp))
      · rw [decide_eq_true (by omega : rd set ((i : Int) - 1) < rd set (i : Int)), Bool.true_and]
        exact ev_neg h1 (ih (i + 1) (by omega))
    · rw [decide_eq_true (by omega : i = 0), Bool.true_or, Bool.true_and]
      exact ev_neg h0 (ih (i + 1) (by omega))
theorem spec_set (set : List Int) (n : Int) (hn : 0 ≤ n) (hn' : n ≤ 1048576) (hs : set.length ≤ 1048576) (d : Nat) : ∀ i : Nat, i + d = set.length →
    Ev (fun k => spec_validSet.l0 k set n (i : Int)) (ascD set d i && idxB n (set.drop i)) := by
  induction d with
  | zero =>
    intro i hi
    refine ev_succ ?_
    simp only [spec_validSet.l0]
    refine ev_neg (by omega) (ev_some ?_)
    rw [List.drop_of_length_le (by omega)]; rfl
  | succ d ih =>
    intro i hi
    have hlt : i < set.length := by omega
    have nx := ih (i + 1) (by omega)
    refine ev_succ ?_
    simp only [spec_validSet.l0, ascD]
    rw [next_i i (by omega), List.drop_eq_getElem_cons hlt, idx_cons, rd_at set i hlt]
    refine ev_pos (by omega) (ev_pos (by omega) (ev_bind1 (in_idx _ _ hn hn') ?_))
    by_cases h : 0 ≤ set[i] ∧ set[i] < n
    · rw [decide_eq_true h, Bool.true_and]
      refine ev_pos rfl ?_
      by_cases h0 : (i : Int) > 0
      · rw [w64 (by omega) (by omega)]
        refine ev_pos h0 (ev_pos (by omega) (ev_pos (by omega) ?_))
        rw [decide_eq_false (by omega : ¬ i = 0), Bool.false_or]
        by_cases h1 : set[i] ≤ rd set ((i : Int) - 1)
        · rw [decide_eq_false (by omega : ¬ rd set ((i : Int) - 1) < set[i])]
          exact ev_pos h1 (ev_some (by simp))
        · rw [decide_eq_true (by omega : rd set ((i : Int) - 1) < set[i]), Bool.true_and]
          exact ev_neg h1 nx
      · rw [decide_eq_true (by omega : i = 0), Bool.true_or, Bool.true_and]
        exact ev_neg h0 nx
    · rw [decide_eq_false h]
      exact ev_neg (by simp) (ev_some (by simp))
theorem impl_out (refs : List (List Int)) (set : List Int) (hr : ∀ r ∈ refs, r.length ≤ 5) (hi : ∀ r ∈ refs, Ix refs.length r) (hsx : Ix refs.length set) (hs : set.length ≤ 1048576) (c : List Int) (hc : c.length = refs.length) (d : Nat) : ∀ (i : Nat) (acc : List Int), i + d = set.length → acc.length = i → Ev (fun k => impl_trial.l2 k c acc set (set.length : Int) (i : Int)) (acc ++ (set.drop i).map (rd c)) := by
  induction d with
  | zero =>
    intro i acc hid ha
    refine ev_succ ?_
    simp only [impl_trial.l2]
    refine ev_neg (by omega) (ev_some ?_)
    rw [List.drop_of_length_le (by omega)]; simp
  | succ d ih =>
    intro i acc hid ha
    have hlt : i < set.length := by omega
    obtain ⟨v, hv, hvn⟩ := ix_nat hsx (List.getElem_mem hlt)
    refine ev_succ ?_
    simp only [impl_trial.l2]
    rw [rd_at set i hlt, next_i i (by omega), hv]
    refine ev_pos (by omega) (ev_pos (by omega) (ev_pos (by omega) (ev_pos (by omega) (ev_pos (by omega) (ev_pos (by omega) (ev_eq (ih (i + 1) _ (by omega) (by simp; omega)) ?_))))))
    rw [List.drop_eq_getElem_cons hlt, hv]
    simp
theorem impl_row (refs : List (List Int)) (set : List Int) (hr : ∀ r ∈ refs, r.length ≤ 5) (hi : ∀ r ∈ refs, Ix refs.length r) (hsx : Ix refs.length set) (hs : set.length ≤ 1048576) (R : List Int) (i : Nat) (r : List Int) (hrl : r.length ≤ 5) (hri : Ix refs.length r) (d : Nat) : ∀ (j : Nat) (c : List Int) (B : Int), j + d = r.length → c.length = refs.length → LB B c → 0 ≤ B → B + d ≤ 100000000 → i ≤ 1048576 →
    Ev (fun k => impl_trial.l0 k refs set (decL c (r.drop j)) set (set.length : Int) ((i + 1 : Nat) : Int)) R → Ev (fun k => impl_trial.l1 k refs set c set (set.length : Int) (i : Int) r (r.length : Int) (j : Int)) R := by
  induction d with
  | zero =>
    intro j c B hjd hc hB b0 hb hin K
    refine ev_succ ?_
    simp only [impl_trial.l1]
    rw [next_i i (by omega)]
    rw [List.drop_of_length_le (by omega)] at K
    exact ev_neg (by omega) K
  | succ d ih =>
    intro j c B hjd hc hB b0 hb hin K
    have hlt : j < r.length := by omega
    obtain ⟨t, ht, htn⟩ := ix_nat hri (List.getElem_mem hlt)
    have ht' : t < c.length := by omega
    have hv := lb_get hB t ht'
    rw [List.drop_eq_getElem_cons hlt, ht] at K
    unfold decL at K
    rw [Int.toNat_natCast, rd_at c t ht'] at K
    refine ev_succ ?_
    simp only [impl_trial.l1]
    rw [rd_at r j hlt, next_i j (by omega), ht, rd_at c t ht', w64 (by omega) (by omega), Int.toNat_natCast]
    exact ev_pos (by omega) (ev_pos (by omega) (ev_pos (by omega) (ev_pos (by omega) (ev_pos (by omega) (ih (j + 1) _ (B + 1) (by omega) (by simpa using hc) (lb_set hB t ht') (by omega) (by omega) hin K)))))
theorem impl_dec (refs : List (List Int)) (set : List Int) (hr : ∀ r ∈ refs, r.length ≤ 5) (hi : ∀ r ∈ refs, Ix refs.length r) (hsx : Ix refs.length set) (hs : set.length ≤ 1048576) (d : Nat) : ∀ (i : Nat) (c : List Int) (B : Int), i + d = set.length → c.length = refs.length → LB B c → 0 ≤ B → B + 5 * d ≤ 100000000 →
    Ev (fun k => impl_trial.l0 k refs set c set (set.length : Int) (i : Int)) (set.map (rd (decL c (flatS refs (set.drop i))))) := by
  induction d with
  | zero =>
    intro i c B hid hc hB b0 hb
    refine ev_succ ?_
    simp only [impl_trial.l0]
    refine ev_neg (by omega) (ev_eq (impl_out refs set hr hi hsx hs c hc set.length 0 [] (by omega) rfl) ?_)
    rw [List.drop_of_length_le (by omega : set.length ≤ i)]
    simp [flatS, decL]
  | succ d ih =>
    intro i c B hid hc hB b0 hb
    have hlt : i < set.length := by omega
    obtain ⟨v, hv, hvn⟩ := ix_nat hsx (List.getElem_mem hlt)
    have h5 := hr _ (List.getElem_mem hvn)
    have hx := hi _ (List.getElem_mem hvn)
    refine ev_succ ?_
    simp only [impl_trial.l0]
    rw [rd_at set i hlt, hv, rdL_at refs v hvn]
    refine ev_pos (by omega) (ev_pos (by omega) (ev_pos (by omega) (ev_pos (by omega) (ev_pos (by omega) (impl_row refs set hr hi hsx hs _ i refs[v] h5 hx refs[v].length 0 c B (by omega) hc hB b0 (by omega) (by omega) ?_)))))
    rw [List.drop_zero, List.drop_eq_getElem_cons hlt, hv]
    unfold flatS
    rw [rdL_at refs v hvn, decL_append]
    exact ih (i + 1) _ (B + refs[v].length) (by omega) (by rw [decL_length]; exact hc) (decL_lb refs[v] c refs.length B hx hc hB) (by omega) (by omega)
theorem spec_row (refs : List (List Int)) (set : List Int) (hr : ∀ r ∈ refs, r.length ≤ 5) (hi : ∀ r ∈ refs, Ix refs.length r) (hsx : Ix refs.length set) (hs : set.length ≤ 1048576) (c : List Int) (R : List Int) (out : List Int) (i m : Nat) (hli : i < set.length) (hm : m < set.length) (u : Nat) (hu : set[m] = (u : Int)) (hun : u < refs.length) (d : Nat) : ∀ (j : Nat) (n B : Int), j + d = refs[u].length → -B ≤ n → n ≤ 1000000 → 0 ≤ B → B + d ≤ 100000000 →
    Ev (fun k => spec_outside.l1 k refs c set out (i : Int) (n - occ set[i] (refs[u].drop j)) ((m + 1 : Nat) : Int)) R → Ev (fun k => spec_outside.l2 k refs c set out (i : Int) n (m : Int) (j : Int)) R := by
  induction d with
  | zero =>
    intro j n B hjd n0 n1 b0 hb K
    refine ev_succ ?_
    simp only [spec_outside.l2]
    rw [rd_at set m hm, hu, rdL_at refs u hun, next_i m (by omega)]
    rw [List.drop_of_length_le (by omega), occ, Int.sub_zero] at K
    exact ev_pos (by omega) (ev_pos (by omega) (ev_pos (by omega) (ev_pos (by omega) (ev_neg (by omega) K))))
  | succ d ih =>
    intro j n B hjd n0 n1 b0 hb K
    have h5 := hr _ (List.getElem_mem hun)
    have hlt : j < refs[u].length := by omega
    rw [List.drop_eq_getElem_cons hlt] at K
    unfold occ at K
    refine ev_succ ?_
    simp only [spec_outside.l2]
    rw [rd_at set m hm, hu, rdL_at refs u hun, next_i j (by omega), rd_at _ j hlt, rd_at set i hli]
    refine ev_pos (by omega) (ev_pos (by omega) (ev_pos (by omega) (ev_pos (by omega) (ev_pos (by omega) (ev_pos (by omega) (ev_pos (by omega) (ev_pos (by omega) ?_)))))))
    by_cases h : refs[u][j] = set[i]
    · rw [if_pos h] at K
      rw [w64 (by omega) (by omega)]
      refine ev_pos h (ih (j + 1) (n - 1) (B + 1) (by omega) (by omega) (by omega) (by omega) (by omega) ?_)
      rwa [show n - (1 + occ set[i] (refs[u].drop (j + 1))) = n - 1 - occ set[i] (refs[u].drop (j + 1)) by omega] at K
    · rw [if_neg h] at K
      refine ev_neg h (ih (j + 1) n B (by omega) n0 n1 b0 (by omega) ?_)
      rwa [show n - (0 + occ set[i] (refs[u].drop (j + 1))) = n - occ set[i] (refs[u].drop (j + 1)) by omega] at K
theorem spec_less (refs : List (List Int)) (set : List Int) (hr : ∀ r ∈ refs, r.length ≤ 5) (hi : ∀ r ∈ refs, Ix refs.length r) (hsx : Ix refs.length set) (hs : set.length ≤ 1048576) (c : List Int) (R : List Int) (out : List Int) (i : Nat) (hli : i < set.length) (ho : out.length ≤ 1048576) (d : Nat) : ∀ (m : Nat) (n B : Int), m + d = set.length → -B ≤ n → n ≤ 1000000 → 0 ≤ B → B + 5 * d ≤ 100000000 →
    Ev (fun k => spec_outside.l0 k refs c set (out ++ [n - occ set[i] (flatS refs (set.drop m))]) ((i + 1 : Nat) : Int)) R → Ev (fun k => spec_outside.l1 k refs c set out (i : Int) n (m : Int)) R := by
  induction d with
  | zero =>
    intro m n B hmd n0 n1 b0 hb K
    refine ev_succ ?_
    simp only [spec_outside.l1]
    rw [next_i i (by omega)]
    rw [List.drop_of_length_le (by omega : set.length ≤ m), flatS, occ, Int.sub_zero] at K
    exact ev_neg (by omega) (ev_pos (by omega) K)
  | succ d ih =>
    intro m n B hmd n0 n1 b0 hb K
    have hlt : m < set.length := by omega
    obtain ⟨u, hu, hun⟩ := ix_nat hsx (List.getElem_mem hlt)
    have h5 := hr _ (List.getElem_mem hun)
    have hb2 := occ_bd set[i] refs[u]
    refine ev_succ ?_
    simp only [spec_outside.l1]
    refine ev_pos (by omega) (spec_row refs set hr hi hsx hs c R out i m hli hlt u hu hun refs[u].length 0 n B (by omega) n0 n1 b0 (by omega) ?_)
    rw [List.drop_zero]
    refine ih (m + 1) _ (B + 5) (by omega) (by omega) (by omega) (by omega) (by omega) ?_
    rw [List.drop_eq_getElem_cons hlt, hu] at K
    unfold flatS at K
    rw [rdL_at refs u hun, occ_append] at K
    rwa [show n - (occ set[i] refs[u] + occ set[i] (flatS refs (set.drop (m + 1)))) = n - occ set[i] refs[u] - occ set[i] (flatS refs (set.drop (m + 1))) by omega] at K
theorem spec_out (refs : List (List Int)) (set : List Int) (hr : ∀ r ∈ refs, r.length ≤ 5) (hi : ∀ r ∈ refs, Ix refs.length r) (hsx : Ix refs.length set) (hs : set.length ≤ 1048576) (c : List Int) (hc : c.length = refs.length) (hB : LB 0 c) (d : Nat) : ∀ (i : Nat) (out : List Int), i + d = set.length → out.length = i → Ev (fun k => spec_outside.l0 k refs c set out (i : Int)) (out ++ trialL c (flatS refs set) (set.drop i)) := by
  induction d with
  | zero =>
    intro i out hid ho
    refine ev_succ ?_
    simp only [spec_outside.l0]
    refine ev_neg (by omega) (ev_some ?_)
    rw [List.drop_of_length_le (by omega)]; simp [trialL]
  | succ d ih =>
    intro i out hid ho
    have hlt : i < set.length := by omega
    obtain ⟨v, hv, hvn⟩ := ix_nat hsx (List.getElem_mem hlt)
    have hb := lb_get hB v (by omega)
    have e : rd c (set[i]) = c[v]'(by omega) := by rw [hv]; exact rd_at c v (by omega)
    refine ev_succ ?_
    simp only [spec_outside.l0]
    rw [rd_at set i hlt, e]
    refine ev_pos (by omega) (ev_pos (by omega) (ev_pos (by omega) (ev_pos (by omega) (spec_less refs set hr hi hsx hs c _ out i hlt (by omega) set.length 0 _ 0 (by omega) (by omega) (by omega) (by omega) (by omega) ?_))))
    rw [List.drop_zero]
    refine ev_eq (ih (i + 1) _ (by omega) (by simp; omega)) ?_
    rw [List.drop_eq_getElem_cons hlt]
    simp only [trialL, List.map_cons, e, List.append_assoc, List.singleton_append]
theorem trial_same (refs : List (List Int)) (set c : List Int) (hi : ∀ r ∈ refs, Ix refs.length r) (hsx : Ix refs.length set) (hc : c.length = refs.length) : set.map (rd (decL c (flatS refs set))) = trialL c (flatS refs set) set := by
  unfold trialL
  refine List.map_congr_left (fun v hv => ?_)
  obtain ⟨j, rfl, hj⟩ := ix_nat hsx hv
  exact decL_rd _ c refs.length (flatS_ix refs hi set hsx) hc j hj
theorem trial_ready {refs : List (List Int)} {roots set : List Int} (hg : graphB refs roots = true) (hsb : idxB refs.length set = true) :
    (∀ r ∈ refs, Ix refs.length r) ∧ Ix refs.length set ∧ (countsL refs roots).length = refs.length ∧ LB 0 (countsL refs roots) := by
  obtain ⟨g1, g2, g3, g4, g5⟩ := graph_parts hg
  refine ⟨fun r hr x hm => idx_mem (g3 r hr) hm, fun x hm => idx_mem hsb hm, countsL_length _ _, fun x hx => ?_⟩
  have := counts_bd refs roots g1 g2 (by omega) x hx
  omega
theorem trialR_len (refs : List (List Int)) (roots set : List Int) : (trialR refs roots set).length ≤ set.length := by
  unfold trialR
  split
  · simp [trialL]
  · simp
theorem impl_TrialOf_ev (refs : List (List Int)) (roots set : List Int) (hn : refs.length ≤ 1048576) (hr : ∀ l ∈ refs, l.length ≤ 1048576) (hl : roots.length ≤ 1048576) (hs : set.length ≤ 1048576) : Ev (fun k => impl_TrialOf.f k refs roots set) (trialR refs roots set) := by
  unfold impl_TrialOf.f impl_setOk.f
  have E := impl_set refs roots set hn hr hl hs set.length 0 (by omega)
  have e : (ascD set set.length 0 && (graphB refs roots && idxB refs.length set)) = (graphB refs roots && setB refs.length set) := by
    unfold setB
    cases ascD set set.length 0 <;> cases graphB refs roots <;> simp
  rw [e] at E
  refine Ev.bind E ?_
  by_cases h : (graphB refs roots && setB refs.length set) = true
  · have h' := h
    rw [Bool.and_eq_true] at h'
    obtain ⟨hg, hsb⟩ := h'
    obtain ⟨g1, g2, g3, g4, g5⟩ := graph_parts hg
    have hsb' := hsb
    rw [setB, Bool.and_eq_true] at hsb'
    obtain ⟨r1, r2, r3, r4⟩ := trial_ready hg hsb'.2
    unfold impl_trial.f
    refine ev_pos h (Ev.bind (Ev.bind (impl_counts_ev refs hn g2 g3 roots hl g5) (impl_dec refs set g2 r1 r2 hs set.length 0 _ 0 (by omega) r3 r4 (by omega) (by omega))) (ev_some ?_))
    rw [trialR, if_pos ⟨hg, hsb⟩, List.drop_zero, trial_same refs set _ r1 r2 r3]
  · refine ev_neg h (ev_some ?_)
    rw [trialR, if_neg (fun z => h (by rw [z.1, z.2]; rfl))]
theorem spec_TrialOf_ev (refs : List (List Int)) (roots set : List Int) (hn : refs.length ≤ 1048576) (hr : ∀ l ∈ refs, l.length ≤ 1048576) (hl : roots.length ≤ 1048576) (hs : set.length ≤ 1048576) : Ev (fun k => spec_TrialOf.f k refs roots set) (trialR refs roots set) := by
  have no : ¬ (graphB refs roots = true ∧ setB refs.length set = true) → Ev (fun k => spec_TrialOf.j0 k refs roots set true) (trialR refs roots set) := fun h => by
    refine ev_succ ?_
    simp only [spec_TrialOf.j0]
    exact ev_pos trivial (ev_some (by rw [trialR, if_neg h]))
  unfold spec_TrialOf.f
  refine Ev.bind (refs_ev refs hn hr) ?_
  cases h1 : refsB refs with
  | false => exact ev_neg (by simp) (no (fun h => by have := h.1; rw [graphB, h1] at this; cases this))
  | true =>
    refine ev_pos rfl (Ev.bind (roots_ev roots (refs.length : Int) (by omega) (by omega) hl) ?_)
    cases h2 : rootsB (refs.length : Int) roots with
    | false => exact ev_neg (by simp) (no (fun h => by have := h.1; rw [graphB, h1, h2] at this; cases this))
    | true =>
      have hg : graphB refs roots = true := by rw [graphB, h1, h2]; rfl
      have E := spec_set set (refs.length : Int) (by omega) (by omega) hs set.length 0 (by omega)
      rw [List.drop_zero] at E
      unfold spec_validSet.f
      refine ev_pos rfl (Ev.bind E ?_)
      by_cases hsb : setB refs.length set = true
      · have hsb' := hsb
        rw [setB] at hsb'
        rw [hsb']
        rw [Bool.and_eq_true] at hsb'
        obtain ⟨g1, g2, g3, g4, g5⟩ := graph_parts hg
        obtain ⟨r1, r2, r3, r4⟩ := trial_ready hg hsb'.2
        refine ev_succ ?_
        simp only [spec_TrialOf.j0]
        refine ev_neg (by simp) (Ev.bind (spec_counts_ev refs hn g2 g3 roots hl g5) (Ev.bind (a := trialR refs roots set) ?_ (ev_some rfl)))
        unfold spec_outside.f
        refine ev_eq (spec_out refs set g2 r1 r2 hs _ r3 r4 set.length 0 [] (by omega) rfl) ?_
        rw [trialR, if_pos ⟨hg, hsb⟩]
        simp
      · have e : (ascD set set.length 0 && idxB (refs.length : Int) set) = false := by rw [← Bool.not_eq_true]; exact hsb
        rw [e]
        exact no (fun h => hsb h.2)

theorem FnExactTrialOf (refs : List (List Int)) (roots set : List Int) (h1 : refs.length ≤ 9223372036854775807) (h2 : ∀ r ∈ refs, r.length ≤ 9223372036854775807) : ∃ k, laws_FnExactTrialOf.f k refs roots set = some true := by
  refine Ev.rounds ?_
  unfold laws_FnExactTrialOf.f
  by_cases hl : (roots.length : Int) > 1048576
  · exact ev_pos hl (ev_some rfl)
  refine ev_neg hl ?_
  by_cases hl2 : (set.length : Int) > 1048576
  · exact ev_pos hl2 (ev_some rfl)
  refine ev_neg hl2 ?_
  have hs' : set.length ≤ 1048576 := by omega
  obtain ⟨z, Z, hz⟩ := szSum_ev refs h1 h2
  refine Ev.bind Z ?_
  by_cases h0 : z < 0
  · exact ev_pos h0 (ev_some rfl)
  refine ev_neg h0 ?_
  obtain ⟨hn, hs⟩ := hz (by omega)
  have hr : ∀ r ∈ refs, r.length ≤ 1048576 := fun r hm => by have := lenSum_mem refs r hm; omega
  have hl' : roots.length ≤ 1048576 := by omega
  have hlen : (trialR refs roots set).length ≤ 1048576 := by have := trialR_len refs roots set; omega
  have T := toIntSS_ev refs hn hr
  have U := toInt_ev roots hl'
  have V := toInt_ev set hs'
  have S := spec_TrialOf_ev refs roots set hn hr hl' hs'
  have I := impl_TrialOf_ev refs roots set hn hr hl' hs'
  generalize trialR refs roots set = r at S I hlen
  have E := eqSelf_ev r hlen
  have M := mark_ev r 1 hlen (by omega) (by omega)
  have H := held_ev 1 r.length hlen (by omega) (by omega)
  refine Ev.bind T (Ev.bind U (Ev.bind V (Ev.bind S (Ev.bind T (Ev.bind U (Ev.bind V (Ev.bind I (Ev.bind E (ev_pos rfl (Ev.bind T (Ev.bind (eqSelfSS_ev refs hn hr) (ev_pos rfl (Ev.bind U (Ev.bind (eqSelf_ev roots hl') (ev_pos rfl (Ev.bind V (Ev.bind (eqSelf_ev set hs') (ev_pos rfl (Ev.bind (markSS_ev refs hn hs) (Ev.bind (mark_ev roots _ hl' (by omega) (by omega)) (Ev.bind (mark_ev set _ hs' (by simp only []; omega) (by simp only []; omega)) (ev_neg (by simp only []; omega) (Ev.bind E (ev_succ ?_))))))))))))))))))))))))
  simp only [laws_FnExactTrialOf.j0]
  exact ev_neg (by simp) (Ev.bind M (Ev.bind H (ev_neg (by omega) (ev_pos rfl (Ev.bind T (Ev.bind U (Ev.bind V (Ev.bind I (Ev.bind E (ev_pos rfl (Ev.bind H (ev_neg (by omega) (ev_pos rfl (ev_some rfl))))))))))))))

end Go.Proofs.Ytpnamllkeaaeeaa.Pure
