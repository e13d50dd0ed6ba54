/- FnExactWeakLeft: the program tells what is left of weak references as the reference does, for all references, roots and weak references of at most 2^20 numbers. -/
import Derived.Test.YtpnamllkeaaeeaaXFnExactWeakLeftx6
namespace Go.Proofs.Ytpnamllkeaaeeaa.Pure
open Go.RowKit Go.Proofs.Ytpnamllkeaaeeaa.XFnExactWeakLeft Go.Proofs.YtpnamllkeaaeeaaW.PrintWords Go.Proofs.YtpnamllkeaaeeaaW.PrintLast Go.Proofs.YtpnamllkeaaeeaaW.PrintMore
set_option linter.unusedVariables false
set_option linter.unusedSimpArgs false

/-! ### Rounds, and words of 64 bits -/
theorem ev_succ {α : Type} {g : Nat → Option α} {r : α} (h : Ev (fun k => g (k + 1)) r) : Ev g r := Ev.step (fun _ => rfl) h
theorem ev_some {α : Type} {o : Option α} {r : α} (h : o = some r) : Ev (fun _ => o) r := ⟨0, fun _ _ => h⟩
theorem ev_pos {α : Type} {c : Prop} [Decidable c] {A B : Nat → Option α} {r : α} (h : c) (k : Ev A r) : Ev (fun n => if c then A n else B n) r :=
  Ev.congr (fun _ => if_pos h) k
theorem ev_neg {α : Type} {c : Prop} [Decidable c] {A B : Nat → Option α} {r : α} (h : ¬ c) (k : Ev B r) : Ev (fun n => if c then A n else B n) r :=
  Ev.congr (fun _ => if_neg h) k
theorem ev_eq {α : Type} {g : Nat → Option α} {r s : α} (h : Ev g r) (e : r = s) : Ev g s := e ▸ h
theorem ev_bind1 {α β : Type} {o : Option α} {f : Nat → α → Option β} {a : α} {r : β} (h : o = some a) (k : Ev (fun n => f n a) r) : Ev (fun n => o.bind (f n)) r :=
  Ev.bind (ev_some h) k
theorem ev_det {α : Type} {g : Nat → Option α} {r s : α} (h : Ev g r) (k : Ev g s) : r = s := by
  obtain ⟨K, h⟩ := h
  obtain ⟨L, k⟩ := k
  have h1 := h (max K L) (by omega)
  have h2 := k (max K L) (by omega)
  rw [h1] at h2
  exact Option.some.inj h2
theorem w64 {n : Int} (h : -9223372036854775808 ≤ n) (h' : n ≤ 9223372036854775807) : wrap64 n = n := by unfold wrap64; omega
theorem byte_of {l : List Int} (h : ∀ x ∈ l, (Lit.int .u8 x).wf = true) (i : Int) : 0 ≤ rd l i ∧ rd l i ≤ 255 := by
  unfold rd
  by_cases hi : i.toNat < l.length
  · have hm : l.getD i.toNat 0 ∈ l := by
      rw [List.getD_eq_getElem?_getD, List.getElem?_eq_getElem hi]
      exact List.getElem_mem hi
    have := h _ hm
    have m0 : IntKind.u8.min = 0 := by decide
    have m1 : IntKind.u8.max = 255 := by decide
    simp only [Lit.wf, m0, m1, Bool.and_eq_true, decide_eq_true_eq] at this
    exact this
  · rw [List.getD_eq_getElem?_getD, List.getElem?_eq_none (by omega)]
    simp

/-! ### Reading a list -/
theorem rd_at (l : List Int) (i : Nat) (h : i < l.length) : rd l (i : Int) = l[i] := by
  unfold rd
  simp [List.getD_eq_getElem?_getD, h]
theorem next_i (i : Nat) (h : i ≤ 4611686018427387904) : wrap64 ((i : Int) + 1) = ((i + 1 : Nat) : Int) := by rw [w64 (by omega) (by omega)]; omega

/-! ### Lists of numbers: copied, compared -/
theorem toInt_from (l : List Int) (hl : l.length ≤ 1048576) (d : Nat) : ∀ (i : Nat) (x : List Int), i + d = l.length → x.length = l.length → x.take i = l.take i → Ev (fun k => laws_toIntS.l0 k l x (i : Int)) l := by
  induction d with
  | zero =>
    intro i x hi hx ht
    refine ev_succ ?_
    simp only [laws_toIntS.l0]
    refine ev_neg (by omega) (ev_some ?_)
    rw [List.take_of_length_le (by omega), List.take_of_length_le (by omega)] at ht
    rw [ht]
  | succ d ih =>
    intro i x hi hx ht
    refine ev_succ ?_
    simp only [laws_toIntS.l0]
    refine ev_pos (by omega) (ev_pos (by omega) (ev_pos (by omega) ?_))
    rw [next_i i (by omega), rd_at l i (by omega)]
    refine ih (i + 1) _ (by omega) (by simp [hx]) ?_
    have hi' : i < x.length := by omega
    rw [List.take_succ_eq_append_getElem (by simp; omega), List.take_succ_eq_append_getElem (by omega)]
    simp only [Int.toNat_natCast, List.getElem_set_self]
    rw [List.take_set_of_le (Nat.le_refl i), ht]

theorem toInt_ev (l : List Int) (hl : l.length ≤ 1048576) : Ev (fun k => laws_toIntS.f k l) l := by
  unfold laws_toIntS.f
  refine ev_pos (by omega) (ev_pos (by simp; omega) ?_)
  exact toInt_from l hl l.length 0 _ (by omega) (by simp) (by simp)

theorem eqSelf_from (l : List Int) (hl : l.length ≤ 1048576) (d : Nat) : ∀ (i : Nat), i + d = l.length → Ev (fun k => laws_eqIntS.l0 k l l (i : Int)) true := by
  induction d with
  | zero =>
    intro i hi
    refine ev_succ ?_
    simp only [laws_eqIntS.l0]
    exact ev_neg (by omega) (ev_some rfl)
  | succ d ih =>
    intro i hi
    refine ev_succ ?_
    simp only [laws_eqIntS.l0]
    refine ev_pos (by omega) (ev_pos (by omega) (ev_pos (by omega) (ev_pos trivial ?_)))
    rw [next_i i (by omega)]
    exact ih (i + 1) (by omega)

theorem eqSelf_ev (l : List Int) (hl : l.length ≤ 1048576) : Ev (fun k => laws_eqIntS.f k l l) true := by
  unfold laws_eqIntS.f
  exact ev_pos rfl (eqSelf_from l hl l.length 0 (by omega))

/-! ### Graphs -/
theorem rdL_at (l : List (List Int)) (i : Nat) (h : i < l.length) : rd_L1 l (i : Int) = l[i] := by
  unfold rd_L1
  simp [List.getD_eq_getElem?_getD, h]
def idxB (n : Int) (l : List Int) : Bool := l.all fun k => decide (0 ≤ k ∧ k < n)
def rowB (n : Int) (l : List Int) : Bool := decide (l.length ≤ 5) && idxB n l
def refsB (refs : List (List Int)) : Bool := decide (refs.length ≤ 12) && refs.all (rowB refs.length)
def rootsB (n : Int) (roots : List Int) : Bool := decide (roots.length ≤ 12) && idxB n roots
def graphB (refs : List (List Int)) (roots : List Int) : Bool := refsB refs && rootsB refs.length roots

theorem idx_cons (n x : Int) (l : List Int) : idxB n (x :: l) = (decide (0 ≤ x ∧ x < n) && idxB n l) := rfl
theorem indices_from (l : List Int) (n : Int) (hl : l.length ≤ 1048576) (d : Nat) : ∀ i : Nat, i + d = l.length → Ev (fun k => impl_indicesOk.l0 k n l (l.length : Int) (i : Int)) (idxB n (l.drop i)) := by
  induction d with
  | zero =>
    intro i hi
    refine ev_succ ?_
    simp only [impl_indicesOk.l0]
    refine ev_neg (by omega) (ev_some ?_)
    rw [List.drop_of_length_le (by omega)]; rfl
  | succ d ih =>
    intro i hi
    have hlt : i < l.length := by omega
    refine ev_succ ?_
    simp only [impl_indicesOk.l0]
    rw [rd_at l i hlt, next_i i (by omega), List.drop_eq_getElem_cons hlt]
    refine ev_pos (by omega) (ev_pos (by omega) (ev_pos (by omega) ?_))
    by_cases h1 : l[i] < 0
    · exact ev_pos h1 (ev_some (by rw [idx_cons, decide_eq_false (by omega)]; rfl))
    · refine ev_neg h1 ?_
      by_cases h2 : l[i] ≥ n
      · exact ev_pos h2 (ev_some (by rw [idx_cons, decide_eq_false (by omega)]; rfl))
      · refine ev_neg h2 (ev_eq (ih (i + 1) (by omega)) ?_)
        have : decide (0 ≤ l[i] ∧ l[i] < n) = true := decide_eq_true (by omega)
        rw [idx_cons, this, Bool.true_and]
theorem indices_ev (l : List Int) (n : Int) (hl : l.length ≤ 1048576) : Ev (fun k => impl_indicesOk.f k l n) (idxB n l) := indices_from l n hl l.length 0 (by omega)

theorem graph_from (refs : List (List Int)) (hn : refs.length ≤ 1048576) (hr : ∀ l ∈ refs, l.length ≤ 1048576) (d : Nat) : ∀ i : Nat, i + d = refs.length →
    Ev (fun k => impl_GraphOk.l0 k refs refs (refs.length : Int) (i : Int)) ((refs.drop i).all (rowB refs.length)) := by
  induction d with
  | zero =>
    intro i hi
    refine ev_succ ?_
    simp only [impl_GraphOk.l0]
    refine ev_neg (by omega) (ev_some ?_)
    rw [List.drop_of_length_le (by omega)]; rfl
  | succ d ih =>
    intro i hi
    have hlt : i < refs.length := by omega
    refine ev_succ ?_
    simp only [impl_GraphOk.l0]
    rw [rdL_at refs i hlt, next_i i (by omega), List.drop_eq_getElem_cons hlt, List.all_cons]
    refine ev_pos (by omega) (ev_pos (by omega) (ev_pos (by omega) ?_))
    by_cases h1 : (refs[i].length : Int) > 5
    · exact ev_pos h1 (ev_some (by rw [rowB, decide_eq_false (by omega)]; rfl))
    · refine ev_neg h1 (Ev.bind (indices_ev refs[i] (refs.length : Int) (hr _ (List.getElem_mem hlt))) ?_)
      have e : rowB refs.length refs[i] = idxB refs.length refs[i] := by rw [rowB, decide_eq_true (by omega)]; rfl
      rw [e]
      cases idxB (refs.length : Int) refs[i] with
      | true => exact ev_pos rfl (ev_eq (ih (i + 1) (by omega)) (by simp))
      | false => exact ev_neg (by simp) (ev_some (by simp))

theorem graph_ev (refs : List (List Int)) (roots : List Int) (hn : refs.length ≤ 1048576) (hr : ∀ l ∈ refs, l.length ≤ 1048576) (hl : roots.length ≤ 1048576) : Ev (fun k => impl_GraphOk.f k refs roots) (graphB refs roots) := by
  have no : Ev (fun k => impl_GraphOk.j0 k refs true) false := by
    refine ev_succ ?_
    simp only [impl_GraphOk.j0]
    exact ev_pos trivial (ev_some rfl)
  unfold impl_GraphOk.f
  by_cases h1 : (refs.length : Int) > 12
  · refine ev_pos h1 (ev_eq no ?_)
    rw [graphB, refsB, decide_eq_false (by omega)]; rfl
  refine ev_neg h1 ?_
  by_cases h2 : (roots.length : Int) > 12
  · refine ev_pos h2 (ev_eq no ?_)
    rw [graphB, rootsB, decide_eq_false (by omega : ¬ roots.length ≤ 12)]; simp
  refine ev_neg h2 (Ev.bind (indices_ev roots (refs.length : Int) hl) ?_)
  have e : rootsB (refs.length : Int) roots = idxB refs.length roots := by rw [rootsB, decide_eq_true (by omega)]; rfl
  have e2 : refsB refs = refs.all (rowB refs.length) := by rw [refsB, decide_eq_true (by omega)]; rfl
  rw [graphB, e, e2]
  cases idxB (refs.length : Int) roots with
  | false => exact ev_eq no (by simp)
  | true =>
    refine ev_succ ?_
    simp only [impl_GraphOk.j0]
    refine ev_neg (by simp) (ev_eq (graph_from refs hn hr refs.length 0 (by omega)) (by simp))

theorem in_idx (k n : Int) (hn : 0 ≤ n) (hn' : n ≤ 1048576) : spec_inRange.f k 0 (wrap64 (n - 1)) = some (decide (0 ≤ k ∧ k < n)) := by
  have hw : wrap64 (n - 1) = n - 1 := w64 (by omega) (by omega)
  unfold spec_inRange.f
  rw [hw]
  by_cases h : k ≥ 0
  · have h' : 0 ≤ k := h
    rw [if_pos h]; congr 1; simp [h']; omega
  · rw [if_neg h, decide_eq_false (by omega)]

theorem roots_from (l : List Int) (n : Int) (hn : 0 ≤ n) (hn' : n ≤ 1048576) (hl : l.length ≤ 1048576) (d : Nat) : ∀ i : Nat, i + d = l.length → Ev (fun k => spec_validRoots.l0 k l n (i : Int)) (idxB n (l.drop i) && decide (l.length ≤ 12)) := by
  induction d with
  | zero =>
    intro i hi
    refine ev_succ ?_
    simp only [spec_validRoots.l0]
    refine ev_neg (by omega) (ev_some ?_)
    rw [List.drop_of_length_le (by omega)]; simp [idxB]; omega
  | succ d ih =>
    intro i hi
    have hlt : i < l.length := by omega
    refine ev_succ ?_
    simp only [spec_validRoots.l0]
    rw [rd_at l i hlt, next_i i (by omega), List.drop_eq_getElem_cons hlt]
    refine ev_pos (by omega) (ev_pos (by omega) (ev_bind1 (in_idx _ _ hn hn') ?_))
    simp only [idxB, List.all_cons]
    by_cases h : decide (0 ≤ l[i] ∧ l[i] < n) = true
    · refine ev_pos h (ev_eq (ih (i + 1) (by omega)) ?_)
      rw [h, Bool.true_and]; rfl
    · refine ev_neg h (ev_some ?_)
      rw [Bool.not_eq_true] at h
      rw [h]; rfl
theorem roots_ev (l : List Int) (n : Int) (hn : 0 ≤ n) (hn' : n ≤ 1048576) (hl : l.length ≤ 1048576) : Ev (fun k => spec_validRoots.f k l n) (rootsB n l) := by
  unfold spec_validRoots.f
  refine ev_eq (roots_from l n hn hn' hl l.length 0 (by omega)) ?_
  rw [List.drop_zero, rootsB, Bool.and_comm]

theorem refs_from (refs : List (List Int)) (hn : refs.length ≤ 1048576) (hr : ∀ l ∈ refs, l.length ≤ 1048576) (d : Nat) : ∀ i : Nat, i + d = refs.length →
    Ev (fun k => spec_validGraph.l0 k refs (i : Int)) ((refs.drop i).all (rowB refs.length) && decide (refs.length ≤ 12)) := by
  induction d with
  | zero =>
    intro i hi
    refine ev_succ ?_
    simp only [spec_validGraph.l0]
    refine ev_neg (by omega) (ev_some ?_)
    rw [List.drop_of_length_le (by omega)]; simp; omega
  | succ d ih =>
    intro i hi
    have hlt : i < refs.length := by omega
    have hrow := hr _ (List.getElem_mem hlt)
    rw [List.drop_eq_getElem_cons hlt, List.all_cons]
    have row : ∀ (c j : Nat), j + c = refs[i].length → Ev (fun k => spec_validGraph.l1 k refs (i : Int) (j : Int)) ((idxB refs.length (refs[i].drop j) && decide (refs[i].length ≤ 5)) && ((refs.drop (i + 1)).all (rowB refs.length) && decide (refs.length ≤ 12))) := by
      intro c
      induction c with
      | zero =>
        intro j hj
        refine ev_succ ?_
        simp only [spec_validGraph.l1]
        rw [rdL_at refs i hlt]
        refine ev_pos (by omega) (ev_pos (by omega) (ev_neg (by omega) ?_))
        have e : idxB (refs.length : Int) (refs[i].drop j) = true := by rw [List.drop_of_length_le (by omega)]; rfl
        rw [e, next_i i (by omega)]
        by_cases h5 : (refs[i].length : Int) > 5
        · refine ev_pos h5 (ev_some ?_)
          rw [decide_eq_false (by omega : ¬ refs[i].length ≤ 5)]; rfl
        · refine ev_neg h5 (ev_eq (ih (i + 1) (by omega)) ?_)
          rw [decide_eq_true (by omega : refs[i].length ≤ 5)]; simp
      | succ c ihc =>
        intro j hj
        have hltj : j < refs[i].length := by omega
        refine ev_succ ?_
        simp only [spec_validGraph.l1]
        rw [rdL_at refs i hlt, rd_at _ j hltj, next_i j (by omega), List.drop_eq_getElem_cons hltj]
        refine ev_pos (by omega) (ev_pos (by omega) (ev_pos (by omega) (ev_pos (by omega) (ev_bind1 (in_idx _ _ (by omega) (by omega)) ?_))))
        simp only [idxB, List.all_cons]
        by_cases h : decide (0 ≤ refs[i][j] ∧ refs[i][j] < (refs.length : Int)) = true
        · refine ev_pos h (ev_eq (ihc (j + 1) (by omega)) ?_)
          rw [h, Bool.true_and]; rfl
        · refine ev_neg h (ev_some ?_)
          rw [Bool.not_eq_true] at h
          rw [h]; rfl
    refine ev_succ ?_
    simp only [spec_validGraph.l0]
    refine ev_pos (by omega) (ev_eq (row refs[i].length 0 (by omega)) ?_)
    rw [List.drop_zero, rowB, Bool.and_comm (idxB _ _), Bool.and_assoc, Bool.and_assoc, Bool.and_assoc]
theorem refs_ev (refs : List (List Int)) (hn : refs.length ≤ 1048576) (hr : ∀ l ∈ refs, l.length ≤ 1048576) : Ev (fun k => spec_validGraph.f k refs) (refsB refs) := by
  unfold spec_validGraph.f
  refine ev_eq (refs_from refs hn hr refs.length 0 (by omega)) ?_
  rw [List.drop_zero, refsB, Bool.and_comm]

/-! ### Lists of lists: how long, copied, compared -/
theorem szInt_ev (l : List Int) (a : Int) (ha : 0 ≤ a ∧ a ≤ 1048576) (hl : l.length ≤ 9223372036854775807) : laws_szIntS.f l a = some (if a - (l.length : Int) < 0 then -1 else a - l.length) := by
  have hw : wrap64 (a - (l.length : Int)) = a - l.length := w64 (by omega) (by omega)
  unfold laws_szIntS.f
  rw [hw]; split <;> rfl
theorem szIntSS_from (l : List (List Int)) (hl : l.length ≤ 1048576) (hr : ∀ r ∈ l, r.length ≤ 9223372036854775807) (d : Nat) : ∀ (i : Nat) (a : Int), i + d = l.length → 0 ≤ a ∧ a ≤ 1048576 →
    ∃ r, Ev (fun k => laws_szIntSS.l0 k l a (i : Int)) r ∧ (0 ≤ r → ∀ x ∈ l.drop i, x.length ≤ 1048576) := by
  induction d with
  | zero =>
    intro i a hi ha
    refine ⟨a, ev_succ ?_, fun _ => by rw [List.drop_of_length_le (by omega)]; simp⟩
    simp only [laws_szIntSS.l0]
    exact ev_neg (by omega) (ev_some rfl)
  | succ d ih =>
    intro i a hi ha
    have hlt : i < l.length := by omega
    have hlr := hr _ (List.getElem_mem hlt)
    have e := szInt_ev l[i] a ha hlr
    by_cases h : a - (l[i].length : Int) < 0
    · refine ⟨-1, ev_succ ?_, fun h0 => absurd h0 (by omega)⟩
      simp only [laws_szIntSS.l0]
      rw [rdL_at l i hlt]
      rw [if_pos h] at e
      exact ev_pos (by omega) (ev_pos (by omega) (ev_bind1 e (ev_pos (by omega) (ev_some rfl))))
    · rw [if_neg h] at e
      obtain ⟨r, hr', hx⟩ := ih (i + 1) (a - l[i].length) (by omega) (by omega)
      refine ⟨r, ev_succ ?_, fun h0 => ?_⟩
      · simp only [laws_szIntSS.l0]
        rw [rdL_at l i hlt, next_i i (by omega)]
        exact ev_pos (by omega) (ev_pos (by omega) (ev_bind1 e (ev_neg h hr')))
      · rw [List.drop_eq_getElem_cons hlt]
        intro x hm
        rcases List.mem_cons.1 hm with rfl | hm
        · omega
        · exact hx h0 x hm
theorem szIntSS_ev (l : List (List Int)) (hl : l.length ≤ 9223372036854775807) (hr : ∀ r ∈ l, r.length ≤ 9223372036854775807) :
    ∃ r, Ev (fun k => laws_szIntSS.f k l 1048576) r ∧ (0 ≤ r → l.length ≤ 1048576 ∧ ∀ x ∈ l, x.length ≤ 1048576) := by
  have hw : wrap64 (1048576 - (l.length : Int)) = 1048576 - l.length := w64 (by omega) (by omega)
  by_cases h : 1048576 - (l.length : Int) < 0
  · refine ⟨-1, ?_, fun h0 => absurd h0 (by omega)⟩
    unfold laws_szIntSS.f
    rw [hw]
    exact ev_pos h (ev_some rfl)
  · obtain ⟨r, e, hx⟩ := szIntSS_from l (by omega) hr l.length 0 (1048576 - l.length) (by omega) (by omega)
    refine ⟨r, ?_, fun h0 => ⟨by omega, hx h0⟩⟩
    unfold laws_szIntSS.f
    rw [hw]
    exact ev_neg h e
theorem toIntSS_from (l : List (List Int)) (hl : l.length ≤ 1048576) (hr : ∀ r ∈ l, r.length ≤ 1048576) (d : Nat) : ∀ (i : Nat) (x : List (List Int)), i + d = l.length → x.length = l.length → x.take i = l.take i → Ev (fun k => laws_toIntSS.l0 k l x (i : Int)) l := by
  induction d with
  | zero =>
    intro i x hi hx ht
    refine ev_succ ?_
    simp only [laws_toIntSS.l0]
    refine ev_neg (by omega) (ev_some ?_)
    rw [List.take_of_length_le (by omega), List.take_of_length_le (by omega)] at ht
    rw [ht]
  | succ d ih =>
    intro i x hi hx ht
    have hlt : i < l.length := by omega
    refine ev_succ ?_
    simp only [laws_toIntSS.l0]
    rw [rdL_at l i hlt, next_i i (by omega)]
    refine ev_pos (by omega) (ev_pos (by omega) (Ev.bind (toInt_ev _ (hr _ (List.getElem_mem hlt))) (ev_pos (by omega) ?_)))
    refine ih (i + 1) _ (by omega) (by simp [hx]) ?_
    have hi' : i < x.length := by omega
    rw [List.take_succ_eq_append_getElem (by simp; omega), List.take_succ_eq_append_getElem (by omega)]
    simp only [Int.toNat_natCast, List.getElem_set_self]
    rw [List.take_set_of_le (Nat.le_refl i), ht]
theorem toIntSS_ev (l : List (List Int)) (hl : l.length ≤ 1048576) (hr : ∀ r ∈ l, r.length ≤ 1048576) : Ev (fun k => laws_toIntSS.f k l) l := by
  unfold laws_toIntSS.f
  refine ev_pos (by omega) (ev_pos (by simp; omega) ?_)
  exact toIntSS_from l hl hr l.length 0 _ (by omega) (by simp) (by simp)
theorem eqSelfSS_from (l : List (List Int)) (hl : l.length ≤ 1048576) (hr : ∀ r ∈ l, r.length ≤ 1048576) (d : Nat) : ∀ (i : Nat), i + d = l.length → Ev (fun k => laws_eqIntSS.l0 k l l (i : Int)) true := by
  induction d with
  | zero =>
    intro i hi
    refine ev_succ ?_
    simp only [laws_eqIntSS.l0]
    exact ev_neg (by omega) (ev_some rfl)
  | succ d ih =>
    intro i hi
    have hlt : i < l.length := by omega
    refine ev_succ ?_
    simp only [laws_eqIntSS.l0]
    rw [rdL_at l i hlt, next_i i (by omega)]
    exact ev_pos (by omega) (ev_pos (by omega) (ev_pos (by omega) (Ev.bind (eqSelf_ev _ (hr _ (List.getElem_mem hlt))) (ev_pos rfl (ih (i + 1) (by omega))))))
theorem eqSelfSS_ev (l : List (List Int)) (hl : l.length ≤ 1048576) (hr : ∀ r ∈ l, r.length ≤ 1048576) : Ev (fun k => laws_eqIntSS.f k l l) true := by
  unfold laws_eqIntSS.f
  exact ev_pos rfl (eqSelfSS_from l hl hr l.length 0 (by omega))

/-! ### Lists of numbers: marked -/
def seqL (s : Int) (n : Nat) : List Int := (List.range n).map fun (i : Nat) => s + (i : Int)
theorem seqL_length (s : Int) (n : Nat) : (seqL s n).length = n := by simp [seqL]
theorem mark_from (l : List Int) (s : Int) (hl : l.length ≤ 1048576) (h0 : 0 ≤ s) (h1 : s ≤ 1000000000000) (d : Nat) : ∀ (i : Nat) (x : List Int), i + d = l.length → x.length = l.length → x.take i = seqL s i →
    Ev (fun k => laws_markIntS.l0 k x (s + (i : Int)) (i : Int)) (s + (l.length : Int), seqL s l.length) := by
  induction d with
  | zero =>
    intro i x hi hx ht
    refine ev_succ ?_
    simp only [laws_markIntS.l0]
    refine ev_neg (by omega) (ev_some ?_)
    rw [List.take_of_length_le (by omega)] at ht
    have : i = l.length := by omega
    subst this
    rw [ht]
  | succ d ih =>
    intro i x hi hx ht
    refine ev_succ ?_
    simp only [laws_markIntS.l0]
    refine ev_pos (by omega) (ev_pos (by omega) ?_)
    rw [next_i i (by omega), show wrap64 (s + (i : Int) + 1) = s + ((i + 1 : Nat) : Int) by rw [w64 (by omega) (by omega)]; omega]
    refine ih (i + 1) _ (by omega) (by simp [hx]) ?_
    rw [List.take_succ_eq_append_getElem (by simp; omega)]
    simp only [Int.toNat_natCast, List.getElem_set_self]
    rw [List.take_set_of_le (Nat.le_refl i), ht]
    simp [seqL, List.range_succ]

theorem mark_ev (l : List Int) (s : Int) (hl : l.length ≤ 1048576) (h0 : 0 ≤ s) (h1 : s ≤ 1000000000000) : Ev (fun k => laws_markIntS.f k l s) (s + (l.length : Int), seqL s l.length) := by
  have h := mark_from l s hl h0 h1 l.length 0 l (by omega) rfl (by simp [seqL])
  have e : s + ((0 : Nat) : Int) = s := by omega
  rw [e] at h
  exact h

theorem held_from (s : Int) (n : Nat) (hl : n ≤ 1048576) (h0 : 0 ≤ s) (h1 : s ≤ 1000000000000) (d : Nat) : ∀ (i : Nat), i + d = n → Ev (fun k => laws_heldIntS.l0 k (seqL s n) (s + (i : Int)) (i : Int)) (s + (n : Int)) := by
  induction d with
  | zero =>
    intro i hi
    refine ev_succ ?_
    simp only [laws_heldIntS.l0, seqL_length]
    refine ev_neg (by omega) (ev_some ?_)
    have : i = n := by omega
    rw [this]
  | succ d ih =>
    intro i hi
    refine ev_succ ?_
    simp only [laws_heldIntS.l0, seqL_length]
    refine ev_pos (by omega) (ev_pos (by omega) (ev_pos ?_ ?_))
    · rw [rd_at _ i (by rw [seqL_length]; omega)]; simp [seqL]
    · rw [next_i i (by omega), show wrap64 (s + (i : Int) + 1) = s + ((i + 1 : Nat) : Int) by rw [w64 (by omega) (by omega)]; omega]
      exact ih (i + 1) (by omega)

theorem held_ev (s : Int) (n : Nat) (hl : n ≤ 1048576) (h0 : 0 ≤ s) (h1 : s ≤ 1000000000000) : Ev (fun k => laws_heldIntS.f k (seqL s n) s) (s + (n : Int)) := by
  have h := held_from s n hl h0 h1 n 0 (by omega)
  have e : s + ((0 : Nat) : Int) = s := by omega
  rw [e] at h
  exact h

/-! ### Lists of lists: marked -/
def lenSum (l : List (List Int)) : Nat := (l.map List.length).sum
theorem lenSum_cons (r : List Int) (l : List (List Int)) : lenSum (r :: l) = r.length + lenSum l := by simp [lenSum]
theorem lenSum_mem : ∀ (l : List (List Int)) (r : List Int), r ∈ l → r.length ≤ lenSum l
  | [], r, h => by cases h
  | x :: l, r, h => by
    rw [lenSum_cons]
    rcases List.mem_cons.1 h with rfl | h
    · omega
    · have := lenSum_mem l r h; omega
theorem szSum_from (l : List (List Int)) (hl : l.length ≤ 1048576) (hr : ∀ r ∈ l, r.length ≤ 9223372036854775807) (d : Nat) : ∀ (i : Nat) (a : Int), i + d = l.length → 0 ≤ a ∧ a ≤ 1048576 →
    ∃ r, Ev (fun k => laws_szIntSS.l0 k l a (i : Int)) r ∧ (0 ≤ r → (lenSum (l.drop i) : Int) ≤ a) := by
  induction d with
  | zero =>
    intro i a hi ha
    refine ⟨a, ev_succ ?_, fun _ => by rw [List.drop_of_length_le (by omega)]; simp [lenSum]; omega⟩
    simp only [laws_szIntSS.l0]
    exact ev_neg (by omega) (ev_some rfl)
  | succ d ih =>
    intro i a hi ha
    have hlt : i < l.length := by omega
    have hlr := hr _ (List.getElem_mem hlt)
    have e := szInt_ev l[i] a ha hlr
    by_cases h : a - (l[i].length : Int) < 0
    · refine ⟨-1, ev_succ ?_, fun h0 => absurd h0 (by omega)⟩
      simp only [laws_szIntSS.l0]
      rw [rdL_at l i hlt]
      rw [if_pos h] at e
      exact ev_pos (by omega) (ev_pos (by omega) (ev_bind1 e (ev_pos (by omega) (ev_some rfl))))
    · rw [if_neg h] at e
      obtain ⟨r, hr', hx⟩ := ih (i + 1) (a - l[i].length) (by omega) (by omega)
      refine ⟨r, ev_succ ?_, fun h0 => ?_⟩
      · simp only [laws_szIntSS.l0]
        rw [rdL_at l i hlt, next_i i (by omega)]
        exact ev_pos (by omega) (ev_pos (by omega) (ev_bind1 e (ev_neg h hr')))
      · rw [List.drop_eq_getElem_cons hlt, lenSum_cons]
        have := hx h0
        omega
theorem szSum_ev (l : List (List Int)) (hl : l.length ≤ 9223372036854775807) (hr : ∀ r ∈ l, r.length ≤ 9223372036854775807) :
    ∃ r, Ev (fun k => laws_szIntSS.f k l 1048576) r ∧ (0 ≤ r → l.length ≤ 1048576 ∧ lenSum l ≤ 1048576) := by
  have hw : wrap64 (1048576 - (l.length : Int)) = 1048576 - l.length := w64 (by omega) (by omega)
  by_cases h : 1048576 - (l.length : Int) < 0
  · refine ⟨-1, ?_, fun h0 => absurd h0 (by omega)⟩
    unfold laws_szIntSS.f
    rw [hw]
    exact ev_pos h (ev_some rfl)
  · obtain ⟨r, e, hx⟩ := szSum_from l (by omega) hr l.length 0 (1048576 - l.length) (by omega) (by omega)
    refine ⟨r, ?_, fun h0 => ⟨by omega, by have := hx h0; rw [List.drop_zero] at this; omega⟩⟩
    unfold laws_szIntSS.f
    rw [hw]
    exact ev_neg h e
theorem markSS_from : ∀ (l : List (List Int)) (s : Int), 0 ≤ s → s + (lenSum l : Int) ≤ 1000000000 → lenSum l ≤ 1048576 → Ev (fun k => markSS k l s) (s + (lenSum l : Int))
  | [], s, _, _, _ => ev_some (by simp [lenSum])
  | r :: l, s, h0, h1, h2 => by
    rw [lenSum_cons] at h1 h2
    have key : Ev (fun k => markSS k l (s + (r.length : Int))) (s + (lenSum (r :: l) : Int)) := ev_eq (markSS_from l (s + (r.length : Int)) (by omega) (by omega) (by omega)) (by rw [lenSum_cons]; omega)
    exact Ev.bind (mark_ev r s (by omega) h0 (by omega)) key
theorem markSS_ev (l : List (List Int)) (hl : l.length ≤ 1048576) (hs : lenSum l ≤ 1048576) : Ev (fun k => laws_markIntSS.f k l 1) (1 + (lenSum l : Int)) := by
  unfold laws_markIntSS.f
  exact ev_pos (by omega) (markSS_from l 1 (by omega) (by omega) hs)

theorem idx_memR {n : Int} {l : List Int} (h : idxB n l = true) {x : Int} (hx : x ∈ l) : 0 ≤ x ∧ x < n := by
  rw [idxB, List.all_eq_true] at h
  simpa using h x hx
theorem graph_partsR {refs : List (List Int)} {roots : List Int} (h : graphB refs roots = true) : refs.length ≤ 12 ∧ (∀ l ∈ refs, l.length ≤ 5) ∧ (∀ l ∈ refs, idxB refs.length l = true) ∧ roots.length ≤ 12 ∧ idxB refs.length roots = true := by
  simp only [graphB, refsB, rootsB, rowB, Bool.and_eq_true, decide_eq_true_eq, List.all_eq_true] at h
  exact ⟨h.1.1, fun l hl => (h.1.2 l hl).1, fun l hl => (h.1.2 l hl).2, h.2.1, h.2.2⟩

/-! ### What is reached -/
def IxR (n : Nat) (l : List Int) : Prop := ∀ x ∈ l, 0 ≤ x ∧ x < (n : Int)
theorem ixr_nat {n : Nat} {l : List Int} (h : IxR n l) {x : Int} (hx : x ∈ l) : ∃ j : Nat, x = (j : Int) ∧ j < n := by
  have := h x hx
  exact ⟨x.toNat, by omega, by omega⟩
theorem rdB_at (m : List Bool) (i : Nat) (h : i < m.length) : rdOf false m (i : Int) = m[i] := by
  unfold rdOf
  simp [List.getD_eq_getElem?_getD, h]
inductive Rch (refs : List (List Int)) (roots : List Int) : Int → Prop
  | root {v : Int} : v ∈ roots → Rch refs roots v
  | step {u v : Int} : Rch refs roots u → v ∈ rd_L1 refs u → Rch refs roots v
structure Inv (refs : List (List Int)) (roots : List Int) (m : List Bool) (work : List Int) : Prop where
  len : m.length = refs.length
  ix : IxR refs.length work
  s1 : ∀ v ∈ work, Rch refs roots v
  s2 : ∀ v : Nat, v < refs.length → rdOf false m (v : Int) = true → Rch refs roots (v : Int)
  c1 : ∀ v ∈ roots, rdOf false m v = true ∨ v ∈ work
  c2 : ∀ u : Nat, u < refs.length → rdOf false m (u : Int) = true → ∀ v ∈ rd_L1 refs (u : Int), rdOf false m v = true ∨ v ∈ work
def Fin_ (refs : List (List Int)) (roots : List Int) (m : List Bool) : Prop := m.length = refs.length ∧ ∀ v : Nat, v < refs.length → (rdOf false m (v : Int) = true ↔ Rch refs roots (v : Int))
theorem fin_unique {refs : List (List Int)} {r1 r2 : List Int} {m1 m2 : List Bool} (h1 : Fin_ refs r1 m1) (h2 : Fin_ refs r2 m2) (h : ∀ v, Rch refs r1 v ↔ Rch refs r2 v) : m1 = m2 := by
  refine List.ext_getElem (h1.1.trans h2.1.symm) (fun i hi hi2 => ?_)
  have a := h1.2 i (by have := h1.1; omega)
  have b := h2.2 i (by have := h1.1; omega)
  rw [rdB_at _ i hi, h] at a
  rw [rdB_at _ i hi2] at b
  rw [Bool.eq_iff_iff]
  exact a.trans b.symm
theorem inv_done {refs : List (List Int)} {roots : List Int} {m : List Bool} (hi : ∀ r ∈ refs, IxR refs.length r) (hr : IxR refs.length roots) (h : Inv refs roots m []) : Fin_ refs roots m := by
  refine ⟨h.len, fun v hv => ⟨h.s2 v hv, fun hR => ?_⟩⟩
  have key : ∀ x : Int, Rch refs roots x → ∃ j : Nat, x = (j : Int) ∧ j < refs.length ∧ rdOf false m (j : Int) = true := by
    intro x hx
    induction hx with
    | root hv =>
      obtain ⟨j, rfl, hj⟩ := ixr_nat hr hv
      exact ⟨j, rfl, hj, (h.c1 _ hv).resolve_right (by simp)⟩
    | step hu hv ih =>
      obtain ⟨j, rfl, hj, hm⟩ := ih
      have e := rdL_at refs j hj
      have hv2 := hv
      rw [e] at hv
      obtain ⟨i, rfl, hi2⟩ := ixr_nat (hi _ (List.getElem_mem hj)) hv
      exact ⟨i, rfl, hi2, (h.c2 j hj hm _ hv2).resolve_right (by simp)⟩
  obtain ⟨j, e, hj, hm⟩ := key _ hR
  have : j = v := by omega
  subst this
  exact hm
theorem inv_skip {refs : List (List Int)} {roots : List Int} {m : List Bool} {w w' : List Int} {t : Int} (h : Inv refs roots m w) (ht : rdOf false m t = true) (h1 : ∀ v ∈ w, v = t ∨ v ∈ w') (h2 : ∀ v ∈ w', v ∈ w) : Inv refs roots m w' where
  len := h.len
  ix := fun x hx => h.ix x (h2 x hx)
  s1 := fun v hv => h.s1 v (h2 v hv)
  s2 := h.s2
  c1 := fun v hv => (h.c1 v hv).elim .inl (fun hw => (h1 v hw).elim (fun e => .inl (e ▸ ht)) .inr)
  c2 := fun u hu hm v hv => (h.c2 u hu hm v hv).elim .inl (fun hw => (h1 v hw).elim (fun e => .inl (e ▸ ht)) .inr)
theorem rdB_set (m : List Bool) (t : Nat) (v : Nat) (ht : t < m.length) (hv : v < m.length) : rdOf false (m.set t true) (v : Int) = true ↔ v = t ∨ rdOf false m (v : Int) = true := by
  rw [rdB_at _ v (by simpa using hv), rdB_at _ v hv, List.getElem_set]
  by_cases h : t = v
  · subst h; simp
  · rw [if_neg h]
    constructor
    · exact .inr
    · rintro (e | e)
      · exact absurd e.symm h
      · exact e
theorem inv_mark {refs : List (List Int)} {roots : List Int} {m : List Bool} {w w' : List Int} {t : Nat} (hi : ∀ r ∈ refs, IxR refs.length r) (hr : IxR refs.length roots) (h : Inv refs roots m w) (htn : t < refs.length) (htw : (t : Int) ∈ w) (h1 : ∀ v ∈ w, v = (t : Int) ∨ v ∈ w') (h2 : ∀ v ∈ refs[t], v ∈ w') (h3 : ∀ v ∈ w', v ∈ w ∨ v ∈ refs[t]) : Inv refs roots (m.set t true) w' where
  len := by rw [List.length_set]; exact h.len
  ix := fun x hx => (h3 x hx).elim (h.ix x) (hi _ (List.getElem_mem htn) x)
  s1 := fun v hv => (h3 v hv).elim (h.s1 v) (fun hm => .step (h.s1 _ htw) (by rw [rdL_at refs t htn]; exact hm))
  s2 := fun v hv hm => ((rdB_set m t v (by have := h.len; omega) (by have := h.len; omega)).1 hm).elim (fun e => e ▸ h.s1 _ htw) (h.s2 v hv)
  c1 := fun v hv => by
    obtain ⟨j, rfl, hj⟩ := ixr_nat hr hv
    rw [rdB_set m t j (by have := h.len; omega) (by have := h.len; omega)]
    rcases h.c1 _ hv with hm | hw
    · exact .inl (.inr hm)
    · rcases h1 _ hw with e | hw
      · exact .inl (.inl (by omega))
      · exact .inr hw
  c2 := fun u hu hm v hv => by
    have hv2 := hv
    rw [rdL_at refs u hu] at hv2
    obtain ⟨j, rfl, hj⟩ := ixr_nat (hi _ (List.getElem_mem hu)) hv2
    rw [rdB_set m t j (by have := h.len; omega) (by have := h.len; omega)]
    rcases (rdB_set m t u (by have := h.len; omega) (by have := h.len; omega)).1 hm with rfl | hm
    · exact .inr (h2 _ hv2)
    · rcases h.c2 u hu hm _ hv with hm | hw
      · exact .inl (.inr hm)
      · rcases h1 _ hw with e | hw
        · exact .inl (.inl (by omega))
        · exact .inr hw
def unS : List Bool → Nat
  | [] => 0
  | b :: m => (if b then 0 else 1) + unS m
theorem unS_le : ∀ m : List Bool, unS m ≤ m.length
  | [] => Nat.le_refl _
  | b :: m => by
    have := unS_le m
    unfold unS
    rw [List.length_cons]
    split <;> omega
theorem unS_set : ∀ (m : List Bool) (t : Nat) (h : t < m.length), m[t] = false → unS (m.set t true) + 1 = unS m
  | b :: m, 0, _, hb => by
    simp only [List.getElem_cons_zero] at hb
    subst hb
    simp [unS]
    omega
  | b :: m, t + 1, h, hb => by
    have := unS_set m t (by simpa using h) (by simpa using hb)
    simp only [List.set_cons_succ, unS]
    omega
theorem snocR (q : List Int) (t : Int) (h : q.length ≤ 1000000) : wrap64 (((q ++ [t]).length : Int) - 1) = (q.length : Int) ∧ rd (q ++ [t]) (q.length : Int) = t ∧ (q ++ [t]).take q.length = q := by
  have e : ((q ++ [t]).length : Int) - 1 = (q.length : Int) := by simp
  refine ⟨by rw [e, w64 (by omega) (by omega)], ?_, by simp⟩
  rw [rd_at _ q.length (by simp)]
  simp
theorem impl_reach (refs : List (List Int)) (roots : List Int) (hr : ∀ r ∈ refs, r.length ≤ 5) (hi : ∀ r ∈ refs, IxR refs.length r) (hx : IxR refs.length roots) (d : Nat) : ∀ (m : List Bool) (w : List Int), Inv refs roots m w → w.length + 6 * unS m ≤ d → d ≤ 100000 →
    ∃ m', Ev (fun k => impl_reached.l0 k refs m w) m' ∧ Fin_ refs roots m' := by
  induction d with
  | zero =>
    intro m w h hd _
    obtain rfl : w = [] := List.eq_nil_of_length_eq_zero (by omega)
    refine ⟨m, ev_succ ?_, inv_done hi hx h⟩
    simp only [impl_reached.l0]
    exact ev_neg (by simp) (ev_some rfl)
  | succ d ih =>
    intro m w h hd hb
    rcases List.eq_nil_or_concat w with rfl | ⟨q, x, rfl⟩
    · refine ⟨m, ev_succ ?_, inv_done hi hx h⟩
      simp only [impl_reached.l0]
      exact ev_neg (by simp) (ev_some rfl)
    · rw [List.concat_eq_append] at *
      obtain ⟨t, rfl, htn⟩ := ixr_nat h.ix (by simp : x ∈ q ++ [x])
      have hl : (q ++ [(t : Int)]).length = q.length + 1 := by simp
      obtain ⟨s1, s2, s3⟩ := snocR q (t : Int) (by omega)
      have htm : t < m.length := by have := h.len; omega
      cases hm : m[t] with
      | true =>
        have hm' : rdOf false m (t : Int) = true := by rw [rdB_at m t htm, hm]
        obtain ⟨m', E, F⟩ := ih m q (inv_skip h hm' (fun v hv => by simp at hv; exact hv.symm) (fun v hv => by simp [hv])) (by omega) (by omega)
        refine ⟨m', ev_succ ?_, F⟩
        simp only [impl_reached.l0]
        rw [s1, s2, Int.toNat_natCast, s3]
        exact ev_pos (by omega) (ev_pos (by omega) (ev_pos (by omega) (ev_pos (by omega) (ev_bind1 rfl (ev_pos (by omega) (ev_pos (by omega) (ev_pos hm' E)))))))
      | false =>
        have hm' : ¬ rdOf false m (t : Int) = true := by rw [rdB_at m t htm, hm]; simp
        have hu := unS_set m t htm hm
        have h5 := hr _ (List.getElem_mem htn)
        obtain ⟨m', E, F⟩ := ih (m.set t true) (q ++ refs[t]) (inv_mark hi hx h htn (by simp) (fun v hv => by
          simp only [List.mem_append, List.mem_singleton] at hv ⊢
          rcases hv with hv | hv
          · exact .inr (.inl hv)
          · exact .inl hv) (fun v hv => by simp [hv]) (fun v hv => by
          simp only [List.mem_append, List.mem_singleton] at hv ⊢
          rcases hv with hv | hv
          · exact .inl (.inl hv)
          · exact .inr hv)) (by rw [List.length_append]; omega) (by omega)
        refine ⟨m', ev_succ ?_, F⟩
        simp only [impl_reached.l0]
        rw [s1, s2, Int.toNat_natCast, s3, rdL_at refs t htn]
        exact ev_pos (by omega) (ev_pos (by omega) (ev_pos (by omega) (ev_pos (by omega) (ev_bind1 rfl (ev_pos (by omega) (ev_pos (by omega) (ev_neg hm' (ev_pos (by omega) (ev_pos (by omega) E)))))))))
theorem spec_reach (refs : List (List Int)) (roots : List Int) (hr : ∀ r ∈ refs, r.length ≤ 5) (hi : ∀ r ∈ refs, IxR refs.length r) (hx : IxR refs.length roots) (d : Nat) : ∀ (m : List Bool) (w : List Int) (i : Nat), Inv refs roots m (w.drop i) → i ≤ w.length → (w.length - i) + 6 * unS m ≤ d → w.length + 6 * unS m ≤ 100000 →
    ∃ m', Ev (fun k => spec_marked.l0 k refs m w (i : Int)) m' ∧ Fin_ refs roots m' := by
  induction d with
  | zero =>
    intro m w i h hi2 hd _
    rw [List.drop_of_length_le (by omega)] at h
    refine ⟨m, ev_succ ?_, inv_done hi hx h⟩
    simp only [spec_marked.l0]
    exact ev_neg (by omega) (ev_some rfl)
  | succ d ih =>
    intro m w i h hi2 hd hb
    by_cases hlt : i < w.length
    · rw [List.drop_eq_getElem_cons hlt] at h
      obtain ⟨t, ht, htn⟩ := ixr_nat h.ix (List.mem_cons_self : w[i] ∈ _)
      rw [ht] at h
      have htm : t < m.length := by have := h.len; omega
      cases hm : m[t] with
      | true =>
        have hm' : rdOf false m (t : Int) = true := by rw [rdB_at m t htm, hm]
        obtain ⟨m', E, F⟩ := ih m w (i + 1) (inv_skip h hm' (fun v hv => by simp at hv; exact hv) (fun v hv => by simp [hv])) (by omega) (by omega) (by omega)
        refine ⟨m', ev_succ ?_, F⟩
        simp only [spec_marked.l0]
        rw [rd_at w i hlt, ht, next_i i (by omega)]
        exact ev_pos (by omega) (ev_pos (by omega) (ev_pos (by omega) (ev_pos (by omega) (ev_pos hm' E))))
      | false =>
        have hm' : ¬ rdOf false m (t : Int) = true := by rw [rdB_at m t htm, hm]; simp
        have hu := unS_set m t htm hm
        have h5 := hr _ (List.getElem_mem htn)
        have hdr : (w ++ refs[t]).drop (i + 1) = w.drop (i + 1) ++ refs[t] := List.drop_append_of_le_length (by omega)
        obtain ⟨m', E, F⟩ := ih (m.set t true) (w ++ refs[t]) (i + 1) (by
          rw [hdr]
          refine inv_mark hi hx h htn (by simp) (fun v hv => ?_) (fun v hv => by simp [hv]) (fun v hv => ?_)
          · rcases List.mem_cons.1 hv with hv | hv
            · exact .inl hv
            · exact .inr (List.mem_append_left _ hv)
          · rcases List.mem_append.1 hv with hv | hv
            · exact .inl (List.mem_cons_of_mem _ hv)
            · exact .inr hv) (by rw [List.length_append]; omega) (by rw [List.length_append]; omega) (by rw [List.length_append]; omega)
        refine ⟨m', ev_succ ?_, F⟩
        simp only [spec_marked.l0]
        rw [rd_at w i hlt, ht, next_i i (by omega), rdL_at refs t htn, Int.toNat_natCast]
        exact ev_pos (by omega) (ev_pos (by omega) (ev_pos (by omega) (ev_pos (by omega) (ev_neg hm' (ev_pos (by omega) (ev_pos (by omega) E))))))
    · rw [List.drop_of_length_le (by omega)] at h
      refine ⟨m, ev_succ ?_, inv_done hi hx h⟩
      simp only [spec_marked.l0]
      exact ev_neg (by omega) (ev_some rfl)
theorem inv_start (refs : List (List Int)) (roots : List Int) (hx : IxR refs.length roots) : Inv refs roots (List.replicate refs.length false) roots where
  len := by simp
  ix := hx
  s1 := fun v hv => .root hv
  s2 := fun v hv hm => by rw [rdB_at _ v (by simpa using hv)] at hm; simp at hm
  c1 := fun v hv => .inr hv
  c2 := fun v hv hm => by rw [rdB_at _ v (by simpa using hv)] at hm; simp at hm
theorem reach_both (refs : List (List Int)) (roots : List Int) (hn : refs.length ≤ 12) (hl : roots.length ≤ 1000) (hr : ∀ r ∈ refs, r.length ≤ 5) (hi : ∀ r ∈ refs, IxR refs.length r) (hx : IxR refs.length roots) :
    ∃ m, Ev (fun k => impl_reached.f k refs roots) m ∧ Ev (fun k => spec_marked.f k refs roots) m ∧ Fin_ refs roots m := by
  have hu := unS_le (List.replicate refs.length false)
  rw [List.length_replicate] at hu
  have h0 := inv_start refs roots hx
  obtain ⟨m1, E1, F1⟩ := impl_reach refs roots hr hi hx _ _ _ h0 (Nat.le_refl _) (by omega)
  obtain ⟨m2, E2, F2⟩ := spec_reach refs roots hr hi hx _ (List.replicate refs.length false) roots 0 (by rw [List.drop_zero]; exact h0) (by omega) (Nat.le_refl _) (by omega)
  have e : m2 = m1 := fin_unique F2 F1 (fun _ => Iff.rfl)
  subst e
  refine ⟨m2, ?_, ?_, F2⟩
  · unfold impl_reached.f
    refine ev_pos (by omega) (ev_pos (by simp; omega) (ev_bind1 (a := roots) ?_ ?_))
    · unfold slices_Clone_int_int.f
      rw [if_pos (by omega)]
    · rw [Int.toNat_natCast]; exact E1
  · unfold spec_marked.f
    refine ev_pos (by omega) (ev_pos (by simp; omega) (ev_bind1 rfl (ev_pos (by simp; omega) ?_)))
    rw [Int.toNat_natCast, List.nil_append]; exact E2

/-! ### Weak references -/
def weakB (n : Int) (l : List Int) : Bool := l.all fun k => decide (-1 ≤ k ∧ k < n)
def weakL (m : List Bool) (l : List Int) : List Int := l.map fun k => if 0 ≤ k ∧ rdOf false m k = true then k else -1
theorem in_weak (k n : Int) (hn : 0 ≤ n) (hn' : n ≤ 1048576) : spec_inRange.f k (-1) (wrap64 (n - 1)) = some (decide (-1 ≤ k ∧ k < n)) := by
  have hw : wrap64 (n - 1) = n - 1 := w64 (by omega) (by omega)
  unfold spec_inRange.f
  rw [hw]
  by_cases h : k ≥ -1
  · have h' : -1 ≤ k := h
    rw [if_pos h]; congr 1; simp [h']; omega
  · rw [if_neg h, decide_eq_false (by omega)]
theorem weak_cons (n x : Int) (l : List Int) : weakB n (x :: l) = (decide (-1 ≤ x ∧ x < n) && weakB n l) := rfl
theorem spec_weaks (l : List Int) (n : Int) (hn : 0 ≤ n) (hn' : n ≤ 1048576) (hl : l.length ≤ 1048576) (d : Nat) : ∀ i : Nat, i + d = l.length → Ev (fun k => spec_validWeaks.l0 k l n (i : Int)) (weakB n (l.drop i) && decide (l.length ≤ 12)) := by
  induction d with
  | zero =>
    intro i hi
    refine ev_succ ?_
    simp only [spec_validWeaks.l0]
    refine ev_neg (by omega) (ev_some ?_)
    rw [List.drop_of_length_le (by omega)]; simp [weakB]; omega
  | succ d ih =>
    intro i hi
    have hlt : i < l.length := by omega
    refine ev_succ ?_
    simp only [spec_validWeaks.l0]
    rw [rd_at l i hlt, next_i i (by omega), List.drop_eq_getElem_cons hlt, weak_cons]
    refine ev_pos (by omega) (ev_pos (by omega) (ev_bind1 (in_weak _ _ hn hn') ?_))
    by_cases h : -1 ≤ l[i] ∧ l[i] < n
    · rw [decide_eq_true h, Bool.true_and]
      exact ev_pos rfl (ih (i + 1) (by omega))
    · rw [decide_eq_false h]
      exact ev_neg (by simp) (ev_some (by simp))
theorem spec_weak_from (l : List Int) (m : List Bool) (n : Nat) (hm : m.length = n) (hl : l.length ≤ 1048576) (hw : ∀ x ∈ l, -1 ≤ x ∧ x < (n : Int)) (d : Nat) : ∀ (i : Nat) (acc : List Int), i + d = l.length → acc.length = i → Ev (fun k => spec_WeakLeft.l0 k l m acc (i : Int)) (acc ++ weakL m (l.drop i)) := by
  induction d with
  | zero =>
    intro i acc hi ha
    refine ev_succ ?_
    simp only [spec_WeakLeft.l0]
    refine ev_neg (by omega) (ev_some ?_)
    rw [List.drop_of_length_le (by omega)]; simp [weakL]
  | succ d ih =>
    intro i acc hi ha
    have hlt : i < l.length := by omega
    have hx := hw _ (List.getElem_mem hlt)
    have nx : ∀ v : Int, v = (if 0 ≤ l[i] ∧ rdOf false m l[i] = true then l[i] else -1) → Ev (fun k => spec_WeakLeft.l0 k l m (acc ++ [v]) ((i + 1 : Nat) : Int)) (acc ++ weakL m (l.drop i)) := fun v hv => by
      refine ev_eq (ih (i + 1) (acc ++ [v]) (by omega) (by simp; omega)) ?_
      rw [List.drop_eq_getElem_cons hlt, hv]
      simp only [weakL, List.map_cons, List.append_assoc, List.singleton_append]
    refine ev_succ ?_
    simp only [spec_WeakLeft.l0]
    rw [rd_at l i hlt, next_i i (by omega)]
    refine ev_pos (by omega) (ev_pos (by omega) ?_)
    by_cases h0 : 0 ≤ l[i]
    · refine ev_pos (by omega) (ev_pos (by omega) (ev_pos (by omega) ?_))
      by_cases h1 : rdOf false m l[i] = true
      · exact ev_pos h1 (ev_pos (by omega) (nx _ (by rw [if_pos ⟨h0, h1⟩])))
      · exact ev_neg h1 (ev_pos (by omega) (nx _ (by rw [if_neg (fun z => h1 z.2)])))
    · exact ev_neg (by omega) (ev_pos (by omega) (nx _ (by rw [if_neg (fun z => h0 z.1)])))
def weakR (refs : List (List Int)) (m : List Bool) (l : List Int) : List Int := if weakB refs.length l = true then weakL m l else []
theorem impl_weak_from (refs : List (List Int)) (l : List Int) (m : List Bool) (hm : m.length = refs.length) (hl : l.length ≤ 1048576) (d : Nat) : ∀ (i : Nat), i + d = l.length → weakB refs.length (l.take i) = true → Ev (fun k => impl_WeakLeft.l0 k refs m (weakL m (l.take i) ++ l.drop i) l (l.length : Int) (i : Int)) (weakR refs m l) := by
  induction d with
  | zero =>
    intro i hi hw
    refine ev_succ ?_
    simp only [impl_WeakLeft.l0]
    refine ev_neg (by omega) (ev_some (congrArg some ?_))
    rw [List.take_of_length_le (by omega)] at hw ⊢
    rw [List.drop_of_length_le (by omega), weakR, if_pos hw, List.append_nil]
  | succ d ih =>
    intro i hi hw
    have hlt : i < l.length := by omega
    have htk : l.take (i + 1) = l.take i ++ [l[i]] := List.take_succ_eq_append_getElem hlt
    have hll : (weakL m (l.take i)).length = i := by simp [weakL]; omega
    have hsp : l = l.take i ++ (l[i] :: l.drop (i + 1)) := by rw [← List.drop_eq_getElem_cons hlt, List.take_append_drop]
    have bad : ¬ (-1 ≤ l[i] ∧ l[i] < (refs.length : Int)) → weakR refs m l = [] := fun hb => by
      have : ¬ weakB refs.length l = true := by
        rw [weakB, List.all_eq_true]
        intro h
        exact hb (of_decide_eq_true (h _ (List.getElem_mem hlt)))
      rw [weakR, if_neg this]
    have nx : (-1 ≤ l[i] ∧ l[i] < (refs.length : Int)) → Ev (fun k => impl_WeakLeft.l0 k refs m (weakL m (l.take i) ++ ((if 0 ≤ l[i] ∧ rdOf false m l[i] = true then l[i] else -1) :: l.drop (i + 1))) l (l.length : Int) ((i + 1 : Nat) : Int)) (weakR refs m l) := fun hx => by
      have := ih (i + 1) (by omega) (by
        rw [htk, weakB, List.all_append, Bool.and_eq_true]
        exact ⟨hw, by simp [hx]⟩)
      rw [htk] at this
      simp only [weakL, List.map_append, List.map_cons, List.map_nil, List.append_assoc, List.singleton_append] at this
      exact this
    have J : ∀ z : Bool, (z = true ↔ ¬ (-1 ≤ l[i] ∧ l[i] < (refs.length : Int))) → Ev (fun k => impl_WeakLeft.j2 k refs m (weakL m (l.take i) ++ l.drop i) (i : Int) l[i] l (l.length : Int) (i : Int) z) (weakR refs m l) := by
      intro z hz
      refine ev_succ ?_
      simp only [impl_WeakLeft.j2]
      rw [next_i i (by omega)]
      by_cases hx : -1 ≤ l[i] ∧ l[i] < (refs.length : Int)
      · refine ev_neg (fun h => hz.1 h hx) ?_
        have nx := nx hx
        by_cases h0 : l[i] ≥ 0
        · refine ev_pos h0 (ev_pos (by omega) (ev_pos (by omega) ?_))
          by_cases h1 : rdOf false m l[i] = true
          · refine ev_pos h1 ?_
            rw [if_pos ⟨h0, h1⟩] at nx
            rw [List.drop_eq_getElem_cons hlt]
            exact nx
          · refine ev_neg h1 (ev_pos (by omega) (ev_pos (by rw [List.length_append, hll, List.length_drop]; omega) ?_))
            rw [if_neg (fun z => h1 z.2)] at nx
            have e : (weakL m (l.take i) ++ l.drop i).set ((i : Int)).toNat (-1) = weakL m (l.take i) ++ (-1 :: l.drop (i + 1)) := by
              rw [Int.toNat_natCast, List.set_append_right _ _ (by omega), hll, Nat.sub_self, List.drop_eq_getElem_cons hlt, List.set_cons_zero]
            rw [e]
            exact nx
        · refine ev_neg h0 ?_
          rw [if_neg (fun z => h0 z.1)] at nx
          have e : l[i] = -1 := by omega
          rw [List.drop_eq_getElem_cons hlt, e]
          exact nx
      · exact ev_pos (hz.2 hx) (ev_some (by rw [bad hx]))
    refine ev_succ ?_
    simp only [impl_WeakLeft.l0]
    rw [rd_at l i hlt]
    refine ev_pos (by omega) (ev_pos (by omega) (ev_pos (by omega) ?_))
    by_cases h : l[i] < -1
    · exact ev_pos h (J true (by simp; omega))
    · exact ev_neg h (J _ (by simp; omega))
theorem graph_ixr {refs : List (List Int)} {roots : List Int} (hg : graphB refs roots = true) : refs.length ≤ 12 ∧ (∀ r ∈ refs, r.length ≤ 5) ∧ (∀ r ∈ refs, IxR refs.length r) ∧ roots.length ≤ 12 ∧ IxR refs.length roots := by
  obtain ⟨g1, g2, g3, g4, g5⟩ := graph_partsR hg
  exact ⟨g1, g2, fun r hr x hm => idx_memR (g3 r hr) hm, g4, fun x hm => idx_memR g5 hm⟩
theorem weak_ev (refs : List (List Int)) (roots l : List Int) (hn : refs.length ≤ 1048576) (hr : ∀ l ∈ refs, l.length ≤ 1048576) (hl : roots.length ≤ 1048576) (hw : l.length ≤ 1048576) :
    ∃ r, Ev (fun k => impl_WeakLeft.f k refs roots l) r ∧ Ev (fun k => spec_WeakLeft.f k refs roots l) r ∧ r.length ≤ 1048576 := by
  have noS : Ev (fun k => spec_WeakLeft.j0 k refs roots l true) [] := by
    refine ev_succ ?_
    simp only [spec_WeakLeft.j0]
    exact ev_pos trivial (ev_some rfl)
  have noI : Ev (fun k => impl_WeakLeft.j0 k refs roots l true) [] := by
    refine ev_succ ?_
    simp only [impl_WeakLeft.j0]
    exact ev_pos trivial (ev_some rfl)
  cases hg : graphB refs roots with
  | false =>
    refine ⟨[], ?_, ?_, by simp⟩
    · unfold impl_WeakLeft.f
      refine Ev.bind (graph_ev refs roots hn hr hl) ?_
      rw [hg]
      exact ev_neg (by simp) noI
    · unfold spec_WeakLeft.f
      refine Ev.bind (refs_ev refs hn hr) ?_
      cases h1 : refsB refs with
      | false => exact ev_neg (by simp) noS
      | true =>
        refine ev_pos rfl (Ev.bind (roots_ev roots (refs.length : Int) (by omega) (by omega) hl) ?_)
        rw [graphB, h1, Bool.true_and] at hg
        rw [hg]
        exact ev_neg (by simp) noS
  | true =>
    obtain ⟨g1, g2, g3, g4, g5⟩ := graph_ixr hg
    obtain ⟨m, E1, E2, F⟩ := reach_both refs roots g1 (by omega) g2 g3 g5
    have hml : m.length = refs.length := F.1
    have W := spec_weaks l (refs.length : Int) (by omega) (by omega) hw l.length 0 (by omega)
    rw [List.drop_zero] at W
    have hg' := hg
    rw [graphB, Bool.and_eq_true] at hg'
    by_cases h12 : l.length ≤ 12
    · rw [decide_eq_true h12, Bool.and_true] at W
      refine ⟨weakR refs m l, ?_, ?_, ?_⟩
      · unfold impl_WeakLeft.f
        refine Ev.bind (graph_ev refs roots hn hr hl) ?_
        rw [hg, decide_eq_false (by omega)]
        refine ev_pos rfl (ev_succ ?_)
        simp only [impl_WeakLeft.j0]
        refine ev_neg (by simp) (Ev.bind E1 (ev_bind1 (a := l) ?_ ?_))
        · unfold slices_Clone_int_int.f
          rw [if_pos (by omega)]
        · have := impl_weak_from refs l m hml hw l.length 0 (by omega) (by simp [weakB])
          simpa [weakL] using this
      · unfold spec_WeakLeft.f
        refine Ev.bind (refs_ev refs hn hr) ?_
        rw [hg'.1]
        refine ev_pos rfl (Ev.bind (roots_ev roots (refs.length : Int) (by omega) (by omega) hl) ?_)
        rw [hg'.2]
        refine ev_pos rfl ?_
        unfold spec_validWeaks.f
        refine Ev.bind W ?_
        cases hb : weakB (refs.length : Int) l with
        | false =>
          rw [weakR, hb]
          exact noS
        | true =>
          rw [weakR, if_pos hb]
          refine ev_succ ?_
          simp only [spec_WeakLeft.j0]
          refine ev_neg (by simp) (Ev.bind E2 ?_)
          have hwb : ∀ x ∈ l, -1 ≤ x ∧ x < (refs.length : Int) := fun x hx => by
            rw [weakB, List.all_eq_true] at hb
            exact of_decide_eq_true (hb x hx)
          refine ev_eq (spec_weak_from l m refs.length hml hw hwb l.length 0 [] (by omega) rfl) ?_
          rw [List.nil_append, List.drop_zero]
      · unfold weakR
        split
        · simp [weakL]; omega
        · simp
    · rw [decide_eq_false h12, Bool.and_false] at W
      refine ⟨[], ?_, ?_, by simp⟩
      · unfold impl_WeakLeft.f
        refine Ev.bind (graph_ev refs roots hn hr hl) ?_
        rw [hg, decide_eq_true (by omega)]
        exact ev_pos rfl noI
      · unfold spec_WeakLeft.f
        refine Ev.bind (refs_ev refs hn hr) ?_
        rw [hg'.1]
        refine ev_pos rfl (Ev.bind (roots_ev roots (refs.length : Int) (by omega) (by omega) hl) ?_)
        rw [hg'.2]
        refine ev_pos rfl ?_
        unfold spec_validWeaks.f
        exact Ev.bind W noS

theorem FnExactWeakLeft (refs : List (List Int)) (roots set : List Int) (h1 : refs.length ≤ 9223372036854775807) (h2 : ∀ r ∈ refs, r.length ≤ 9223372036854775807) : ∃ k, laws_FnExactWeakLeft.f k refs roots set = some true := by
  refine Ev.rounds ?_
  unfold laws_FnExactWeakLeft.f
  by_cases hl : (roots.length : Int) > 1048576
  · exact ev_pos hl (ev_some rfl)
  refine ev_neg hl ?_
  by_cases hl2 : (set.length : Int) > 1048576
  · exact ev_pos hl2 (ev_some rfl)
  refine ev_neg hl2 ?_
  have hs' : set.length ≤ 1048576 := by omega
  obtain ⟨z, Z, hz⟩ := szSum_ev refs h1 h2
  refine Ev.bind Z ?_
  by_cases h0 : z < 0
  · exact ev_pos h0 (ev_some rfl)
  refine ev_neg h0 ?_
  obtain ⟨hn, hs⟩ := hz (by omega)
  have hr : ∀ r ∈ refs, r.length ≤ 1048576 := fun r hm => by have := lenSum_mem refs r hm; omega
  have hl' : roots.length ≤ 1048576 := by omega
  have T := toIntSS_ev refs hn hr
  have U := toInt_ev roots hl'
  have V := toInt_ev set hs'
  obtain ⟨r, I, S, hlen⟩ := weak_ev refs roots set hn hr hl' hs'
  have E := eqSelf_ev r hlen
  have M := mark_ev r 1 hlen (by omega) (by omega)
  have H := held_ev 1 r.length hlen (by omega) (by omega)
  refine Ev.bind T (Ev.bind U (Ev.bind V (Ev.bind S (Ev.bind T (Ev.bind U (Ev.bind V (Ev.bind I (Ev.bind E (ev_pos rfl (Ev.bind T (Ev.bind (eqSelfSS_ev refs hn hr) (ev_pos rfl (Ev.bind U (Ev.bind (eqSelf_ev roots hl') (ev_pos rfl (Ev.bind V (Ev.bind (eqSelf_ev set hs') (ev_pos rfl (Ev.bind (markSS_ev refs hn hs) (Ev.bind (mark_ev roots _ hl' (by omega) (by omega)) (Ev.bind (mark_ev set _ hs' (by simp only []; omega) (by simp only []; omega)) (ev_neg (by simp only []; omega) (Ev.bind E (ev_succ ?_))))))))))))))))))))))))
  simp only [laws_FnExactWeakLeft.j0]
  exact ev_neg (by simp) (Ev.bind M (Ev.bind H (ev_neg (by omega) (ev_pos rfl (Ev.bind T (Ev.bind U (Ev.bind V (Ev.bind I (Ev.bind E (ev_pos rfl (Ev.bind H (ev_neg (by omega) (ev_pos rfl (ev_some rfl))))))))))))))

end Go.Proofs.Ytpnamllkeaaeeaa.Pure
