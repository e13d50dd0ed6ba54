/- FnExactDropRoot: the program frees what a dropped root held as the reference does, for all references and roots of at most 2^20 numbers and every index. -/
import Derived.Test.YtpnamllkeaaeeaaXFnExactDropRootx7
namespace Go.Proofs.Ytpnamllkeaaeeaa.Pure
open Go.RowKit Go.Proofs.Ytpnamllkeaaeeaa.XFnExactDropRoot Go.Proofs.YtpnamllkeaaeeaaW.PrintWords Go.Proofs.YtpnamllkeaaeeaaW.PrintLast Go.Proofs.YtpnamllkeaaeeaaW.PrintMore
set_option linter.unusedVariables false
set_option linter.unusedSimpArgs false

/-! ### Rounds, and words of 64 bits -/
theorem ev_succ {α : Type} {g : Nat → Option α} {r : α} (h : Ev (fun k => g (k + 1)) r) : Ev g r := Ev.step (fun _ => rfl) h
theorem ev_some {α : Type} {o : Option α} {r : α} (h : o = some r) : Ev (fun _ => o) r := ⟨0, fun _ _ => h⟩
theorem ev_pos {α : Type} {c : Prop} [Decidable c] {A B : Nat → Option α} {r : α} (h : c) (k : Ev A r) : Ev (fun n => if c then A n else B n) r :=
  Ev.congr (fun _ => if_pos h) k
theorem ev_neg {α : Type} {c : Prop} [Decidable c] {A B : Nat → Option α} {r : α} (h : ¬ c) (k : Ev B r) : Ev (fun n => if c then A n else B n) r :=
  Ev.congr (fun _ => if_neg h) k
theorem ev_eq {α : Type} {g : Nat → Option α} {r s : α} (h : Ev g r) (e : r = s) : Ev g s := e ▸ h
theorem ev_bind1 {α β : Type} {o : Option α} {f : Nat → α → Option β} {a : α} {r : β} (h : o = some a) (k : Ev (fun n => f n a) r) : Ev (fun n => o.bind (f n)) r :=
  Ev.bind (ev_some h) k
theorem ev_det {α : Type} {g : Nat → Option α} {r s : α} (h : Ev g r) (k : Ev g s) : r = s := by
  obtain ⟨K, h⟩ := h
  obtain ⟨L, k⟩ := k
  have h1 := h (max K L) (by omega)
  have h2 := k (max K L) (by omega)
  rw [h1] at h2
  exact Option.some.inj h2
theorem w64 {n : Int} (h : -9223372036854775808 ≤ n) (h' : n ≤ 9223372036854775807) : wrap64 n = n := by unfold wrap64; omega
theorem byte_of {l : List Int} (h : ∀ x ∈ l, (Lit.int .u8 x).wf = true) (i : Int) : 0 ≤ rd l i ∧ rd l i ≤ 255 := by
  unfold rd
  by_cases hi : i.toNat < l.length
  · have hm : l.getD i.toNat 0 ∈ l := by
      rw [List.getD_eq_getElem?_getD, List.getElem?_eq_getElem hi]
      exact List.getElem_mem hi
    have := h _ hm
    have m0 : IntKind.u8.min = 0 := by decide
    have m1 : IntKind.u8.max = 255 := by decide
    simp only [Lit.wf, m0, m1, Bool.and_eq_true, decide_eq_true_eq] at this
    exact this
  · rw [List.getD_eq_getElem?_getD, List.getElem?_eq_none (by omega)]
    simp

/-! ### Reading a list -/
theorem rd_at (l : List Int) (i : Nat) (h : i < l.length) : rd l (i : Int) = l[i] := by
  unfold rd
  simp [List.getD_eq_getElem?_getD, h]
theorem next_i (i : Nat) (h : i ≤ 4611686018427387904) : wrap64 ((i : Int) + 1) = ((i + 1 : Nat) : Int) := by rw [w64 (by omega) (by omega)]; omega

/-! ### Lists of numbers: copied, compared -/
theorem toInt_from (l : List Int) (hl : l.length ≤ 1048576) (d : Nat) : ∀ (i : Nat) (x : List Int), i + d = l.length → x.length = l.length → x.take i = l.take i → Ev (fun k => laws_toIntS.l0 k l x (i : Int)) l := by
  induction d with
  | zero =>
    intro i x hi hx ht
    refine ev_succ ?_
    simp only [laws_toIntS.l0]
    refine ev_neg (by omega) (ev_some ?_)
    rw [List.take_of_length_le (by omega), List.take_of_length_le (by omega)] at ht
    rw [ht]
  | succ d ih =>
    intro i x hi hx ht
    refine ev_succ ?_
    simp only [laws_toIntS.l0]
    refine ev_pos (by omega) (ev_pos (by omega) (ev_pos (by omega) ?_))
    rw [next_i i (by omega), rd_at l i (by omega)]
    refine ih (i + 1) _ (by omega) (by simp [hx]) ?_
    have hi' : i < x.length := by omega
    rw [List.take_succ_eq_append_getElem (by simp; omega), List.take_succ_eq_append_getElem (by omega)]
    simp only [Int.toNat_natCast, List.getElem_set_self]
    rw [List.take_set_of_le (Nat.le_refl i), ht]

theorem toInt_ev (l : List Int) (hl : l.length ≤ 1048576) : Ev (fun k => laws_toIntS.f k l) l := by
  unfold laws_toIntS.f
  refine ev_pos (by omega) (ev_pos (by simp; omega) ?_)
  exact toInt_from l hl l.length 0 _ (by omega) (by simp) (by simp)

theorem eqSelf_from (l : List Int) (hl : l.length ≤ 1048576) (d : Nat) : ∀ (i : Nat), i + d = l.length → Ev (fun k => laws_eqIntS.l0 k l l (i : Int)) true := by
  induction d with
  | zero =>
    intro i hi
    refine ev_succ ?_
    simp only [laws_eqIntS.l0]
    exact ev_neg (by omega) (ev_some rfl)
  | succ d ih =>
    intro i hi
    refine ev_succ ?_
    simp only [laws_eqIntS.l0]
    refine ev_pos (by omega) (ev_pos (by omega) (ev_pos (by omega) (ev_pos trivial ?_)))
    rw [next_i i (by omega)]
    exact ih (i + 1) (by omega)

theorem eqSelf_ev (l : List Int) (hl : l.length ≤ 1048576) : Ev (fun k => laws_eqIntS.f k l l) true := by
  unfold laws_eqIntS.f
  exact ev_pos rfl (eqSelf_from l hl l.length 0 (by omega))

/-! ### Graphs -/
theorem rdL_at (l : List (List Int)) (i : Nat) (h : i < l.length) : rd_L1 l (i : Int) = l[i] := by
  unfold rd_L1
  simp [List.getD_eq_getElem?_getD, h]
def idxB (n : Int) (l : List Int) : Bool := l.all fun k => decide (0 ≤ k ∧ k < n)
def rowB (n : Int) (l : List Int) : Bool := decide (l.length ≤ 5) && idxB n l
def refsB (refs : List (List Int)) : Bool := decide (refs.length ≤ 12) && refs.all (rowB refs.length)
def rootsB (n : Int) (roots : List Int) : Bool := decide (roots.length ≤ 12) && idxB n roots
def graphB (refs : List (List Int)) (roots : List Int) : Bool := refsB refs && rootsB refs.length roots

theorem idx_cons (n x : Int) (l : List Int) : idxB n (x :: l) = (decide (0 ≤ x ∧ x < n) && idxB n l) := rfl
theorem indices_from (l : List Int) (n : Int) (hl : l.length ≤ 1048576) (d : Nat) : ∀ i : Nat, i + d = l.length → Ev (fun k => impl_indicesOk.l0 k n l (l.length : Int) (i : Int)) (idxB n (l.drop i)) := by
  induction d with
  | zero =>
    intro i hi
    refine ev_succ ?_
    simp only [impl_indicesOk.l0]
    refine ev_neg (by omega) (ev_some ?_)
    rw [List.drop_of_length_le (by omega)]; rfl
  | succ d ih =>
    intro i hi
    have hlt : i < l.length := by omega
    refine ev_succ ?_
    simp only [impl_indicesOk.l0]
    rw [rd_at l i hlt, next_i i (by omega), List.drop_eq_getElem_cons hlt]
    refine ev_pos (by omega) (ev_pos (by omega) (ev_pos (by omega) ?_))
    by_cases h1 : l[i] < 0
    · exact ev_pos h1 (ev_some (by rw [idx_cons, decide_eq_false (by omega)]; rfl))
    · refine ev_neg h1 ?_
      by_cases h2 : l[i] ≥ n
      · exact ev_pos h2 (ev_some (by rw [idx_cons, decide_eq_false (by omega)]; rfl))
      · refine ev_neg h2 (ev_eq (ih (i + 1) (by omega)) ?_)
        have : decide (0 ≤ l[i] ∧ l[i] < n) = true := decide_eq_true (by omega)
        rw [idx_cons, this, Bool.true_and]
theorem indices_ev (l : List Int) (n : Int) (hl : l.length ≤ 1048576) : Ev (fun k => impl_indicesOk.f k l n) (idxB n l) := indices_from l n hl l.length 0 (by omega)

theorem graph_from (refs : List (List Int)) (hn : refs.length ≤ 1048576) (hr : ∀ l ∈ refs, l.length ≤ 1048576) (d : Nat) : ∀ i : Nat, i + d = refs.length →
    Ev (fun k => impl_GraphOk.l0 k refs refs (refs.length : Int) (i : Int)) ((refs.drop i).all (rowB refs.length)) := by
  induction d with
  | zero =>
    intro i hi
    refine ev_succ ?_
    simp only [impl_GraphOk.l0]
    refine ev_neg (by omega) (ev_some ?_)
    rw [List.drop_of_length_le (by omega)]; rfl
  | succ d ih =>
    intro i hi
    have hlt : i < refs.length := by omega
    refine ev_succ ?_
    simp only [impl_GraphOk.l0]
    rw [rdL_at refs i hlt, next_i i (by omega), List.drop_eq_getElem_cons hlt, List.all_cons]
    refine ev_pos (by omega) (ev_pos (by omega) (ev_pos (by omega) ?_))
    by_cases h1 : (refs[i].length : Int) > 5
    · exact ev_pos h1 (ev_some (by rw [rowB, decide_eq_false (by omega)]; rfl))
    · refine ev_neg h1 (Ev.bind (indices_ev refs[i] (refs.length : Int) (hr _ (List.getElem_mem hlt))) ?_)
      have e : rowB refs.length refs[i] = idxB refs.length refs[i] := by rw [rowB, decide_eq_true (by omega)]; rfl
      rw [e]
      cases idxB (refs.length : Int) refs[i] with
      | true => exact ev_pos rfl (ev_eq (ih (i + 1) (by omega)) (by simp))
      | false => exact ev_neg (by simp) (ev_some (by simp))

theorem graph_ev (refs : List (List Int)) (roots : List Int) (hn : refs.length ≤ 1048576) (hr : ∀ l ∈ refs, l.length ≤ 1048576) (hl : roots.length ≤ 1048576) : Ev (fun k => impl_GraphOk.f k refs roots) (graphB refs roots) := by
  have no : Ev (fun k => impl_GraphOk.j0 k refs true) false := by
    refine ev_succ ?_
    simp only [impl_GraphOk.j0]
    exact ev_pos trivial (ev_some rfl)
  unfold impl_GraphOk.f
  by_cases h1 : (refs.length : Int) > 12
  · refine ev_pos h1 (ev_eq no ?_)
    rw [graphB, refsB, decide_eq_false (by omega)]; rfl
  refine ev_neg h1 ?_
  by_cases h2 : (roots.length : Int) > 12
  · refine ev_pos h2 (ev_eq no ?_)
    rw [graphB, rootsB, decide_eq_false (by omega : ¬ roots.length ≤ 12)]; simp
  refine ev_neg h2 (Ev.bind (indices_ev roots (refs.length : Int) hl) ?_)
  have e : rootsB (refs.length : Int) roots = idxB refs.length roots := by rw [rootsB, decide_eq_true (by omega)]; rfl
  have e2 : refsB refs = refs.all (rowB refs.length) := by rw [refsB, decide_eq_true (by omega)]; rfl
  rw [graphB, e, e2]
  cases idxB (refs.length : Int) roots with
  | false => exact ev_eq no (by simp)
  | true =>
    refine ev_succ ?_
    simp only [impl_GraphOk.j0]
    refine ev_neg (by simp) (ev_eq (graph_from refs hn hr refs.length 0 (by omega)) (by simp))

theorem in_idx (k n : Int) (hn : 0 ≤ n) (hn' : n ≤ 1048576) : spec_inRange.f k 0 (wrap64 (n - 1)) = some (decide (0 ≤ k ∧ k < n)) := by
  have hw : wrap64 (n - 1) = n - 1 := w64 (by omega) (by omega)
  unfold spec_inRange.f
  rw [hw]
  by_cases h : k ≥ 0
  · have h' : 0 ≤ k := h
    rw [if_pos h]; congr 1; simp [h']; omega
  · rw [if_neg h, decide_eq_false (by omega)]

theorem roots_from (l : List Int) (n : Int) (hn : 0 ≤ n) (hn' : n ≤ 1048576) (hl : l.length ≤ 1048576) (d : Nat) : ∀ i : Nat, i + d = l.length → Ev (fun k => spec_validRoots.l0 k l n (i : Int)) (idxB n (l.drop i) && decide (l.length ≤ 12)) := by
  induction d with
  | zero =>
    intro i hi
    refine ev_succ ?_
    simp only [spec_validRoots.l0]
    refine ev_neg (by omega) (ev_some ?_)
    rw [List.drop_of_length_le (by omega)]; simp [idxB]; omega
  | succ d ih =>
    intro i hi
    have hlt : i < l.length := by omega
    refine ev_succ ?_
    simp only [spec_validRoots.l0]
    rw [rd_at l i hlt, next_i i (by omega), List.drop_eq_getElem_cons hlt]
    refine ev_pos (by omega) (ev_pos (by omega) (ev_bind1 (in_idx _ _ hn hn') ?_))
    simp only [idxB, List.all_cons]
    by_cases h : decide (0 ≤ l[i] ∧ l[i] < n) = true
    · refine ev_pos h (ev_eq (ih (i + 1) (by omega)) ?_)
      rw [h, Bool.true_and]; rfl
    · refine ev_neg h (ev_some ?_)
      rw [Bool.not_eq_true] at h
      rw [h]; rfl
theorem roots_ev (l : List Int) (n : Int) (hn : 0 ≤ n) (hn' : n ≤ 1048576) (hl : l.length ≤ 1048576) : Ev (fun k => spec_validRoots.f k l n) (rootsB n l) := by
  unfold spec_validRoots.f
  refine ev_eq (roots_from l n hn hn' hl l.length 0 (by omega)) ?_
  rw [List.drop_zero, rootsB, Bool.and_comm]

theorem refs_from (refs : List (List Int)) (hn : refs.length ≤ 1048576) (hr : ∀ l ∈ refs, l.length ≤ 1048576) (d : Nat) : ∀ i : Nat, i + d = refs.length →
    Ev (fun k => spec_validGraph.l0 k refs (i : Int)) ((refs.drop i).all (rowB refs.length) && decide (refs.length ≤ 12)) := by
  induction d with
  | zero =>
    intro i hi
    refine ev_succ ?_
    simp only [spec_validGraph.l0]
    refine ev_neg (by omega) (ev_some ?_)
    rw [List.drop_of_length_le (by omega)]; simp; omega
  | succ d ih =>
    intro i hi
    have hlt : i < refs.length := by omega
    have hrow := hr _ (List.getElem_mem hlt)
    rw [List.drop_eq_getElem_cons hlt, List.all_cons]
    have row : ∀ (c j : Nat), j + c = refs[i].length → Ev (fun k => spec_validGraph.l1 k refs (i : Int) (j : Int)) ((idxB refs.length (refs[i].drop j) && decide (refs[i].length ≤ 5)) && ((refs.drop (i + 1)).all (rowB refs.length) && decide (refs.length ≤ 12))) := by
      intro c
      induction c with
      | zero =>
        intro j hj
        refine ev_succ ?_
        simp only [spec_validGraph.l1]
        rw [rdL_at refs i hlt]
        refine ev_pos (by omega) (ev_pos (by omega) (ev_neg (by omega) ?_))
        have e : idxB (refs.length : Int) (refs[i].drop j) = true := by rw [List.drop_of_length_le (by omega)]; rfl
        rw [e, next_i i (by omega)]
        by_cases h5 : (refs[i].length : Int) > 5
        · refine ev_pos h5 (ev_some ?_)
          rw [decide_eq_false (by omega : ¬ refs[i].length ≤ 5)]; rfl
        · refine ev_neg h5 (ev_eq (ih (i + 1) (by omega)) ?_)
          rw [decide_eq_true (by omega : refs[i].length ≤ 5)]; simp
      | succ c ihc =>
        intro j hj
        have hltj : j < refs[i].length := by omega
        refine ev_succ ?_
        simp only [spec_validGraph.l1]
        rw [rdL_at refs i hlt, rd_at _ j hltj, next_i j (by omega), List.drop_eq_getElem_cons hltj]
        refine ev_pos (by omega) (ev_pos (by omega) (ev_pos (by omega) (ev_pos (by omega) (ev_bind1 (in_idx _ _ (by omega) (by omega)) ?_))))
        simp only [idxB, List.all_cons]
        by_cases h : decide (0 ≤ refs[i][j] ∧ refs[i][j] < (refs.length : Int)) = true
        · refine ev_pos h (ev_eq (ihc (j + 1) (by omega)) ?_)
          rw [h, Bool.true_and]; rfl
        · refine ev_neg h (ev_some ?_)
          rw [Bool.not_eq_true] at h
          rw [h]; rfl
    refine ev_succ ?_
    simp only [spec_validGraph.l0]
    refine ev_pos (by omega) (ev_eq (row refs[i].length 0 (by omega)) ?_)
    rw [List.drop_zero, rowB, Bool.and_comm (idxB _ _), Bool.and_assoc, Bool.and_assoc, Bool.and_assoc]
theorem refs_ev (refs : List (List Int)) (hn : refs.length ≤ 1048576) (hr : ∀ l ∈ refs, l.length ≤ 1048576) : Ev (fun k => spec_validGraph.f k refs) (refsB refs) := by
  unfold spec_validGraph.f
  refine ev_eq (refs_from refs hn hr refs.length 0 (by omega)) ?_
  rw [List.drop_zero, refsB, Bool.and_comm]

/-! ### Lists of lists: how long, copied, compared -/
theorem szInt_ev (l : List Int) (a : Int) (ha : 0 ≤ a ∧ a ≤ 1048576) (hl : l.length ≤ 9223372036854775807) : laws_szIntS.f l a = some (if a - (l.length : Int) < 0 then -1 else a - l.length) := by
  have hw : wrap64 (a - (l.length : Int)) = a - l.length := w64 (by omega) (by omega)
  unfold laws_szIntS.f
  rw [hw]; split <;> rfl
theorem szIntSS_from (l : List (List Int)) (hl : l.length ≤ 1048576) (hr : ∀ r ∈ l, r.length ≤ 9223372036854775807) (d : Nat) : ∀ (i : Nat) (a : Int), i + d = l.length → 0 ≤ a ∧ a ≤ 1048576 →
    ∃ r, Ev (fun k => laws_szIntSS.l0 k l a (i : Int)) r ∧ (0 ≤ r → ∀ x ∈ l.drop i, x.length ≤ 1048576) := by
  induction d with
  | zero =>
    intro i a hi ha
    refine ⟨a, ev_succ ?_, fun _ => by rw [List.drop_of_length_le (by omega)]; simp⟩
    simp only [laws_szIntSS.l0]
    exact ev_neg (by omega) (ev_some rfl)
  | succ d ih =>
    intro i a hi ha
    have hlt : i < l.length := by omega
    have hlr := hr _ (List.getElem_mem hlt)
    have e := szInt_ev l[i] a ha hlr
    by_cases h : a - (l[i].length : Int) < 0
    · refine ⟨-1, ev_succ ?_, fun h0 => absurd h0 (by omega)⟩
      simp only [laws_szIntSS.l0]
      rw [rdL_at l i hlt]
      rw [if_pos h] at e
      exact ev_pos (by omega) (ev_pos (by omega) (ev_bind1 e (ev_pos (by omega) (ev_some rfl))))
    · rw [if_neg h] at e
      obtain ⟨r, hr', hx⟩ := ih (i + 1) (a - l[i].length) (by omega) (by omega)
      refine ⟨r, ev_succ ?_, fun h0 => ?_⟩
      · simp only [laws_szIntSS.l0]
        rw [rdL_at l i hlt, next_i i (by omega)]
        exact ev_pos (by omega) (ev_pos (by omega) (ev_bind1 e (ev_neg h hr')))
      · rw [List.drop_eq_getElem_cons hlt]
        intro x hm
        rcases List.mem_cons.1 hm with rfl | hm
        · omega
        · exact hx h0 x hm
theorem szIntSS_ev (l : List (List Int)) (hl : l.length ≤ 9223372036854775807) (hr : ∀ r ∈ l, r.length ≤ 9223372036854775807) :
    ∃ r, Ev (fun k => laws_szIntSS.f k l 1048576) r ∧ (0 ≤ r → l.length ≤ 1048576 ∧ ∀ x ∈ l, x.length ≤ 1048576) := by
  have hw : wrap64 (1048576 - (l.length : Int)) = 1048576 - l.length := w64 (by omega) (by omega)
  by_cases h : 1048576 - (l.length : Int) < 0
  · refine ⟨-1, ?_, fun h0 => absurd h0 (by omega)⟩
    unfold laws_szIntSS.f
    rw [hw]
    exact ev_pos h (ev_some rfl)
  · obtain ⟨r, e, hx⟩ := szIntSS_from l (by omega) hr l.length 0 (1048576 - l.length) (by omega) (by omega)
    refine ⟨r, ?_, fun h0 => ⟨by omega, hx h0⟩⟩
    unfold laws_szIntSS.f
    rw [hw]
    exact ev_neg h e
theorem toIntSS_from (l : List (List Int)) (hl : l.length ≤ 1048576) (hr : ∀ r ∈ l, r.length ≤ 1048576) (d : Nat) : ∀ (i : Nat) (x : List (List Int)), i + d = l.length → x.length = l.length → x.take i = l.take i → Ev (fun k => laws_toIntSS.l0 k l x (i : Int)) l := by
  induction d with
  | zero =>
    intro i x hi hx ht
    refine ev_succ ?_
    simp only [laws_toIntSS.l0]
    refine ev_neg (by omega) (ev_some ?_)
    rw [List.take_of_length_le (by omega), List.take_of_length_le (by omega)] at ht
    rw [ht]
  | succ d ih =>
    intro i x hi hx ht
    have hlt : i < l.length := by omega
    refine ev_succ ?_
    simp only [laws_toIntSS.l0]
    rw [rdL_at l i hlt, next_i i (by omega)]
    refine ev_pos (by omega) (ev_pos (by omega) (Ev.bind (toInt_ev _ (hr _ (List.getElem_mem hlt))) (ev_pos (by omega) ?_)))
    refine ih (i + 1) _ (by omega) (by simp [hx]) ?_
    have hi' : i < x.length := by omega
    rw [List.take_succ_eq_append_getElem (by simp; omega), List.take_succ_eq_append_getElem (by omega)]
    simp only [Int.toNat_natCast, List.getElem_set_self]
    rw [List.take_set_of_le (Nat.le_refl i), ht]
theorem toIntSS_ev (l : List (List Int)) (hl : l.length ≤ 1048576) (hr : ∀ r ∈ l, r.length ≤ 1048576) : Ev (fun k => laws_toIntSS.f k l) l := by
  unfold laws_toIntSS.f
  refine ev_pos (by omega) (ev_pos (by simp; omega) ?_)
  exact toIntSS_from l hl hr l.length 0 _ (by omega) (by simp) (by simp)
theorem eqSelfSS_from (l : List (List Int)) (hl : l.length ≤ 1048576) (hr : ∀ r ∈ l, r.length ≤ 1048576) (d : Nat) : ∀ (i : Nat), i + d = l.length → Ev (fun k => laws_eqIntSS.l0 k l l (i : Int)) true := by
  induction d with
  | zero =>
    intro i hi
    refine ev_succ ?_
    simp only [laws_eqIntSS.l0]
    exact ev_neg (by omega) (ev_some rfl)
  | succ d ih =>
    intro i hi
    have hlt : i < l.length := by omega
    refine ev_succ ?_
    simp only [laws_eqIntSS.l0]
    rw [rdL_at l i hlt, next_i i (by omega)]
    exact ev_pos (by omega) (ev_pos (by omega) (ev_pos (by omega) (Ev.bind (eqSelf_ev _ (hr _ (List.getElem_mem hlt))) (ev_pos rfl (ih (i + 1) (by omega))))))
theorem eqSelfSS_ev (l : List (List Int)) (hl : l.length ≤ 1048576) (hr : ∀ r ∈ l, r.length ≤ 1048576) : Ev (fun k => laws_eqIntSS.f k l l) true := by
  unfold laws_eqIntSS.f
  exact ev_pos rfl (eqSelfSS_from l hl hr l.length 0 (by omega))

/-! ### Counts -/
def bump (l : List Int) (k : Int) : List Int := l.set k.toNat (rd l k + 1)
def rowsC (refs : List (List Int)) (x : List Int) : List Int := refs.foldl (fun acc row => row.foldl bump acc) x
def countsL (refs : List (List Int)) (roots : List Int) : List Int := rowsC refs (roots.foldl bump (List.replicate refs.length 0))
theorem bump_length (l : List Int) (k : Int) : (bump l k).length = l.length := by simp [bump]
theorem foldb_length : ∀ (ks : List Int) (l : List Int), (ks.foldl bump l).length = l.length
  | [], _ => rfl
  | k :: ks, l => by rw [List.foldl_cons, foldb_length ks, bump_length]
theorem rowsC_length : ∀ (refs : List (List Int)) (x : List Int), (rowsC refs x).length = x.length
  | [], _ => rfl
  | r :: refs, x => by
    have := rowsC_length refs (r.foldl bump x)
    rw [foldb_length] at this
    exact this
def Bd (m : Int) (l : List Int) : Prop := ∀ x ∈ l, 0 ≤ x ∧ x ≤ m
theorem rd_bd {m : Int} {l : List Int} (h : Bd m l) (hm : 0 ≤ m) (k : Int) : 0 ≤ rd l k ∧ rd l k ≤ m := by
  unfold rd
  by_cases hk : k.toNat < l.length
  · rw [List.getD_eq_getElem?_getD, List.getElem?_eq_getElem hk]; exact h _ (List.getElem_mem hk)
  · rw [List.getD_eq_getElem?_getD, List.getElem?_eq_none (by omega)]; simp; omega
theorem bump_bd {m : Int} {l : List Int} (h : Bd m l) (hm : 0 ≤ m) (k : Int) : Bd (m + 1) (bump l k) := by
  intro x hx
  rcases List.mem_or_eq_of_mem_set hx with hx | rfl
  · have := h x hx; omega
  · have := rd_bd h hm k; omega
theorem foldb_bd : ∀ (ks : List Int) (l : List Int) (m : Int), Bd m l → 0 ≤ m → Bd (m + ks.length) (ks.foldl bump l)
  | [], l, m, h, _ => by simpa using h
  | k :: ks, l, m, h, hm => by
    have := foldb_bd ks (bump l k) (m + 1) (bump_bd h hm k) (by omega)
    rw [List.foldl_cons, List.length_cons]
    have e : m + 1 + (ks.length : Int) = m + ((ks.length + 1 : Nat) : Int) := by omega
    rw [e] at this; exact this
theorem idx_mem {n : Int} {l : List Int} (h : idxB n l = true) {x : Int} (hx : x ∈ l) : 0 ≤ x ∧ x < n := by
  rw [idxB, List.all_eq_true] at h
  simpa using h x hx

section
variable (refs : List (List Int)) (hn : refs.length ≤ 1048576) (hr : ∀ l ∈ refs, l.length ≤ 5) (hi : ∀ l ∈ refs, idxB refs.length l = true)
include hn hr hi
theorem impl_rows (d : Nat) : ∀ (i : Nat) (x : List Int) (m : Int), i + d = refs.length → x.length = refs.length → Bd m x → 0 ≤ m → m + 5 * d ≤ 1000000000 →
    Ev (fun k => impl_counts.l1 k x refs (refs.length : Int) (i : Int)) (rowsC (refs.drop i) x) := by
  induction d with
  | zero =>
    intro i x m hid hx _ _ _
    refine ev_succ ?_
    simp only [impl_counts.l1]
    refine ev_neg (by omega) (ev_some ?_)
    rw [List.drop_of_length_le (by omega)]; rfl
  | succ d ih =>
    intro i x m hid hx hb hm hmx
    have hlt : i < refs.length := by omega
    have hrow := hr _ (List.getElem_mem hlt)
    have hidx := hi _ (List.getElem_mem hlt)
    have row : ∀ (c j : Nat) (y : List Int) (m' : Int), j + c = refs[i].length → y.length = refs.length → Bd m' y → 0 ≤ m' → m' + c + 5 * d ≤ 1000000000 →
        Ev (fun k => impl_counts.l2 k y refs (refs.length : Int) (i : Int) refs[i] (refs[i].length : Int) (j : Int)) (rowsC (refs.drop (i + 1)) ((refs[i].drop j).foldl bump y)) := by
      intro c
      induction c with
      | zero =>
        intro j y m' hj hy hby hm' hmy
        refine ev_succ ?_
        simp only [impl_counts.l2]
        rw [next_i i (by omega)]
        refine ev_neg (by omega) (ev_eq (ih (i + 1) y m' (by omega) hy hby hm' (by omega)) ?_)
        rw [List.drop_of_length_le (by omega : refs[i].length ≤ j)]; rfl
      | succ c ihc =>
        intro j y m' hj hy hby hm' hmy
        have hltj : j < refs[i].length := by omega
        have hk := idx_mem hidx (List.getElem_mem hltj)
        have hv := rd_bd hby hm' refs[i][j]
        have hw : wrap64 (rd y refs[i][j] + 1) = rd y refs[i][j] + 1 := w64 (by omega) (by omega)
        refine ev_succ ?_
        simp only [impl_counts.l2]
        rw [rd_at _ j hltj, next_i j (by omega), hw, List.drop_eq_getElem_cons hltj, List.foldl_cons]
        exact ev_pos (by omega) (ev_pos (by omega) (ev_pos (by omega) (ev_pos hk.1 (ev_pos (by omega) (ihc (j + 1) (bump y refs[i][j]) (m' + 1) (by omega) (by rw [bump_length, hy]) (bump_bd hby hm' _) (by omega) (by omega))))))
    refine ev_succ ?_
    simp only [impl_counts.l1]
    rw [rdL_at refs i hlt, List.drop_eq_getElem_cons hlt]
    exact ev_pos (by omega) (ev_pos (by omega) (ev_pos (by omega) (row refs[i].length 0 x m (by omega) hx hb hm (by omega))))
theorem impl_roots (roots : List Int) (hl : roots.length ≤ 1048576) (hir : idxB refs.length roots = true) (d : Nat) : ∀ (i : Nat) (x : List Int) (m : Int), i + d = roots.length → x.length = refs.length → Bd m x → 0 ≤ m → m + d + 5 * refs.length ≤ 1000000000 →
    Ev (fun k => impl_counts.l0 k refs x roots (roots.length : Int) (i : Int)) (rowsC refs ((roots.drop i).foldl bump x)) := by
  induction d with
  | zero =>
    intro i x m hid hx hb hm hmx
    refine ev_succ ?_
    simp only [impl_counts.l0]
    refine ev_neg (by omega) (ev_eq (impl_rows refs hn hr hi refs.length 0 x m (by omega) hx hb hm (by omega)) ?_)
    rw [List.drop_of_length_le (by omega : roots.length ≤ i)]; rfl
  | succ d ih =>
    intro i x m hid hx hb hm hmx
    have hlt : i < roots.length := by omega
    have hk := idx_mem hir (List.getElem_mem hlt)
    have hv := rd_bd hb hm roots[i]
    have hw : wrap64 (rd x roots[i] + 1) = rd x roots[i] + 1 := w64 (by omega) (by omega)
    refine ev_succ ?_
    simp only [impl_counts.l0]
    rw [rd_at _ i hlt, next_i i (by omega), hw, List.drop_eq_getElem_cons hlt, List.foldl_cons]
    exact ev_pos (by omega) (ev_pos (by omega) (ev_pos (by omega) (ev_pos hk.1 (ev_pos (by omega) (ih (i + 1) (bump x roots[i]) (m + 1) (by omega) (by rw [bump_length, hx]) (bump_bd hb hm _) (by omega) (by omega))))))
theorem impl_counts_ev (roots : List Int) (hl : roots.length ≤ 1048576) (hir : idxB refs.length roots = true) : Ev (fun k => impl_counts.f k refs roots) (countsL refs roots) := by
  unfold impl_counts.f
  refine ev_pos (by omega) (ev_pos (by omega) ?_)
  have e : ((refs.length : Int)).toNat = refs.length := by omega
  rw [e]
  have := impl_roots refs hn hr hi roots hl hir roots.length 0 (List.replicate refs.length 0) 0 (by omega) (by simp) (by intro x hx; have := List.eq_of_mem_replicate hx; omega) (by omega) (by omega)
  exact this
theorem spec_rows (d : Nat) : ∀ (i : Nat) (x : List Int) (m : Int), i + d = refs.length → x.length = refs.length → Bd m x → 0 ≤ m → m + 5 * d ≤ 1000000000 →
    Ev (fun k => spec_countsOf.l1 k refs x (i : Int)) (rowsC (refs.drop i) x) := by
  induction d with
  | zero =>
    intro i x m hid hx _ _ _
    refine ev_succ ?_
    simp only [spec_countsOf.l1]
    refine ev_neg (by omega) (ev_some ?_)
    rw [List.drop_of_length_le (by omega)]; rfl
  | succ d ih =>
    intro i x m hid hx hb hm hmx
    have hlt : i < refs.length := by omega
    have hrow := hr _ (List.getElem_mem hlt)
    have hidx := hi _ (List.getElem_mem hlt)
    have row : ∀ (c j : Nat) (y : List Int) (m' : Int), j + c = refs[i].length → y.length = refs.length → Bd m' y → 0 ≤ m' → m' + c + 5 * d ≤ 1000000000 →
        Ev (fun k => spec_countsOf.l2 k refs y (i : Int) (j : Int)) (rowsC (refs.drop (i + 1)) ((refs[i].drop j).foldl bump y)) := by
      intro c
      induction c with
      | zero =>
        intro j y m' hj hy hby hm' hmy
        refine ev_succ ?_
        simp only [spec_countsOf.l2]
        rw [rdL_at refs i hlt, next_i i (by omega)]
        refine ev_pos (by omega) (ev_pos (by omega) (ev_neg (by omega) (ev_eq (ih (i + 1) y m' (by omega) hy hby hm' (by omega)) ?_)))
        rw [List.drop_of_length_le (by omega : refs[i].length ≤ j)]; rfl
      | succ c ihc =>
        intro j y m' hj hy hby hm' hmy
        have hltj : j < refs[i].length := by omega
        have hk := idx_mem hidx (List.getElem_mem hltj)
        have hv := rd_bd hby hm' refs[i][j]
        have hw : wrap64 (rd y refs[i][j] + 1) = rd y refs[i][j] + 1 := w64 (by omega) (by omega)
        refine ev_succ ?_
        simp only [spec_countsOf.l2]
        rw [rdL_at refs i hlt, rd_at _ j hltj, next_i j (by omega), hw, List.drop_eq_getElem_cons hltj, List.foldl_cons]
        exact ev_pos (by omega) (ev_pos (by omega) (ev_pos (by omega) (ev_pos (by omega) (ev_pos hk.1 (ev_pos (by omega) (ihc (j + 1) (bump y refs[i][j]) (m' + 1) (by omega) (by rw [bump_length, hy]) (bump_bd hby hm' _) (by omega) (by omega)))))))
    refine ev_succ ?_
    simp only [spec_countsOf.l1]
    rw [List.drop_eq_getElem_cons hlt]
    exact ev_pos (by omega) (row refs[i].length 0 x m (by omega) hx hb hm (by omega))
theorem spec_roots (roots : List Int) (hl : roots.length ≤ 1048576) (hir : idxB refs.length roots = true) (d : Nat) : ∀ (i : Nat) (x : List Int) (m : Int), i + d = roots.length → x.length = refs.length → Bd m x → 0 ≤ m → m + d + 5 * refs.length ≤ 1000000000 →
    Ev (fun k => spec_countsOf.l0 k refs roots x (i : Int)) (rowsC refs ((roots.drop i).foldl bump x)) := by
  induction d with
  | zero =>
    intro i x m hid hx hb hm hmx
    refine ev_succ ?_
    simp only [spec_countsOf.l0]
    refine ev_neg (by omega) (ev_eq (spec_rows refs hn hr hi refs.length 0 x m (by omega) hx hb hm (by omega)) ?_)
    rw [List.drop_of_length_le (by omega : roots.length ≤ i)]; rfl
  | succ d ih =>
    intro i x m hid hx hb hm hmx
    have hlt : i < roots.length := by omega
    have hk := idx_mem hir (List.getElem_mem hlt)
    have hv := rd_bd hb hm roots[i]
    have hw : wrap64 (rd x roots[i] + 1) = rd x roots[i] + 1 := w64 (by omega) (by omega)
    refine ev_succ ?_
    simp only [spec_countsOf.l0]
    rw [rd_at _ i hlt, next_i i (by omega), hw, List.drop_eq_getElem_cons hlt, List.foldl_cons]
    exact ev_pos (by omega) (ev_pos (by omega) (ev_pos hk.1 (ev_pos (by omega) (ih (i + 1) (bump x roots[i]) (m + 1) (by omega) (by rw [bump_length, hx]) (bump_bd hb hm _) (by omega) (by omega)))))
theorem spec_counts_ev (roots : List Int) (hl : roots.length ≤ 1048576) (hir : idxB refs.length roots = true) : Ev (fun k => spec_countsOf.f k refs roots) (countsL refs roots) := by
  unfold spec_countsOf.f
  refine ev_pos (by omega) (ev_pos (by omega) ?_)
  have e : ((refs.length : Int)).toNat = refs.length := by omega
  rw [e]
  have := spec_roots refs hn hr hi roots hl hir roots.length 0 (List.replicate refs.length 0) 0 (by omega) (by simp) (by intro x hx; have := List.eq_of_mem_replicate hx; omega) (by omega) (by omega)
  exact this
end
/-- What CountsOf answers. -/
def countsR (refs : List (List Int)) (roots : List Int) : List Int := if graphB refs roots = true then countsL refs roots else []
theorem graph_parts {refs : List (List Int)} {roots : List Int} (h : graphB refs roots = true) : refs.length ≤ 12 ∧ (∀ l ∈ refs, l.length ≤ 5) ∧ (∀ l ∈ refs, idxB refs.length l = true) ∧ roots.length ≤ 12 ∧ idxB refs.length roots = true := by
  simp only [graphB, refsB, rootsB, rowB, Bool.and_eq_true, decide_eq_true_eq, List.all_eq_true] at h
  exact ⟨h.1.1, fun l hl => (h.1.2 l hl).1, fun l hl => (h.1.2 l hl).2, h.2.1, h.2.2⟩
theorem countsL_length (refs : List (List Int)) (roots : List Int) : (countsL refs roots).length = refs.length := by
  rw [countsL, rowsC_length, foldb_length]; simp



/-! ### Lists of numbers: marked -/
def seqL (s : Int) (n : Nat) : List Int := (List.range n).map fun (i : Nat) => s + (i : Int)
theorem seqL_length (s : Int) (n : Nat) : (seqL s n).length = n := by simp [seqL]
theorem mark_from (l : List Int) (s : Int) (hl : l.length ≤ 1048576) (h0 : 0 ≤ s) (h1 : s ≤ 1000000000000) (d : Nat) : ∀ (i : Nat) (x : List Int), i + d = l.length → x.length = l.length → x.take i = seqL s i →
    Ev (fun k => laws_markIntS.l0 k x (s + (i : Int)) (i : Int)) (s + (l.length : Int), seqL s l.length) := by
  induction d with
  | zero =>
    intro i x hi hx ht
    refine ev_succ ?_
    simp only [laws_markIntS.l0]
    refine ev_neg (by omega) (ev_some ?_)
    rw [List.take_of_length_le (by omega)] at ht
    have : i = l.length := by omega
    subst this
    rw [ht]
  | succ d ih =>
    intro i x hi hx ht
    refine ev_succ ?_
    simp only [laws_markIntS.l0]
    refine ev_pos (by omega) (ev_pos (by omega) ?_)
    rw [next_i i (by omega), show wrap64 (s + (i : Int) + 1) = s + ((i + 1 : Nat) : Int) by rw [w64 (by omega) (by omega)]; omega]
    refine ih (i + 1) _ (by omega) (by simp [hx]) ?_
    rw [List.take_succ_eq_append_getElem (by simp; omega)]
    simp only [Int.toNat_natCast, List.getElem_set_self]
    rw [List.take_set_of_le (Nat.le_refl i), ht]
    simp [seqL, List.range_succ]

theorem mark_ev (l : List Int) (s : Int) (hl : l.length ≤ 1048576) (h0 : 0 ≤ s) (h1 : s ≤ 1000000000000) : Ev (fun k => laws_markIntS.f k l s) (s + (l.length : Int), seqL s l.length) := by
  have h := mark_from l s hl h0 h1 l.length 0 l (by omega) rfl (by simp [seqL])
  have e : s + ((0 : Nat) : Int) = s := by omega
  rw [e] at h
  exact h

theorem held_from (s : Int) (n : Nat) (hl : n ≤ 1048576) (h0 : 0 ≤ s) (h1 : s ≤ 1000000000000) (d : Nat) : ∀ (i : Nat), i + d = n → Ev (fun k => laws_heldIntS.l0 k (seqL s n) (s + (i : Int)) (i : Int)) (s + (n : Int)) := by
  induction d with
  | zero =>
    intro i hi
    refine ev_succ ?_
    simp only [laws_heldIntS.l0, seqL_length]
    refine ev_neg (by omega) (ev_some ?_)
    have : i = n := by omega
    rw [this]
  | succ d ih =>
    intro i hi
    refine ev_succ ?_
    simp only [laws_heldIntS.l0, seqL_length]
    refine ev_pos (by omega) (ev_pos (by omega) (ev_pos ?_ ?_))
    · rw [rd_at _ i (by rw [seqL_length]; omega)]; simp [seqL]
    · rw [next_i i (by omega), show wrap64 (s + (i : Int) + 1) = s + ((i + 1 : Nat) : Int) by rw [w64 (by omega) (by omega)]; omega]
      exact ih (i + 1) (by omega)

theorem held_ev (s : Int) (n : Nat) (hl : n ≤ 1048576) (h0 : 0 ≤ s) (h1 : s ≤ 1000000000000) : Ev (fun k => laws_heldIntS.f k (seqL s n) s) (s + (n : Int)) := by
  have h := held_from s n hl h0 h1 n 0 (by omega)
  have e : s + ((0 : Nat) : Int) = s := by omega
  rw [e] at h
  exact h

/-! ### Lists of lists: marked -/
def lenSum (l : List (List Int)) : Nat := (l.map List.length).sum
theorem lenSum_cons (r : List Int) (l : List (List Int)) : lenSum (r :: l) = r.length + lenSum l := by simp [lenSum]
theorem lenSum_mem : ∀ (l : List (List Int)) (r : List Int), r ∈ l → r.length ≤ lenSum l
  | [], r, h => by cases h
  | x :: l, r, h => by
    rw [lenSum_cons]
    rcases List.mem_cons.1 h with rfl | h
    · omega
    · have := lenSum_mem l r h; omega
theorem szSum_from (l : List (List Int)) (hl : l.length ≤ 1048576) (hr : ∀ r ∈ l, r.length ≤ 9223372036854775807) (d : Nat) : ∀ (i : Nat) (a : Int), i + d = l.length → 0 ≤ a ∧ a ≤ 1048576 →
    ∃ r, Ev (fun k => laws_szIntSS.l0 k l a (i : Int)) r ∧ (0 ≤ r → (lenSum (l.drop i) : Int) ≤ a) := by
  induction d with
  | zero =>
    intro i a hi ha
    refine ⟨a, ev_succ ?_, fun _ => by rw [List.drop_of_length_le (by omega)]; simp [lenSum]; omega⟩
    simp only [laws_szIntSS.l0]
    exact ev_neg (by omega) (ev_some rfl)
  | succ d ih =>
    intro i a hi ha
    have hlt : i < l.length := by omega
    have hlr := hr _ (List.getElem_mem hlt)
    have e := szInt_ev l[i] a ha hlr
    by_cases h : a - (l[i].length : Int) < 0
    · refine ⟨-1, ev_succ ?_, fun h0 => absurd h0 (by omega)⟩
      simp only [laws_szIntSS.l0]
      rw [rdL_at l i hlt]
      rw [if_pos h] at e
      exact ev_pos (by omega) (ev_pos (by omega) (ev_bind1 e (ev_pos (by omega) (ev_some rfl))))
    · rw [if_neg h] at e
      obtain ⟨r, hr', hx⟩ := ih (i + 1) (a - l[i].length) (by omega) (by omega)
      refine ⟨r, ev_succ ?_, fun h0 => ?_⟩
      · simp only [laws_szIntSS.l0]
        rw [rdL_at l i hlt, next_i i (by omega)]
        exact ev_pos (by omega) (ev_pos (by omega) (ev_bind1 e (ev_neg h hr')))
      · rw [List.drop_eq_getElem_cons hlt, lenSum_cons]
        have := hx h0
        omega
theorem szSum_ev (l : List (List Int)) (hl : l.length ≤ 9223372036854775807) (hr : ∀ r ∈ l, r.length ≤ 9223372036854775807) :
    ∃ r, Ev (fun k => laws_szIntSS.f k l 1048576) r ∧ (0 ≤ r → l.length ≤ 1048576 ∧ lenSum l ≤ 1048576) := by
  have hw : wrap64 (1048576 - (l.length : Int)) = 1048576 - l.length := w64 (by omega) (by omega)
  by_cases h : 1048576 - (l.length : Int) < 0
  · refine ⟨-1, ?_, fun h0 => absurd h0 (by omega)⟩
    unfold laws_szIntSS.f
    rw [hw]
    exact ev_pos h (ev_some rfl)
  · obtain ⟨r, e, hx⟩ := szSum_from l (by omega) hr l.length 0 (1048576 - l.length) (by omega) (by omega)
    refine ⟨r, ?_, fun h0 => ⟨by omega, by have := hx h0; rw [List.drop_zero] at this; omega⟩⟩
    unfold laws_szIntSS.f
    rw [hw]
    exact ev_neg h e
theorem markSS_from : ∀ (l : List (List Int)) (s : Int), 0 ≤ s → s + (lenSum l : Int) ≤ 1000000000 → lenSum l ≤ 1048576 → Ev (fun k => markSS k l s) (s + (lenSum l : Int))
  | [], s, _, _, _ => ev_some (by simp [lenSum])
  | r :: l, s, h0, h1, h2 => by
    rw [lenSum_cons] at h1 h2
    have key : Ev (fun k => markSS k l (s + (r.length : Int))) (s + (lenSum (r :: l) : Int)) := ev_eq (markSS_from l (s + (r.length : Int)) (by omega) (by omega) (by omega)) (by rw [lenSum_cons]; omega)
    exact Ev.bind (mark_ev r s (by omega) h0 (by omega)) key
theorem markSS_ev (l : List (List Int)) (hl : l.length ≤ 1048576) (hs : lenSum l ≤ 1048576) : Ev (fun k => laws_markIntSS.f k l 1) (1 + (lenSum l : Int)) := by
  unfold laws_markIntSS.f
  exact ev_pos (by omega) (markSS_from l 1 (by omega) (by omega) hs)

/-! ### What falls to nothing -/
def fallR : List Int → List Int × List Int → List Int × List Int
  | [], s => s
  | t :: ts, s => fallR ts (s.1.set t.toNat (rd s.1 t - 1), if rd (s.1.set t.toNat (rd s.1 t - 1)) t = 0 then s.2 ++ [t] else s.2)
def relT (refs : List (List Int)) : Nat → List Int → List Int → List Int → List Int × List Int
  | 0, c, _, o => (o, c)
  | m + 1, c, p, o => if p = [] then (o, c) else
    relT refs m (fallR (rd_L1 refs (p.getLastD 0)) (c, p.dropLast)).1 (fallR (rd_L1 refs (p.getLastD 0)) (c, p.dropLast)).2 (o ++ [p.getLastD 0])
def posC : List Int → Nat
  | [] => 0
  | x :: l => (if 0 < x then 1 else 0) + posC l
theorem posC_le : ∀ l : List Int, posC l ≤ l.length
  | [] => Nat.le_refl _
  | x :: l => by
    have := posC_le l
    unfold posC
    rw [List.length_cons]
    split <;> omega
theorem pos_set : ∀ (l : List Int) (j : Nat) (h : j < l.length), posC (l.set j (l[j] - 1)) + (if l[j] - 1 = 0 then 1 else 0) ≤ posC l
  | x :: l, 0, _ => by
    simp only [List.set_cons_zero, posC, List.getElem_cons_zero]
    split <;> split <;> split <;> omega
  | x :: l, j + 1, h => by
    have := pos_set l j (by simpa using h)
    simp only [List.set_cons_succ, posC, List.getElem_cons_succ]
    omega
def LB (B : Int) (c : List Int) : Prop := ∀ x ∈ c, -B ≤ x ∧ x ≤ 1000000
def Ix (n : Nat) (l : List Int) : Prop := ∀ x ∈ l, 0 ≤ x ∧ x < (n : Int)
theorem ix_nat {n : Nat} {l : List Int} (h : Ix n l) {x : Int} (hx : x ∈ l) : ∃ j : Nat, x = (j : Int) ∧ j < n := by
  have := h x hx
  exact ⟨x.toNat, by omega, by omega⟩
theorem lb_get {B : Int} {c : List Int} (h : LB B c) (j : Nat) (hj : j < c.length) : -B ≤ c[j] ∧ c[j] ≤ 1000000 := h _ (List.getElem_mem hj)
theorem lb_set {B : Int} {c : List Int} (h : LB B c) (j : Nat) (hj : j < c.length) : LB (B + 1) (c.set j (c[j] - 1)) := by
  intro x hx
  have h1 := lb_get h j hj
  rcases List.mem_or_eq_of_mem_set hx with hx | rfl
  · have := h x hx; omega
  · omega
theorem rd_set (c : List Int) (j : Nat) (hj : j < c.length) (v : Int) : rd (c.set j v) (j : Int) = v := by
  rw [rd_at _ j (by simpa using hj)]
  simp
theorem fall_parts : ∀ (r : List Int) (c p : List Int) (n : Nat) (B : Int), c.length = n → Ix n r → Ix n p → LB B c →
    (fallR r (c, p)).1.length = n ∧ posC (fallR r (c, p)).1 + (fallR r (c, p)).2.length ≤ posC c + p.length ∧ LB (B + r.length) (fallR r (c, p)).1 ∧ Ix n (fallR r (c, p)).2
  | [], c, p, n, B, hc, _, hp, hB => ⟨hc, Nat.le_refl _, by simpa [fallR] using hB, hp⟩
  | t :: r, c, p, n, B, hc, hr, hp, hB => by
    obtain ⟨j, rfl, hj⟩ := ix_nat hr (List.mem_cons_self)
    have hj' : j < c.length := by omega
    have hs := pos_set c j hj'
    have e1 : rd c (j : Int) = c[j] := rd_at c j hj'
    unfold fallR
    simp only [Int.toNat_natCast, e1, rd_set c j hj']
    have ih := fall_parts r (c.set j (c[j] - 1)) (if c[j] - 1 = 0 then p ++ [(j : Int)] else p) n (B + 1) (by simpa using hc) (fun x hx => hr x (List.mem_cons_of_mem _ hx)) (by
      split
      · intro x hx
        rcases List.mem_append.1 hx with h | h
        · exact hp x h
        · rw [List.mem_singleton.1 h]; omega
      · exact hp) (lb_set hB j hj')
    refine ⟨ih.1, ?_, ?_, ih.2.2.2⟩
    · refine Nat.le_trans ih.2.1 ?_
      split
      · rename_i h0
        rw [if_pos h0] at hs
        rw [List.length_append, List.length_singleton]
        omega
      · rename_i h0
        rw [if_neg h0] at hs
        omega
    · have := ih.2.2.1
      rw [List.length_cons]
      rwa [show B + 1 + (r.length : Int) = B + ((r.length + 1 : Nat) : Int) by omega] at this
theorem fall_len (r : List Int) (c p : List Int) : (fallR r (c, p)).2.length ≤ p.length + r.length := by
  induction r generalizing c p with
  | nil => simp [fallR]
  | cons t r ih =>
    unfold fallR
    simp only []
    refine Nat.le_trans (ih _ _) ?_
    rw [List.length_cons]
    split
    · rw [List.length_append, List.length_singleton]; omega
    · omega
theorem snoc_last (q : List Int) (t : Int) (h : q.length ≤ 1000000) : wrap64 (((q ++ [t]).length : Int) - 1) = (q.length : Int) ∧ rd (q ++ [t]) (q.length : Int) = t ∧ (q ++ [t]).getLastD 0 = t ∧ (q ++ [t]).dropLast = q ∧ (q ++ [t]).take q.length = q := by
  have e : ((q ++ [t]).length : Int) - 1 = (q.length : Int) := by simp
  refine ⟨by rw [e, w64 (by omega) (by omega)], ?_, by simp, by simp, by simp⟩
  rw [rd_at _ q.length (by simp)]
  simp
theorem impl_fall (refs : List (List Int)) (o r : List Int) (R : List Int × List Int) (hr : r.length ≤ 1000) (hi : Ix refs.length r) (d : Nat) : ∀ (i : Nat) (c p : List Int) (B : Int), i + d = r.length → c.length = refs.length → LB B c → B + d ≤ 10000000 → 0 ≤ B → p.length + d ≤ 1000000 →
    Ev (fun k => impl_freed.l0 k refs (fallR (r.drop i) (c, p)).1 (fallR (r.drop i) (c, p)).2 o) R → Ev (fun k => impl_freed.l1 k refs c p o r (r.length : Int) (i : Int)) R := by
  induction d with
  | zero =>
    intro i c p B hid hc hB hb b0 hp K
    refine ev_succ ?_
    simp only [impl_freed.l1]
    rw [List.drop_of_length_le (by omega)] at K
    exact ev_neg (by omega) K
  | succ d ih =>
    intro i c p B hid hc hB hb b0 hp K
    have hlt : i < r.length := by omega
    obtain ⟨j, hj, hjn⟩ := ix_nat hi (List.getElem_mem hlt)
    have hj' : j < c.length := by omega
    have e1 : rd c (j : Int) = c[j] := rd_at c j hj'
    have hv := lb_get hB j hj'
    rw [List.drop_eq_getElem_cons hlt, hj] at K
    unfold fallR at K
    simp only [Int.toNat_natCast, e1, rd_set c j hj'] at K
    refine ev_succ ?_
    simp only [impl_freed.l1]
    rw [rd_at _ i hlt, next_i i (by omega), hj, e1, w64 (by omega) (by omega), Int.toNat_natCast]
    refine ev_pos (by omega) (ev_pos (by omega) (ev_pos (by omega) (ev_pos (by omega) (ev_pos (by omega) (ev_bind1 rfl ?_)))))
    rw [rd_set c j hj']
    by_cases h0 : c[j] - 1 = 0
    · rw [if_pos h0] at K
      exact ev_pos h0 (ev_pos (by omega) (ih (i + 1) _ _ (B + 1) (by omega) (by simpa using hc) (lb_set hB j hj') (by omega) (by omega) (by rw [List.length_append, List.length_singleton]; omega) K))
    · rw [if_neg h0] at K
      exact ev_neg h0 (ih (i + 1) _ _ (B + 1) (by omega) (by simpa using hc) (lb_set hB j hj') (by omega) (by omega) (by omega) K)
theorem spec_fall (refs : List (List Int)) (o : List Int) (n : Nat) (hn : n < refs.length) (R : List Int × List Int) (hr : refs[n].length ≤ 1000) (hi : Ix refs.length refs[n]) (d : Nat) : ∀ (i : Nat) (c p : List Int) (B : Int), i + d = refs[n].length → c.length = refs.length → LB B c → B + d ≤ 10000000 → 0 ≤ B → p.length + d ≤ 1000000 →
    Ev (fun k => spec_released.l0 k refs (fallR (refs[n].drop i) (c, p)).1 o (fallR (refs[n].drop i) (c, p)).2) R → Ev (fun k => spec_released.l1 k refs c o p (n : Int) (i : Int)) R := by
  induction d with
  | zero =>
    intro i c p B hid hc hB hb b0 hp K
    refine ev_succ ?_
    simp only [spec_released.l1]
    rw [rdL_at refs n hn]
    rw [List.drop_of_length_le (by omega)] at K
    exact ev_pos (by omega) (ev_pos (by omega) (ev_neg (by omega) K))
  | succ d ih =>
    intro i c p B hid hc hB hb b0 hp K
    have hlt : i < refs[n].length := by omega
    obtain ⟨j, hj, hjn⟩ := ix_nat hi (List.getElem_mem hlt)
    have hj' : j < c.length := by omega
    have e1 : rd c (j : Int) = c[j] := rd_at c j hj'
    have hv := lb_get hB j hj'
    rw [List.drop_eq_getElem_cons hlt, hj] at K
    unfold fallR at K
    simp only [Int.toNat_natCast, e1, rd_set c j hj'] at K
    refine ev_succ ?_
    simp only [spec_released.l1]
    rw [rdL_at refs n hn, rd_at _ i hlt, next_i i (by omega), hj, e1, w64 (by omega) (by omega), Int.toNat_natCast]
    refine ev_pos (by omega) (ev_pos (by omega) (ev_pos (by omega) (ev_pos (by omega) (ev_pos (by omega) (ev_pos (by omega) (ev_bind1 rfl ?_))))))
    rw [rd_set c j hj']
    by_cases h0 : c[j] - 1 = 0
    · rw [if_pos h0] at K
      exact ev_pos h0 (ev_pos (by omega) (ih (i + 1) _ _ (B + 1) (by omega) (by simpa using hc) (lb_set hB j hj') (by omega) (by omega) (by rw [List.length_append, List.length_singleton]; omega) K))
    · rw [if_neg h0] at K
      exact ev_neg h0 (ih (i + 1) _ _ (B + 1) (by omega) (by simpa using hc) (lb_set hB j hj') (by omega) (by omega) (by omega) K)
theorem relT_snoc (refs : List (List Int)) (m : Nat) (c q o : List Int) (n : Nat) (hn : n < refs.length) : relT refs (m + 1) c (q ++ [(n : Int)]) o = relT refs m (fallR refs[n] (c, q)).1 (fallR refs[n] (c, q)).2 (o ++ [(n : Int)]) := by
  have e1 : (q ++ [(n : Int)]).getLastD 0 = (n : Int) := by simp
  have e2 : (q ++ [(n : Int)]).dropLast = q := by simp
  rw [relT, if_neg (by simp), e1, e2, rdL_at refs n hn]
theorem relT_nil (refs : List (List Int)) (m : Nat) (c o : List Int) : relT refs m c [] o = (o, c) := by cases m <;> simp [relT]
theorem relT_len (refs : List (List Int)) (m : Nat) : ∀ (c p o : List Int), (relT refs m c p o).1.length ≤ o.length + m := by
  induction m with
  | zero => intro c p o; simp [relT]
  | succ m ih =>
    intro c p o
    unfold relT
    split
    · simp
    · refine Nat.le_trans (ih _ _ _) ?_
      rw [List.length_append, List.length_singleton]; omega
section
variable (refs : List (List Int)) (hr : ∀ r ∈ refs, r.length ≤ 5) (hi : ∀ r ∈ refs, Ix refs.length r)
include hr hi
theorem impl_rel (m : Nat) : ∀ (c p o : List Int) (B : Int), c.length = refs.length → posC c + p.length ≤ m → Ix refs.length p → LB B c → 0 ≤ B → B + 5 * m ≤ 1000000 → o.length + m ≤ 1000000 → m ≤ 1000 →
    Ev (fun k => impl_freed.l0 k refs c p o) (relT refs m c p o) := by
  induction m with
  | zero =>
    intro c p o B hc hm hp hB b0 hb ho _
    obtain rfl : p = [] := List.eq_nil_of_length_eq_zero (by omega)
    refine ev_succ ?_
    simp only [impl_freed.l0]
    exact ev_neg (by simp) (ev_some rfl)
  | succ m ih =>
    intro c p o B hc hm hp hB b0 hb ho h1000
    rcases List.eq_nil_or_concat p with rfl | ⟨q, t, rfl⟩
    · rw [relT_nil]
      refine ev_succ ?_
      simp only [impl_freed.l0]
      exact ev_neg (by simp) (ev_some rfl)
    · rw [List.concat_eq_append] at *
      obtain ⟨n, rfl, hnr⟩ := ix_nat hp (by simp : t ∈ q ++ [t])
      rw [relT_snoc refs m c q o n hnr]
      have hl : (q ++ [(n : Int)]).length = q.length + 1 := by simp
      obtain ⟨s1, s2, s3, s4, s5⟩ := snoc_last q (n : Int) (by omega)
      have hrow := hr _ (List.getElem_mem hnr)
      have hix := hi _ (List.getElem_mem hnr)
      obtain ⟨f1, f2, f3, f4⟩ := fall_parts refs[n] c q refs.length B hc hix (fun x hx => hp x (by simp [hx])) hB
      have f5 := fall_len refs[n] c q
      refine ev_succ ?_
      simp only [impl_freed.l0]
      rw [s1, s2, Int.toNat_natCast, s5, rdL_at refs n hnr]
      refine ev_pos (by omega) (ev_pos (by omega) (ev_pos (by omega) (ev_pos (by omega) (ev_pos (by omega) (ev_pos (by omega) (ev_pos (by omega) ?_))))))
      refine impl_fall refs _ refs[n] _ (by omega) hix refs[n].length 0 c q B (by omega) hc hB (by omega) b0 (by omega) ?_
      rw [List.drop_zero]
      exact ih _ _ _ (B + refs[n].length) f1 (by omega) f4 f3 (by omega) (by omega) (by rw [List.length_append, List.length_singleton]; omega) (by omega)
theorem spec_rel (m : Nat) : ∀ (c p o : List Int) (B : Int), c.length = refs.length → posC c + p.length ≤ m → Ix refs.length p → LB B c → 0 ≤ B → B + 5 * m ≤ 1000000 → o.length + m ≤ 1000000 → m ≤ 1000 →
    Ev (fun k => spec_released.l0 k refs c o p) (relT refs m c p o) := by
  induction m with
  | zero =>
    intro c p o B hc hm hp hB b0 hb ho _
    obtain rfl : p = [] := List.eq_nil_of_length_eq_zero (by omega)
    refine ev_succ ?_
    simp only [spec_released.l0]
    exact ev_neg (by simp) (ev_some rfl)
  | succ m ih =>
    intro c p o B hc hm hp hB b0 hb ho h1000
    rcases List.eq_nil_or_concat p with rfl | ⟨q, t, rfl⟩
    · rw [relT_nil]
      refine ev_succ ?_
      simp only [spec_released.l0]
      exact ev_neg (by simp) (ev_some rfl)
    · rw [List.concat_eq_append] at *
      obtain ⟨n, rfl, hnr⟩ := ix_nat hp (by simp : t ∈ q ++ [t])
      rw [relT_snoc refs m c q o n hnr]
      have hl : (q ++ [(n : Int)]).length = q.length + 1 := by simp
      obtain ⟨s1, s2, s3, s4, s5⟩ := snoc_last q (n : Int) (by omega)
      have hrow := hr _ (List.getElem_mem hnr)
      have hix := hi _ (List.getElem_mem hnr)
      obtain ⟨f1, f2, f3, f4⟩ := fall_parts refs[n] c q refs.length B hc hix (fun x hx => hp x (by simp [hx])) hB
      have f5 := fall_len refs[n] c q
      refine ev_succ ?_
      simp only [spec_released.l0]
      rw [s1, s2, Int.toNat_natCast, s5]
      refine ev_pos (by omega) (ev_pos (by omega) (ev_pos (by omega) (ev_bind1 rfl (ev_pos (by omega) (ev_bind1 rfl (ev_pos (by simp; omega) (ev_pos (by omega) ?_)))))))
      rw [List.nil_append]
      refine spec_fall refs _ n hnr _ (by omega) hix refs[n].length 0 c q B (by omega) hc hB (by omega) b0 (by omega) ?_
      rw [List.drop_zero]
      exact ih _ _ _ (B + refs[n].length) f1 (by omega) f4 f3 (by omega) (by omega) (by rw [List.length_append, List.length_singleton]; omega) (by omega)
end
/-- What DropRoot answers. -/
def dropR (refs : List (List Int)) (roots : List Int) (a : Int) : List Int :=
  if graphB refs roots = true ∧ 0 ≤ a ∧ a < roots.length then
    (if rd ((countsL refs roots).set (rd roots a).toNat (rd (countsL refs roots) (rd roots a) - 1)) (rd roots a) > 0 then [] else (relT refs 100 ((countsL refs roots).set (rd roots a).toNat (rd (countsL refs roots) (rd roots a) - 1)) [rd roots a] []).1)
  else []
theorem dropR_len (refs : List (List Int)) (roots : List Int) (a : Int) : (dropR refs roots a).length ≤ 100 := by
  unfold dropR
  split
  · split
    · simp
    · exact relT_len _ _ _ _ _
  · simp
theorem counts_bd (refs : List (List Int)) (roots : List Int) (hn : refs.length ≤ 12) (hr : ∀ r ∈ refs, r.length ≤ 5) (hl : roots.length ≤ 1000) : Bd 2000 (countsL refs roots) := by
  have h0 : Bd 0 (List.replicate refs.length 0) := by intro x hx; have := List.eq_of_mem_replicate hx; omega
  have h1 := foldb_bd roots _ 0 h0 (by omega)
  have key : ∀ (rs : List (List Int)) (x : List Int) (m : Int), (∀ r ∈ rs, r.length ≤ 5) → Bd m x → 0 ≤ m → Bd (m + 5 * rs.length) (rowsC rs x) := by
    intro rs
    induction rs with
    | nil => intro x m _ h _; simpa [rowsC] using h
    | cons r rs ih =>
      intro x m hr h hm
      have h5 := hr r (by simp)
      have := ih _ _ (fun s hs => hr s (by simp [hs])) (foldb_bd r x m h hm) (by omega)
      intro y hy
      have := this y hy
      rw [List.length_cons]
      omega
  intro x hx
  have := key refs _ _ hr h1 (by omega) x hx
  omega
theorem drop_ready {refs : List (List Int)} {roots : List Int} (hg : graphB refs roots = true) (i : Nat) (hi : i < roots.length) :
    ∃ n : Nat, roots[i] = (n : Int) ∧ n < refs.length ∧ (∀ r ∈ refs, Ix refs.length r) ∧ (countsL refs roots).length = refs.length ∧ Bd 2000 (countsL refs roots) := by
  obtain ⟨g1, g2, g3, g4, g5⟩ := graph_parts hg
  have hx := idx_mem g5 (List.getElem_mem hi)
  exact ⟨roots[i].toNat, by omega, by omega, fun r hr x hm => idx_mem (g3 r hr) hm, countsL_length _ _, counts_bd refs roots g1 g2 (by omega)⟩
theorem impl_DropRoot_ev (refs : List (List Int)) (roots : List Int) (a : Int) (hn : refs.length ≤ 1048576) (hr : ∀ l ∈ refs, l.length ≤ 1048576) (hl : roots.length ≤ 1048576) : Ev (fun k => impl_DropRoot.f k refs roots a) (dropR refs roots a) := by
  have no : ¬ (graphB refs roots = true ∧ 0 ≤ a ∧ a < roots.length) → Ev (fun k => impl_DropRoot.j0 k refs roots a true) (dropR refs roots a) := fun h => by
    refine ev_succ ?_
    simp only [impl_DropRoot.j0]
    exact ev_pos trivial (ev_some (by rw [dropR, if_neg h]))
  unfold impl_DropRoot.f
  refine Ev.bind (graph_ev refs roots hn hr hl) ?_
  by_cases hg : graphB refs roots = true
  · refine ev_pos hg ?_
    by_cases h0 : a < 0
    · exact ev_pos h0 (no (by omega))
    · refine ev_neg h0 ?_
      by_cases h1 : a < roots.length
      · obtain ⟨i, rfl⟩ := Int.eq_ofNat_of_zero_le (by omega : 0 ≤ a)
        have hi : i < roots.length := by omega
        obtain ⟨n, en, hnn, hix, hcl, hcb⟩ := drop_ready hg i hi
        obtain ⟨g1, g2, g3, g4, g5⟩ := graph_parts hg
        have hj : n < (countsL refs roots).length := by omega
        have ec := rd_at (countsL refs roots) n hj
        have hb := hcb _ (List.getElem_mem hj)
        rw [dropR, if_pos ⟨hg, by omega, by omega⟩, decide_eq_false (by omega)]
        refine ev_succ ?_
        simp only [impl_DropRoot.j0]
        rw [rd_at roots i hi, en]
        refine ev_neg (by simp) (Ev.bind (impl_counts_ev refs hn g2 g3 roots hl g5) (ev_pos (by omega) (ev_pos (by omega) (ev_pos (by omega) (ev_pos (by omega) (ev_bind1 rfl ?_))))))
        rw [ec, w64 (by omega) (by omega)]
        by_cases hp : rd ((countsL refs roots).set ((n : Int)).toNat ((countsL refs roots)[n] - 1)) (n : Int) > 0
        · rw [if_pos hp]
          exact ev_pos hp (ev_some rfl)
        · rw [if_neg hp]
          refine ev_neg hp (Ev.bind (impl_rel refs g2 hix 100 _ _ _ 1 (by simpa using hcl) ?_ ?_ ?_ (by omega) (by omega) (by simp) (by omega)) (ev_some rfl))
          · have h1 := posC_le ((countsL refs roots).set ((n : Int)).toNat ((countsL refs roots)[n] - 1))
            rw [List.length_set] at h1
            simp only [List.length_singleton]
            omega
          · intro x hx; rw [List.mem_singleton.1 hx]; omega
          · rw [Int.toNat_natCast]
            have h0 : LB 0 (countsL refs roots) := fun x hx => by have := hcb x hx; omega
            exact lb_set h0 n hj
      · rw [decide_eq_true (by omega)]
        exact no (by omega)
  · exact ev_neg hg (no (fun h => hg h.1))
theorem in_le (k n : Int) : spec_inRange.f k 0 n = some (decide (0 ≤ k ∧ k ≤ n)) := by
  unfold spec_inRange.f
  by_cases h : k ≥ 0
  · have h' : 0 ≤ k := h
    rw [if_pos h]; congr 1; simp [h']
  · rw [if_neg h, decide_eq_false (by omega)]
theorem spec_DropRoot_ev (refs : List (List Int)) (roots : List Int) (a : Int) (hn : refs.length ≤ 1048576) (hr : ∀ l ∈ refs, l.length ≤ 1048576) (hl : roots.length ≤ 1048576) : Ev (fun k => spec_DropRoot.f k refs roots a) (dropR refs roots a) := by
  have no : ¬ (graphB refs roots = true ∧ 0 ≤ a ∧ a < roots.length) → Ev (fun k => spec_DropRoot.j0 k refs roots a true) (dropR refs roots a) := fun h => by
    refine ev_succ ?_
    simp only [spec_DropRoot.j0]
    exact ev_pos trivial (ev_some (by rw [dropR, if_neg h]))
  have hw : wrap64 ((roots.length : Int) - 1) = (roots.length : Int) - 1 := w64 (by omega) (by omega)
  unfold spec_DropRoot.f
  refine Ev.bind (refs_ev refs hn hr) ?_
  cases h1 : refsB refs with
  | false => exact ev_neg (by simp) (no (fun h => by have := h.1; rw [graphB, h1] at this; cases this))
  | true =>
    refine ev_pos rfl (Ev.bind (roots_ev roots (refs.length : Int) (by omega) (by omega) hl) ?_)
    cases h2 : rootsB (refs.length : Int) roots with
    | false => exact ev_neg (by simp) (no (fun h => by have := h.1; rw [graphB, h1, h2] at this; cases this))
    | true =>
      have hg : graphB refs roots = true := by rw [graphB, h1, h2]; rfl
      rw [hw]
      refine ev_pos rfl (ev_bind1 (in_le _ _) ?_)
      by_cases ha : 0 ≤ a ∧ a ≤ (roots.length : Int) - 1
      · rw [decide_eq_true ha]
        obtain ⟨i, rfl⟩ := Int.eq_ofNat_of_zero_le ha.1
        have hi : i < roots.length := by omega
        obtain ⟨n, en, hnn, hix, hcl, hcb⟩ := drop_ready hg i hi
        obtain ⟨g1, g2, g3, g4, g5⟩ := graph_parts hg
        have hj : n < (countsL refs roots).length := by omega
        have ec := rd_at (countsL refs roots) n hj
        have hb := hcb _ (List.getElem_mem hj)
        rw [dropR, if_pos ⟨hg, by omega, by omega⟩]
        refine ev_succ ?_
        simp only [spec_DropRoot.j0]
        rw [rd_at roots i hi, en]
        refine ev_neg (by simp) (Ev.bind (spec_counts_ev refs hn g2 g3 roots hl g5) (ev_pos (by omega) (ev_pos (by omega) (ev_pos (by omega) (ev_pos (by omega) (ev_bind1 rfl ?_))))))
        rw [ec, w64 (by omega) (by omega)]
        by_cases hp : rd ((countsL refs roots).set ((n : Int)).toNat ((countsL refs roots)[n] - 1)) (n : Int) > 0
        · rw [if_pos hp]
          exact ev_pos hp (ev_some rfl)
        · rw [if_neg hp]
          refine ev_neg hp ?_
          unfold spec_released.f
          refine Ev.bind (a := relT refs 100 _ [(n : Int)] []) (ev_bind1 rfl (ev_pos (by simp) (spec_rel refs g2 hix 100 _ _ _ 1 (by simpa using hcl) ?_ ?_ ?_ (by omega) (by omega) (by simp) (by omega)))) (ev_some rfl)
          · have h1 := posC_le ((countsL refs roots).set ((n : Int)).toNat ((countsL refs roots)[n] - 1))
            rw [List.length_set] at h1
            simp only [List.nil_append, List.length_singleton]
            omega
          · intro x hx; rw [List.nil_append] at hx; rw [List.mem_singleton.1 hx]; omega
          · rw [Int.toNat_natCast]
            have h0 : LB 0 (countsL refs roots) := fun x hx => by have := hcb x hx; omega
            exact lb_set h0 n hj
      · rw [decide_eq_false ha]
        exact no (by omega)

theorem FnExactDropRoot (refs : List (List Int)) (roots : List Int) (a : Int) (h1 : refs.length ≤ 9223372036854775807) (h2 : ∀ r ∈ refs, r.length ≤ 9223372036854775807) : ∃ k, laws_FnExactDropRoot.f k refs roots a = some true := by
  refine Ev.rounds ?_
  unfold laws_FnExactDropRoot.f
  by_cases hl : (roots.length : Int) > 1048576
  · exact ev_pos hl (ev_some rfl)
  refine ev_neg hl ?_
  obtain ⟨z, Z, hz⟩ := szSum_ev refs h1 h2
  refine Ev.bind Z ?_
  by_cases h0 : z < 0
  · exact ev_pos h0 (ev_some rfl)
  refine ev_neg h0 ?_
  obtain ⟨hn, hs⟩ := hz (by omega)
  have hr : ∀ r ∈ refs, r.length ≤ 1048576 := fun r hm => by have := lenSum_mem refs r hm; omega
  have hl' : roots.length ≤ 1048576 := by omega
  have hlen : (dropR refs roots a).length ≤ 1048576 := by have := dropR_len refs roots a; omega
  have T := toIntSS_ev refs hn hr
  have U := toInt_ev roots hl'
  have S := spec_DropRoot_ev refs roots a hn hr hl'
  have I := impl_DropRoot_ev refs roots a hn hr hl'
  generalize dropR refs roots a = r at S I hlen
  have E := eqSelf_ev r hlen
  have M := mark_ev r 1 hlen (by omega) (by omega)
  have H := held_ev 1 r.length hlen (by omega) (by omega)
  refine Ev.bind T (Ev.bind U (Ev.bind S (Ev.bind T (Ev.bind U (Ev.bind I (Ev.bind E (ev_pos rfl (Ev.bind T (Ev.bind (eqSelfSS_ev refs hn hr) (ev_pos rfl (Ev.bind U (Ev.bind (eqSelf_ev roots hl') (ev_pos rfl (Ev.bind (markSS_ev refs hn hs) (Ev.bind (mark_ev roots _ hl' (by omega) (by omega)) (ev_neg (by simp only []; omega) (Ev.bind E (ev_succ ?_))))))))))))))))))
  simp only [laws_FnExactDropRoot.j0]
  exact ev_neg (by simp) (Ev.bind M (Ev.bind H (ev_neg (by omega) (ev_pos rfl (Ev.bind T (Ev.bind U (Ev.bind I (Ev.bind E (ev_pos rfl (Ev.bind H (ev_neg (by omega) (ev_pos rfl (ev_some rfl)))))))))))))

end Go.Proofs.Ytpnamllkeaaeeaa.Pure
