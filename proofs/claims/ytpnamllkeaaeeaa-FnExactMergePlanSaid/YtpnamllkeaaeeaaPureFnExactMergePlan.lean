/- FnExactMergePlan: the program plans merges as the reference does, for every list of at most 2^20 numbers. -/
import Derived.Test.YtpnamllkeaaeeaaXFnExactMergePlanx7
import Derived.Test.YtpnamllkeaaeeaaXFnExactMergePlanx1
import Derived.Test.YtpnamllkeaaeeaaXFnExactMergePlanx2
import Derived.Test.YtpnamllkeaaeeaaXFnExactMergePlanx3
import Derived.Test.YtpnamllkeaaeeaaXFnExactMergePlanx4
import Derived.Test.YtpnamllkeaaeeaaXFnExactMergePlanx5
import Derived.Test.YtpnamllkeaaeeaaXFnExactMergePlanx6
namespace Go.Proofs.Ytpnamllkeaaeeaa.Pure
open Go.RowKit Go.Proofs.Ytpnamllkeaaeeaa.XFnExactMergePlan Go.Proofs.YtpnamllkeaaeeaaW.PrintWords Go.Proofs.YtpnamllkeaaeeaaW.PrintLast Go.Proofs.YtpnamllkeaaeeaaW.PrintMore
set_option linter.unusedVariables false
set_option linter.unusedSimpArgs false

/-! ### Rounds, and words of 64 bits -/
theorem ev_succ {α : Type} {g : Nat → Option α} {r : α} (h : Ev (fun k => g (k + 1)) r) : Ev g r := Ev.step (fun _ => rfl) h
theorem ev_some {α : Type} {o : Option α} {r : α} (h : o = some r) : Ev (fun _ => o) r := ⟨0, fun _ _ => h⟩
theorem ev_pos {α : Type} {c : Prop} [Decidable c] {A B : Nat → Option α} {r : α} (h : c) (k : Ev A r) : Ev (fun n => if c then A n else B n) r :=
  Ev.congr (fun _ => if_pos h) k
theorem ev_neg {α : Type} {c : Prop} [Decidable c] {A B : Nat → Option α} {r : α} (h : ¬ c) (k : Ev B r) : Ev (fun n => if c then A n else B n) r :=
  Ev.congr (fun _ => if_neg h) k
theorem ev_eq {α : Type} {g : Nat → Option α} {r s : α} (h : Ev g r) (e : r = s) : Ev g s := e ▸ h
theorem ev_bind1 {α β : Type} {o : Option α} {f : Nat → α → Option β} {a : α} {r : β} (h : o = some a) (k : Ev (fun n => f n a) r) : Ev (fun n => o.bind (f n)) r :=
  Ev.bind (ev_some h) k
theorem ev_det {α : Type} {g : Nat → Option α} {r s : α} (h : Ev g r) (k : Ev g s) : r = s := by
  obtain ⟨K, h⟩ := h
  obtain ⟨L, k⟩ := k
  have h1 := h (max K L) (by omega)
  have h2 := k (max K L) (by omega)
  rw [h1] at h2
  exact Option.some.inj h2
theorem w64 {n : Int} (h : -9223372036854775808 ≤ n) (h' : n ≤ 9223372036854775807) : wrap64 n = n := by unfold wrap64; omega
theorem byte_of {l : List Int} (h : ∀ x ∈ l, (Lit.int .u8 x).wf = true) (i : Int) : 0 ≤ rd l i ∧ rd l i ≤ 255 := by
  unfold rd
  by_cases hi : i.toNat < l.length
  · have hm : l.getD i.toNat 0 ∈ l := by
      rw [List.getD_eq_getElem?_getD, List.getElem?_eq_getElem hi]
      exact List.getElem_mem hi
    have := h _ hm
    have m0 : IntKind.u8.min = 0 := by decide
    have m1 : IntKind.u8.max = 255 := by decide
    simp only [Lit.wf, m0, m1, Bool.and_eq_true, decide_eq_true_eq] at this
    exact this
  · rw [List.getD_eq_getElem?_getD, List.getElem?_eq_none (by omega)]
    simp

/-! ### Reading a list -/
theorem rd_at (l : List Int) (i : Nat) (h : i < l.length) : rd l (i : Int) = l[i] := by
  unfold rd
  simp [List.getD_eq_getElem?_getD, h]
theorem next_i (i : Nat) (h : i ≤ 4611686018427387904) : wrap64 ((i : Int) + 1) = ((i + 1 : Nat) : Int) := by rw [w64 (by omega) (by omega)]; omega

/-! ### Lists of numbers: copied, compared -/
theorem toInt_from (l : List Int) (hl : l.length ≤ 1048576) (d : Nat) : ∀ (i : Nat) (x : List Int), i + d = l.length → x.length = l.length → x.take i = l.take i → Ev (fun k => laws_toIntS.l0 k l x (i : Int)) l := by
  induction d with
  | zero =>
    intro i x hi hx ht
    refine ev_succ ?_
    simp only [laws_toIntS.l0]
    refine ev_neg (by omega) (ev_some ?_)
    rw [List.take_of_length_le (by omega), List.take_of_length_le (by omega)] at ht
    rw [ht]
  | succ d ih =>
    intro i x hi hx ht
    refine ev_succ ?_
    simp only [laws_toIntS.l0]
    refine ev_pos (by omega) (ev_pos (by omega) (ev_pos (by omega) ?_))
    rw [next_i i (by omega), rd_at l i (by omega)]
    refine ih (i + 1) _ (by omega) (by simp [hx]) ?_
    have hi' : i < x.length := by omega
    rw [List.take_succ_eq_append_getElem (by simp; omega), List.take_succ_eq_append_getElem (by omega)]
    simp only [Int.toNat_natCast, List.getElem_set_self]
    rw [List.take_set_of_le (Nat.le_refl i), ht]

theorem toInt_ev (l : List Int) (hl : l.length ≤ 1048576) : Ev (fun k => laws_toIntS.f k l) l := by
  unfold laws_toIntS.f
  refine ev_pos (by omega) (ev_pos (by simp; omega) ?_)
  exact toInt_from l hl l.length 0 _ (by omega) (by simp) (by simp)

theorem eqSelf_from (l : List Int) (hl : l.length ≤ 1048576) (d : Nat) : ∀ (i : Nat), i + d = l.length → Ev (fun k => laws_eqIntS.l0 k l l (i : Int)) true := by
  induction d with
  | zero =>
    intro i hi
    refine ev_succ ?_
    simp only [laws_eqIntS.l0]
    exact ev_neg (by omega) (ev_some rfl)
  | succ d ih =>
    intro i hi
    refine ev_succ ?_
    simp only [laws_eqIntS.l0]
    refine ev_pos (by omega) (ev_pos (by omega) (ev_pos (by omega) (ev_pos trivial ?_)))
    rw [next_i i (by omega)]
    exact ih (i + 1) (by omega)

theorem eqSelf_ev (l : List Int) (hl : l.length ≤ 1048576) : Ev (fun k => laws_eqIntS.f k l l) true := by
  unfold laws_eqIntS.f
  exact ev_pos rfl (eqSelf_from l hl l.length 0 (by omega))

/-! ### Lists of numbers: marked -/
def seqL (s : Int) (n : Nat) : List Int := (List.range n).map fun (i : Nat) => s + (i : Int)
theorem seqL_length (s : Int) (n : Nat) : (seqL s n).length = n := by simp [seqL]
theorem mark_from (l : List Int) (s : Int) (hl : l.length ≤ 1048576) (h0 : 0 ≤ s) (h1 : s ≤ 1000000000000) (d : Nat) : ∀ (i : Nat) (x : List Int), i + d = l.length → x.length = l.length → x.take i = seqL s i →
    Ev (fun k => laws_markIntS.l0 k x (s + (i : Int)) (i : Int)) (s + (l.length : Int), seqL s l.length) := by
  induction d with
  | zero =>
    intro i x hi hx ht
    refine ev_succ ?_
    simp only [laws_markIntS.l0]
    refine ev_neg (by omega) (ev_some ?_)
    rw [List.take_of_length_le (by omega)] at ht
    have : i = l.length := by omega
    subst this
    rw [ht]
  | succ d ih =>
    intro i x hi hx ht
    refine ev_succ ?_
    simp only [laws_markIntS.l0]
    refine ev_pos (by omega) (ev_pos (by omega) ?_)
    rw [next_i i (by omega), show wrap64 (s + (i : Int) + 1) = s + ((i + 1 : Nat) : Int) by rw [w64 (by omega) (by omega)]; omega]
    refine ih (i + 1) _ (by omega) (by simp [hx]) ?_
    rw [List.take_succ_eq_append_getElem (by simp; omega)]
    simp only [Int.toNat_natCast, List.getElem_set_self]
    rw [List.take_set_of_le (Nat.le_refl i), ht]
    simp [seqL, List.range_succ]

theorem mark_ev (l : List Int) (s : Int) (hl : l.length ≤ 1048576) (h0 : 0 ≤ s) (h1 : s ≤ 1000000000000) : Ev (fun k => laws_markIntS.f k l s) (s + (l.length : Int), seqL s l.length) := by
  have h := mark_from l s hl h0 h1 l.length 0 l (by omega) rfl (by simp [seqL])
  have e : s + ((0 : Nat) : Int) = s := by omega
  rw [e] at h
  exact h

theorem held_from (s : Int) (n : Nat) (hl : n ≤ 1048576) (h0 : 0 ≤ s) (h1 : s ≤ 1000000000000) (d : Nat) : ∀ (i : Nat), i + d = n → Ev (fun k => laws_heldIntS.l0 k (seqL s n) (s + (i : Int)) (i : Int)) (s + (n : Int)) := by
  induction d with
  | zero =>
    intro i hi
    refine ev_succ ?_
    simp only [laws_heldIntS.l0, seqL_length]
    refine ev_neg (by omega) (ev_some ?_)
    have : i = n := by omega
    rw [this]
  | succ d ih =>
    intro i hi
    refine ev_succ ?_
    simp only [laws_heldIntS.l0, seqL_length]
    refine ev_pos (by omega) (ev_pos (by omega) (ev_pos ?_ ?_))
    · rw [rd_at _ i (by rw [seqL_length]; omega)]; simp [seqL]
    · rw [next_i i (by omega), show wrap64 (s + (i : Int) + 1) = s + ((i + 1 : Nat) : Int) by rw [w64 (by omega) (by omega)]; omega]
      exact ih (i + 1) (by omega)

theorem held_ev (s : Int) (n : Nat) (hl : n ≤ 1048576) (h0 : 0 ≤ s) (h1 : s ≤ 1000000000000) : Ev (fun k => laws_heldIntS.f k (seqL s n) s) (s + (n : Int)) := by
  have h := held_from s n hl h0 h1 n 0 (by omega)
  have e : s + ((0 : Nat) : Int) = s := by omega
  rw [e] at h
  exact h

/-! ### Merges of runs: the reference -/
/-- Numbers that may lie on the stack. -/
def Sm (st : List Int) : Prop := ∀ x ∈ st, 1 ≤ x ∧ x ≤ 1000000000
theorem sm_rd {st : List Int} (h : Sm st) {i : Int} (h0 : 0 ≤ i) (h1 : i < st.length) : 1 ≤ rd st i ∧ rd st i ≤ 1000000000 := by
  obtain ⟨n, rfl⟩ := Int.eq_ofNat_of_zero_le h0
  rw [rd_at st n (by omega)]
  exact h _ (List.getElem_mem _)
theorem atL_lt {st : List Int} {fin : Bool} (h : 0 ≤ atL st fin) : atL st fin + 1 < st.length := by
  unfold atL at h ⊢
  by_cases h2 : st.length < 2
  · rw [if_pos h2] at h; omega
  · rw [if_neg h2] at h ⊢
    split at h <;> rename_i h3
    · rw [if_pos h3]; omega
    · rw [if_neg h3]
      split at h <;> rename_i h4
      · rw [if_pos h4]; omega
      · omega
theorem mergeAt_ev (st : List Int) (fin : Bool) (hl : st.length ≤ 1000) (hp : Sm st) : Ev (fun k => spec_mergeAt.f k st fin) (atL st fin) := by
  unfold spec_mergeAt.f
  rw [w64 (n := (st.length : Int) - 2) (by omega) (by omega)]
  by_cases h2 : st.length < 2
  · refine ev_pos (by omega) (ev_some (congrArg some ?_))
    unfold atL
    rw [if_pos h2]
  · have e1 : wrap64 ((st.length : Int) - 2 - 1) = (st.length : Int) - 3 := by rw [w64 (by omega) (by omega)]; omega
    have e2 : wrap64 ((st.length : Int) - 2 - 2) = (st.length : Int) - 4 := by rw [w64 (by omega) (by omega)]; omega
    have e3 : wrap64 ((st.length : Int) - 2 + 1) = (st.length : Int) - 1 := by rw [w64 (by omega) (by omega)]; omega
    have p1 := sm_rd hp (i := (st.length : Int) - 1) (by omega) (by omega)
    have p2 := sm_rd hp (i := (st.length : Int) - 2) (by omega) (by omega)
    have w1 : wrap64 (rd st ((st.length : Int) - 2) + rd st ((st.length : Int) - 1)) = rd st ((st.length : Int) - 2) + rd st ((st.length : Int) - 1) := w64 (by omega) (by omega)
    -- the end, at a tight stack or not
    have J1 : ∀ x : Bool, x = decide ((tightB st = true ∨ (fin = true ∧ 3 ≤ st.length)) ∧ rd st ((st.length : Int) - 3) < rd st ((st.length : Int) - 1)) → (tightB st = true → 3 ≤ st.length) → (3 ≤ st.length → tightB st = false → rd st ((st.length : Int) - 1) ≤ rd st ((st.length : Int) - 3)) →
        Ev (fun k => spec_mergeAt.j1 k st fin ((st.length : Int) - 2) (tightB st) x) (atL st fin) := by
      intro x hx ht3 hnt
      refine ev_succ ?_
      simp only [spec_mergeAt.j1]
      rw [e1, e3]
      have A1 : (tightB st = true ∧ rd st ((st.length : Int) - 3) < rd st ((st.length : Int) - 1)) → atL st fin = (st.length : Int) - 3 := fun h => by unfold atL; rw [if_neg h2, if_pos h]
      have A2 : ¬ (tightB st = true ∧ rd st ((st.length : Int) - 3) < rd st ((st.length : Int) - 1)) → (tightB st = true ∨ fin = true ∨ rd st ((st.length : Int) - 2) ≤ rd st ((st.length : Int) - 1)) → atL st fin = (st.length : Int) - 2 := fun h h' => by unfold atL; rw [if_neg h2, if_neg h, if_pos h']
      have A3 : ¬ (tightB st = true ∧ rd st ((st.length : Int) - 3) < rd st ((st.length : Int) - 1)) → ¬ (tightB st = true ∨ fin = true ∨ rd st ((st.length : Int) - 2) ≤ rd st ((st.length : Int) - 1)) → atL st fin = -1 := fun h h' => by unfold atL; rw [if_neg h2, if_neg h, if_neg h']
      by_cases hx1 : (tightB st = true ∨ (fin = true ∧ 3 ≤ st.length)) ∧ rd st ((st.length : Int) - 3) < rd st ((st.length : Int) - 1)
      · have ht : tightB st = true := by
          cases hb : tightB st with
          | true => rfl
          | false =>
            rcases hx1.1 with h | h
            · rw [hb] at h; exact h
            · have := hnt h.2 hb
              omega
        rw [hx, decide_eq_true hx1, A1 ⟨ht, hx1.2⟩]
        exact ev_pos rfl (ev_some rfl)
      · have hn1 : ¬ (tightB st = true ∧ rd st ((st.length : Int) - 3) < rd st ((st.length : Int) - 1)) := fun h => hx1 ⟨.inl h.1, h.2⟩
        rw [hx, decide_eq_false hx1]
        refine ev_neg (by simp) ?_
        by_cases ht : tightB st = true
        · rw [A2 hn1 (.inl ht)]
          exact ev_pos ht (ev_some rfl)
        · refine ev_neg ht ?_
          by_cases hf : fin = true
          · rw [A2 hn1 (.inr (.inl hf))]
            exact ev_pos hf (ev_some rfl)
          · refine ev_neg hf (ev_pos (by omega) (ev_pos (by omega) (ev_pos (by omega) (ev_pos (by omega) ?_))))
            by_cases hbc : rd st ((st.length : Int) - 2) ≤ rd st ((st.length : Int) - 1)
            · rw [A2 hn1 (.inr (.inr hbc))]
              exact ev_pos hbc (ev_some rfl)
            · rw [A3 hn1 (fun h => h.elim ht (fun h => h.elim hf hbc))]
              exact ev_neg hbc (ev_some rfl)
    have J0 : ∀ x : Bool, x = tightB st → (tightB st = true → 3 ≤ st.length) → (3 ≤ st.length → tightB st = false → rd st ((st.length : Int) - 1) ≤ rd st ((st.length : Int) - 3)) → Ev (fun k => spec_mergeAt.j0 k st fin ((st.length : Int) - 2) x) (atL st fin) := by
      intro x hx ht3 hnt
      subst hx
      refine ev_succ ?_
      simp only [spec_mergeAt.j0]
      rw [e1, e3]
      cases hb : tightB st with
      | true =>
        have h3 := ht3 hb
        refine ev_pos rfl (ev_pos (by omega) (ev_pos (by omega) (ev_pos (by omega) (ev_pos (by omega) ?_))))
        have := J1 (decide (rd st ((st.length : Int) - 3) < rd st ((st.length : Int) - 1))) (by simp [hb]) ht3 hnt
        rw [hb] at this
        exact this
      | false =>
        refine ev_neg (by simp) ?_
        cases hf : fin with
        | true =>
          by_cases h3 : (st.length : Int) - 2 > 0
          · refine ev_pos rfl (ev_pos h3 (ev_pos (by omega) (ev_pos (by omega) (ev_pos (by omega) (ev_pos (by omega) ?_)))))
            have := J1 (decide (rd st ((st.length : Int) - 3) < rd st ((st.length : Int) - 1))) (by
              rw [hb, hf, Bool.eq_iff_iff]
              simp
              omega) ht3 hnt
            rw [hb, hf] at this
            exact this
          · refine ev_pos rfl (ev_neg h3 ?_)
            have := J1 false (by
              rw [hb, hf]
              exact (decide_eq_false (by simp; omega)).symm) ht3 hnt
            rw [hb, hf] at this
            exact this
        | false =>
          refine ev_neg (by simp) ?_
          have := J1 false (by rw [hb, hf]; simp) ht3 hnt
          rw [hb, hf] at this
          exact this
    rw [e1, e2, e3, w1]
    refine ev_neg (by omega) ?_
    by_cases h3 : (st.length : Int) - 2 > 0
    · have p3 := sm_rd hp (i := (st.length : Int) - 3) (by omega) (by omega)
      have w2 : wrap64 (rd st ((st.length : Int) - 3) + rd st ((st.length : Int) - 2)) = rd st ((st.length : Int) - 3) + rd st ((st.length : Int) - 2) := w64 (by omega) (by omega)
      rw [w2]
      clear e1 e2 e3 w1 w2
      refine ev_pos h3 (ev_pos (by omega) (ev_pos (by omega) (ev_pos (by omega) (ev_pos (by omega) (ev_pos (by omega) (ev_pos (by omega) ?_))))))
      have nt : tightB st = false → rd st ((st.length : Int) - 1) ≤ rd st ((st.length : Int) - 3) := by
        intro h
        unfold tightB at h
        have := of_decide_eq_false h
        omega
      by_cases ht : rd st ((st.length : Int) - 3) ≤ rd st ((st.length : Int) - 2) + rd st ((st.length : Int) - 1)
      · exact ev_pos ht (J0 true (by unfold tightB; exact (decide_eq_true (.inl ⟨by omega, ht⟩)).symm) (fun _ => by omega) (fun _ => nt))
      · refine ev_neg ht ?_
        by_cases h4 : (st.length : Int) - 2 > 1
        · refine ev_pos h4 (ev_pos (by omega) (ev_pos (by omega) (J0 _ ?_ (fun _ => by omega) (fun _ => nt))))
          unfold tightB
          rw [decide_eq_decide]
          omega
        · refine ev_neg h4 (J0 false ?_ (fun _ => by omega) (fun _ => nt))
          unfold tightB
          exact (decide_eq_false (by omega)).symm
    · clear e1 e2 e3 w1
      refine ev_neg h3 (ev_neg (by omega) (J0 false ?_ (fun h => by
        unfold tightB at h
        have := of_decide_eq_true h
        omega) (fun h => by omega)))
      unfold tightB
      exact (decide_eq_false (by omega)).symm
theorem mergeStep_some (st : List Int) (a : Nat) (hl : st.length ≤ 1000) (h : a + 1 < st.length) (hp : Sm st) : spec_mergeStep.f st (a : Int) = some (stepL st a) := by
  have p1 := sm_rd hp (i := (a : Int)) (by omega) (by omega)
  have p2 := sm_rd hp (i := (a : Int) + 1) (by omega) (by omega)
  have e1 : wrap64 ((a : Int) + 1) = (a : Int) + 1 := w64 (by omega) (by omega)
  have e2 : wrap64 ((a : Int) + 2) = (a : Int) + 2 := w64 (by omega) (by omega)
  have e3 : wrap64 (rd st (a : Int) + rd st ((a : Int) + 1)) = rd st (a : Int) + rd st ((a : Int) + 1) := w64 (by omega) (by omega)
  unfold spec_mergeStep.f
  rw [e1, e2, e3]
  clear e1 e2 e3
  simp only [Option.bind_some, List.nil_append]
  rw [if_pos (by omega), if_pos (by omega), if_pos (by simp; omega)]
  rw [if_pos (by omega), if_pos (by omega), if_pos (by omega), if_pos (by simp; omega)]
  rw [if_pos (by omega), if_pos (by omega), if_pos (by simp; omega)]
  unfold stepL
  rw [show ((a : Int) + 2).toNat = a + 2 by omega, Int.toNat_natCast]
theorem stepL_len {st : List Int} {a : Nat} (h : a + 1 < st.length) : (stepL st a).length = st.length - 1 := by
  unfold stepL
  simp only [List.length_append, List.length_take, List.length_drop, List.length_cons, List.length_nil]
  omega
/-- The merges that go on, at most f of them. -/
def planW : Nat → Bool → List Int → List (List Int) → List Int × List (List Int)
  | 0, _, st, p => (st, p)
  | f + 1, fin, st, p => if 0 ≤ atL st fin then planW f fin (stepL st (atL st fin).toNat) (p ++ [rowL st (atL st fin)]) else (st, p)
/-- All of them. -/
def planL : List Int → List Int → List (List Int) → List (List Int)
  | [], st, p => (planW st.length true st p).2
  | x :: rest, st, p => planL rest (planW (st.length + 1) false (st ++ [x]) p).1 (planW (st.length + 1) false (st ++ [x]) p).2
/-- What is on the stack: each number at least 1, and all of them together at most a bound. -/
def Sn (B : Int) (st : List Int) : Prop := (∀ x ∈ st, 1 ≤ x) ∧ st.sum ≤ B
theorem sum_ge {st : List Int} (h : ∀ x ∈ st, 1 ≤ x) : (st.length : Int) ≤ st.sum ∧ ∀ x ∈ st, x ≤ st.sum := by
  induction st with
  | nil => simp
  | cons y l ih =>
    obtain ⟨h1, h2⟩ := ih (fun x hx => h x (List.mem_cons_of_mem _ hx))
    have hy := h y (List.mem_cons_self ..)
    simp only [List.sum_cons, List.length_cons]
    refine ⟨by omega, fun x hx => ?_⟩
    rcases List.mem_cons.1 hx with rfl | hx
    · omega
    · have := h2 x hx; omega
theorem sn_sm {B : Int} {st : List Int} (hB : B ≤ 1000000000) (h : Sn B st) : Sm st := fun x hx => ⟨h.1 x hx, by have := (sum_ge h.1).2 x hx; have := h.2; omega⟩
theorem stepL_eq {st : List Int} {a : Nat} (h : a + 1 < st.length) : st = st.take a ++ [rd st (a : Int), rd st ((a : Int) + 1)] ++ st.drop (a + 2) := by
  have e : ((a : Int) + 1) = ((a + 1 : Nat) : Int) := by omega
  rw [e, rd_at st a (by omega), rd_at st (a + 1) h]
  conv => lhs; rw [← List.take_append_drop a st, List.drop_eq_getElem_cons (show a < st.length by omega), List.drop_eq_getElem_cons h]
  simp
theorem stepL_sum {st : List Int} {a : Nat} (h : a + 1 < st.length) : (stepL st a).sum = st.sum := by
  conv => rhs; rw [stepL_eq h]
  unfold stepL
  simp only [List.sum_append, List.sum_cons, List.sum_nil]
  omega
theorem stepL_sn {B : Int} {st : List Int} {a : Nat} (h : a + 1 < st.length) (hs : Sn B st) : Sn B (stepL st a) := by
  refine ⟨fun x hx => ?_, by rw [stepL_sum h]; exact hs.2⟩
  have e : ((a : Int) + 1) = ((a + 1 : Nat) : Int) := by omega
  unfold stepL at hx
  simp only [List.mem_append, List.mem_singleton] at hx
  rcases hx with (hx | rfl) | hx
  · exact hs.1 x (List.mem_of_mem_take hx)
  · rw [e, rd_at st a (by omega), rd_at st (a + 1) h]
    have h1 := hs.1 _ (List.getElem_mem (show a < st.length by omega))
    have h2 := hs.1 _ (List.getElem_mem h)
    omega
  · exact hs.1 x (List.mem_of_mem_drop hx)
/-- While there is a merge. -/
theorem merges_ev (l : List Int) (i : Int) (hi : -1 ≤ i ∧ i ≤ 1000) (B : Int) (hB : B ≤ 1000000000) (R : List (List Int)) (fin : Bool) (hfin : (i == (l.length : Int)) = fin) (f : Nat) : ∀ (st : List Int) (p : List (List Int)), st.length ≤ f → st.length ≤ 1000 → Sn B st → p.length + st.length ≤ 10000 →
    (∀ st' p', (st', p') = planW f fin st p → Sn B st' → p'.length + st'.length ≤ 10000 → st'.length ≤ st.length → Ev (fun k => spec_mergePlan.l0 k l p' st' (i + 1)) R) →
    Ev (fun k => spec_mergePlan.l1 k l p st i (atL st fin)) R := by
  induction f with
  | zero =>
    intro st p hf hl hs hp K
    have hn : atL st fin = -1 := by unfold atL; rw [if_pos (by omega)]
    refine ev_succ ?_
    simp only [spec_mergePlan.l1]
    rw [hn, w64 (n := i + 1) (by omega) (by omega)]
    exact ev_neg (by omega) (K st p rfl hs hp (Nat.le_refl _))
  | succ f ih =>
    intro st p hf hl hs hp K
    have hm := sn_sm hB hs
    refine ev_succ ?_
    simp only [spec_mergePlan.l1]
    by_cases h0 : 0 ≤ atL st fin
    · have hlt := atL_lt h0
      obtain ⟨a, ha⟩ := Int.eq_ofNat_of_zero_le h0
      have hst := mergeStep_some st a hl (by omega) hm
      have hlen := stepL_len (st := st) (a := a) (by omega)
      have N := mergeAt_ev (stepL st a) fin (by omega) (sn_sm hB (stepL_sn (by omega) hs))
      rw [hfin, ha, w64 (n := (a : Int) + 1) (by omega) (by omega)]
      refine ev_pos (by omega) (ev_pos (by omega) (ev_pos (by omega) (ev_pos (by omega) (ev_pos (by omega) (ev_bind1 rfl (ev_pos (by simp; omega) (ev_bind1 hst (Ev.bind N ?_))))))))
      refine ih (stepL st a) _ (by omega) (by omega) (stepL_sn (by omega) hs) (by simp; omega) (fun st' p' he hs' hp' hl' => K st' p' ?_ hs' hp' (by omega))
      rw [he]
      conv => rhs; rw [planW, if_pos h0, ha, Int.toNat_natCast]
      rfl
    · rw [w64 (n := i + 1) (by omega) (by omega)]
      exact ev_neg (by omega) (K st p (by rw [planW, if_neg h0]) hs hp (Nat.le_refl _))
theorem planW_sum {fin : Bool} : ∀ (f : Nat) (st : List Int) (p : List (List Int)), (planW f fin st p).1.sum = st.sum
  | 0, st, p => rfl
  | f + 1, st, p => by
    rw [planW]
    by_cases h0 : 0 ≤ atL st fin
    · rw [if_pos h0, planW_sum f]
      have := atL_lt h0
      exact stepL_sum (by omega)
    · rw [if_neg h0]
theorem planW_len {fin : Bool} : ∀ (f : Nat) (st : List Int) (p : List (List Int)), (planW f fin st p).2.length + (planW f fin st p).1.length = p.length + st.length
  | 0, st, p => rfl
  | f + 1, st, p => by
    rw [planW]
    by_cases h0 : 0 ≤ atL st fin
    · rw [if_pos h0, planW_len f]
      have := atL_lt h0
      have := stepL_len (st := st) (a := (atL st fin).toNat) (by omega)
      rw [List.length_append, this]
      simp
      omega
    · rw [if_neg h0]
/-- The reference's plan. -/
theorem plan_ev (l : List Int) (hl : l.length ≤ 60) (hp : ∀ x ∈ l, 1 ≤ x ∧ x ≤ 1000000) (d : Nat) : ∀ (i : Nat) (st : List Int) (p : List (List Int)), i + d = l.length → st.length ≤ i → Sn (1000000 * i) st → p.length + st.length ≤ i →
    Ev (fun k => spec_mergePlan.l0 k l p st (i : Int)) (planL (l.drop i) st p) := by
  have last : ∀ (st : List Int) (p : List (List Int)), Ev (fun k => spec_mergePlan.l0 k l p st ((l.length : Int) + 1)) p := fun st p => by
    refine ev_succ ?_
    simp only [spec_mergePlan.l0]
    exact ev_neg (by omega) (ev_some rfl)
  induction d with
  | zero =>
    intro i st p hi hs hn hpl
    have e : i = l.length := by omega
    subst e
    have A := mergeAt_ev st true (by omega) (sn_sm (B := 1000000 * l.length) (by omega) hn)
    rw [List.drop_length]
    refine ev_succ ?_
    simp only [spec_mergePlan.l0]
    refine ev_pos (by omega) (ev_neg (by omega) (ev_succ ?_))
    simp only [spec_mergePlan.j1]
    rw [show ((l.length : Int) == (l.length : Int)) = true by simp]
    refine Ev.bind A (merges_ev l (l.length : Int) (by omega) (1000000 * l.length) (by omega) _ true (by simp) st.length st p (Nat.le_refl _) (by omega) hn (by omega) (fun st' p' he _ _ _ => ?_))
    have e2 : p' = (planW st.length true st p).2 := by rw [← he]
    rw [planL, ← e2]
    exact last st' p'
  | succ d ih =>
    intro i st p hi hs hn hpl
    have hlt : i < l.length := by omega
    have hx := hp _ (List.getElem_mem hlt)
    have hsn : Sn (1000000 * ((i + 1 : Nat) : Int)) (st ++ [l[i]]) := by
      refine ⟨fun x hx2 => ?_, ?_⟩
      · simp only [List.mem_append, List.mem_singleton] at hx2
        rcases hx2 with h | rfl
        · exact hn.1 x h
        · exact hx.1
      · have := hn.2
        simp only [List.sum_append, List.sum_cons, List.sum_nil]
        omega
    have A := mergeAt_ev (st ++ [l[i]]) false (by simp; omega) (sn_sm (B := 1000000 * ((i + 1 : Nat) : Int)) (by omega) hsn)
    have hne : ((i : Int) == (l.length : Int)) = false := by simp; omega
    refine ev_succ ?_
    simp only [spec_mergePlan.l0, List.nil_append]
    rw [rd_at l i hlt, List.drop_eq_getElem_cons hlt, planL]
    refine ev_pos (by omega) (ev_pos (by omega) (ev_bind1 rfl (ev_pos (by simp; omega) (ev_bind1 rfl (ev_pos (by omega) (ev_bind1 rfl (ev_pos (by simp; omega) (ev_succ ?_))))))))
    simp only [spec_mergePlan.j1, List.nil_append]
    rw [hne]
    refine Ev.bind A (merges_ev l (i : Int) (by omega) (1000000 * ((i + 1 : Nat) : Int)) (by omega) _ false hne (st.length + 1) (st ++ [l[i]]) p (by simp) (by simp; omega) hsn (by simp; omega) (fun st' p' he hs' hp' hl' => ?_))
    have e1 : st' = (planW (st.length + 1) false (st ++ [l[i]]) p).1 := by rw [← he]
    have e2 : p' = (planW (st.length + 1) false (st ++ [l[i]]) p).2 := by rw [← he]
    have hL := planW_len (fin := false) (st.length + 1) (st ++ [l[i]]) p
    rw [← e1, ← e2] at hL ⊢
    simp only [List.length_append, List.length_cons, List.length_nil] at hL hl'
    have := ih (i + 1) st' p' (by omega) (by omega) hs' (by omega)
    rw [show ((i : Int) + 1) = ((i + 1 : Nat) : Int) by omega]
    exact this
def planR (l : List Int) : List (List Int) := if okL l = true then planL l [] [] else []
theorem inRange_mp (a b c : Int) : spec_inRange.f a b c = some (decide (b ≤ a ∧ a ≤ c)) := by
  unfold spec_inRange.f
  by_cases h1 : a ≥ b
  · rw [if_pos h1]; congr 1; simp; omega
  · rw [if_neg h1, decide_eq_false (by omega)]
theorem specPlan_from (l : List Int) (hl : l.length ≤ 60) (d : Nat) : ∀ i : Nat, i + d = l.length → (∀ x ∈ l.take i, 1 ≤ x ∧ x ≤ 1000000) → Ev (fun k => spec_MergePlan.l0 k l (i : Int)) (planR l) := by
  induction d with
  | zero =>
    intro i hi hp
    rw [List.take_of_length_le (by omega)] at hp
    refine ev_succ ?_
    simp only [spec_MergePlan.l0]
    have hok : okL l = true := by
      rw [okL, decide_eq_true hl, Bool.true_and, List.all_eq_true]
      exact fun x hx => decide_eq_true (hp x hx)
    have P := plan_ev l hl hp l.length 0 [] [] (by omega) (by simp) ⟨by simp, by simp⟩ (by simp)
    rw [List.drop_zero] at P
    rw [planR, if_pos hok]
    refine ev_neg (by omega) (Ev.bind ?_ (ev_some rfl))
    unfold spec_mergePlan.f
    exact P
  | succ d ih =>
    intro i hi hp
    have hlt : i < l.length := by omega
    refine ev_succ ?_
    simp only [spec_MergePlan.l0]
    rw [rd_at l i hlt, next_i i (by omega)]
    refine ev_pos (by omega) (ev_pos (by omega) (ev_bind1 (inRange_mp _ _ _) ?_))
    by_cases hr : 1 ≤ l[i] ∧ l[i] ≤ 1000000
    · rw [decide_eq_true hr]
      refine ev_pos rfl (ih (i + 1) (by omega) (fun x hx => ?_))
      rw [List.take_succ_eq_append_getElem hlt] at hx
      simp only [List.mem_append, List.mem_singleton] at hx
      rcases hx with hx | rfl
      · exact hp x hx
      · exact hr
    · rw [decide_eq_false hr]
      refine ev_neg (by simp) (ev_some (congrArg some ?_))
      have : okL l ≠ true := by
        intro h
        rw [okL, Bool.and_eq_true, List.all_eq_true] at h
        exact hr (of_decide_eq_true (h.2 _ (List.getElem_mem hlt)))
      rw [planR, if_neg this]
theorem specMergePlan_ev (l : List Int) : Ev (fun k => spec_MergePlan.f k l) (planR l) := by
  unfold spec_MergePlan.f
  by_cases hl : (l.length : Int) > 60
  · refine ev_pos hl (ev_some (congrArg some ?_))
    rw [planR, okL, decide_eq_false (by omega)]; rfl
  · exact ev_neg hl (specPlan_from l (by omega) l.length 0 (by omega) (by simp))

/-! ### Merges of runs: what the plan ends with -/
/-- The last merge, where one run is left. -/
def Gl (st : List Int) (p : List (List Int)) : Prop := (st = [] → p = []) ∧ (st.length = 1 → p ≠ [] → ∃ q a b, p = q ++ [[0, a, b]] ∧ a + b = st.sum)
theorem gl_step {st : List Int} {p : List (List Int)} {fin : Bool} (h0 : 0 ≤ atL st fin) : Gl (stepL st (atL st fin).toNat) (p ++ [rowL st (atL st fin)]) := by
  have hlt := atL_lt h0
  have hlen := stepL_len (st := st) (a := (atL st fin).toNat) (by omega)
  refine ⟨fun h => ?_, fun h _ => ?_⟩
  · rw [h] at hlen
    simp at hlen
    omega
  · have h2 : st.length = 2 := by omega
    have ha : atL st fin = 0 := by omega
    rw [ha]
    refine ⟨p, rd st 0, rd st 1, rfl, ?_⟩
    rw [show (0 : Int).toNat = 0 from rfl, stepL_sum (by omega)]
    match st, h2 with
    | [x, y], _ => simp [rd]
theorem gl_planW {fin : Bool} : ∀ (f : Nat) (st : List Int) (p : List (List Int)), Gl st p → Gl (planW f fin st p).1 (planW f fin st p).2
  | 0, st, p, h => h
  | f + 1, st, p, h => by
    rw [planW]
    by_cases h0 : 0 ≤ atL st fin
    · rw [if_pos h0]; exact gl_planW f _ _ (gl_step h0)
    · rw [if_neg h0]; exact h
theorem planW_one : ∀ (f : Nat) (st : List Int) (p : List (List Int)), st.length ≤ f → st ≠ [] → (planW f true st p).1.length = 1
  | 0, st, p, hf, hn => absurd (List.eq_nil_of_length_eq_zero (by omega)) hn
  | f + 1, st, p, hf, hn => by
    rw [planW]
    by_cases h0 : 0 ≤ atL st true
    · rw [if_pos h0]
      have hlt := atL_lt h0
      have hlen := stepL_len (st := st) (a := (atL st true).toNat) (by omega)
      exact planW_one f _ _ (by omega) (fun e => by rw [e] at hlen; simp at hlen; omega)
    · rw [if_neg h0]
      have h1 : 0 < st.length := List.length_pos_iff.2 hn
      show st.length = 1
      apply Classical.byContradiction
      intro hc
      apply h0
      unfold atL
      rw [if_neg (by omega)]
      split
      · rename_i h
        unfold tightB at h
        have := of_decide_eq_true h.1
        omega
      · rw [if_pos (.inr (.inl rfl))]
        omega
theorem planW_ne {fin : Bool} : ∀ (f : Nat) (st : List Int) (p : List (List Int)), st ≠ [] → (planW f fin st p).1 ≠ []
  | 0, st, p, h => h
  | f + 1, st, p, h => by
    rw [planW]
    by_cases h0 : 0 ≤ atL st fin
    · rw [if_pos h0]
      have hlt := atL_lt h0
      have hlen := stepL_len (st := st) (a := (atL st fin).toNat) (by omega)
      exact planW_ne f _ _ (fun e => by rw [e] at hlen; simp at hlen; omega)
    · rw [if_neg h0]; exact h
theorem planL_last : ∀ (l st : List Int) (p : List (List Int)), Gl st p → l ++ st ≠ [] → ((planL l st p).length + 1 = p.length + st.length + l.length) ∧ (planL l st p ≠ [] → ∃ q a b, planL l st p = q ++ [[0, a, b]] ∧ a + b = st.sum + l.sum)
  | [], st, p, h, hn => by
    rw [List.nil_append] at hn
    have hL := planW_len (fin := true) st.length st p
    have h1 := planW_one st.length st p (Nat.le_refl _) hn
    have hs := planW_sum (fin := true) st.length st p
    have hg := gl_planW (fin := true) st.length st p h
    rw [planL]
    refine ⟨by rw [h1] at hL; simpa using hL, fun hne => ?_⟩
    obtain ⟨q, a, b, e, hab⟩ := hg.2 h1 hne
    exact ⟨q, a, b, e, by rw [hab, hs]; simp⟩
  | x :: l, st, p, h, hn => by
    have hg : Gl (st ++ [x]) p := by
      refine ⟨fun e => by simp at e, fun e hne => ?_⟩
      have : st = [] := List.eq_nil_of_length_eq_zero (by simpa using e)
      exact absurd (h.1 this) hne
    have hL := planW_len (fin := false) (st.length + 1) (st ++ [x]) p
    have hs := planW_sum (fin := false) (st.length + 1) (st ++ [x]) p
    have hg2 := gl_planW (fin := false) (st.length + 1) (st ++ [x]) p hg
    have hne := planW_ne (fin := false) (st.length + 1) (st ++ [x]) p (by simp)
    obtain ⟨c, d⟩ := planL_last l _ _ hg2 (by simp [hne])
    rw [planL]
    rw [hL] at c
    rw [hs] at d
    refine ⟨by simp at c ⊢; omega, fun h2 => ?_⟩
    obtain ⟨q, a, b, e, hab⟩ := d h2
    refine ⟨q, a, b, e, ?_⟩
    rw [hab]
    simp
    omega
theorem planR_last (l : List Int) (h : planR l ≠ []) : (planR l).length + 1 = l.length ∧ ∃ q a b, planR l = q ++ [[0, a, b]] ∧ a + b = l.sum := by
  unfold planR at h ⊢
  by_cases hok : okL l = true
  · rw [if_pos hok] at h ⊢
    have hn : l ≠ [] := by
      rintro rfl
      exact h rfl
    obtain ⟨a, b⟩ := planL_last l [] [] ⟨fun _ => rfl, fun h => by simp at h⟩ (by simpa using hn)
    refine ⟨by simpa using a, ?_⟩
    obtain ⟨q, x, y, e, hxy⟩ := b h
    exact ⟨q, x, y, e, by simpa using hxy⟩
  · rw [if_neg hok] at h; exact absurd rfl h

/-! ### Merges of runs: the program's one loop -/
theorem atL_true {st : List Int} (h : 0 ≤ atL st false) : atL st true = atL st false := by
  unfold atL at h ⊢
  by_cases h2 : st.length < 2
  · rw [if_pos h2] at h; omega
  · rw [if_neg h2] at h
    rw [if_neg h2, if_neg h2]
    by_cases h3 : tightB st = true ∧ rd st ((st.length : Int) - 3) < rd st ((st.length : Int) - 1)
    · rw [if_pos h3, if_pos h3]
    · rw [if_neg h3] at h
      rw [if_neg h3, if_neg h3]
      by_cases h4 : tightB st = true ∨ false = true ∨ rd st ((st.length : Int) - 2) ≤ rd st ((st.length : Int) - 1)
      · rw [if_pos h4, if_pos (.inr (.inl rfl))]
      · rw [if_neg h4] at h; omega
theorem planW_more {fin : Bool} : ∀ (f g : Nat) (st : List Int) (p : List (List Int)), st.length ≤ f → st.length ≤ g → planW f fin st p = planW g fin st p
  | 0, 0, _, _, _, _ => rfl
  | 0, g + 1, st, p, h, _ => by
    have : ¬ 0 ≤ atL st fin := fun h0 => by have := atL_lt h0; omega
    rw [planW, planW, if_neg this]
  | f + 1, 0, st, p, _, h => by
    have : ¬ 0 ≤ atL st fin := fun h0 => by have := atL_lt h0; omega
    rw [planW, planW, if_neg this]
  | f + 1, g + 1, st, p, h1, h2 => by
    rw [planW, planW]
    by_cases h0 : 0 ≤ atL st fin
    · rw [if_pos h0, if_pos h0]
      have hlt := atL_lt h0
      have hlen := stepL_len (st := st) (a := (atL st fin).toNat) (by omega)
      exact planW_more f g _ _ (by omega) (by omega)
    · rw [if_neg h0, if_neg h0]
theorem planI_end : ∀ (f : Nat) (st : List Int) (p : List (List Int)), st.length ≤ f → planI f [] st p = (planW st.length true st p).2
  | 0, st, p, h => by
    have : st.length = 0 := by omega
    rw [this]; rfl
  | f + 1, st, p, h => by
    rw [planW_more st.length (f + 1) st p (Nat.le_refl _) h, planI, planW]
    by_cases h0 : 0 ≤ atL st true
    · have hlt := atL_lt h0
      have hlen := stepL_len (st := st) (a := (atL st true).toNat) (by omega)
      have ih := planI_end f (stepL st (atL st true).toNat) (p ++ [rowL st (atL st true)]) (by omega)
      rw [planW_more _ f _ _ (Nat.le_refl _) (by omega)] at ih
      simp only [if_pos h0]
      by_cases h1 : 0 ≤ atL st false
      · rw [if_pos h1, ← atL_true h1]; exact ih
      · rw [if_neg h1]; exact ih
    · have h1 : ¬ 0 ≤ atL st false := fun h1 => h0 (by rw [atL_true h1]; exact h1)
      rw [if_neg h0, if_neg h1]
      simp only [if_neg h0]
theorem planI_eq : ∀ (f : Nat) (rest st : List Int) (p : List (List Int)), 2 * rest.length + st.length ≤ f → planI f rest st p = planL rest (planW st.length false st p).1 (planW st.length false st p).2
  | f, [], st, p, h => by
    rw [planI_end f st p (by simpa using h), planL]
    -- merges that are not forced come first either way
    have key : ∀ (g : Nat) (st : List Int) (p : List (List Int)), st.length ≤ g → planW st.length true st p = planW (planW st.length false st p).1.length true (planW st.length false st p).1 (planW st.length false st p).2 := by
      intro g
      induction g with
      | zero =>
        intro st p h
        have : st.length = 0 := by omega
        rw [this]
        have e : st = [] := List.eq_nil_of_length_eq_zero this
        rw [e]; rfl
      | succ g ih =>
        intro st p h
        by_cases h1 : 0 ≤ atL st false
        · have hlt := atL_lt h1
          have hlen := stepL_len (st := st) (a := (atL st false).toNat) (by omega)
          have i := ih (stepL st (atL st false).toNat) (p ++ [rowL st (atL st false)]) (by omega)
          have e1 : planW st.length false st p = planW (stepL st (atL st false).toNat).length false (stepL st (atL st false).toNat) (p ++ [rowL st (atL st false)]) := by
            rw [planW_more st.length ((stepL st (atL st false).toNat).length + 1) st p (Nat.le_refl _) (by omega), planW, if_pos h1]
          have e2 : planW st.length true st p = planW (stepL st (atL st false).toNat).length true (stepL st (atL st false).toNat) (p ++ [rowL st (atL st false)]) := by
            rw [planW_more st.length ((stepL st (atL st false).toNat).length + 1) st p (Nat.le_refl _) (by omega), planW, atL_true h1, if_pos h1]
          rw [e1, e2]
          exact i
        · have e1 : planW st.length false st p = (st, p) := by
            rw [planW_more st.length (st.length + 1) st p (Nat.le_refl _) (by omega), planW, if_neg h1]
          rw [e1]
    rw [key st.length st p (Nat.le_refl _)]
  | 0, x :: rest, st, p, h => by simp at h
  | f + 1, x :: rest, st, p, h => by
    simp only [List.length_cons] at h
    rw [planI]
    by_cases h1 : 0 ≤ atL st false
    · have hlt := atL_lt h1
      have hlen := stepL_len (st := st) (a := (atL st false).toNat) (by omega)
      rw [if_pos h1, planI_eq f (x :: rest) _ _ (by simp; omega)]
      have e1 : planW st.length false st p = planW (stepL st (atL st false).toNat).length false (stepL st (atL st false).toNat) (p ++ [rowL st (atL st false)]) := by
        rw [planW_more st.length ((stepL st (atL st false).toNat).length + 1) st p (Nat.le_refl _) (by omega), planW, if_pos h1]
      rw [e1]
    · have e1 : planW st.length false st p = (st, p) := by
        rw [planW_more st.length (st.length + 1) st p (Nat.le_refl _) (by omega), planW, if_neg h1]
      rw [if_neg h1, e1]
      simp only []
      rw [planI_eq f rest (st ++ [x]) p (by simp; omega), planL, planW_more (st ++ [x]).length (st.length + 1) (st ++ [x]) p (Nat.le_refl _) (by simp)]
theorem planI_all (l : List Int) (f : Nat) (hf : 2 * l.length ≤ f) : planI f l [] [] = planL l [] [] := by
  rw [planI_eq f l [] [] (by simpa using hf)]
  rfl

/-! ### Rows of the plan: compared, marked, held -/
theorem planW_rows {fin : Bool} : ∀ (f : Nat) (st : List Int) (p : List (List Int)), (∀ r ∈ p, r.length = 3) → ∀ r ∈ (planW f fin st p).2, r.length = 3
  | 0, _, _, h => h
  | f + 1, st, p, h => by
    rw [planW]
    by_cases h0 : 0 ≤ atL st fin
    · rw [if_pos h0]
      refine planW_rows f _ _ (fun r hr => ?_)
      simp only [List.mem_append, List.mem_singleton] at hr
      rcases hr with hr | rfl
      · exact h r hr
      · rfl
    · rw [if_neg h0]; exact h
theorem planL_rows : ∀ (l st : List Int) (p : List (List Int)), (∀ r ∈ p, r.length = 3) → ∀ r ∈ planL l st p, r.length = 3
  | [], st, p, h => by rw [planL]; exact planW_rows _ _ _ h
  | x :: l, st, p, h => by rw [planL]; exact planL_rows l _ _ (planW_rows _ _ _ h)
theorem planR_rows (l : List Int) : ∀ r ∈ planR l, r.length = 3 := by
  unfold planR
  by_cases h : okL l = true
  · rw [if_pos h]; exact planL_rows l [] [] (by simp)
  · rw [if_neg h]; simp
theorem planR_len (l : List Int) : (planR l).length ≤ 60 := by
  by_cases h : planR l = []
  · rw [h]; simp
  · have := (planR_last l h).1
    have hok : okL l = true := by
      apply Classical.byContradiction
      intro hc
      exact h (by rw [planR, if_neg hc])
    rw [okL, Bool.and_eq_true] at hok
    have := of_decide_eq_true hok.1
    omega
theorem implPlan_some (l : List Int) : impl_MergePlan.f l = some (planR l) := by
  unfold impl_MergePlan.f planR
  by_cases h : okL l = true
  · rw [if_pos h, if_pos h, planI_all l _ (Nat.le_refl _)]
  · rw [if_neg h, if_neg h]
theorem rdL_at (l : List (List Int)) (i : Nat) (h : i < l.length) : rd_L1 l (i : Int) = l[i] := by
  unfold rd_L1
  simp [List.getD_eq_getElem?_getD, h]
theorem eqSelfSS_from (l : List (List Int)) (hl : l.length ≤ 1048576) (hr : ∀ r ∈ l, r.length ≤ 1048576) (d : Nat) : ∀ (i : Nat), i + d = l.length → Ev (fun k => laws_eqIntSS.l0 k l l (i : Int)) true := by
  induction d with
  | zero =>
    intro i hi
    refine ev_succ ?_
    simp only [laws_eqIntSS.l0]
    exact ev_neg (by omega) (ev_some rfl)
  | succ d ih =>
    intro i hi
    have hlt : i < l.length := by omega
    refine ev_succ ?_
    simp only [laws_eqIntSS.l0]
    rw [rdL_at l i hlt, next_i i (by omega)]
    exact ev_pos (by omega) (ev_pos (by omega) (ev_pos (by omega) (Ev.bind (eqSelf_ev _ (hr _ (List.getElem_mem hlt))) (ev_pos rfl (ih (i + 1) (by omega))))))
theorem eqSelfSS_ev (l : List (List Int)) (hl : l.length ≤ 1048576) (hr : ∀ r ∈ l, r.length ≤ 1048576) : Ev (fun k => laws_eqIntSS.f k l l) true := by
  unfold laws_eqIntSS.f
  exact ev_pos rfl (eqSelfSS_from l hl hr l.length 0 (by omega))
/-- Rows marked one behind the other: the number that is next, and the rows. -/
def markS2 (k : Nat) : List (List Int) → Int → Option (Int × List (List Int))
  | [], a => some (a, [])
  | l :: ls, a => (laws_markIntS.f k l a).bind fun r => (markS2 k ls r.1).bind fun s => some (s.1, r.2 :: s.2)
theorem markS2_mono (k : Nat) : ∀ (l : List (List Int)) (a : Int), LeO (markS2 k l a) (markS2 (k + 1) l a)
  | [], _ => LeO.refl _
  | l :: ls, a => LeO.bind (laws_markIntS.mono _ _ _) (fun r => LeO.bind (markS2_mono k ls r.1) (fun s => LeO.refl _))
/-- n rows of three numbers, counted from s on. -/
def seq3 (s : Int) (n : Nat) : List (List Int) := (List.range n).map fun (i : Nat) => seqL (s + 3 * (i : Int)) 3
theorem seq3_length (s : Int) (n : Nat) : (seq3 s n).length = n := by simp [seq3]
theorem seq3_succ (s : Int) (n : Nat) : seq3 s (n + 1) = seqL s 3 :: seq3 (s + 3) n := by
  unfold seq3
  rw [List.range_succ_eq_map, List.map_cons, List.map_map]
  congr 1
  · congr 1; omega
  · apply List.map_congr_left
    intro i _
    show seqL (s + 3 * ((i + 1 : Nat) : Int)) 3 = seqL (s + 3 + 3 * (i : Int)) 3
    congr 1; omega
theorem markS2_ev : ∀ (l : List (List Int)) (s : Int), (∀ r ∈ l, r.length = 3) → l.length ≤ 1000 → 0 ≤ s → s + 3 * (l.length : Int) ≤ 1000000 → Ev (fun k => markS2 k l s) (s + 3 * (l.length : Int), seq3 s l.length)
  | [], s, _, _, _, _ => ev_some (by simp [seq3])
  | r :: l, s, hr, hl, h0, h1 => by
    have h3 := hr r (List.mem_cons_self ..)
    simp only [List.length_cons] at hl h1
    have m := mark_ev r s (by omega) h0 (by omega)
    rw [h3] at m
    have key := markS2_ev l (s + ((3 : Nat) : Int)) (fun x hx => hr x (List.mem_cons_of_mem _ hx)) (by omega) (by omega) (by omega)
    refine Ev.bind m (Ev.bind key (ev_some ?_))
    rw [List.length_cons, seq3_succ]
    refine congrArg some (Prod.ext ?_ rfl)
    show s + ((3 : Nat) : Int) + 3 * (l.length : Int) = _
    omega
theorem heldSS_from (n : Nat) (hn : n ≤ 1000) (d : Nat) : ∀ (i : Nat), i + d = n → Ev (fun k => laws_heldIntSS.l0 k (seq3 1 n) (1 + 3 * (i : Int)) (i : Int)) (1 + 3 * (n : Int)) := by
  induction d with
  | zero =>
    intro i hi
    refine ev_succ ?_
    simp only [laws_heldIntSS.l0, seq3_length]
    refine ev_neg (by omega) (ev_some ?_)
    have : i = n := by omega
    rw [this]
  | succ d ih =>
    intro i hi
    refine ev_succ ?_
    simp only [laws_heldIntSS.l0, seq3_length]
    have hlt : i < (seq3 1 n).length := by rw [seq3_length]; omega
    have e : (seq3 1 n)[i] = seqL (1 + 3 * (i : Int)) 3 := by simp [seq3]
    rw [rdL_at _ i hlt, e, next_i i (by omega)]
    have h := held_ev (1 + 3 * (i : Int)) 3 (by omega) (by omega) (by omega)
    have key := ih (i + 1) (by omega)
    rw [show 1 + 3 * ((i + 1 : Nat) : Int) = 1 + 3 * (i : Int) + ((3 : Nat) : Int) by omega] at key
    exact ev_pos (by omega) (ev_pos (by omega) (Ev.bind h (ev_neg (by omega) key)))
theorem heldSS_ev (n : Nat) (hn : n ≤ 1000) : Ev (fun k => laws_heldIntSS.f k (seq3 1 n) 1) (1 + 3 * (n : Int)) := by
  have h := heldSS_from n hn n 0 (by omega)
  exact h
/-- What the law's calls answer. -/
def Mf (k : Nat) (l : List Int) (R : List (List Int)) (m1 : Int) (l1 : List Int) (m : Int) (R' : List (List Int)) : Prop :=
  laws_toIntS.f k l = some l ∧ spec_MergePlan.f k l = some R ∧ impl_MergePlan.f l = some R ∧ laws_eqIntSS.f k R R = some true ∧ laws_eqIntS.f k l l = some true ∧ laws_markIntS.f k l 1 = some (m1, l1) ∧ markS2 k R 1 = some (m, R') ∧ laws_heldIntSS.f k R' 1 = some m
set_option maxHeartbeats 8000000 in
set_option maxRecDepth 100000 in
/-- markIntSS, the rows handed back. -/
theorem markSS_calls (k : Nat) (P0_ : Nat → Prop) (u9000_ : Value) (l0 : List (List Int)) (a1 : Int) (r1 : Int) (l2 : List (List Int)) (w0 w : World) (hB : Below w0.heap.size w0 w) (ho0 : Kd.S (Kd.slice 3 (Kd.int .i64)) 33 w w0.heap.size P0_ u9000_ l0) (hl : l0.length ≤ 4611686018427387904) (h : markS2 k l0 a1 = some (r1, l2)) :
    Calls Try.prog 26 #[u9000_, .int .i64 a1] w fun e w' => e = .returned (.int .i64 r1) ∧ Kd.S (Kd.slice 3 (Kd.int .i64)) 33 w' w0.heap.size (fun k_ => (P0_ k_ ∨ w.heap.size ≤ k_)) u9000_ l2 ∧ Below w0.heap.size w0 w' ∧ Kept w w' (fun k_ => P0_ k_) := by
  obtain ⟨A, c, rfl⟩ := Kd.S_slice ho0
  have HS := Aside0.mk (show Kd.S (Kd.slice 3 (Kd.int .i64)) 33 w w0.heap.size (fun k_ => (P0_ k_ ∨ w.heap.size ≤ k_)) (.slice A l0.length c) ([] ++ l0.drop 0) from Kd.S_mono ho0 (fun k_ hk => Or.inl hk))
  have HK := Aside0.mk (Kept.refl w (fun k_ => P0_ k_))
  have HB := Aside0.mk hB
  have HM := Aside0.mk (show ∃ t, markS2 k (l0.drop 0) a1 = some (r1, t) ∧ l2 = [] ++ t from ⟨l2, h, rfl⟩)
  clear h hB ho0
  go_enter Try.func26, Try.ntmps26
  go_wp2
  go_loopw [1, 5] (fun v1 v5 wr => ∃ (i : Nat) (x : Int) (done : List (List Int)), i ≤ l0.length ∧ v1 = .int .i64 x ∧ v5 = .int .i64 (i : Int) ∧ Aside0 (∃ t, markS2 k (l0.drop i) x = some (r1, t) ∧ l2 = done ++ t) ∧ Aside0 (done.length = i) ∧ Aside0 (Kd.S (Kd.slice 3 (Kd.int .i64)) 33 wr w0.heap.size (fun k_ => (P0_ k_ ∨ w.heap.size ≤ k_)) (.slice A l0.length c) (done ++ l0.drop i)) ∧ Aside0 (Kept w wr (fun k_ => P0_ k_)) ∧ Aside0 (Below w0.heap.size w0 wr)) (fun _ v5 _ => l0.length - (intOf v5).toNat)
  case atStart => exact ⟨0, a1, [], Nat.zero_le _, rfl, rfl, HM, ⟨rfl⟩, HS, HK, HB⟩
  case round =>
    clear HS HK HB HM
    obtain ⟨i, x, done, hi, rfl, rfl, HM, HD, HS, HK, HB⟩ := hrel
    by_cases hlt : i < l0.length
    · have hlt' : decide ((i : Int) < (l0.length : Int)) = true := decide_eq_true (by omega)
      have hxl : (done ++ l0.drop i).length = l0.length := by have := HD.out; simp; omega
      have hget : (done ++ l0.drop i).getD ((i : Int)).toNat [] = l0[i] := by
        have := HD.out
        rw [Int.toNat_natCast, List.getD_eq_getElem?_getD, List.getElem?_append_right (by omega), this, Nat.sub_self, List.getElem?_drop, Nat.add_zero, List.getElem?_eq_getElem hlt]
        rfl
      obtain ⟨g, cap, eg, hgb, hgl, cells, hgc⟩ := Kd.S_form HS.out (by omega)
      obtain ⟨rfl, -, -⟩ : A = some ⟨g, 0, none⟩ ∧ l0.length = (done ++ l0.drop i).length ∧ c = cap := by injection eg with e1 e2 e3; exact ⟨e1, e2, e3⟩
      obtain ⟨oki, cc, hcl, hM, hcc, hok, hH⟩ := Kd.S_lend HS.out [] (i : Int) (by omega) (by omega)
      rw [hget] at hM
      obtain ⟨t, hm, ht⟩ := HM.out
      rw [List.drop_eq_getElem_cons hlt] at hm
      obtain ⟨⟨x', l'⟩, e1, e3⟩ := Option.bind_eq_some_iff.mp hm
      obtain ⟨⟨y', t'⟩, e4, e5⟩ := Option.bind_eq_some_iff.mp e3
      have e6 : y' = r1 ∧ l' :: t' = t := by
        have := Option.some.inj e5
        exact Prod.mk.inj this
      obtain ⟨rfl, rfl⟩ := e6
      have hset : (done ++ l0.drop i).set ((i : Int)).toNat l' = (done ++ [l']) ++ l0.drop (i + 1) := by
        have := HD.out
        rw [Int.toNat_natCast, List.set_append_right _ _ (by omega), this, Nat.sub_self, List.drop_eq_getElem_cons hlt, List.set_cons_zero, List.append_assoc]
        rfl
      have HSET := Aside0.mk hset
      have E3 := Aside0.mk (show ∃ t, markS2 k (l0.drop (i + 1)) x' = some (y', t) ∧ l2 = (done ++ [l']) ++ t from ⟨t', e4, by rw [ht]; simp⟩)
      clear hm ht HM hget eg hgc hset e3 e4 e5
      generalize l0[i] = li at e1 hM
      obtain ⟨v, rfl, hR⟩ := hM
      obtain ⟨Ai, ci, rfl⟩ := Kd.R_slice hR
      have hcell : wr.cell? ⟨g, i, none⟩ = some (.slice Ai li.length ci) := by have := hcc 0 _ rfl; simpa [Kd.slice] using this
      have E1 := Aside0.mk e1
      have HR := Aside0.mk hR
      have HH := Aside0.mk hH
      have HO := Aside0.mk hok
      have HXL := Aside0.mk hxl
      clear e1 hR hH hok hcc hcl hgb hgl hxl
      go_wp2_with (go_at_call 27; (with_reducible refine (laws_markIntS.calls k oki _ li x x' l' w0 _ HB.out HR.out E1.out).mono ?_); rintro e W1 ⟨rfl, h1, b1, k1⟩; have HR1 := Aside0.mk h1; have HB1 := Aside0.mk b1; have HK1 := Aside0.mk k1; clear h1 b1 k1)
      go_roundw
      case rel =>
        refine ⟨i + 1, x', done ++ [l'], by omega, rfl, by go_num, E3, ⟨?_⟩, ⟨?_⟩, ⟨?_⟩, HB1⟩
        · have := HD.out
          rw [List.length_append, this]; rfl
        · rw [← HSET.out]
          have hsz : w.heap.size ≤ wr.heap.size := HK.out.1
          exact Kd.H_back (Kd.H_step (Kd.H_widen HH.out) (fun k_ _ hn hlt2 => HK1.out.2 k_ hlt2 (fun ho => hn (.inl ho)))) (okp := fun k_ => oki k_ ∨ wr.heap.size ≤ k_) ⟨_, rfl, HR1.out⟩ (fun k_ hk => hk.elim .inl (fun hge => .inr ⟨.inr (by omega), hge⟩))
        · refine ⟨Nat.le_trans HK.out.1 HK1.out.1, fun k_ hk hn => ?_⟩
          rw [HK1.out.2 k_ (by have := HK.out.1; omega) (fun ho => ?_), HK.out.2 k_ hk hn]
          rcases (HO.out k_ ho).1 with h | h
          · exact hn h
          · omega
      case measure => simp [intOf]; omega
    · have hlt' : decide ((i : Int) < (l0.length : Int)) = false := decide_eq_false (by omega)
      obtain ⟨t, hm, ht⟩ := HM.out
      rw [List.drop_of_length_le (by omega)] at hm
      have e6 : x = r1 ∧ [] = t := Prod.mk.inj (Option.some.inj hm)
      obtain ⟨rfl, rfl⟩ := e6
      have hs := HS.out
      rw [List.drop_of_length_le (by omega), ← ht] at hs
      have HS2 := Aside0.mk hs
      clear hm ht hs HM
      go_wp2
      go_ret
      exact ⟨rfl, HS2.out, HB.out, HK.out⟩
/-- What is there between the law's calls: the reference's rows, the argument's copy, the program's rows. -/
def Mx (w : World) (n2 n3 n4 : Nat) (v15 v17 v19 : Value) (R : List (List Int)) (X : List Int) (G : List (List Int)) (W : World) : Prop :=
  Kd.N (Kd.slice 3 (Kd.int .i64)) 33 W w.heap.size (fun k => k < n2) v15 R ∧ Kd.R (Kd.int .i64) 3 W w.heap.size (fun k => n2 ≤ k ∧ k < n3) v17 X ∧ Kd.S (Kd.slice 3 (Kd.int .i64)) 33 W w.heap.size (fun k => n3 ≤ k) v19 G ∧ Below w.heap.size w W ∧ w.heap.size ≤ n2 ∧ n2 ≤ n3 ∧ n3 ≤ n4 ∧ n4 ≤ W.heap.size
theorem Mx.below {w : World} {n2 n3 n4 : Nat} {v15 v17 v19 : Value} {R : List (List Int)} {X : List Int} {G : List (List Int)} {W W' : World} (h : Mx w n2 n3 n4 v15 v17 v19 R X G W) (hb : Below W.heap.size W W') : Mx w n2 n3 n4 v15 v17 v19 R X G W' :=
  ⟨Kd.N_below h.1 hb, Kd.R_below h.2.1 hb, Kd.S_below h.2.2.1 hb, below_step h.2.2.2.1 hb, h.2.2.2.2.1, h.2.2.2.2.2.1, h.2.2.2.2.2.2.1, Nat.le_trans h.2.2.2.2.2.2.2 hb.size⟩
def My (w : World) (n2 n3 : Nat) (v15 v19 : Value) (R : List (List Int)) (G : List (List Int)) (W : World) : Prop :=
  Kd.N (Kd.slice 3 (Kd.int .i64)) 33 W w.heap.size (fun k => k < n2) v15 R ∧ Kd.S (Kd.slice 3 (Kd.int .i64)) 33 W w.heap.size (fun k => n3 ≤ k) v19 G ∧ Below w.heap.size w W ∧ n2 ≤ n3 ∧ n3 ≤ W.heap.size
theorem My.below {w : World} {n2 n3 : Nat} {v15 v19 : Value} {R : List (List Int)} {G : List (List Int)} {W W' : World} (h : My w n2 n3 v15 v19 R G W) (hb : Below W.heap.size W W') : My w n2 n3 v15 v19 R G W' :=
  ⟨Kd.N_below h.1 hb, Kd.S_below h.2.1 hb, below_step h.2.2.1 hb, h.2.2.2.1, Nat.le_trans h.2.2.2.2 hb.size⟩
set_option maxHeartbeats 8000000 in
set_option maxRecDepth 100000 in
theorem law_calls (k : Nat) (A0 : Option Addr) (c0 : Nat) (l0 : List Int) (R : List (List Int)) (m1 : Int) (l1 : List Int) (m : Int) (R' : List (List Int)) (w : World) (hr0 : Kd.C (Kd.int .i64) w A0 l0.length l0) (hc0 : l0.length ≤ c0) (hl : l0.length ≤ 1048576) (hm1 : 0 ≤ m1) (hm : 0 ≤ m) (hRl : R.length ≤ 1000) (h : Mf k l0 R m1 l1 m R') :
    Calls Try.prog 6 #[.slice A0 l0.length c0] w fun e w' => e = .returned (.bool true) ∧ Below w.heap.size w w' := by
  obtain ⟨ft, fs, fi, fe, fx, fm, fg, fh⟩ := h
  have FT := Aside0.mk ft
  have FS := Aside0.mk fs
  have FI := Aside0.mk fi
  have FE := Aside0.mk fe
  have FX := Aside0.mk fx
  have FM := Aside0.mk fm
  have FG := Aside0.mk fg
  have FH := Aside0.mk fh
  have HR0 := Aside0.mk hr0
  have HC0 := Aside0.mk hc0
  have HRL := Aside0.mk hRl
  have d1 : decide (1048576 < (l0.length : Int)) = false := decide_eq_false (by omega)
  have d1n : decide (1048576 < l0.length) = false := decide_eq_false (by omega)
  have d2 : decide (m1 < 0) = false := decide_eq_false (by omega)
  have d3 : decide (m < 0) = false := decide_eq_false (by omega)
  clear ft fs fi fe fx fm fg fh hr0 hc0 hl hm1 hm hRl
  go_enter Try.func6, Try.ntmps6
  go_upto_region 4 with (first
    | (go_at_call 22; (with_reducible refine (laws_toIntS.calls k _ _ l0 l0 _ ?s1 ?s2 FT.out).mono ?_); (case s1 => exact HR0.out); (case s2 => exact HC0.out); rintro e w1 ⟨v14, rfl, h1, b1⟩; obtain ⟨A14, c14, e14⟩ := Kd.R_slice h1; subst e14; have F14 := Aside0.mk h1; have B1 := Aside0.mk b1; clear h1 b1)
    | (go_at_call 29; (with_reducible refine (spec_MergePlan.calls k _ _ l0 R _ ?s1 ?s2 FS.out).mono ?_); (case s1 => exact (Kd.R_reads' F14.out).2.2); (case s2 => exact (Kd.R_reads' F14.out).2.1); rintro e w2 ⟨v15, rfl, h2, b2⟩; obtain ⟨A15, c15, e15⟩ := Kd.N_slice h2; subst e15; have FW := Aside0.mk (Kd.N_mono (Kd.N_lower (Kd.N_bound h2) B1.out.size) (ok' := fun k => k < w2.heap.size) (fun k hk => hk.2)); have B2 := Aside0.mk (below_step B1.out b2); clear h2 b2 F14 B1))
  go_upto_region 6 with (first
    | (go_at_call 22; (with_reducible refine (laws_toIntS.calls k _ _ l0 l0 _ ?s1 ?s2 FT.out).mono ?_); (case s1 => exact Kd.C_below HR0.out B2.out); (case s2 => exact HC0.out); rintro e w3 ⟨v17, rfl, h3, b3⟩; obtain ⟨A17, c17, e17⟩ := Kd.R_slice h3; subst e17; have F3 := Aside0.mk h3; have B3 := Aside0.mk b3; clear h3 b3)
    | (go_at_call 30; (with_reducible refine (impl_MergePlan.calls _ _ l0 R _ ?s1 ?s2 FI.out).mono ?_); (case s1 => exact (Kd.R_reads' F3.out).2.2); (case s2 => exact (Kd.R_reads' F3.out).2.1); rintro e w4 ⟨v19, rfl, h4, b4⟩; obtain ⟨A19, c19, e19⟩ := Kd.S_slice h4; subst e19; have HM := Aside0.mk (show Mx w w2.heap.size w3.heap.size w4.heap.size (.slice A15 R.length c15) (.slice A17 l0.length c17) (.slice A19 R.length c19) R l0 R w4 from ⟨Kd.N_below (Kd.N_below FW.out B3.out) b4, Kd.R_mono (Kd.R_lower (Kd.R_below (Kd.R_bound F3.out) b4) B2.out.size) (fun k hk => ⟨hk.2.1, hk.2.2.1⟩), Kd.S_mono (Kd.S_lower (Kd.S_bound h4) (Nat.le_trans B2.out.size B3.out.size)) (fun k hk => hk.2.1), below_step (below_step B2.out B3.out) b4, B2.out.size, B3.out.size, b4.size, Nat.le_refl _⟩); clear h4 b4 F3 B3 B2 FW))
  generalize w2.heap.size = n2 at HM
  generalize w3.heap.size = n3 at HM
  generalize w4.heap.size = n4 at HM
  go_upto_region 10 with (first
    | (go_at_call 25; (with_reducible refine (laws_eqIntSS.calls k _ _ R _ _ R true _ ?s1 ?s2 ?s3 ?s4 FE.out).mono ?_); (case s1 => exact (Kd.S_reads' HM.out.2.2.1).2.2); (case s2 => exact (Kd.S_reads' HM.out.2.2.1).2.1); (case s3 => exact (Kd.N_reads' HM.out.1).2.2); (case s4 => exact (Kd.N_reads' HM.out.1).2.1); rintro e w5 ⟨rfl, hd⟩; have HM5 := Aside0.mk (HM.out.below hd.below); clear hd)
    | (go_at_call 22; (with_reducible refine (laws_toIntS.calls k _ _ l0 l0 _ ?s1 ?s2 FT.out).mono ?_); (case s1 => exact Kd.C_below HR0.out HM5.out.2.2.2.1); (case s2 => exact HC0.out); rintro e w6 ⟨v26, rfl, h6, b6⟩; obtain ⟨A26, c26, e26⟩ := Kd.R_slice h6; subst e26; have F6 := Aside0.mk h6; have HM6 := Aside0.mk (HM5.out.below b6); clear h6 b6)
    | (go_at_call 24; (with_reducible refine (laws_eqIntS.calls k _ _ l0 _ _ l0 true _ ?s1 ?s2 ?s3 ?s4 FX.out).mono ?_); (case s1 => exact (Kd.R_reads' HM6.out.2.1).2.2); (case s2 => exact (Kd.R_reads' HM6.out.2.1).2.1); (case s3 => exact (Kd.R_reads' F6.out).2.2); (case s4 => exact (Kd.R_reads' F6.out).2.1); rintro e w7 ⟨rfl, hd⟩; have HM7 := Aside0.mk (HM6.out.below hd.below); clear hd F6))
  go_upto_region 12 with (first
    | (go_at_call 27; have q1 := Aside0.mk HM7.out.2.2.2.1; have q2 := Aside0.mk HM7.out.2.1; (with_reducible refine (laws_markIntS.calls k (fun k_ => n2 ≤ k_ ∧ k_ < n3) _ l0 1 m1 l1 w _ q1.out q2.out FM.out).mono ?_); rintro e w8 ⟨rfl, h8, b8, k8⟩; have HM8 := Aside0.mk (show My w n2 n3 (.slice A15 R.length c15) (.slice A19 R.length c19) R R w8 from ⟨Kd.N_kept HM7.out.1 k8 (fun k hk hs => by omega), Kd.S_kept HM7.out.2.2.1 k8 (fun k hk hs => by omega), b8, HM7.out.2.2.2.2.2.1, Nat.le_trans (Nat.le_trans HM7.out.2.2.2.2.2.2.1 HM7.out.2.2.2.2.2.2.2) k8.1⟩); clear h8 b8 k8 q1 q2))
  go_upto_region 14 with (first
    | (go_at_call 25; (with_reducible refine (laws_eqIntSS.calls k _ _ R _ _ R true _ ?s1 ?s2 ?s3 ?s4 FE.out).mono ?_); (case s1 => exact (Kd.S_reads' HM8.out.2.1).2.2); (case s2 => exact (Kd.S_reads' HM8.out.2.1).2.1); (case s3 => exact (Kd.N_reads' HM8.out.1).2.2); (case s4 => exact (Kd.N_reads' HM8.out.1).2.1); rintro e w9 ⟨rfl, hd⟩; have HM9 := Aside0.mk (HM8.out.below hd.below); clear hd))
  go_upto_region 16 with (first
    | (go_at_call 26; have q1 := Aside0.mk HM9.out.2.2.1; have q2 := Aside0.mk HM9.out.2.1; (with_reducible refine (markSS_calls k (fun k_ => n3 ≤ k_) _ R 1 m R' w _ q1.out q2.out (by have := HRL.out; omega) FG.out).mono ?_); rintro e w10 ⟨rfl, h10, b10, k10⟩; have HM10 := Aside0.mk (show My w n2 n3 (.slice A15 R.length c15) (.slice A19 R.length c19) R R' w10 from ⟨Kd.N_kept HM9.out.1 k10 (fun k hk hs => by have := HM9.out.2.2.2.1; omega), Kd.S_mono h10 (fun k hk => hk.elim id (fun hk => Nat.le_trans HM9.out.2.2.2.2 hk)), b10, HM9.out.2.2.2.1, Nat.le_trans HM9.out.2.2.2.2 k10.1⟩); have HLEN := Aside0.mk (Kd.S_reads' HM10.out.2.1).1.symm; clear h10 b10 k10 q1 q2))
  go_upto_region 22 with (first
    | (go_at_call 31; (refine calls_of_args (args' := #[.slice A19 R'.length c19, .int .i64 1]) (by rw [HLEN.out]) ?_); (with_reducible refine (laws_heldIntSS.calls k _ _ R' 1 m _ ?s1 ?s2 FH.out).mono ?_); (case s1 => exact (Kd.S_reads' HM10.out.2.1).2.2); (case s2 => rw [HLEN.out]; exact (Kd.S_reads' HM10.out.2.1).2.1); rintro e w11 ⟨rfl, hd⟩; have HM11 := Aside0.mk (HM10.out.below hd.below); clear hd))
  go_upto_region 25 with (first
    | (go_at_call 22; (with_reducible refine (laws_toIntS.calls k _ _ l0 l0 _ ?s1 ?s2 FT.out).mono ?_); (case s1 => exact Kd.C_below HR0.out HM11.out.2.2.1); (case s2 => exact HC0.out); rintro e w12 ⟨v52, rfl, h12, b12⟩; obtain ⟨A52, c52, e52⟩ := Kd.R_slice h12; subst e52; have F12 := Aside0.mk h12; have HM12 := Aside0.mk (HM11.out.below b12); clear h12 b12)
    | (go_at_call 30; (with_reducible refine (impl_MergePlan.calls _ _ l0 R _ ?s1 ?s2 FI.out).mono ?_); (case s1 => exact (Kd.R_reads' F12.out).2.2); (case s2 => exact (Kd.R_reads' F12.out).2.1); rintro e w13 ⟨v53, rfl, h13, b13⟩; obtain ⟨A53, c53, e53⟩ := Kd.S_slice h13; subst e53; have F13 := Aside0.mk h13; have HM13 := Aside0.mk (HM12.out.below b13); clear h13 b13 F12)
    | (go_at_call 25; (with_reducible refine (laws_eqIntSS.calls k _ _ R _ _ R true _ ?s1 ?s2 ?s3 ?s4 FE.out).mono ?_); (case s1 => exact (Kd.S_reads' F13.out).2.2); (case s2 => exact (Kd.S_reads' F13.out).2.1); (case s3 => exact (Kd.N_reads' HM13.out.1).2.2); (case s4 => exact (Kd.N_reads' HM13.out.1).2.1); rintro e w14 ⟨rfl, hd⟩; have HM14 := Aside0.mk (HM13.out.below hd.below); clear hd))
  go_wp2_with (first
    | (go_at_call 31; (refine calls_of_args (args' := #[.slice A19 R'.length c19, .int .i64 1]) (by rw [HLEN.out]) ?_); (with_reducible refine (laws_heldIntSS.calls k _ _ R' 1 m _ ?s1 ?s2 FH.out).mono ?_); (case s1 => exact (Kd.S_reads' HM14.out.2.1).2.2); (case s2 => rw [HLEN.out]; exact (Kd.S_reads' HM14.out.2.1).2.1); rintro e w15 ⟨rfl, hd⟩; have HM15 := Aside0.mk (HM14.out.below hd.below); clear hd))
  go_ret
  exact ⟨rfl, HM15.out.2.2.1⟩
theorem long_calls (A0 : Option Addr) (c0 : Nat) (l0 : List Int) (w : World) (hl : 1048576 < l0.length) : Calls Try.prog 6 #[.slice A0 l0.length c0] w fun e w' => e = .returned (.bool true) ∧ Below w.heap.size w w' := by
  have d1 : decide (1048576 < (l0.length : Int)) = true := decide_eq_true (by omega)
  have d1n : decide (1048576 < l0.length) = true := decide_eq_true hl
  clear hl
  go_enter Try.func6, Try.ntmps6
  go_wp2
  go_ret
  exact ⟨rfl, Below.refl _ _⟩
theorem FnExactMergePlan (A0 : Option Addr) (c0 : Nat) (l0 : List Int) (w : World) (hr0 : Kd.C (Kd.int .i64) w A0 l0.length l0) (hc0 : l0.length ≤ c0) :
    Calls Try.prog 6 #[.slice A0 l0.length c0] w fun e w' => e = .returned (.bool true) ∧ Below w.heap.size w w' := by
  by_cases hl : 1048576 < l0.length
  · exact long_calls A0 c0 l0 w hl
  · have hl' : l0.length ≤ 1048576 := by omega
    have hlen := planR_len l0
    have h3 := planR_rows l0
    obtain ⟨K1, e1⟩ := toInt_ev l0 hl'
    obtain ⟨K2, e2⟩ := specMergePlan_ev l0
    obtain ⟨K3, e3⟩ := eqSelfSS_ev (planR l0) (by omega) (fun r hr => by have := h3 r hr; omega)
    obtain ⟨K4, e4⟩ := eqSelf_ev l0 hl'
    obtain ⟨K5, e5⟩ := mark_ev l0 1 hl' (by omega) (by omega)
    obtain ⟨K6, e6⟩ := markS2_ev (planR l0) 1 h3 (by omega) (by omega) (by omega)
    obtain ⟨K7, e7⟩ := heldSS_ev (planR l0).length (by omega)
    obtain ⟨k, h1, h2, h3', h4, h5, h6, h7⟩ : ∃ k, K1 ≤ k ∧ K2 ≤ k ∧ K3 ≤ k ∧ K4 ≤ k ∧ K5 ≤ k ∧ K6 ≤ k ∧ K7 ≤ k := ⟨K1 + K2 + K3 + K4 + K5 + K6 + K7, by omega, by omega, by omega, by omega, by omega, by omega, by omega⟩
    exact law_calls k A0 c0 l0 (planR l0) _ _ _ _ w hr0 hc0 hl' (by omega) (by omega) (by omega) ⟨e1 k h1, e2 k h2, implPlan_some l0, e3 k h3', e4 k h4, e5 k h5, e6 k h6, e7 k h7⟩

end Go.Proofs.Ytpnamllkeaaeeaa.Pure
