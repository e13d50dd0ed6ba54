/- FnExactGenOk: the program judges generator steps as the reference does, for all of at most 2^20 steps. -/
import Derived.Test.YtpnamllkeaaeeaaXFnExactGenOkx6
namespace Go.Proofs.Ytpnamllkeaaeeaa.Pure
open Go.RowKit Go.Proofs.Ytpnamllkeaaeeaa.XFnExactGenOk Go.Proofs.YtpnamllkeaaeeaaW.PrintWords Go.Proofs.YtpnamllkeaaeeaaW.PrintLast Go.Proofs.YtpnamllkeaaeeaaW.PrintMore
set_option linter.unusedVariables false
set_option linter.unusedSimpArgs false

/-! ### Rounds, and words of 64 bits -/
theorem ev_succ {α : Type} {g : Nat → Option α} {r : α} (h : Ev (fun k => g (k + 1)) r) : Ev g r := Ev.step (fun _ => rfl) h
theorem ev_some {α : Type} {o : Option α} {r : α} (h : o = some r) : Ev (fun _ => o) r := ⟨0, fun _ _ => h⟩
theorem ev_pos {α : Type} {c : Prop} [Decidable c] {A B : Nat → Option α} {r : α} (h : c) (k : Ev A r) : Ev (fun n => if c then A n else B n) r :=
  Ev.congr (fun _ => if_pos h) k
theorem ev_neg {α : Type} {c : Prop} [Decidable c] {A B : Nat → Option α} {r : α} (h : ¬ c) (k : Ev B r) : Ev (fun n => if c then A n else B n) r :=
  Ev.congr (fun _ => if_neg h) k
theorem ev_eq {α : Type} {g : Nat → Option α} {r s : α} (h : Ev g r) (e : r = s) : Ev g s := e ▸ h
theorem ev_bind1 {α β : Type} {o : Option α} {f : Nat → α → Option β} {a : α} {r : β} (h : o = some a) (k : Ev (fun n => f n a) r) : Ev (fun n => o.bind (f n)) r :=
  Ev.bind (ev_some h) k
theorem ev_det {α : Type} {g : Nat → Option α} {r s : α} (h : Ev g r) (k : Ev g s) : r = s := by
  obtain ⟨K, h⟩ := h
  obtain ⟨L, k⟩ := k
  have h1 := h (max K L) (by omega)
  have h2 := k (max K L) (by omega)
  rw [h1] at h2
  exact Option.some.inj h2
theorem w64 {n : Int} (h : -9223372036854775808 ≤ n) (h' : n ≤ 9223372036854775807) : wrap64 n = n := by unfold wrap64; omega
theorem byte_of {l : List Int} (h : ∀ x ∈ l, (Lit.int .u8 x).wf = true) (i : Int) : 0 ≤ rd l i ∧ rd l i ≤ 255 := by
  unfold rd
  by_cases hi : i.toNat < l.length
  · have hm : l.getD i.toNat 0 ∈ l := by
      rw [List.getD_eq_getElem?_getD, List.getElem?_eq_getElem hi]
      exact List.getElem_mem hi
    have := h _ hm
    have m0 : IntKind.u8.min = 0 := by decide
    have m1 : IntKind.u8.max = 255 := by decide
    simp only [Lit.wf, m0, m1, Bool.and_eq_true, decide_eq_true_eq] at this
    exact this
  · rw [List.getD_eq_getElem?_getD, List.getElem?_eq_none (by omega)]
    simp

/-! ### Reading a list -/
theorem rd_at (l : List Int) (i : Nat) (h : i < l.length) : rd l (i : Int) = l[i] := by
  unfold rd
  simp [List.getD_eq_getElem?_getD, h]
theorem next_i (i : Nat) (h : i ≤ 4611686018427387904) : wrap64 ((i : Int) + 1) = ((i + 1 : Nat) : Int) := by rw [w64 (by omega) (by omega)]; omega

/-! ### Generator steps: which are valid -/
def stepB (g : List S61 → Bool) (s : S61) : Bool :=
  if s.f0 = 1 then (s.f2.isEmpty && s.f3.isEmpty) && decide (-1 ≤ s.f1 ∧ s.f1 ≤ 1000000)
  else if s.f0 = 2 ∨ s.f0 = 3 then decide (s.f1 = 0) && (g s.f2 && g s.f3)
  else if s.f0 = 4 then s.f3.isEmpty && (decide (0 ≤ s.f1 ∧ s.f1 ≤ 6) && g s.f2)
  else if s.f0 = 5 then (s.f2.isEmpty && s.f3.isEmpty) && decide (0 ≤ s.f1 ∧ s.f1 ≤ 1000000)
  else false
def genB : Nat → List S61 → Bool
  | 0, l => l.isEmpty
  | m + 1, l => decide (l.length ≤ 6) && l.all (stepB (genB m))
theorem genB_nil : ∀ m, genB m [] = true
  | 0 => rfl
  | m + 1 => rfl
/-- No row in it is too long, down to a depth. -/
def Bd : Nat → List S61 → Prop
  | 0, l => l.length ≤ 1048576
  | m + 1, l => l.length ≤ 1048576 ∧ ∀ s ∈ l, Bd m s.f2 ∧ Bd m s.f3
theorem bd_len : ∀ {m : Nat} {l : List S61}, Bd m l → l.length ≤ 1048576
  | 0, _, h => h
  | _ + 1, _, h => h.1
theorem bd_nil : ∀ m, Bd m []
  | 0 => by simp [Bd]
  | m + 1 => by simp [Bd]
theorem bd_push {l : List S61} {s : S61} (hl : l.length + 1 ≤ 1048576) (h : ∀ m, Bd m l) (h2 : ∀ m, Bd m s.f2) (h3 : ∀ m, Bd m s.f3) : ∀ m, Bd m (l ++ [s])
  | 0 => by simpa [Bd] using hl
  | m + 1 => by
    refine ⟨by simpa using hl, fun x hx => ?_⟩
    simp only [List.mem_append, List.mem_singleton] at hx
    rcases hx with hx | rfl
    · exact (h (m + 1)).2 x hx
    · exact ⟨h2 m, h3 m⟩
theorem bd_take {m : Nat} {l : List S61} (h : Bd m l) (n : Nat) : Bd m (l.take n) := by
  have hl := bd_len h
  have ht : (l.take n).length ≤ l.length := by rw [List.length_take]; omega
  cases m with
  | zero => exact Nat.le_trans ht hl
  | succ m => exact ⟨Nat.le_trans ht hl, fun s hs => h.2 s (List.mem_of_mem_take hs)⟩
theorem rd_T61_at (l : List S61) (i : Nat) (h : i < l.length) : rd_T61 l (i : Int) = l[i] := by
  unfold rd_T61
  simp [List.getD_eq_getElem?_getD, h]
theorem inRange_is (a b c : Int) : spec_inRange.f a b c = some (decide (b ≤ a ∧ a ≤ c)) := by
  unfold spec_inRange.f
  by_cases h1 : a ≥ b
  · rw [if_pos h1]; congr 1; simp; omega
  · rw [if_neg h1, decide_eq_false (by omega)]
theorem within_is (a b c : Int) : impl_within.f a b c = some (decide (b ≤ a ∧ a ≤ c)) := inRange_is a b c
theorem isEmpty_len (l : List S61) : l.isEmpty = decide ((l.length : Int) = 0) := by cases l <;> simp; omega
theorem len_zero {l : List S61} (h : (l.length : Int) = 0) : l = [] := List.eq_nil_of_length_eq_zero (by omega)
/-! The program. -/
theorem ok_ev (g : List S61 → Bool) (d : Int) (s : S61) (h2 : Ev (fun k => impl_genOk.f k s.f2 d) (g s.f2)) (h3 : Ev (fun k => impl_genOk.f k s.f3 d) (g s.f3)) :
    Ev (fun k => impl_GenStep_ok.f k s.f0 s.f1 s.f2 s.f3 d) (stepB g s) := by
  have J : ∀ x5 : Bool, x5 = (s.f2.isEmpty && s.f3.isEmpty) → Ev (fun k => impl_GenStep_ok.j0 k d x5 s.f0 s.f1 s.f2 s.f3) (stepB g s) := by
    intro x5 hx
    have F : ∀ x26 : Bool, x26 = decide (s.f0 = 2 ∨ s.f0 = 3) → s.f0 ≠ 1 → Ev (fun k => impl_GenStep_ok.j1 k d x5 s.f0 x26 s.f0 s.f1 s.f2 s.f3) (stepB g s) := by
      intro x26 h26 h1
      unfold stepB
      rw [if_neg h1]
      refine ev_succ ?_
      simp only [impl_GenStep_ok.j1]
      by_cases h23 : s.f0 = 2 ∨ s.f0 = 3
      · rw [if_pos h23]
        refine ev_pos (by rw [h26]; exact decide_eq_true h23) ?_
        by_cases hn : s.f1 = 0
        · rw [decide_eq_true hn, Bool.true_and]
          refine ev_pos hn (Ev.bind h2 ?_)
          cases hg : g s.f2 with
          | true => exact ev_pos rfl (Ev.bind h3 (ev_some (by simp)))
          | false => exact ev_neg (by simp) (ev_some rfl)
        · rw [decide_eq_false hn]
          exact ev_neg hn (ev_some rfl)
      · rw [if_neg h23]
        refine ev_neg (by rw [h26, decide_eq_false h23]; simp) ?_
        by_cases h4 : s.f0 = 4
        · rw [if_pos h4]
          refine ev_pos h4 ?_
          by_cases he : (s.f3.length : Int) = 0
          · rw [isEmpty_len, decide_eq_true he, Bool.true_and]
            refine ev_pos he (ev_bind1 (within_is _ _ _) ?_)
            by_cases hr : 0 ≤ s.f1 ∧ s.f1 ≤ 6
            · rw [decide_eq_true hr, Bool.true_and]
              exact ev_pos rfl (Ev.bind h2 (ev_some rfl))
            · rw [decide_eq_false hr]
              exact ev_neg (by simp) (ev_some rfl)
          · rw [isEmpty_len, decide_eq_false he]
            exact ev_neg he (ev_some rfl)
        · rw [if_neg h4]
          refine ev_neg h4 ?_
          by_cases h5 : s.f0 = 5
          · simp only [if_pos h5]
            cases x5 with
            | true =>
              rw [← hx, Bool.true_and]
              exact ev_pos rfl (ev_bind1 (within_is _ _ _) (ev_some rfl))
            | false =>
              rw [← hx]
              exact ev_neg (by simp) (ev_some rfl)
          · simp only [if_neg h5]
            exact ev_some rfl
    refine ev_succ ?_
    simp only [impl_GenStep_ok.j0]
    by_cases h1 : s.f0 = 1
    · unfold stepB
      rw [if_pos h1]
      refine ev_pos h1 ?_
      cases x5 with
      | true =>
        rw [← hx, Bool.true_and]
        exact ev_pos rfl (ev_bind1 (within_is _ _ _) (ev_some rfl))
      | false =>
        rw [← hx]
        exact ev_neg (by simp) (ev_some rfl)
    · refine ev_neg h1 ?_
      by_cases h2' : s.f0 = 2
      · refine ev_pos h2' (F _ ?_ h1)
        rw [h2']; simp
      · refine ev_neg h2' (F _ ?_ h1)
        rw [Bool.eq_iff_iff]
        simp [h2']
  unfold impl_GenStep_ok.f
  by_cases h : (s.f2.length : Int) = 0
  · refine ev_pos h (J _ ?_)
    rw [isEmpty_len, isEmpty_len, decide_eq_true h, Bool.true_and, Bool.eq_iff_iff]
    simp
  · refine ev_neg h (J _ ?_)
    rw [isEmpty_len, decide_eq_false h, Bool.false_and]
theorem genOk_from (m : Nat) (d : Int) (l : List S61) (hd : -1000000 ≤ d ∧ d ≤ 1000000) (hl : l.length ≤ 1048576)
    (ih : ∀ s ∈ l, Ev (fun k => impl_genOk.f k s.f2 (d + 1)) (genB m s.f2) ∧ Ev (fun k => impl_genOk.f k s.f3 (d + 1)) (genB m s.f3)) (e : Nat) : ∀ i : Nat, i + e = l.length →
    Ev (fun k => impl_genOk.l0 k d l (l.length : Int) (i : Int)) ((l.drop i).all (stepB (genB m))) := by
  induction e with
  | zero =>
    intro i hi
    refine ev_succ ?_
    simp only [impl_genOk.l0]
    refine ev_neg (by omega) (ev_some ?_)
    rw [List.drop_of_length_le (by omega)]; rfl
  | succ e ihe =>
    intro i hi
    have hlt : i < l.length := by omega
    obtain ⟨a, b⟩ := ih _ (List.getElem_mem hlt)
    have O := ok_ev (genB m) (d + 1) l[i] a b
    refine ev_succ ?_
    simp only [impl_genOk.l0]
    rw [rd_T61_at l i hlt, next_i i (by omega), w64 (n := d + 1) (by omega) (by omega), List.drop_eq_getElem_cons hlt, List.all_cons]
    refine ev_pos (by omega) (ev_pos (by omega) (ev_pos (by omega) (Ev.bind O ?_)))
    cases stepB (genB m) l[i] with
    | true =>
      rw [Bool.true_and]
      exact ev_pos rfl (ihe (i + 1) (by omega))
    | false => exact ev_neg (by simp) (ev_some rfl)
theorem genOk_ev : ∀ (m : Nat) (l : List S61), m ≤ 4 → Bd m l → Ev (fun k => impl_genOk.f k l (4 - (m : Int))) (genB m l) := by
  intro m
  induction m with
  | zero =>
    intro l _ hb
    have hl := bd_len hb
    unfold impl_genOk.f
    have no : Ev (fun k => impl_genOk.j0 k l (4 - ((0 : Nat) : Int)) true) false := by
      refine ev_succ ?_
      simp only [impl_genOk.j0]
      exact ev_pos trivial (ev_some rfl)
    by_cases h6 : (l.length : Int) > 6
    · refine ev_pos h6 (ev_eq no ?_)
      show false = l.isEmpty
      rw [isEmpty_len, decide_eq_false (by omega)]
    · refine ev_neg h6 ?_
      by_cases h0 : (l.length : Int) > 0
      · refine ev_pos h0 ?_
        rw [show decide ((4 - ((0 : Nat) : Int)) ≥ 4) = true from rfl]
        refine ev_eq no ?_
        show false = l.isEmpty
        rw [isEmpty_len, decide_eq_false (by omega)]
      · have e := len_zero (l := l) (by omega)
        subst e
        refine ev_neg h0 (ev_succ ?_)
        simp only [impl_genOk.j0]
        refine ev_neg (by simp) (ev_succ ?_)
        simp only [impl_genOk.l0]
        exact ev_neg (by simp) (ev_some rfl)
  | succ m ih =>
    intro l hm hb
    have hl := bd_len hb
    have no : Ev (fun k => impl_genOk.j0 k l (4 - ((m + 1 : Nat) : Int)) true) false := by
      refine ev_succ ?_
      simp only [impl_genOk.j0]
      exact ev_pos trivial (ev_some rfl)
    have L := genOk_from m (4 - ((m + 1 : Nat) : Int)) l (by omega) hl (fun s hs => by
      have := hb.2 s hs
      rw [show 4 - ((m + 1 : Nat) : Int) + 1 = 4 - (m : Int) by omega]
      exact ⟨ih _ (by omega) this.1, ih _ (by omega) this.2⟩) l.length 0 (by omega)
    rw [List.drop_zero] at L
    have yes : l.length ≤ 6 → Ev (fun k => impl_genOk.j0 k l (4 - ((m + 1 : Nat) : Int)) false) (genB (m + 1) l) := by
      intro h6
      refine ev_succ ?_
      simp only [impl_genOk.j0]
      refine ev_neg (by simp) (ev_eq L ?_)
      rw [genB, decide_eq_true h6, Bool.true_and]
    unfold impl_genOk.f
    by_cases h6 : (l.length : Int) > 6
    · refine ev_pos h6 (ev_eq no ?_)
      rw [genB, decide_eq_false (by omega), Bool.false_and]
    · refine ev_neg h6 ?_
      by_cases h0 : (l.length : Int) > 0
      · refine ev_pos h0 ?_
        rw [show decide ((4 - ((m + 1 : Nat) : Int)) ≥ 4) = false from decide_eq_false (by omega)]
        exact yes (by omega)
      · exact ev_neg h0 (yes (by omega))
/-! The reference. -/
def tailB (g : List S61 → Bool) (lo hi : Int) (f1 : Int) (f2 f3 : List S61) (R : Bool) : Bool := decide (lo ≤ f1 ∧ f1 ≤ hi) && (g f2 && (g f3 && R))
def stepS (g : List S61 → Bool) (s : S61) (R : Bool) : Bool :=
  if (1 ≤ s.f0 ∧ s.f0 ≤ 5) ∧ ((s.f0 = 2 ∨ s.f0 = 3 ∨ s.f0 = 4) ∨ s.f2 = []) ∧ (if s.f0 = 2 ∨ s.f0 = 3 then s.f1 = 0 else s.f3 = []) then
    tailB g (if s.f0 = 1 then -1 else 0) (if s.f0 = 4 then 6 else 1000000) s.f1 s.f2 s.f3 R
  else false
theorem stepS_eq (g : List S61 → Bool) (hg : g [] = true) (s : S61) (R : Bool) : stepS g s R = (stepB g s && R) := by
  obtain ⟨f0, f1, f2, f3⟩ := s
  unfold stepS stepB tailB
  dsimp only
  by_cases h1 : f0 = 1
  · subst h1
    simp only [if_pos rfl, if_neg (show ¬ ((1 : Int) = 2 ∨ (1 : Int) = 3) by omega), if_neg (show ¬ (1 : Int) = 4 by omega)]
    by_cases e2 : f2 = []
    · subst e2
      by_cases e3 : f3 = []
      · subst e3; simp [hg]
      · simp [e3]
    · simp [e2]
  · by_cases h23 : f0 = 2 ∨ f0 = 3
    · simp only [if_neg h1, if_pos h23, if_neg (show ¬ f0 = 4 by omega)]
      by_cases hz : f1 = 0
      · subst hz
        rw [if_pos ⟨by omega, .inl (by omega), rfl⟩]
        simp [Bool.and_assoc]
      · rw [if_neg (fun h => hz h.2.2), decide_eq_false hz]; rfl
    · simp only [if_neg h1, if_neg h23]
      by_cases h4 : f0 = 4
      · subst h4
        by_cases e3 : f3 = []
        · subst e3
          rw [if_pos ⟨by omega, .inl (by omega), rfl⟩, if_pos rfl, if_pos rfl]
          simp [hg, Bool.and_assoc]
        · rw [if_neg (fun h => e3 h.2.2), if_pos rfl]
          simp [e3]
      · rw [if_neg h4, if_neg h4]
        by_cases h5 : f0 = 5
        · subst h5
          rw [if_pos rfl]
          by_cases e2 : f2 = []
          · subst e2
            by_cases e3 : f3 = []
            · subst e3
              rw [if_pos ⟨by omega, .inr rfl, rfl⟩]
              simp [hg]
            · rw [if_neg (fun h => e3 h.2.2)]
              simp [e3]
          · rw [if_neg (fun h => h.2.1.elim (by omega) e2)]
            simp [e2]
        · rw [if_neg (by omega), if_neg h5]; rfl
theorem valid_step (g : List S61 → Bool) (d : Int) (l : List S61) (i : Nat) (hd : -1000000 ≤ d ∧ d ≤ 1000000) (hl : l.length ≤ 1048576) (hi : i < l.length) (R : Bool)
    (h2 : Ev (fun k => spec_validSteps.f k l[i].f2 (d - 1)) (g l[i].f2)) (h3 : Ev (fun k => spec_validSteps.f k l[i].f3 (d - 1)) (g l[i].f3)) (K : Ev (fun k => spec_validSteps.l0 k l d ((i + 1 : Nat) : Int)) R) :
    Ev (fun k => spec_validSteps.l0 k l d (i : Int)) (stepS g l[i] R) := by
  generalize hs : l[i] = s at *
  have T : ∀ lo hi : Int, Ev (fun k => spec_validSteps.j6 k l d (i : Int) lo hi s.f0 s.f1 s.f2 s.f3) (tailB g lo hi s.f1 s.f2 s.f3 R) := by
    intro lo hi
    refine ev_succ ?_
    simp only [spec_validSteps.j6]
    rw [w64 (n := d - 1) (by omega) (by omega), next_i i (by omega)]
    unfold tailB
    refine ev_bind1 (inRange_is _ _ _) ?_
    by_cases hr : lo ≤ s.f1 ∧ s.f1 ≤ hi
    · rw [decide_eq_true hr, Bool.true_and]
      refine ev_pos rfl (Ev.bind h2 ?_)
      cases g s.f2 with
      | true =>
        rw [Bool.true_and]
        refine ev_pos rfl (Ev.bind h3 ?_)
        cases g s.f3 with
        | true => rw [Bool.true_and]; exact ev_pos rfl K
        | false => exact ev_neg (by simp) (ev_some rfl)
      | false => exact ev_neg (by simp) (ev_some rfl)
    · rw [decide_eq_false hr]
      exact ev_neg (by simp) (ev_some rfl)
  have U : ∀ lo : Int, Ev (fun k => spec_validSteps.j5 k l d (i : Int) lo 1000000 s.f0 s.f1 s.f2 s.f3) (tailB g lo (if s.f0 = 4 then 6 else 1000000) s.f1 s.f2 s.f3 R) := by
    intro lo
    refine ev_succ ?_
    simp only [spec_validSteps.j5]
    by_cases h4 : s.f0 = 4
    · rw [if_pos h4]; exact ev_pos h4 (T _ _)
    · rw [if_neg h4]; exact ev_neg h4 (T _ _)
  have V : ∀ x : Bool, Ev (fun k => spec_validSteps.j4 k l d (i : Int) x s.f0 s.f1 s.f2 s.f3) (if x = true then false else tailB g (if s.f0 = 1 then -1 else 0) (if s.f0 = 4 then 6 else 1000000) s.f1 s.f2 s.f3 R) := by
    intro x
    refine ev_succ ?_
    simp only [spec_validSteps.j4]
    cases x with
    | true => exact ev_pos rfl (ev_some rfl)
    | false =>
      refine ev_neg (by simp) ?_
      rw [if_neg (by simp)]
      by_cases h1 : s.f0 = 1
      · rw [if_pos h1]; exact ev_pos h1 (U _)
      · rw [if_neg h1]; exact ev_neg h1 (U _)
  have X : ∀ x7 x8 : Bool, x7 = decide (s.f0 = 2 ∨ s.f0 = 3 ∨ s.f0 = 4) → x8 = decide (s.f0 = 2 ∨ s.f0 = 3) → Ev (fun k => spec_validSteps.j3 k l d (i : Int) x7 x8 s.f0 s.f1 s.f2 s.f3) (stepS g s R) := by
    intro x7 x8 h7 h8
    have no : ¬ ((1 ≤ s.f0 ∧ s.f0 ≤ 5) ∧ ((s.f0 = 2 ∨ s.f0 = 3 ∨ s.f0 = 4) ∨ s.f2 = []) ∧ (if s.f0 = 2 ∨ s.f0 = 3 then s.f1 = 0 else s.f3 = [])) → ∀ x : Bool, x = true → Ev (fun k => spec_validSteps.j4 k l d (i : Int) x s.f0 s.f1 s.f2 s.f3) (stepS g s R) := by
      intro hn x hx
      refine ev_eq (V x) ?_
      rw [if_pos hx, stepS, if_neg hn]
    have yes : ((1 ≤ s.f0 ∧ s.f0 ≤ 5) ∧ ((s.f0 = 2 ∨ s.f0 = 3 ∨ s.f0 = 4) ∨ s.f2 = []) ∧ (if s.f0 = 2 ∨ s.f0 = 3 then s.f1 = 0 else s.f3 = [])) → ∀ x : Bool, x = false → Ev (fun k => spec_validSteps.j4 k l d (i : Int) x s.f0 s.f1 s.f2 s.f3) (stepS g s R) := by
      intro hy x hx
      refine ev_eq (V x) ?_
      rw [hx, if_neg (by simp), stepS, if_pos hy]
    -- what the last row or the number says
    have Y : (1 ≤ s.f0 ∧ s.f0 ≤ 5) → ((s.f0 = 2 ∨ s.f0 = 3 ∨ s.f0 = 4) ∨ s.f2 = []) → Ev (fun k => if x8 = true then (spec_validSteps.j4 k l d (i : Int) (s.f1 != 0) s.f0 s.f1 s.f2 s.f3) else (if (s.f3.length : Int) > 0 then (spec_validSteps.j4 k l d (i : Int) true s.f0 s.f1 s.f2 s.f3) else (spec_validSteps.j4 k l d (i : Int) false s.f0 s.f1 s.f2 s.f3))) (stepS g s R) := by
      intro hr hb
      by_cases h23 : s.f0 = 2 ∨ s.f0 = 3
      · refine ev_pos (by rw [h8]; exact decide_eq_true h23) ?_
        by_cases hz : s.f1 = 0
        · exact yes ⟨hr, hb, by rw [if_pos h23]; exact hz⟩ _ (by simp [hz])
        · exact no (fun h => hz (by have := h.2.2; rwa [if_pos h23] at this)) _ (by simp [hz])
      · refine ev_neg (by rw [h8, decide_eq_false h23]; simp) ?_
        by_cases he : (s.f3.length : Int) > 0
        · exact ev_pos he (no (fun h => by have := h.2.2; rw [if_neg h23] at this; rw [this] at he; simp at he) _ rfl)
        · exact ev_neg he (yes ⟨hr, hb, by rw [if_neg h23]; exact len_zero (by omega)⟩ _ rfl)
    refine ev_succ ?_
    simp only [spec_validSteps.j3]
    refine ev_bind1 (inRange_is _ _ _) ?_
    by_cases hr : 1 ≤ s.f0 ∧ s.f0 ≤ 5
    · rw [decide_eq_true hr]
      refine ev_pos rfl ?_
      by_cases hb : s.f0 = 2 ∨ s.f0 = 3 ∨ s.f0 = 4
      · exact ev_pos (by rw [h7]; exact decide_eq_true hb) (Y hr (.inl hb))
      · refine ev_neg (by rw [h7, decide_eq_false hb]; simp) ?_
        by_cases he : (s.f2.length : Int) > 0
        · exact ev_pos he (no (fun h => h.2.1.elim hb (fun e => by rw [e] at he; simp at he)) _ rfl)
        · exact ev_neg he (Y hr (.inr (len_zero (by omega))))
    · rw [decide_eq_false hr]
      exact ev_neg (by simp) (no (fun h => hr h.1) _ rfl)
  have Z : ∀ x7 : Bool, x7 = decide (s.f0 = 2 ∨ s.f0 = 3 ∨ s.f0 = 4) → Ev (fun k => spec_validSteps.j2 k l d (i : Int) x7 s.f0 s.f1 s.f2 s.f3) (stepS g s R) := by
    intro x7 h7
    refine ev_succ ?_
    simp only [spec_validSteps.j2]
    by_cases h2' : s.f0 = 2
    · exact ev_pos h2' (X _ _ h7 (by simp [h2']))
    · refine ev_neg h2' (X _ _ h7 ?_)
      rw [Bool.eq_iff_iff]
      simp [h2']
  refine ev_succ ?_
  simp only [spec_validSteps.l0]
  rw [rd_T61_at l i hi, hs]
  refine ev_pos (by omega) (ev_pos (by omega) ?_)
  by_cases h2' : s.f0 = 2
  · exact ev_pos h2' (Z _ (by simp [h2']))
  · refine ev_neg h2' ?_
    by_cases h3' : s.f0 = 3
    · exact ev_pos h3' (Z _ (by simp [h3']))
    · refine ev_neg h3' (Z _ ?_)
      rw [Bool.eq_iff_iff]
      simp [h2', h3']
theorem validSteps_from (m : Nat) (d : Int) (l : List S61) (hd : -1000000 ≤ d ∧ d ≤ 1000000) (hl : l.length ≤ 1048576)
    (ih : ∀ s ∈ l, Ev (fun k => spec_validSteps.f k s.f2 (d - 1)) (genB m s.f2) ∧ Ev (fun k => spec_validSteps.f k s.f3 (d - 1)) (genB m s.f3)) (e : Nat) : ∀ i : Nat, i + e = l.length →
    Ev (fun k => spec_validSteps.l0 k l d (i : Int)) ((l.drop i).all (stepB (genB m)) && decide ((l.length : Int) ≤ 6)) := by
  induction e with
  | zero =>
    intro i hi
    refine ev_succ ?_
    simp only [spec_validSteps.l0]
    refine ev_neg (by omega) (ev_some ?_)
    rw [List.drop_of_length_le (by omega)]; simp
  | succ e ihe =>
    intro i hi
    have hlt : i < l.length := by omega
    obtain ⟨a, b⟩ := ih _ (List.getElem_mem hlt)
    refine ev_eq (valid_step (genB m) d l i hd hl hlt _ a b (ihe (i + 1) (by omega))) ?_
    rw [stepS_eq _ (genB_nil m), List.drop_eq_getElem_cons hlt, List.all_cons, Bool.and_assoc]
theorem validSteps_ev : ∀ (m : Nat) (l : List S61), m ≤ 4 → Bd m l → Ev (fun k => spec_validSteps.f k l (m : Int)) (genB m l) := by
  intro m
  induction m with
  | zero =>
    intro l _ hb
    refine ev_succ ?_
    simp only [spec_validSteps.f]
    refine ev_pos (by omega) (ev_succ ?_)
    simp only [spec_validSteps.j0]
    by_cases h0 : (l.length : Int) > 0
    · rw [decide_eq_true h0]
      refine ev_pos rfl (ev_some ?_)
      show some false = some l.isEmpty
      rw [isEmpty_len, decide_eq_false (by omega)]
    · have e := len_zero (l := l) (by omega)
      subst e
      refine ev_neg (by simp) (ev_succ ?_)
      simp only [spec_validSteps.l0]
      exact ev_neg (by simp) (ev_some rfl)
  | succ m ih =>
    intro l hm hb
    have hl := bd_len hb
    have L := validSteps_from m ((m + 1 : Nat) : Int) l (by omega) hl (fun s hs => by
      have := hb.2 s hs
      rw [show ((m + 1 : Nat) : Int) - 1 = (m : Int) by omega]
      exact ⟨ih _ (by omega) this.1, ih _ (by omega) this.2⟩) l.length 0 (by omega)
    rw [List.drop_zero] at L
    refine ev_succ ?_
    simp only [spec_validSteps.f]
    refine ev_neg (by omega) (ev_succ ?_)
    simp only [spec_validSteps.j0]
    refine ev_neg (by simp) (ev_eq L ?_)
    rw [genB, Bool.and_comm]
    congr 1
    rw [decide_eq_decide]
    omega

/-! ### Steps that are given: their rows, counted and copied -/
def Bq (c : Nat) : Nat → List S59 → Prop
  | 0, l => l.length ≤ c
  | m + 1, l => l.length ≤ c ∧ ∀ s ∈ l, Bq c m s.f2 ∧ Bq c m s.f3
theorem bq_len {c : Nat} : ∀ {m : Nat} {l : List S59}, Bq c m l → l.length ≤ c
  | 0, _, h => h
  | _ + 1, _, h => h.1
theorem mem_size {s : S59} {l : List S59} (h : s ∈ l) : SizeOf.sizeOf s.f2 < SizeOf.sizeOf l ∧ SizeOf.sizeOf s.f3 < SizeOf.sizeOf l := by
  have := List.sizeOf_lt_of_mem h
  obtain ⟨f0, f1, f2, f3⟩ := s
  simp only [S59.mk.sizeOf_spec] at this
  dsimp only
  omega
theorem rd_T59_at (l : List S59) (i : Nat) (h : i < l.length) : rd_T59 l (i : Int) = l[i] := by
  unfold rd_T59
  simp [List.getD_eq_getElem?_getD, h]
/-- The count of a row: what is left. -/
def Sz (l : List S59) : Prop := ∀ left : Int, 0 ≤ left → left ≤ 1048576 → ∃ r, Ev (fun k => laws_szGenStepS.f k l left) r ∧ (r = -1 ∨ (0 ≤ r ∧ r ≤ left ∧ ∀ m, Bq 1048576 m l))
theorem sz_step {s : S59} (h2 : Sz s.f2) (h3 : Sz s.f3) (left : Int) (h0 : 0 ≤ left) (h1 : left ≤ 1048576) :
    ∃ r, Ev (fun k => laws_szGenStep.f k s.f0 s.f1 s.f2 s.f3 left) r ∧ (r = -1 ∨ (0 ≤ r ∧ r ≤ left ∧ ∀ m, Bq 1048576 m s.f2 ∧ Bq 1048576 m s.f3)) := by
  obtain ⟨r, R, hr⟩ := h2 left h0 h1
  unfold laws_szGenStep.f
  rcases hr with rfl | ⟨r0, r1, b2⟩
  · exact ⟨-1, Ev.bind R (ev_pos (by omega) (ev_some rfl)), .inl rfl⟩
  · obtain ⟨q, Q, hq⟩ := h3 r r0 (by omega)
    rcases hq with rfl | ⟨q0, q1, b3⟩
    · exact ⟨-1, Ev.bind R (ev_neg (by omega) (Ev.bind Q (ev_pos (by omega) (ev_some rfl)))), .inl rfl⟩
    · exact ⟨q, Ev.bind R (ev_neg (by omega) (Ev.bind Q (ev_neg (by omega) (ev_some rfl)))), .inr ⟨q0, by omega, fun m => ⟨b2 m, b3 m⟩⟩⟩
theorem sz_from (l : List S59) (hl : l.length ≤ 1048576) (ih : ∀ s ∈ l, Sz s.f2 ∧ Sz s.f3) (d : Nat) : ∀ (i : Nat) (left : Int), i + d = l.length → 0 ≤ left → left ≤ 1048576 → (∀ m, ∀ s ∈ l.take i, Bq 1048576 m s.f2 ∧ Bq 1048576 m s.f3) →
    ∃ r, Ev (fun k => laws_szGenStepS.l0 k l left (i : Int)) r ∧ (r = -1 ∨ (0 ≤ r ∧ r ≤ left ∧ ∀ m, ∀ s ∈ l, Bq 1048576 m s.f2 ∧ Bq 1048576 m s.f3)) := by
  induction d with
  | zero =>
    intro i left hi h0 h1 hb
    rw [List.take_of_length_le (by omega)] at hb
    refine ⟨left, ev_succ ?_, .inr ⟨h0, Int.le_refl _, hb⟩⟩
    simp only [laws_szGenStepS.l0]
    exact ev_neg (by omega) (ev_some rfl)
  | succ d ihd =>
    intro i left hi h0 h1 hb
    have hlt : i < l.length := by omega
    obtain ⟨a2, a3⟩ := ih _ (List.getElem_mem hlt)
    obtain ⟨r, R, hr⟩ := sz_step a2 a3 left h0 h1
    rcases hr with rfl | ⟨r0, r1, b⟩
    · refine ⟨-1, ev_succ ?_, .inl rfl⟩
      simp only [laws_szGenStepS.l0]
      rw [rd_T59_at l i hlt]
      exact ev_pos (by omega) (ev_pos (by omega) (Ev.bind R (ev_pos (by omega) (ev_some rfl))))
    · obtain ⟨q, Q, hq⟩ := ihd (i + 1) r (by omega) r0 (by omega) (fun m s hs => by
        rw [List.take_succ_eq_append_getElem hlt] at hs
        simp only [List.mem_append, List.mem_singleton] at hs
        rcases hs with hs | rfl
        · exact hb m s hs
        · exact b m)
      refine ⟨q, ev_succ ?_, ?_⟩
      · simp only [laws_szGenStepS.l0]
        rw [rd_T59_at l i hlt, next_i i (by omega)]
        exact ev_pos (by omega) (ev_pos (by omega) (Ev.bind R (ev_neg (by omega) Q)))
      · rcases hq with rfl | ⟨q0, q1, c⟩
        · exact .inl rfl
        · exact .inr ⟨q0, by omega, c⟩
theorem sz_ev : ∀ (n : Nat) (l : List S59), SizeOf.sizeOf l ≤ n → (∀ m, Bq 9223372036854775807 m l) → Sz l := by
  intro n
  induction n using Nat.strongRecOn with
  | ind n ih =>
    intro l hn hb left h0 h1
    have hl := bq_len (hb 0)
    have hw : wrap64 (left - (l.length : Int)) = left - (l.length : Int) := w64 (by omega) (by omega)
    unfold laws_szGenStepS.f
    rw [hw]
    clear hw
    by_cases hneg : left - (l.length : Int) < 0
    · exact ⟨-1, ev_pos hneg (ev_some rfl), .inl rfl⟩
    · obtain ⟨r, R, hr⟩ := sz_from l (by omega) (fun s hs => by
        have := mem_size hs
        exact ⟨ih (SizeOf.sizeOf s.f2) (by omega) s.f2 (Nat.le_refl _) (fun m => ((hb (m + 1)).2 s hs).1), ih (SizeOf.sizeOf s.f3) (by omega) s.f3 (Nat.le_refl _) (fun m => ((hb (m + 1)).2 s hs).2)⟩) l.length 0 (left - (l.length : Int)) (by omega) (by omega) (by omega) (by simp)
      refine ⟨r, ev_neg hneg R, ?_⟩
      rcases hr with rfl | ⟨r0, r1, b⟩
      · exact .inl rfl
      · refine .inr ⟨r0, by omega, fun m => ?_⟩
        cases m with
        | zero => show l.length ≤ 1048576; omega
        | succ m => exact ⟨by omega, b m⟩
/-- A row of copies: short, and equal to itself. -/
def Cp (r : List S61) : Prop := (∀ m, Bd m r) ∧ Ev (fun k => laws_eqGenStepS.f k r r) true
theorem eq_from (r : List S61) (hr : r.length ≤ 1048576) (h : ∀ s ∈ r, Cp s.f2 ∧ Cp s.f3) (d : Nat) : ∀ i : Nat, i + d = r.length → Ev (fun k => laws_eqGenStepS.l0 k r r (i : Int)) true := by
  induction d with
  | zero =>
    intro i hi
    refine ev_succ ?_
    simp only [laws_eqGenStepS.l0]
    exact ev_neg (by omega) (ev_some rfl)
  | succ d ih =>
    intro i hi
    have hlt : i < r.length := by omega
    obtain ⟨a, b⟩ := h _ (List.getElem_mem hlt)
    have L2 : Ev (fun k => laws_eqGenStepS.l0 k r[i].f2 r[i].f2 0) true := Ev.congr (fun k => (show laws_eqGenStepS.f k r[i].f2 r[i].f2 = laws_eqGenStepS.l0 k r[i].f2 r[i].f2 0 from if_pos rfl).symm) a.2
    have L3 : Ev (fun k => laws_eqGenStepS.l0 k r[i].f3 r[i].f3 0) true := Ev.congr (fun k => (show laws_eqGenStepS.f k r[i].f3 r[i].f3 = laws_eqGenStepS.l0 k r[i].f3 r[i].f3 0 from if_pos rfl).symm) b.2
    refine ev_succ ?_
    simp only [laws_eqGenStepS.l0]
    rw [rd_T61_at r i hlt, next_i i (by omega)]
    refine ev_pos (by omega) (ev_pos (by omega) (ev_pos (by omega) (Ev.bind (a := true) ?_ (ev_pos rfl (ih (i + 1) (by omega))))))
    exact ev_pos trivial (ev_pos trivial (Ev.bind (ev_pos trivial L2) (ev_pos rfl (Ev.bind (ev_pos trivial L3) (ev_pos rfl (ev_some rfl))))))
theorem cp_of {r : List S61} (hr : r.length ≤ 1048576) (h : ∀ s ∈ r, Cp s.f2 ∧ Cp s.f3) : Cp r := by
  refine ⟨fun m => ?_, ?_⟩
  · cases m with
    | zero => exact hr
    | succ m => exact ⟨hr, fun s hs => ⟨(h s hs).1.1 m, (h s hs).2.1 m⟩⟩
  · unfold laws_eqGenStepS.f
    exact ev_pos rfl (eq_from r hr h r.length 0 (by omega))
def To (l : List S59) : Prop := ∃ r, Ev (fun k => laws_toGenStepS.f k l) r ∧ Cp r
theorem to_from (l : List S59) (hl : l.length ≤ 1048576) (ih : ∀ s ∈ l, To s.f2 ∧ To s.f3) (d : Nat) : ∀ (i : Nat) (x : List S61), i + d = l.length → x.length = l.length → (∀ s ∈ x.take i, Cp s.f2 ∧ Cp s.f3) →
    ∃ r, Ev (fun k => laws_toGenStepS.l0 k l x (i : Int)) r ∧ r.length ≤ 1048576 ∧ ∀ s ∈ r, Cp s.f2 ∧ Cp s.f3 := by
  induction d with
  | zero =>
    intro i x hi hx h
    rw [List.take_of_length_le (by omega)] at h
    refine ⟨x, ev_succ ?_, by omega, h⟩
    simp only [laws_toGenStepS.l0]
    exact ev_neg (by omega) (ev_some rfl)
  | succ d ihd =>
    intro i x hi hx h
    have hlt : i < l.length := by omega
    obtain ⟨⟨u, U, hu⟩, ⟨v, V, hv⟩⟩ := ih _ (List.getElem_mem hlt)
    have E : Ev (fun k => laws_toGenStep.f k l[i].f0 l[i].f1 l[i].f2 l[i].f3) (l[i].f0, l[i].f1, u, v) := by
      unfold laws_toGenStep.f
      exact Ev.bind U (Ev.bind V (ev_some rfl))
    obtain ⟨r, R, h1, h2⟩ := ihd (i + 1) (x.set i ⟨l[i].f0, l[i].f1, u, v⟩) (by omega) (by simpa using hx) (fun s hs => by
      rw [List.take_succ_eq_append_getElem (by simp; omega), List.take_set_of_le (Nat.le_refl i)] at hs
      simp only [List.mem_append, List.mem_singleton] at hs
      rcases hs with hs | rfl
      · exact h s hs
      · rw [List.getElem_set_self]
        exact ⟨hu, hv⟩)
    refine ⟨r, ev_succ ?_, h1, h2⟩
    simp only [laws_toGenStepS.l0]
    rw [rd_T59_at l i hlt, next_i i (by omega), Int.toNat_natCast]
    exact ev_pos (by omega) (ev_pos (by omega) (Ev.bind E (ev_pos (by omega) R)))
theorem to_ev : ∀ (n : Nat) (l : List S59), SizeOf.sizeOf l ≤ n → (∀ m, Bq 1048576 m l) → To l := by
  intro n
  induction n using Nat.strongRecOn with
  | ind n ih =>
    intro l hn hb
    have hl := bq_len (hb 0)
    obtain ⟨r, R, h1, h2⟩ := to_from l hl (fun s hs => by
      have := mem_size hs
      exact ⟨ih (SizeOf.sizeOf s.f2) (by omega) s.f2 (Nat.le_refl _) (fun m => ((hb (m + 1)).2 s hs).1), ih (SizeOf.sizeOf s.f3) (by omega) s.f3 (Nat.le_refl _) (fun m => ((hb (m + 1)).2 s hs).2)⟩) l.length 0 (List.replicate l.length z61) (by omega) (by simp) (by simp)
    refine ⟨r, ?_, cp_of h1 h2⟩
    unfold laws_toGenStepS.f
    rw [Int.toNat_natCast]
    exact ev_pos (by omega) (ev_pos (by omega) R)
theorem FnExactGenOk (l : List S59) (hb : ∀ m, Bq 9223372036854775807 m l) : ∃ k, laws_FnExactGenOk.f k l = some true := by
  refine Ev.rounds ?_
  unfold laws_FnExactGenOk.f
  obtain ⟨z, Z, hz⟩ := sz_ev _ l (Nat.le_refl _) hb 1048576 (by omega) (by omega)
  rcases hz with rfl | ⟨z0, z1, b⟩
  · exact Ev.bind Z (ev_pos (by omega) (ev_some rfl))
  · obtain ⟨r, T, hB, E⟩ := to_ev _ l (Nat.le_refl _) b
    have I : Ev (fun k => impl_GenOk.f k r) (genB 4 r) := by
      unfold impl_GenOk.f
      exact Ev.bind (genOk_ev 4 r (Nat.le_refl _) (hB 4)) (ev_some rfl)
    have S : Ev (fun k => spec_GenOk.f k r) (genB 4 r) := by
      unfold spec_GenOk.f
      exact Ev.bind (validSteps_ev 4 r (Nat.le_refl _) (hB 4)) (ev_some rfl)
    exact Ev.bind Z (ev_neg (by omega) (Ev.bind T (Ev.bind S (Ev.bind T (Ev.bind I (ev_neg (by simp) (Ev.bind T (Ev.bind E (ev_pos rfl (ev_some rfl)))))))) ))

end Go.Proofs.Ytpnamllkeaaeeaa.Pure
