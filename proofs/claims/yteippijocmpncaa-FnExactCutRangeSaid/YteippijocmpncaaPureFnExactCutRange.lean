/- FnExactCutRange: the program selects as the reference does, for every number and every slice. -/
import Derived.Test.YteippijocmpncaaXFnExactCutRangex3
namespace Go.Proofs.Yteippijocmpncaa.Pure
open Go.RowKit Go.Proofs.Yteippijocmpncaa.XFnExactCutRange Go.Proofs.YteippijocmpncaaW.PrintWords Go.Proofs.YteippijocmpncaaW.PrintLast Go.Proofs.YteippijocmpncaaW.PrintMore
set_option linter.unusedVariables false
set_option linter.unusedSimpArgs false

/-! ### Rounds, and words of 64 bits -/
theorem ev_succ {α : Type} {g : Nat → Option α} {r : α} (h : Ev (fun k => g (k + 1)) r) : Ev g r := Ev.step (fun _ => rfl) h
theorem ev_some {α : Type} {o : Option α} {r : α} (h : o = some r) : Ev (fun _ => o) r := ⟨0, fun _ _ => h⟩
theorem ev_pos {α : Type} {c : Prop} [Decidable c] {A B : Nat → Option α} {r : α} (h : c) (k : Ev A r) : Ev (fun n => if c then A n else B n) r :=
  Ev.congr (fun _ => if_pos h) k
theorem ev_neg {α : Type} {c : Prop} [Decidable c] {A B : Nat → Option α} {r : α} (h : ¬ c) (k : Ev B r) : Ev (fun n => if c then A n else B n) r :=
  Ev.congr (fun _ => if_neg h) k
theorem ev_eq {α : Type} {g : Nat → Option α} {r s : α} (h : Ev g r) (e : r = s) : Ev g s := e ▸ h
theorem ev_bind1 {α β : Type} {o : Option α} {f : Nat → α → Option β} {a : α} {r : β} (h : o = some a) (k : Ev (fun n => f n a) r) : Ev (fun n => o.bind (f n)) r :=
  Ev.bind (ev_some h) k
theorem ev_det {α : Type} {g : Nat → Option α} {r s : α} (h : Ev g r) (k : Ev g s) : r = s := by
  obtain ⟨K, h⟩ := h
  obtain ⟨L, k⟩ := k
  have h1 := h (max K L) (by omega)
  have h2 := k (max K L) (by omega)
  rw [h1] at h2
  exact Option.some.inj h2
theorem w64 {n : Int} (h : -9223372036854775808 ≤ n) (h' : n ≤ 9223372036854775807) : wrap64 n = n := by unfold wrap64; omega
theorem byte_of {l : List Int} (h : ∀ x ∈ l, (Lit.int .u8 x).wf = true) (i : Int) : 0 ≤ rd l i ∧ rd l i ≤ 255 := by
  unfold rd
  by_cases hi : i.toNat < l.length
  · have hm : l.getD i.toNat 0 ∈ l := by
      rw [List.getD_eq_getElem?_getD, List.getElem?_eq_getElem hi]
      exact List.getElem_mem hi
    have := h _ hm
    have m0 : IntKind.u8.min = 0 := by decide
    have m1 : IntKind.u8.max = 255 := by decide
    simp only [Lit.wf, m0, m1, Bool.and_eq_true, decide_eq_true_eq] at this
    exact this
  · rw [List.getD_eq_getElem?_getD, List.getElem?_eq_none (by omega)]
    simp

/-! ### Slices: what the reference selects -/
theorem clamp_ok (g n lo hi m : Int) (h : lo ≤ hi) : spec_clamped.f g n lo hi = some (boundI n lo hi true g m) := by
  unfold spec_clamped.f boundI
  simp only [if_true]
  by_cases hg : g < 0
  · rw [if_pos hg, if_pos hg]; congr 1; unfold mx mn; simp only [Int.min_def, Int.max_def]; (repeat' split) <;> omega
  · rw [if_neg hg, if_neg hg]; congr 1; unfold mx mn; simp only [Int.min_def, Int.max_def]; (repeat' split) <;> omega
theorem cut_end (p q f t s : Int) (hf ht : Bool) (p1 : -1 ≤ p) (p2 : p ≤ 1000000) (q1 : -1 ≤ q) (q2 : q ≤ 1000000) (s1 : -1000000 ≤ s) (s2 : s ≤ 1000000) (s0 : s ≠ 0) :
    Ev (fun k => spec_cutOf.j3 k p q f t s hf ht) (p, cutCount s p q) := by
  have e1 : wrap64 (q - p) = q - p := w64 (by omega) (by omega)
  have e2 : wrap64 (q - p - 1) = q - p - 1 := w64 (by omega) (by omega)
  have e3 : wrap64 (p - q) = p - q := w64 (by omega) (by omega)
  have e4 : wrap64 (p - q - 1) = p - q - 1 := w64 (by omega) (by omega)
  have e5 : wrap64 (-s) = -s := w64 (by omega) (by omega)
  refine ev_succ ?_
  simp only [spec_cutOf.j3]
  by_cases hs : s > 0
  · refine ev_pos hs (ev_succ ?_)
    simp only [spec_cutOf.j4]
    rw [e1, e2, e3, e4, e5]
    by_cases hpq : q > p
    · have hd := cut_div_le (q - p - 1) s (by omega) hs
      have ht := Int.tdiv_eq_ediv_of_nonneg (a := q - p - 1) (b := s) (by omega)
      have e6 : wrap64 ((q - p - 1).tdiv s) = (q - p - 1) / s := by rw [ht]; exact w64 (by omega) (by omega)
      have e7 : wrap64 ((q - p - 1) / s + 1) = (q - p - 1) / s + 1 := w64 (by omega) (by omega)
      refine ev_pos (decide_eq_true hpq) (ev_neg s0 (ev_neg (by omega) (ev_some ?_)))
      rw [e6, e7, cutCount, if_pos hs, if_pos hpq]
    · refine ev_neg (by simpa using hpq) (ev_neg (by omega) (ev_some ?_))
      rw [cutCount, if_pos hs, if_neg (by omega)]
  · refine ev_neg hs (ev_succ ?_)
    simp only [spec_cutOf.j4]
    rw [e1, e2, e3, e4, e5]
    refine ev_neg (by simp) (ev_pos (by omega) ?_)
    by_cases hpq : p > q
    · have hd := cut_div_le (p - q - 1) (-s) (by omega) (by omega)
      have ht := Int.tdiv_eq_ediv_of_nonneg (a := p - q - 1) (b := -s) (by omega)
      have e6 : wrap64 ((p - q - 1).tdiv (-s)) = (p - q - 1) / (-s) := by rw [ht]; exact w64 (by omega) (by omega)
      have e7 : wrap64 ((p - q - 1) / (-s) + 1) = (p - q - 1) / (-s) + 1 := w64 (by omega) (by omega)
      refine ev_pos hpq (ev_neg (by omega) (ev_some ?_))
      rw [e6, e7, cutCount, if_neg (by omega), if_pos hpq]
    · refine ev_neg hpq (ev_some ?_)
      rw [cutCount, if_neg (by omega), if_neg (by omega)]
/-- Are these arguments valid? -/
def cutB (f t s : Int) (hf ht : Bool) : Bool := decide (-1000000 ≤ f ∧ f ≤ 1000000 ∧ -1000000 ≤ t ∧ t ≤ 1000000 ∧ -1000000 ≤ s ∧ s ≤ 1000000 ∧ s ≠ 0 ∧ (hf = true ∨ f = 0) ∧ (ht = true ∨ t = 0))
theorem cutB_iff {f t s : Int} {hf ht : Bool} (h : cutB f t s hf ht = true) : -1000000 ≤ f ∧ f ≤ 1000000 ∧ -1000000 ≤ t ∧ t ≤ 1000000 ∧ -1000000 ≤ s ∧ s ≤ 1000000 ∧ s ≠ 0 ∧ (hf = true ∨ f = 0) ∧ (ht = true ∨ t = 0) := of_decide_eq_true h
theorem cutOf_ev (n f t s : Int) (hf ht : Bool) (n0 : 0 ≤ n) (n1 : n ≤ 1000000) (h : cutB f t s hf ht = true) :
    Ev (fun k => spec_cutOf.f k n f t s hf ht) (cutR n f t s hf ht) := by
  obtain ⟨f1, f2, t1, t2, s1, s2, s0, -, -⟩ := cutB_iff h
  have P := cutP_bd (n := n) (f := f) (s := s) hf n0
  have Q := cutQ_bd (n := n) (t := t) (s := s) ht n0
  have l1 : -1 ≤ cutLo s := by unfold cutLo; split <;> omega
  have l2 : cutHi n s ≤ 1000000 := by unfold cutHi; split <;> omega
  have l3 : cutLo s ≤ cutHi n s := by unfold cutLo cutHi; split <;> omega
  have e1 : wrap64 (n - 1) = n - 1 := w64 (by omega) (by omega)
  have fin := cut_end (cutP n f s hf) (cutQ n t s ht) f t s hf ht (by omega) (by omega) (by omega) (by omega) s1 s2 s0
  have key : ∀ x6 x7 x8 x9 : Int, x6 = cutLo s → x7 = cutHi n s → x8 = (if s < 0 then n - 1 else 0) → x9 = (if s < 0 then -1 else n) → Ev (fun k => spec_cutOf.j1 k n x6 x7 x8 x9 f t s hf ht) (cutR n f t s hf ht) := by
    intro x6 x7 x8 x9 h6 h7 h8 h9
    subst h6; subst h7
    have two : Ev (fun k => spec_cutOf.j2 k n (cutLo s) (cutHi n s) (cutP n f s hf) x9 f t s hf ht) (cutR n f t s hf ht) := by
      refine ev_succ ?_
      simp only [spec_cutOf.j2]
      cases ht with
      | true =>
        refine ev_pos rfl (ev_bind1 (clamp_ok t n _ _ (if s < 0 then -1 else n) l3) fin)
      | false =>
        refine ev_neg (by simp) ?_
        have : x9 = cutQ n t s false := by rw [h9]; rfl
        rw [this]; exact fin
    refine ev_succ ?_
    simp only [spec_cutOf.j1]
    cases hf with
    | true => exact ev_pos rfl (ev_bind1 (clamp_ok f n _ _ (if s < 0 then n - 1 else 0) l3) two)
    | false =>
      refine ev_neg (by simp) ?_
      have : x8 = cutP n f s false := by rw [h8]; rfl
      rw [this]; exact two
  unfold spec_cutOf.f
  by_cases hs : s < 0
  · refine ev_pos hs (ev_succ ?_)
    simp only [spec_cutOf.j0]
    rw [e1]
    exact ev_pos hs (key _ _ _ _ (by rw [cutLo, if_pos hs]) (by rw [cutHi, if_pos hs]) (by rw [if_pos hs]) (by rw [if_pos hs]))
  · refine ev_neg hs (ev_succ ?_)
    simp only [spec_cutOf.j0]
    exact ev_neg hs (key _ _ _ _ (by rw [cutLo, if_neg hs]) (by rw [cutHi, if_neg hs]) (by rw [if_neg hs]) (by rw [if_neg hs]))
theorem inRange_some (a b c : Int) : spec_inRange.f a b c = some (decide (b ≤ a ∧ a ≤ c)) := by
  unfold spec_inRange.f
  by_cases h1 : a ≥ b
  · rw [if_pos h1]; congr 1; simp; omega
  · rw [if_neg h1, decide_eq_false (by omega)]
theorem validCut_some (f t s : Int) (hf ht : Bool) : spec_validCut.f f t s hf ht = some (cutB f t s hf ht) := by
  have e : spec_validCut.f f t s hf ht = impl_CutOk.f f t s hf ht := by
    have hw : ∀ x y z : Int, impl_within.f x y z = spec_inRange.f x y z := fun _ _ _ => rfl
    unfold impl_CutOk.f spec_validCut.f
    simp only [hw]
  rw [e, cutOk_some]; rfl
/-- What CutRange answers. -/
def cutRR (n f t s : Int) (hf ht : Bool) : Int × Int := if (0 ≤ n ∧ n ≤ 1000000) ∧ cutB f t s hf ht = true then cutR n f t s hf ht else (0, 0)
theorem implCut_some (n f t s : Int) (hf ht : Bool) : impl_CutRange.f n f t s hf ht = some (cutRR n f t s hf ht) := by
  unfold impl_CutRange.f cutRR
  rw [within_some, cutOk_some]
  simp only [Option.bind_some]
  by_cases h : 0 ≤ n ∧ n ≤ 1000000
  · rw [if_pos (decide_eq_true h)]
    by_cases h2 : cutB f t s hf ht = true
    · rw [if_pos (by exact h2), if_pos ⟨h, h2⟩]
    · rw [if_neg (by exact h2), if_neg (fun z => h2 z.2)]
  · rw [if_neg (by simpa using h), if_neg (fun z => h z.1)]
theorem specCut_ev (n f t s : Int) (hf ht : Bool) : Ev (fun k => spec_CutRange.f k n f t s hf ht) (cutRR n f t s hf ht) := by
  unfold spec_CutRange.f cutRR
  refine ev_bind1 (validCut_some _ _ _ _ _) ?_
  by_cases h2 : cutB f t s hf ht = true
  · refine ev_pos h2 (ev_bind1 (inRange_some _ _ _) ?_)
    by_cases h : 0 ≤ n ∧ n ≤ 1000000
    · refine ev_pos (decide_eq_true h) (Ev.bind (cutOf_ev n f t s hf ht h.1 h.2 h2) (ev_some ?_))
      rw [if_pos ⟨h, h2⟩]
    · exact ev_neg (by simpa using h) (ev_some (by rw [if_neg (fun z => h z.1)]))
  · exact ev_neg h2 (ev_some (by rw [if_neg (fun z => h2 z.2)]))

theorem FnExactCutRange (n f t s : Int) (hf ht : Bool) : ∃ k, laws_FnExactCutRange.f k n f t s hf ht = some true := by
  refine Ev.rounds ?_
  unfold laws_FnExactCutRange.f laws_toCut.f
  simp only [Option.bind_some]
  refine Ev.bind (specCut_ev n f t s hf ht) (ev_bind1 (implCut_some _ _ _ _ _ _) (ev_pos rfl (ev_pos rfl (ev_some rfl))))

end Go.Proofs.Yteippijocmpncaa.Pure
