/- FnExactListPutCut: the program puts numbers in place as the reference does. -/
import Derived.Test.YtkhkbbhkhpekcaaXFnExactListPutCutx7
namespace Go.Proofs.Ytkhkbbhkhpekcaa.Pure
open Go.RowKit Go.Proofs.Ytkhkbbhkhpekcaa.XFnExactListPutCut Go.Proofs.YtkhkbbhkhpekcaaW.PrintWords Go.Proofs.YtkhkbbhkhpekcaaW.PrintLast Go.Proofs.YtkhkbbhkhpekcaaW.PrintMore
set_option linter.unusedVariables false
set_option linter.unusedSimpArgs false

/-! ### Rounds, and words of 64 bits -/
theorem ev_succ {α : Type} {g : Nat → Option α} {r : α} (h : Ev (fun k => g (k + 1)) r) : Ev g r := Ev.step (fun _ => rfl) h
theorem ev_some {α : Type} {o : Option α} {r : α} (h : o = some r) : Ev (fun _ => o) r := ⟨0, fun _ _ => h⟩
theorem ev_pos {α : Type} {c : Prop} [Decidable c] {A B : Nat → Option α} {r : α} (h : c) (k : Ev A r) : Ev (fun n => if c then A n else B n) r :=
  Ev.congr (fun _ => if_pos h) k
theorem ev_neg {α : Type} {c : Prop} [Decidable c] {A B : Nat → Option α} {r : α} (h : ¬ c) (k : Ev B r) : Ev (fun n => if c then A n else B n) r :=
  Ev.congr (fun _ => if_neg h) k
theorem ev_eq {α : Type} {g : Nat → Option α} {r s : α} (h : Ev g r) (e : r = s) : Ev g s := e ▸ h
theorem ev_bind1 {α β : Type} {o : Option α} {f : Nat → α → Option β} {a : α} {r : β} (h : o = some a) (k : Ev (fun n => f n a) r) : Ev (fun n => o.bind (f n)) r :=
  Ev.bind (ev_some h) k
theorem ev_det {α : Type} {g : Nat → Option α} {r s : α} (h : Ev g r) (k : Ev g s) : r = s := by
  obtain ⟨K, h⟩ := h
  obtain ⟨L, k⟩ := k
  have h1 := h (max K L) (by omega)
  have h2 := k (max K L) (by omega)
  rw [h1] at h2
  exact Option.some.inj h2
theorem w64 {n : Int} (h : -9223372036854775808 ≤ n) (h' : n ≤ 9223372036854775807) : wrap64 n = n := by unfold wrap64; omega
theorem byte_of {l : List Int} (h : ∀ x ∈ l, (Lit.int .u8 x).wf = true) (i : Int) : 0 ≤ rd l i ∧ rd l i ≤ 255 := by
  unfold rd
  by_cases hi : i.toNat < l.length
  · have hm : l.getD i.toNat 0 ∈ l := by
      rw [List.getD_eq_getElem?_getD, List.getElem?_eq_getElem hi]
      exact List.getElem_mem hi
    have := h _ hm
    have m0 : IntKind.u8.min = 0 := by decide
    have m1 : IntKind.u8.max = 255 := by decide
    simp only [Lit.wf, m0, m1, Bool.and_eq_true, decide_eq_true_eq] at this
    exact this
  · rw [List.getD_eq_getElem?_getD, List.getElem?_eq_none (by omega)]
    simp

/-! ### Reading a list -/
theorem rd_at (l : List Int) (i : Nat) (h : i < l.length) : rd l (i : Int) = l[i] := by
  unfold rd
  simp [List.getD_eq_getElem?_getD, h]
theorem next_i (i : Nat) (h : i ≤ 4611686018427387904) : wrap64 ((i : Int) + 1) = ((i + 1 : Nat) : Int) := by rw [w64 (by omega) (by omega)]; omega

/-! ### Lists of numbers: copied, compared -/
theorem toInt_from (l : List Int) (hl : l.length ≤ 1048576) (d : Nat) : ∀ (i : Nat) (x : List Int), i + d = l.length → x.length = l.length → x.take i = l.take i → Ev (fun k => laws_toIntS.l0 k l x (i : Int)) l := by
  induction d with
  | zero =>
    intro i x hi hx ht
    refine ev_succ ?_
    simp only [laws_toIntS.l0]
    refine ev_neg (by omega) (ev_some ?_)
    rw [List.take_of_length_le (by omega), List.take_of_length_le (by omega)] at ht
    rw [ht]
  | succ d ih =>
    intro i x hi hx ht
    refine ev_succ ?_
    simp only [laws_toIntS.l0]
    refine ev_pos (by omega) (ev_pos (by omega) (ev_pos (by omega) ?_))
    rw [next_i i (by omega), rd_at l i (by omega)]
    refine ih (i + 1) _ (by omega) (by simp [hx]) ?_
    have hi' : i < x.length := by omega
    rw [List.take_succ_eq_append_getElem (by simp; omega), List.take_succ_eq_append_getElem (by omega)]
    simp only [Int.toNat_natCast, List.getElem_set_self]
    rw [List.take_set_of_le (Nat.le_refl i), ht]

theorem toInt_ev (l : List Int) (hl : l.length ≤ 1048576) : Ev (fun k => laws_toIntS.f k l) l := by
  unfold laws_toIntS.f
  refine ev_pos (by omega) (ev_pos (by simp; omega) ?_)
  exact toInt_from l hl l.length 0 _ (by omega) (by simp) (by simp)

theorem eqSelf_from (l : List Int) (hl : l.length ≤ 1048576) (d : Nat) : ∀ (i : Nat), i + d = l.length → Ev (fun k => laws_eqIntS.l0 k l l (i : Int)) true := by
  induction d with
  | zero =>
    intro i hi
    refine ev_succ ?_
    simp only [laws_eqIntS.l0]
    exact ev_neg (by omega) (ev_some rfl)
  | succ d ih =>
    intro i hi
    refine ev_succ ?_
    simp only [laws_eqIntS.l0]
    refine ev_pos (by omega) (ev_pos (by omega) (ev_pos (by omega) (ev_pos trivial ?_)))
    rw [next_i i (by omega)]
    exact ih (i + 1) (by omega)

theorem eqSelf_ev (l : List Int) (hl : l.length ≤ 1048576) : Ev (fun k => laws_eqIntS.f k l l) true := by
  unfold laws_eqIntS.f
  exact ev_pos rfl (eqSelf_from l hl l.length 0 (by omega))

/-! ### Lists of numbers: marked -/
def seqL (s : Int) (n : Nat) : List Int := (List.range n).map fun (i : Nat) => s + (i : Int)
theorem seqL_length (s : Int) (n : Nat) : (seqL s n).length = n := by simp [seqL]
theorem mark_from (l : List Int) (s : Int) (hl : l.length ≤ 1048576) (h0 : 0 ≤ s) (h1 : s ≤ 1000000000000) (d : Nat) : ∀ (i : Nat) (x : List Int), i + d = l.length → x.length = l.length → x.take i = seqL s i →
    Ev (fun k => laws_markIntS.l0 k x (s + (i : Int)) (i : Int)) (s + (l.length : Int), seqL s l.length) := by
  induction d with
  | zero =>
    intro i x hi hx ht
    refine ev_succ ?_
    simp only [laws_markIntS.l0]
    refine ev_neg (by omega) (ev_some ?_)
    rw [List.take_of_length_le (by omega)] at ht
    have : i = l.length := by omega
    subst this
    rw [ht]
  | succ d ih =>
    intro i x hi hx ht
    refine ev_succ ?_
    simp only [laws_markIntS.l0]
    refine ev_pos (by omega) (ev_pos (by omega) ?_)
    rw [next_i i (by omega), show wrap64 (s + (i : Int) + 1) = s + ((i + 1 : Nat) : Int) by rw [w64 (by omega) (by omega)]; omega]
    refine ih (i + 1) _ (by omega) (by simp [hx]) ?_
    rw [List.take_succ_eq_append_getElem (by simp; omega)]
    simp only [Int.toNat_natCast, List.getElem_set_self]
    rw [List.take_set_of_le (Nat.le_refl i), ht]
    simp [seqL, List.range_succ]

theorem mark_ev (l : List Int) (s : Int) (hl : l.length ≤ 1048576) (h0 : 0 ≤ s) (h1 : s ≤ 1000000000000) : Ev (fun k => laws_markIntS.f k l s) (s + (l.length : Int), seqL s l.length) := by
  have h := mark_from l s hl h0 h1 l.length 0 l (by omega) rfl (by simp [seqL])
  have e : s + ((0 : Nat) : Int) = s := by omega
  rw [e] at h
  exact h

theorem held_from (s : Int) (n : Nat) (hl : n ≤ 1048576) (h0 : 0 ≤ s) (h1 : s ≤ 1000000000000) (d : Nat) : ∀ (i : Nat), i + d = n → Ev (fun k => laws_heldIntS.l0 k (seqL s n) (s + (i : Int)) (i : Int)) (s + (n : Int)) := by
  induction d with
  | zero =>
    intro i hi
    refine ev_succ ?_
    simp only [laws_heldIntS.l0, seqL_length]
    refine ev_neg (by omega) (ev_some ?_)
    have : i = n := by omega
    rw [this]
  | succ d ih =>
    intro i hi
    refine ev_succ ?_
    simp only [laws_heldIntS.l0, seqL_length]
    refine ev_pos (by omega) (ev_pos (by omega) (ev_pos ?_ ?_))
    · rw [rd_at _ i (by rw [seqL_length]; omega)]; simp [seqL]
    · rw [next_i i (by omega), show wrap64 (s + (i : Int) + 1) = s + ((i + 1 : Nat) : Int) by rw [w64 (by omega) (by omega)]; omega]
      exact ih (i + 1) (by omega)

theorem held_ev (s : Int) (n : Nat) (hl : n ≤ 1048576) (h0 : 0 ≤ s) (h1 : s ≤ 1000000000000) : Ev (fun k => laws_heldIntS.f k (seqL s n) s) (s + (n : Int)) := by
  have h := held_from s n hl h0 h1 n 0 (by omega)
  have e : s + ((0 : Nat) : Int) = s := by omega
  rw [e] at h
  exact h

/-! ### Slices: which are valid -/
/-- Are these arguments valid? -/
def cutB (f t s : Int) (hf ht : Bool) : Bool := decide (-1000000 ≤ f ∧ f ≤ 1000000 ∧ -1000000 ≤ t ∧ t ≤ 1000000 ∧ -1000000 ≤ s ∧ s ≤ 1000000 ∧ s ≠ 0 ∧ (hf = true ∨ f = 0) ∧ (ht = true ∨ t = 0))
theorem cutB_iff {f t s : Int} {hf ht : Bool} (h : cutB f t s hf ht = true) : -1000000 ≤ f ∧ f ≤ 1000000 ∧ -1000000 ≤ t ∧ t ≤ 1000000 ∧ -1000000 ≤ s ∧ s ≤ 1000000 ∧ s ≠ 0 ∧ (hf = true ∨ f = 0) ∧ (ht = true ∨ t = 0) := of_decide_eq_true h
theorem inRange_some (a b c : Int) : spec_inRange.f a b c = some (decide (b ≤ a ∧ a ≤ c)) := by
  unfold spec_inRange.f
  by_cases h1 : a ≥ b
  · rw [if_pos h1]; congr 1; simp; omega
  · rw [if_neg h1, decide_eq_false (by omega)]
/-- What CutRange answers. -/
def cutRR (n f t s : Int) (hf ht : Bool) : Int × Int := if (0 ≤ n ∧ n ≤ 1000000) ∧ cutB f t s hf ht = true then cutR n f t s hf ht else (0, 0)
theorem implCut_some (n f t s : Int) (hf ht : Bool) : impl_CutRange.f n f t s hf ht = some (cutRR n f t s hf ht) := by
  unfold impl_CutRange.f cutRR
  rw [within_some, cutOk_some]
  simp only [Option.bind_some]
  by_cases h : 0 ≤ n ∧ n ≤ 1000000
  · rw [if_pos (decide_eq_true h)]
    by_cases h2 : cutB f t s hf ht = true
    · rw [if_pos (by exact h2), if_pos ⟨h, h2⟩]
    · rw [if_neg (by exact h2), if_neg (fun z => h2 z.2)]
  · rw [if_neg (by simpa using h), if_neg (fun z => h z.1)]

theorem validCut_some (f t s : Int) (hf ht : Bool) : spec_validCut.f f t s hf ht = some (cutB f t s hf ht) := by
  have e : spec_validCut.f f t s hf ht = impl_CutOk.f f t s hf ht := by
    have hw : ∀ x y z : Int, impl_within.f x y z = spec_inRange.f x y z := fun _ _ _ => rfl
    unfold impl_CutOk.f spec_validCut.f
    simp only [hw]
  rw [e, cutOk_some]; rfl

/-! ### Slices: what the reference selects -/
theorem clamp_ok (g n lo hi m : Int) (h : lo ≤ hi) : spec_clamped.f g n lo hi = some (boundI n lo hi true g m) := by
  unfold spec_clamped.f boundI
  simp only [if_true]
  by_cases hg : g < 0
  · rw [if_pos hg, if_pos hg]; congr 1; unfold mx mn; simp only [Int.min_def, Int.max_def]; (repeat' split) <;> omega
  · rw [if_neg hg, if_neg hg]; congr 1; unfold mx mn; simp only [Int.min_def, Int.max_def]; (repeat' split) <;> omega
theorem cut_end (p q f t s : Int) (hf ht : Bool) (p1 : -1 ≤ p) (p2 : p ≤ 1000000) (q1 : -1 ≤ q) (q2 : q ≤ 1000000) (s1 : -1000000 ≤ s) (s2 : s ≤ 1000000) (s0 : s ≠ 0) :
    Ev (fun k => spec_cutOf.j3 k p q f t s hf ht) (p, cutCount s p q) := by
  have e1 : wrap64 (q - p) = q - p := w64 (by omega) (by omega)
  have e2 : wrap64 (q - p - 1) = q - p - 1 := w64 (by omega) (by omega)
  have e3 : wrap64 (p - q) = p - q := w64 (by omega) (by omega)
  have e4 : wrap64 (p - q - 1) = p - q - 1 := w64 (by omega) (by omega)
  have e5 : wrap64 (-s) = -s := w64 (by omega) (by omega)
  refine ev_succ ?_
  simp only [spec_cutOf.j3]
  by_cases hs : s > 0
  · refine ev_pos hs (ev_succ ?_)
    simp only [spec_cutOf.j4]
    rw [e1, e2, e3, e4, e5]
    by_cases hpq : q > p
    · have hd := cut_div_le (q - p - 1) s (by omega) hs
      have ht := Int.tdiv_eq_ediv_of_nonneg (a := q - p - 1) (b := s) (by omega)
      have e6 : wrap64 ((q - p - 1).tdiv s) = (q - p - 1) / s := by rw [ht]; exact w64 (by omega) (by omega)
      have e7 : wrap64 ((q - p - 1) / s + 1) = (q - p - 1) / s + 1 := w64 (by omega) (by omega)
      refine ev_pos (decide_eq_true hpq) (ev_neg s0 (ev_neg (by omega) (ev_some ?_)))
      rw [e6, e7, cutCount, if_pos hs, if_pos hpq]
    · refine ev_neg (by simpa using hpq) (ev_neg (by omega) (ev_some ?_))
      rw [cutCount, if_pos hs, if_neg (by omega)]
  · refine ev_neg hs (ev_succ ?_)
    simp only [spec_cutOf.j4]
    rw [e1, e2, e3, e4, e5]
    refine ev_neg (by simp) (ev_pos (by omega) ?_)
    by_cases hpq : p > q
    · have hd := cut_div_le (p - q - 1) (-s) (by omega) (by omega)
      have ht := Int.tdiv_eq_ediv_of_nonneg (a := p - q - 1) (b := -s) (by omega)
      have e6 : wrap64 ((p - q - 1).tdiv (-s)) = (p - q - 1) / (-s) := by rw [ht]; exact w64 (by omega) (by omega)
      have e7 : wrap64 ((p - q - 1) / (-s) + 1) = (p - q - 1) / (-s) + 1 := w64 (by omega) (by omega)
      refine ev_pos hpq (ev_neg (by omega) (ev_some ?_))
      rw [e6, e7, cutCount, if_neg (by omega), if_pos hpq]
    · refine ev_neg hpq (ev_some ?_)
      rw [cutCount, if_neg (by omega), if_neg (by omega)]
theorem cutOf_ev (n f t s : Int) (hf ht : Bool) (n0 : 0 ≤ n) (n1 : n ≤ 1000000) (h : cutB f t s hf ht = true) :
    Ev (fun k => spec_cutOf.f k n f t s hf ht) (cutR n f t s hf ht) := by
  obtain ⟨f1, f2, t1, t2, s1, s2, s0, -, -⟩ := cutB_iff h
  have P := cutP_bd (n := n) (f := f) (s := s) hf n0
  have Q := cutQ_bd (n := n) (t := t) (s := s) ht n0
  have l1 : -1 ≤ cutLo s := by unfold cutLo; split <;> omega
  have l2 : cutHi n s ≤ 1000000 := by unfold cutHi; split <;> omega
  have l3 : cutLo s ≤ cutHi n s := by unfold cutLo cutHi; split <;> omega
  have e1 : wrap64 (n - 1) = n - 1 := w64 (by omega) (by omega)
  have fin := cut_end (cutP n f s hf) (cutQ n t s ht) f t s hf ht (by omega) (by omega) (by omega) (by omega) s1 s2 s0
  have key : ∀ x6 x7 x8 x9 : Int, x6 = cutLo s → x7 = cutHi n s → x8 = (if s < 0 then n - 1 else 0) → x9 = (if s < 0 then -1 else n) → Ev (fun k => spec_cutOf.j1 k n x6 x7 x8 x9 f t s hf ht) (cutR n f t s hf ht) := by
    intro x6 x7 x8 x9 h6 h7 h8 h9
    subst h6; subst h7
    have two : Ev (fun k => spec_cutOf.j2 k n (cutLo s) (cutHi n s) (cutP n f s hf) x9 f t s hf ht) (cutR n f t s hf ht) := by
      refine ev_succ ?_
      simp only [spec_cutOf.j2]
      cases ht with
      | true =>
        refine ev_pos rfl (ev_bind1 (clamp_ok t n _ _ (if s < 0 then -1 else n) l3) fin)
      | false =>
        refine ev_neg (by simp) ?_
        have : x9 = cutQ n t s false := by rw [h9]; rfl
        rw [this]; exact fin
    refine ev_succ ?_
    simp only [spec_cutOf.j1]
    cases hf with
    | true => exact ev_pos rfl (ev_bind1 (clamp_ok f n _ _ (if s < 0 then n - 1 else 0) l3) two)
    | false =>
      refine ev_neg (by simp) ?_
      have : x8 = cutP n f s false := by rw [h8]; rfl
      rw [this]; exact two
  unfold spec_cutOf.f
  by_cases hs : s < 0
  · refine ev_pos hs (ev_succ ?_)
    simp only [spec_cutOf.j0]
    rw [e1]
    exact ev_pos hs (key _ _ _ _ (by rw [cutLo, if_pos hs]) (by rw [cutHi, if_pos hs]) (by rw [if_pos hs]) (by rw [if_pos hs]))
  · refine ev_neg hs (ev_succ ?_)
    simp only [spec_cutOf.j0]
    exact ev_neg hs (key _ _ _ _ (by rw [cutLo, if_neg hs]) (by rw [cutHi, if_neg hs]) (by rw [if_neg hs]) (by rw [if_neg hs]))

/-! ### Slices: what is selected is there -/
theorem cutCount_in {n p q s : Int} (s0 : s ≠ 0) (hp : cutLo s ≤ p ∧ p ≤ cutHi n s) (hq : cutLo s ≤ q ∧ q ≤ cutHi n s) (i : Int) (i0 : 0 ≤ i) (i1 : i < cutCount s p q) :
    0 ≤ p + i * s ∧ p + i * s < n ∧ (0 < s → p + i * s < q) ∧ (s < 0 → q < p + i * s) := by
  unfold cutCount at i1
  by_cases hs : 0 < s
  · rw [if_pos hs] at i1
    have e1 : cutLo s = 0 := by rw [cutLo, if_neg (by omega)]
    have e2 : cutHi n s = n := by rw [cutHi, if_neg (by omega)]
    by_cases h : p < q
    · rw [if_pos h] at i1
      have m1 : (q - p - 1) / s * s ≤ q - p - 1 := Int.ediv_mul_le _ (by omega)
      have m2 : i * s ≤ (q - p - 1) / s * s := Int.mul_le_mul_of_nonneg_right (by omega) (by omega)
      have m3 : 0 ≤ i * s := Int.mul_nonneg i0 (by omega)
      omega
    · rw [if_neg h] at i1; omega
  · rw [if_neg hs] at i1
    have e1 : cutLo s = -1 := by rw [cutLo, if_pos (by omega)]
    have e2 : cutHi n s = n - 1 := by rw [cutHi, if_pos (by omega)]
    by_cases h : q < p
    · rw [if_pos h] at i1
      have m1 : (p - q - 1) / (-s) * (-s) ≤ p - q - 1 := Int.ediv_mul_le _ (by omega)
      have m2 : i * (-s) ≤ (p - q - 1) / (-s) * (-s) := Int.mul_le_mul_of_nonneg_right (by omega) (by omega)
      have m3 : 0 ≤ i * (-s) := Int.mul_nonneg i0 (by omega)
      have m4 : i * (-s) = -(i * s) := Int.mul_neg _ _
      omega
    · rw [if_neg h] at i1; omega
theorem cutCount_le {n p q s : Int} (s0 : s ≠ 0) (n0 : 0 ≤ n) (hp : cutLo s ≤ p ∧ p ≤ cutHi n s) (hq : cutLo s ≤ q ∧ q ≤ cutHi n s) : 0 ≤ cutCount s p q ∧ cutCount s p q ≤ n := by
  unfold cutCount
  by_cases hs : 0 < s
  · rw [if_pos hs]
    have e1 : cutLo s = 0 := by rw [cutLo, if_neg (by omega)]
    have e2 : cutHi n s = n := by rw [cutHi, if_neg (by omega)]
    by_cases h : p < q
    · rw [if_pos h]; have := cut_div_le (q - p - 1) s (by omega) hs; omega
    · rw [if_neg h]; omega
  · rw [if_neg hs]
    have e1 : cutLo s = -1 := by rw [cutLo, if_pos (by omega)]
    have e2 : cutHi n s = n - 1 := by rw [cutHi, if_pos (by omega)]
    by_cases h : q < p
    · rw [if_pos h]; have := cut_div_le (p - q - 1) (-s) (by omega) (by omega); omega
    · rw [if_neg h]; omega
/-- What CutRange answers at valid arguments: the first place and how many; all of them are there. -/
theorem cutR_in {n f t s : Int} {hf ht : Bool} (n0 : 0 ≤ n) (h : cutB f t s hf ht = true) :
    0 ≤ (cutR n f t s hf ht).2 ∧ (cutR n f t s hf ht).2 ≤ n ∧ ∀ i, 0 ≤ i → i < (cutR n f t s hf ht).2 → 0 ≤ (cutR n f t s hf ht).1 + i * s ∧ (cutR n f t s hf ht).1 + i * s < n := by
  obtain ⟨-, -, -, -, -, -, s0, -, -⟩ := cutB_iff h
  have P := cutP_bd (n := n) (f := f) (s := s) hf n0
  have Q := cutQ_bd (n := n) (t := t) (s := s) ht n0
  have L := cutCount_le s0 n0 P Q
  exact ⟨L.1, L.2, fun i i0 i1 => ⟨(cutCount_in s0 P Q i i0 i1).1, (cutCount_in s0 P Q i i0 i1).2.1⟩⟩
theorem cutRR_in {n f t s : Int} {hf ht : Bool} (hm : (cutRR n f t s hf ht).2 ≠ 0) :
    0 ≤ n ∧ n ≤ 1000000 ∧ cutB f t s hf ht = true ∧ cutRR n f t s hf ht = cutR n f t s hf ht := by
  unfold cutRR at hm ⊢
  by_cases h : (0 ≤ n ∧ n ≤ 1000000) ∧ cutB f t s hf ht = true
  · rw [if_pos h]; exact ⟨h.1.1, h.1.2, h.2, rfl⟩
  · rw [if_neg h] at hm; exact absurd rfl hm

/-! ### The places that a slice selects -/
def placeL (p s : Int) (m : Nat) : List Int := (List.range m).map fun (i : Nat) => p + (i : Int) * s
theorem placeL_length (p s : Int) (m : Nat) : (placeL p s m).length = m := by simp [placeL]
theorem placeL_cons (p s : Int) (m : Nat) : placeL p s (m + 1) = p :: placeL (p + s) s m := by
  unfold placeL
  rw [List.range_succ_eq_map, List.map_cons, List.map_map]
  congr 1
  · simp
  · apply List.map_congr_left
    intro i _
    show p + ((i + 1 : Nat) : Int) * s = p + s + (i : Int) * s
    rw [show ((i + 1 : Nat) : Int) = (i : Int) + 1 by omega, Int.add_mul]; omega
theorem placesW_eq (s : Int) (hs : -1000000 ≤ s ∧ s ≤ 1000000) : ∀ (k : Nat) (p : Int), (∀ i : Nat, i < k → -2000000 ≤ p + (i : Int) * s ∧ p + (i : Int) * s ≤ 2000000) → placesW s p k = placeL p s k
  | 0, _, _ => rfl
  | 1, p, _ => by simp [placesW, placeL]
  | k + 2, p, h => by
    have h0 := h 0 (by omega)
    have hw : wrap64 (p + s) = p + s := w64 (by omega) (by omega)
    rw [placesW, hw, placeL_cons, placesW_eq s hs (k + 1) (p + s)]
    intro i hi
    have := h (i + 1) (by omega)
    rw [show ((i + 1 : Nat) : Int) = (i : Int) + 1 by omega, Int.add_mul] at this
    omega
theorem places_some {n f t s : Int} {hf ht : Bool} (n0 : 0 ≤ n) (n1 : n ≤ 1000000) (h : cutB f t s hf ht = true) :
    impl_places.f n f t s hf ht = some (placeL (cutR n f t s hf ht).1 s (cutR n f t s hf ht).2.toNat) := by
  have S := cutB_iff h
  obtain ⟨m0, m1, hin⟩ := cutR_in (n := n) n0 h
  unfold impl_places.f
  rw [implCut_some, cutRR, if_pos ⟨⟨n0, n1⟩, h⟩]
  simp only [Option.bind_some]
  rw [placesW_eq s (by omega)]
  intro i hi
  have := hin i (by omega) (by omega)
  omega
theorem place_mem {n f t s : Int} {hf ht : Bool} (n0 : 0 ≤ n) (h : cutB f t s hf ht = true) : ∀ x ∈ placeL (cutR n f t s hf ht).1 s (cutR n f t s hf ht).2.toNat, 0 ≤ x ∧ x < n := by
  obtain ⟨m0, m1, hin⟩ := cutR_in (n := n) n0 h
  intro x hx
  unfold placeL at hx
  obtain ⟨i, hi, rfl⟩ := List.mem_map.1 hx
  have := List.mem_range.1 hi
  exact hin i (by omega) (by omega)

/-! ### Numbers put in place -/
theorem rd_L3_at (L : List (List Int)) (i : Nat) (h : i < L.length) : rd_L3 L (i : Int) = L[i] := by
  unfold rd_L3
  simp [List.getD_eq_getElem?_getD, h]
theorem concat_l1 (L : List (List Int)) (hl : L.length ≤ 1000000) (d : Nat) : ∀ (i : Nat) (acc : List Int), i + d = L.length → acc.length + (L.drop i).flatten.length ≤ 1000000 →
    Ev (fun k => slices_Concat_int_int.l1 k acc L (L.length : Int) (i : Int)) (acc ++ (L.drop i).flatten) := by
  induction d with
  | zero =>
    intro i acc hi _
    refine ev_succ ?_
    simp only [slices_Concat_int_int.l1]
    refine ev_neg (by omega) (ev_some ?_)
    rw [List.drop_of_length_le (by omega)]; simp
  | succ d ih =>
    intro i acc hi ha
    have hlt : i < L.length := by omega
    rw [List.drop_eq_getElem_cons hlt, List.flatten_cons] at ha ⊢
    rw [List.length_append] at ha
    refine ev_succ ?_
    simp only [slices_Concat_int_int.l1]
    rw [rd_L3_at L i hlt, next_i i (by omega)]
    refine ev_pos (by omega) (ev_pos (by omega) (ev_pos (by omega) (ev_pos (by omega) (ev_eq (ih (i + 1) (acc ++ L[i]) (by omega) (by rw [List.length_append]; omega)) ?_))))
    rw [List.append_assoc]
theorem concat_l0 (L : List (List Int)) (hl : L.length ≤ 1000000) (hf : L.flatten.length ≤ 1000000) (d : Nat) : ∀ (i n : Nat), i + d = L.length → n + (L.drop i).flatten.length ≤ 1000000 →
    Ev (fun k => slices_Concat_int_int.l0 k L (n : Int) L (L.length : Int) (i : Int)) L.flatten := by
  induction d with
  | zero =>
    intro i n hi hn
    refine ev_succ ?_
    simp only [slices_Concat_int_int.l0]
    have hg : slices_Grow_int_int.f ([] : List Int) (n : Int) = some [] := by
      unfold slices_Grow_int_int.f
      rw [if_pos ⟨rfl, by omega, by omega⟩]
    refine ev_neg (by omega) (ev_bind1 hg ?_)
    exact concat_l1 L hl L.length 0 [] (by omega) (by simpa using hf)
  | succ d ih =>
    intro i n hi hn
    have hlt : i < L.length := by omega
    rw [List.drop_eq_getElem_cons hlt, List.flatten_cons, List.length_append] at hn
    have e : wrap64 ((n : Int) + ((L[i]).length : Int)) = ((n + (L[i]).length : Nat) : Int) := by rw [w64 (by omega) (by omega)]; omega
    refine ev_succ ?_
    simp only [slices_Concat_int_int.l0]
    rw [rd_L3_at L i hlt, e, next_i i (by omega)]
    clear e
    exact ev_pos (by omega) (ev_pos (by omega) (ev_pos (by omega) (ev_neg (by omega) (ih (i + 1) _ (by omega) (by omega)))))
theorem concat_ev (L : List (List Int)) (hl : L.length ≤ 1000000) (hf : L.flatten.length ≤ 1000000) : Ev (fun k => slices_Concat_int_int.f k L) L.flatten := by
  unfold slices_Concat_int_int.f
  exact concat_l0 L hl hf L.length 0 0 (by omega) (by simpa using hf)
def putF : List Int → List Int → List Int → List Int
  | p :: ps, n :: ns, out => putF ps ns (out.set p.toNat n)
  | _, _, out => out
theorem putF_len : ∀ (ps ns out : List Int), (putF ps ns out).length = out.length
  | [], _, _ => by simp [putF]
  | _ :: _, [], _ => by simp [putF]
  | p :: ps, n :: ns, out => by rw [putF, putF_len ps ns]; simp
/-- What ListPutCut answers. -/
def putR (l : List Int) (f t s : Int) (hf ht : Bool) (ns : List Int) : List Int × Bool :=
  if l.length ≤ 60 ∧ cutB f t s hf ht = true then
    (if s = 1 then
      (if (l.length : Int) - (cutR l.length f t s hf ht).2 + ns.length ≤ 60 then (l.take (cutR l.length f t s hf ht).1.toNat ++ ns ++ l.drop ((cutR l.length f t s hf ht).1 + (cutR l.length f t s hf ht).2).toNat, true) else ([], false))
    else (if (cutR l.length f t s hf ht).2 = ns.length then (putF (placeL (cutR l.length f t s hf ht).1 s (cutR l.length f t s hf ht).2.toNat) ns l, true) else ([], false)))
  else ([], false)
/-- Where a slice of step 1 lies. -/
theorem cut_one {n f t : Int} {hf ht : Bool} (n0 : 0 ≤ n) (h : cutB f t 1 hf ht = true) : 0 ≤ (cutR n f t 1 hf ht).1 ∧ (cutR n f t 1 hf ht).1 ≤ n ∧ 0 ≤ (cutR n f t 1 hf ht).2 ∧ (cutR n f t 1 hf ht).1 + (cutR n f t 1 hf ht).2 ≤ n := by
  obtain ⟨h1, h2, h3⟩ := cutR_in (n := n) n0 h
  have P := cutP_bd (n := n) (f := f) (s := 1) hf n0
  have e : (cutR n f t 1 hf ht).1 = cutP n f 1 hf := rfl
  rw [← e] at P
  simp only [cutLo, cutHi] at P
  have P1 : 0 ≤ (cutR n f t 1 hf ht).1 ∧ (cutR n f t 1 hf ht).1 ≤ n := by
    revert P
    simp
  refine ⟨P1.1, P1.2, h1, ?_⟩
  by_cases hz : (cutR n f t 1 hf ht).2 = 0
  · omega
  · have := h3 ((cutR n f t 1 hf ht).2 - 1) (by omega) (by omega)
    omega
theorem put_len1 {l ns : List Int} {p m : Int} (p0 : 0 ≤ p) (m0 : 0 ≤ m) (hm : p + m ≤ l.length) : ((l.take p.toNat ++ ns ++ l.drop (p + m).toNat).length : Int) = l.length - m + ns.length := by
  simp only [List.length_append, List.length_take, List.length_drop]
  omega
theorem putR_len (l : List Int) (f t s : Int) (hf ht : Bool) (ns : List Int) : (putR l f t s hf ht ns).1.length ≤ 60 := by
  unfold putR
  by_cases h : l.length ≤ 60 ∧ cutB f t s hf ht = true
  · rw [if_pos h]
    by_cases h1 : s = 1
    · subst h1
      rw [if_pos rfl]
      have c := cut_one (n := l.length) (by omega) h.2
      by_cases h2 : (l.length : Int) - (cutR l.length f t 1 hf ht).2 + ns.length ≤ 60
      · rw [if_pos h2]
        have := put_len1 (l := l) (ns := ns) c.1 c.2.2.1 c.2.2.2
        dsimp only
        omega
      · rw [if_neg h2]; simp
    · rw [if_neg h1]
      by_cases h2 : (cutR l.length f t s hf ht).2 = ns.length
      · rw [if_pos h2]
        dsimp only
        rw [putF_len]; exact h.1
      · rw [if_neg h2]; simp
  · rw [if_neg h]; simp
theorem implPut_from (ns ps : List Int) (hn : ns.length = ps.length) (hp : ps.length ≤ 1000000) (N : Nat) (hin : ∀ x ∈ ps, 0 ≤ x ∧ x < N) (d : Nat) : ∀ (i : Nat) (out : List Int), i + d = ps.length → out.length = N →
    Ev (fun k => impl_ListPutCut.l0 k ns out ps (ps.length : Int) (i : Int)) (putF (ps.drop i) (ns.drop i) out, true) := by
  induction d with
  | zero =>
    intro i out hi _
    refine ev_succ ?_
    simp only [impl_ListPutCut.l0]
    refine ev_neg (by omega) (ev_some ?_)
    rw [List.drop_of_length_le (by omega)]; simp [putF]
  | succ d ih =>
    intro i out hi ho
    have hlt : i < ps.length := by omega
    have hlt2 : i < ns.length := by omega
    have hx := hin _ (List.getElem_mem hlt)
    refine ev_succ ?_
    simp only [impl_ListPutCut.l0]
    rw [rd_at ps i hlt, rd_at ns i hlt2, next_i i (by omega)]
    refine ev_pos (by omega) (ev_pos (by omega) (ev_pos (by omega) (ev_pos (by omega) (ev_pos hx.1 (ev_pos (by omega) (ev_eq (ih (i + 1) _ (by omega) (by simpa using ho)) ?_))))))
    rw [List.drop_eq_getElem_cons hlt, List.drop_eq_getElem_cons hlt2, putF]
theorem implPut_ev (l : List Int) (f t s : Int) (hf ht : Bool) (ns : List Int) (hns : ns.length ≤ 1048576) : Ev (fun k => impl_ListPutCut.f k l f t s hf ht ns) (putR l f t s hf ht ns) := by
  have no : Ev (fun k => impl_ListPutCut.j0 k l ns true f t s hf ht) ([], false) := by
    refine ev_succ ?_
    simp only [impl_ListPutCut.j0]
    exact ev_pos trivial (ev_some rfl)
  unfold impl_ListPutCut.f
  by_cases hl : (l.length : Int) > 60
  · refine ev_pos hl (ev_eq no ?_)
    rw [putR, if_neg (by omega)]
  refine ev_neg hl (ev_bind1 (cutOk_some _ _ _ _ _) ?_)
  by_cases hB : cutB f t s hf ht = true
  · have hb : decide (-1000000 ≤ f ∧ f ≤ 1000000 ∧ -1000000 ≤ t ∧ t ≤ 1000000 ∧ -1000000 ≤ s ∧ s ≤ 1000000 ∧ s ≠ 0 ∧ (hf = true ∨ f = 0) ∧ (ht = true ∨ t = 0)) = true := hB
    rw [hb]
    have hin := cutR_in (n := l.length) (by omega) hB
    rw [putR, if_pos ⟨by omega, hB⟩]
    refine ev_succ ?_
    simp only [impl_ListPutCut.j0]
    refine ev_neg (by simp) ?_
    by_cases h1 : s = 1
    · subst h1
      have c := cut_one (n := l.length) (by omega) hB
      rw [if_pos rfl]
      have hcr : impl_CutRange.f (l.length : Int) f t 1 hf ht = some (cutR l.length f t 1 hf ht) := by
        rw [implCut_some, cutRR, if_pos ⟨⟨by omega, by omega⟩, hB⟩]
      refine ev_pos rfl (ev_bind1 hcr ?_)
      rw [w64 (n := (l.length : Int) - (cutR l.length f t 1 hf ht).2) (by omega) (by omega), w64 (n := (l.length : Int) - (cutR l.length f t 1 hf ht).2 + (ns.length : Int)) (by omega) (by omega), w64 (n := (cutR l.length f t 1 hf ht).1 + (cutR l.length f t 1 hf ht).2) (by omega) (by omega)]
      by_cases h2 : (l.length : Int) - (cutR l.length f t 1 hf ht).2 + ns.length ≤ 60
      · rw [if_pos h2]
        have hpl := put_len1 (l := l) (ns := ns) c.1 c.2.2.1 c.2.2.2
        have C := concat_ev [l.take (cutR l.length f t 1 hf ht).1.toNat, ns, l.drop ((cutR l.length f t 1 hf ht).1 + (cutR l.length f t 1 hf ht).2).toNat] (by simp) (by
          simp only [List.flatten_cons, List.flatten_nil, List.append_nil]
          rw [← List.append_assoc]
          omega)
        refine ev_neg (by omega) (ev_pos c.1 (ev_pos c.2.1 (ev_pos (by omega) (ev_pos c.2.2.2 (Ev.bind C (ev_some (congrArg some ?_)))))))
        simp
      · rw [if_neg h2]
        exact ev_pos (by omega) (ev_some rfl)
    · rw [if_neg h1]
      refine ev_neg h1 (ev_bind1 (places_some (by omega) (by omega) hB) ?_)
      rw [placeL_length]
      by_cases h2 : (cutR l.length f t s hf ht).2 = ns.length
      · rw [if_pos h2]
        have hcl : slices_Clone_int_int.f l = some l := by
          unfold slices_Clone_int_int.f
          rw [if_pos (by omega)]
        refine ev_pos (by omega) (ev_bind1 hcl ?_)
        have P := implPut_from ns (placeL (cutR l.length f t s hf ht).1 s (cutR l.length f t s hf ht).2.toNat) (by rw [placeL_length]; omega) (by rw [placeL_length]; omega) l.length (place_mem (by omega) hB) _ 0 l (Nat.zero_add _) rfl
        rw [placeL_length] at P
        exact P
      · rw [if_neg h2]
        exact ev_neg (by omega) (ev_some rfl)
  · have hb : decide (-1000000 ≤ f ∧ f ≤ 1000000 ∧ -1000000 ≤ t ∧ t ≤ 1000000 ∧ -1000000 ≤ s ∧ s ≤ 1000000 ∧ s ≠ 0 ∧ (hf = true ∨ f = 0) ∧ (ht = true ∨ t = 0)) = false := by
      simpa [cutB] using hB
    rw [hb]
    refine ev_eq no ?_
    rw [putR, if_neg (fun z => hB z.2)]
theorem specPut_from (ns : List Int) (p s : Int) (m N : Nat) (c0 c1 : Int) (c3 c4 : Bool) (hn : ns.length = m) (hm : m ≤ 1000000) (hs : -1000000 ≤ s ∧ s ≤ 1000000) (hN : N ≤ 1000000) (hin : ∀ i : Nat, i < m → 0 ≤ p + (i : Int) * s ∧ p + (i : Int) * s < N) (d : Nat) : ∀ (i : Nat) (out : List Int), i + d = m → out.length = N →
    Ev (fun k => spec_ListPutCut.l0 k ns p (m : Int) out (i : Int) c0 c1 s c3 c4) (putF ((placeL p s m).drop i) (ns.drop i) out, true) := by
  induction d with
  | zero =>
    intro i out hi _
    refine ev_succ ?_
    simp only [spec_ListPutCut.l0]
    refine ev_neg (by omega) (ev_some ?_)
    rw [List.drop_of_length_le (by rw [placeL_length]; omega)]; simp [putF]
  | succ d ih =>
    intro i out hi ho
    have hlt : i < m := by omega
    have hlt2 : i < ns.length := by omega
    have h := hin i hlt
    have h0 := hin 0 (by omega)
    have w1 : wrap64 ((i : Int) * s) = (i : Int) * s := w64 (by omega) (by omega)
    have w2 : wrap64 (p + (i : Int) * s) = p + (i : Int) * s := w64 (by omega) (by omega)
    have hl : i < (placeL p s m).length := by rw [placeL_length]; exact hlt
    have e : (placeL p s m)[i]'hl = p + (i : Int) * s := by simp [placeL]
    refine ev_succ ?_
    simp only [spec_ListPutCut.l0]
    rw [w1, w2, rd_at ns i hlt2, next_i i (by omega)]
    clear w1 w2
    refine ev_pos (by omega) (ev_pos (by omega) (ev_pos (by omega) (ev_pos h.1 (ev_pos (by omega) (ev_eq (ih (i + 1) _ (by omega) (by simpa using ho)) ?_)))))
    rw [List.drop_eq_getElem_cons hl, e, List.drop_eq_getElem_cons hlt2, putF]
theorem specPut_ev (l : List Int) (f t s : Int) (hf ht : Bool) (ns : List Int) (hns : ns.length ≤ 1048576) : Ev (fun k => spec_ListPutCut.f k l f t s hf ht ns) (putR l f t s hf ht ns) := by
  have no : Ev (fun k => spec_ListPutCut.j0 k l ns true f t s hf ht) ([], false) := by
    refine ev_succ ?_
    simp only [spec_ListPutCut.j0]
    exact ev_pos trivial (ev_some rfl)
  have hv : ∀ l : List Int, spec_validList.f l = some (decide ((l.length : Int) ≤ 60)) := fun _ => rfl
  unfold spec_ListPutCut.f
  refine ev_bind1 (hv l) ?_
  by_cases hl : (l.length : Int) ≤ 60
  · refine ev_pos (decide_eq_true hl) (ev_bind1 (validCut_some _ _ _ _ _) ?_)
    by_cases hB : cutB f t s hf ht = true
    · rw [hB]
      have S := cutB_iff hB
      have hin := cutR_in (n := l.length) (by omega) hB
      refine ev_pos rfl (ev_bind1 (hv ns) ?_)
      rw [putR, if_pos ⟨by omega, hB⟩]
      by_cases hn : (ns.length : Int) ≤ 60
      · rw [decide_eq_true hn]
        refine ev_succ ?_
        simp only [spec_ListPutCut.j0]
        refine ev_neg (by simp) (Ev.bind (cutOf_ev _ _ _ _ _ _ (by omega) (by omega) hB) ?_)
        by_cases h1 : s = 1
        · subst h1
          have c := cut_one (n := l.length) (by omega) hB
          have hpl := put_len1 (l := l) (ns := ns) c.1 c.2.2.1 c.2.2.2
          rw [if_pos rfl, w64 (n := (cutR l.length f t 1 hf ht).1 + (cutR l.length f t 1 hf ht).2) (by omega) (by omega)]
          refine ev_pos rfl (ev_bind1 rfl (ev_pos c.1 (ev_pos c.2.1 (ev_pos (by simp; omega) (ev_bind1 rfl (ev_pos (by simp; omega) (ev_bind1 rfl (ev_pos (by omega) (ev_pos c.2.2.2 (ev_pos (by simp; omega) (ev_bind1 rfl (ev_bind1 (hv _) ?_)))))))))))) 
          simp only [List.nil_append]
          by_cases h2 : (l.length : Int) - (cutR l.length f t 1 hf ht).2 + ns.length ≤ 60
          · rw [if_pos h2]
            exact ev_pos (decide_eq_true (by omega)) (ev_some rfl)
          · rw [if_neg h2]
            exact ev_neg (by rw [decide_eq_false (by omega)]; simp) (ev_some rfl)
        · rw [if_neg h1]
          refine ev_neg h1 ?_
          by_cases h2 : (cutR l.length f t s hf ht).2 = ns.length
          · rw [if_pos h2]
            have e : ((cutR l.length f t s hf ht).2.toNat : Int) = (cutR l.length f t s hf ht).2 := by omega
            have := specPut_from ns (cutR l.length f t s hf ht).1 s (cutR l.length f t s hf ht).2.toNat l.length f t hf ht (by omega) (by omega) (by omega) (by omega) (fun i hi => hin.2.2 i (by omega) (by omega)) _ 0 l (Nat.zero_add _) rfl
            rw [e] at this
            refine ev_pos (by omega) (ev_bind1 rfl (ev_pos (by simp; omega) ?_))
            simp only [List.nil_append]
            exact this
          · rw [if_neg h2]
            exact ev_neg (by omega) (ev_some rfl)
      · rw [decide_eq_false hn]
        refine ev_eq no ?_
        by_cases h1 : s = 1
        · rw [if_pos h1, if_neg (by omega)]
        · rw [if_neg h1, if_neg (by omega)]
    · rw [Bool.not_eq_true] at hB
      rw [hB]
      refine ev_neg (by simp) (ev_eq no ?_)
      rw [putR, if_neg (fun z => by rw [hB] at z; exact absurd z.2 (by simp))]
  · refine ev_neg (by simpa using hl) (ev_eq no ?_)
    rw [putR, if_neg (by omega)]
theorem FnExactListPutCut (l : List Int) (f t s : Int) (hf ht : Bool) (ns : List Int) : ∃ k, laws_FnExactListPutCut.f k l f t s hf ht ns = some true := by
  refine Ev.rounds ?_
  unfold laws_FnExactListPutCut.f laws_toCut.f
  simp only [Option.bind_some]
  by_cases hl : (l.length : Int) > 1048576
  · exact ev_pos hl (ev_some rfl)
  refine ev_neg hl ?_
  by_cases hn : (ns.length : Int) > 1048576
  · exact ev_pos hn (ev_some rfl)
  refine ev_neg hn ?_
  have hl' : l.length ≤ 1048576 := by omega
  have hn' : ns.length ≤ 1048576 := by omega
  have hr := putR_len l f t s hf ht ns
  have T := toInt_ev l hl'
  have U := toInt_ev ns hn'
  have S := specPut_ev l f t s hf ht ns hn'
  have I := implPut_ev l f t s hf ht ns hn'
  have E := eqSelf_ev (putR l f t s hf ht ns).1 (by omega)
  have D : ((putR l f t s hf ht ns).2 != (putR l f t s hf ht ns).2) = false := by simp
  have M := mark_ev (putR l f t s hf ht ns).1 1 (by omega) (by omega) (by omega)
  have H := held_ev 1 (putR l f t s hf ht ns).1.length (by omega) (by omega) (by omega)
  refine Ev.bind T (Ev.bind U (Ev.bind S (Ev.bind T (Ev.bind U (Ev.bind I (Ev.bind E (ev_pos rfl ?_)))))))
  rw [D]
  refine ev_succ ?_
  simp only [laws_FnExactListPutCut.j0]
  refine ev_neg (by simp) (Ev.bind T (Ev.bind (eqSelf_ev l hl') (ev_pos rfl (Ev.bind U (Ev.bind (eqSelf_ev ns hn') (ev_pos rfl (Ev.bind (mark_ev l 1 hl' (by omega) (by omega)) (Ev.bind (mark_ev ns (1 + (l.length : Int)) hn' (by omega) (by omega)) (ev_neg (by show ¬ (1 + (l.length : Int) + (ns.length : Int)) < 0; omega) (Ev.bind E (ev_pos rfl ?_)))))))))))
  rw [D]
  refine ev_succ ?_
  simp only [laws_FnExactListPutCut.j1, laws_toCut.f, Option.bind_some]
  refine ev_neg (by simp) (Ev.bind M (Ev.bind H (ev_neg (by omega) (ev_pos rfl (Ev.bind T (Ev.bind U (Ev.bind I (Ev.bind E (ev_pos rfl ?_)))))))))
  rw [D]
  refine ev_succ ?_
  simp only [laws_FnExactListPutCut.j2]
  exact ev_neg (by simp) (Ev.bind H (ev_neg (by omega) (ev_pos rfl (ev_some rfl))))

end Go.Proofs.Ytkhkbbhkhpekcaa.Pure
