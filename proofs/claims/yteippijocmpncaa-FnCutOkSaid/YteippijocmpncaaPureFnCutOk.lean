/- FnCutOk: for every code, slices that are valid select. -/
import Derived.Test.YteippijocmpncaaXFnCutOkx2
namespace Go.Proofs.Yteippijocmpncaa.Pure
open Go.RowKit Go.Proofs.Yteippijocmpncaa.XFnCutOk Go.Proofs.YteippijocmpncaaW.PrintWords Go.Proofs.YteippijocmpncaaW.PrintLast Go.Proofs.YteippijocmpncaaW.PrintMore
set_option linter.unusedVariables false
set_option linter.unusedSimpArgs false

/-! ### Rounds, and words of 64 bits -/
theorem ev_succ {α : Type} {g : Nat → Option α} {r : α} (h : Ev (fun k => g (k + 1)) r) : Ev g r := Ev.step (fun _ => rfl) h
theorem ev_some {α : Type} {o : Option α} {r : α} (h : o = some r) : Ev (fun _ => o) r := ⟨0, fun _ _ => h⟩
theorem ev_pos {α : Type} {c : Prop} [Decidable c] {A B : Nat → Option α} {r : α} (h : c) (k : Ev A r) : Ev (fun n => if c then A n else B n) r :=
  Ev.congr (fun _ => if_pos h) k
theorem ev_neg {α : Type} {c : Prop} [Decidable c] {A B : Nat → Option α} {r : α} (h : ¬ c) (k : Ev B r) : Ev (fun n => if c then A n else B n) r :=
  Ev.congr (fun _ => if_neg h) k
theorem ev_eq {α : Type} {g : Nat → Option α} {r s : α} (h : Ev g r) (e : r = s) : Ev g s := e ▸ h
theorem ev_bind1 {α β : Type} {o : Option α} {f : Nat → α → Option β} {a : α} {r : β} (h : o = some a) (k : Ev (fun n => f n a) r) : Ev (fun n => o.bind (f n)) r :=
  Ev.bind (ev_some h) k
theorem ev_det {α : Type} {g : Nat → Option α} {r s : α} (h : Ev g r) (k : Ev g s) : r = s := by
  obtain ⟨K, h⟩ := h
  obtain ⟨L, k⟩ := k
  have h1 := h (max K L) (by omega)
  have h2 := k (max K L) (by omega)
  rw [h1] at h2
  exact Option.some.inj h2
theorem w64 {n : Int} (h : -9223372036854775808 ≤ n) (h' : n ≤ 9223372036854775807) : wrap64 n = n := by unfold wrap64; omega
theorem byte_of {l : List Int} (h : ∀ x ∈ l, (Lit.int .u8 x).wf = true) (i : Int) : 0 ≤ rd l i ∧ rd l i ≤ 255 := by
  unfold rd
  by_cases hi : i.toNat < l.length
  · have hm : l.getD i.toNat 0 ∈ l := by
      rw [List.getD_eq_getElem?_getD, List.getElem?_eq_getElem hi]
      exact List.getElem_mem hi
    have := h _ hm
    have m0 : IntKind.u8.min = 0 := by decide
    have m1 : IntKind.u8.max = 255 := by decide
    simp only [Lit.wf, m0, m1, Bool.and_eq_true, decide_eq_true_eq] at this
    exact this
  · rw [List.getD_eq_getElem?_getD, List.getElem?_eq_none (by omega)]
    simp

/-! ### Draws: what they pick, and that they never panic -/
theorem xor_ok (v u : Int) (h0 : 0 ≤ v) (h1 : v < 4611686018427387904) (u0 : 0 ≤ u) (u1 : u < 4611686018427387904) : 0 ≤ Go.bits .xor .i64 v u := by
  obtain ⟨a, rfl⟩ := Int.eq_ofNat_of_zero_le h0
  obtain ⟨b, rfl⟩ := Int.eq_ofNat_of_zero_le u0
  have ofInt : ∀ a : Nat, a < 9223372036854775808 → (BitVec.ofInt 64 (a : Int)).toNat = a := fun a ha => by
    rw [BitVec.ofInt_natCast, BitVec.toNat_ofNat]; exact Nat.mod_eq_of_lt (by omega)
  have hx : a ^^^ b < 2 ^ 63 := Nat.xor_lt_two_pow (by omega) (by omega)
  show 0 ≤ IntKind.i64.wrap ((BitVec.ofInt 64 (a : Int) ^^^ BitVec.ofInt 64 (b : Int)).toNat : Int)
  rw [BitVec.toNat_xor, ofInt a (by omega), ofInt b (by omega), IntKind.wrap_i64]
  omega

theorem pick_ok {code : List Int} (hl : code.length ≤ 4000) (hb : ∀ x ∈ code, (Lit.int .u8 x).wf = true) {p : Int} (h0 : 0 ≤ p) (h1 : p ≤ 1000000) (n : Int) :
    ∃ v q, spec_rnd_pick.f code p n = some (v, q) ∧ 0 ≤ v ∧ (v < n ∨ (n < 2 ∧ v = 0)) ∧ p ≤ q ∧ q ≤ p + 1 := by
  unfold spec_rnd_pick.f
  by_cases hn : n < 2
  · rw [if_pos hn]; exact ⟨0, p, rfl, by omega, .inr ⟨hn, rfl⟩, by omega, by omega⟩
  rw [if_neg hn]
  have hw : wrap64 (p + 1) = p + 1 := w64 (by omega) (by omega)
  have fin : ∀ v : Int, 0 ≤ v → ∃ v' q, (if n = 0 then none else some (Int.tmod v n, wrap64 (p + 1))) = some (v', q) ∧ 0 ≤ v' ∧ (v' < n ∨ (n < 2 ∧ v' = 0)) ∧ p ≤ q ∧ q ≤ p + 1 := by
    intro v hv
    rw [if_neg (by omega), hw, Int.tmod_eq_emod_of_nonneg hv]
    exact ⟨_, _, rfl, Int.emod_nonneg _ (by omega), .inl (Int.emod_lt_of_pos _ (by omega)), by omega, by omega⟩
  by_cases hc : (code.length : Int) > 0
  · rw [if_pos hc, if_neg (by omega)]
    have e1 : Int.tmod p (code.length : Int) = p % code.length := Int.tmod_eq_emod_of_nonneg h0
    have e2 : wrap64 (wrap64 (p * 7) + 3) = p * 7 + 3 := by rw [w64 (n := p * 7) (by omega) (by omega)]; exact w64 (by omega) (by omega)
    have e3 : Int.tmod (p * 7 + 3) (code.length : Int) = (p * 7 + 3) % code.length := Int.tmod_eq_emod_of_nonneg (by omega)
    have m0 := Int.emod_nonneg p (show (code.length : Int) ≠ 0 by omega)
    have m1 := Int.emod_lt_of_pos p hc
    have m2 := Int.emod_nonneg (p * 7 + 3) (show (code.length : Int) ≠ 0 by omega)
    have m3 := Int.emod_lt_of_pos (p * 7 + 3) hc
    have e4 : Int.tdiv p (code.length : Int) = p / code.length := Int.tdiv_eq_ediv_of_nonneg h0
    have d0 : 0 ≤ p / (code.length : Int) := Int.ediv_nonneg h0 (by omega)
    have d1 : p / (code.length : Int) ≤ p := Int.ediv_le_self _ h0
    rw [e1, if_pos m0, if_pos m1, e2, e3, if_pos m2, if_pos m3, e4]
    obtain ⟨a0, a1⟩ := byte_of hb (p % code.length)
    obtain ⟨b0, b1⟩ := byte_of hb ((p * 7 + 3) % code.length)
    generalize rd code (p % code.length) = a at a0 a1 ⊢
    generalize rd code ((p * 7 + 3) % code.length) = b at b0 b1 ⊢
    generalize p / (code.length : Int) = d at d0 d1 ⊢
    have w1 : wrap64 a = a := w64 (by omega) (by omega)
    have w2 : wrap64 b = b := w64 (by omega) (by omega)
    have w3 : wrap64 (a * 131) = a * 131 := w64 (by omega) (by omega)
    have w4 : wrap64 (b * 1117) = b * 1117 := w64 (by omega) (by omega)
    have w5 : wrap64 (p * 29) = p * 29 := w64 (by omega) (by omega)
    have w6 : wrap64 d = d := w64 (by omega) (by omega)
    have w7 : wrap64 (d * 53) = d * 53 := w64 (by omega) (by omega)
    have w8 : wrap64 (a * 131 + b * 1117) = a * 131 + b * 1117 := w64 (by omega) (by omega)
    have w9 : wrap64 (a * 131 + b * 1117 + p * 29) = a * 131 + b * 1117 + p * 29 := w64 (by omega) (by omega)
    have w10 : wrap64 (a * 131 + b * 1117 + p * 29 + d * 53) = a * 131 + b * 1117 + p * 29 + d * 53 := w64 (by omega) (by omega)
    rw [w1, w2, w3, w4, w5, w6, w7, w8, w9, w10]
    have big : 0 ≤ Go.bits .xor .i64 (a * 131 + b * 1117 + p * 29 + d * 53) (wrap64 (Int.tdiv (a * 131 + b * 1117 + p * 29 + d * 53) 64)) := by
      have t : Int.tdiv (a * 131 + b * 1117 + p * 29 + d * 53) 64 = (a * 131 + b * 1117 + p * 29 + d * 53) / 64 := Int.tdiv_eq_ediv_of_nonneg (by omega)
      rw [t, w64 (by omega) (by omega)]
      exact xor_ok _ _ (by omega) (by omega) (by omega) (by omega)
    by_cases h256 : n > 256
    · rw [if_pos h256]; exact fin _ big
    · rw [if_neg h256]
      by_cases hp : p ≥ (code.length : Int)
      · rw [if_pos hp]; exact fin _ big
      · rw [if_neg hp]; exact fin _ a0
  · rw [if_neg hc, if_neg (by omega), hw]
    exact ⟨_, _, rfl, by simp, .inl (by simp; omega), by omega, by omega⟩

theorem newRnd_ok {l : List Int} (hl : l.length ≤ 1048576) (hb : ∀ x ∈ l, (Lit.int .u8 x).wf = true) :
    ∃ code, spec_newRnd.f l = some (code, 0) ∧ code.length ≤ 4000 ∧ ∀ x ∈ code, (Lit.int .u8 x).wf = true := by
  unfold spec_newRnd.f
  have h : mn (l.length : Int) 4000 = min (l.length : Int) 4000 := by unfold mn; split <;> omega
  rw [h, if_pos (by omega), if_pos (by omega)]
  refine ⟨_, rfl, ?_, fun x hx => hb x (List.mem_of_mem_take hx)⟩
  rw [List.length_take]; omega

theorem one_ok {code : List Int} (hl : code.length ≤ 4000) (hb : ∀ x ∈ code, (Lit.int .u8 x).wf = true) {p : Int} (h0 : 0 ≤ p) (h1 : p ≤ 1000000) (list : List Int) (hn : list ≠ []) :
    ∃ v q, spec_rnd_one.f code p list = some (v, q) ∧ v ∈ list ∧ p ≤ q ∧ q ≤ p + 1 := by
  have hlen : 0 < list.length := List.length_pos_iff.2 hn
  obtain ⟨i, q, e, i0, i1, q0, q1⟩ := pick_ok hl hb h0 h1 (list.length : Int)
  unfold spec_rnd_one.f
  have hi : i < (list.length : Int) := by omega
  rw [e]
  simp only [Option.bind_some]
  rw [if_pos i0, if_pos hi]
  refine ⟨_, _, rfl, ?_, q0, q1⟩
  unfold rd
  rw [List.getD_eq_getElem?_getD, List.getElem?_eq_getElem (show i.toNat < list.length by omega)]
  exact List.getElem_mem _

theorem often_ok {code : List Int} (hl : code.length ≤ 4000) (hb : ∀ x ∈ code, (Lit.int .u8 x).wf = true) {p : Int} (h0 : 0 ≤ p) (h1 : p ≤ 900000) (n : Int) (hn : -9223372036854775808 ≤ n ∧ n ≤ 9223372036854775807) :
    ∃ v q, spec_rnd_often.f code p n = some (v, q) ∧ (-9223372036854775808 ≤ v ∧ v ≤ 9223372036854775807) ∧ p ≤ q ∧ q ≤ p + 2 := by
  obtain ⟨i, q, e, i0, i1, q0, q1⟩ := pick_ok hl hb h0 (by omega) 16
  unfold spec_rnd_often.f
  rw [e]
  simp only [Option.bind_some]
  by_cases hi : i = 0
  · rw [if_pos hi]
    unfold spec_rnd_odd.f
    obtain ⟨v, q', e', hv, q0', q1'⟩ := one_ok hl hb (p := q) (by omega) (by omega) [(-1), 4611686018427387904, (-4611686018427387904), 1001, 7, 1000001, (-9223372036854775808), 9223372036854775807] (by simp)
    rw [e']
    simp only [Option.bind_some]
    refine ⟨_, _, rfl, ?_, by omega, by omega⟩
    simp only [List.mem_cons, List.not_mem_nil, or_false] at hv
    omega
  · rw [if_neg hi]
    exact ⟨_, _, rfl, hn, by omega, by omega⟩

/-! ### Slices: which are valid -/
/-- Are these arguments valid? -/
def cutB (f t s : Int) (hf ht : Bool) : Bool := decide (-1000000 ≤ f ∧ f ≤ 1000000 ∧ -1000000 ≤ t ∧ t ≤ 1000000 ∧ -1000000 ≤ s ∧ s ≤ 1000000 ∧ s ≠ 0 ∧ (hf = true ∨ f = 0) ∧ (ht = true ∨ t = 0))
theorem cutB_iff {f t s : Int} {hf ht : Bool} (h : cutB f t s hf ht = true) : -1000000 ≤ f ∧ f ≤ 1000000 ∧ -1000000 ≤ t ∧ t ≤ 1000000 ∧ -1000000 ≤ s ∧ s ≤ 1000000 ∧ s ≠ 0 ∧ (hf = true ∨ f = 0) ∧ (ht = true ∨ t = 0) := of_decide_eq_true h
theorem inRange_some (a b c : Int) : spec_inRange.f a b c = some (decide (b ≤ a ∧ a ≤ c)) := by
  unfold spec_inRange.f
  by_cases h1 : a ≥ b
  · rw [if_pos h1]; congr 1; simp; omega
  · rw [if_neg h1, decide_eq_false (by omega)]
theorem validCut_some (f t s : Int) (hf ht : Bool) : spec_validCut.f f t s hf ht = some (cutB f t s hf ht) := by
  have e : spec_validCut.f f t s hf ht = impl_CutOk.f f t s hf ht := by
    have hw : ∀ x y z : Int, impl_within.f x y z = spec_inRange.f x y z := fun _ _ _ => rfl
    unfold impl_CutOk.f spec_validCut.f
    simp only [hw]
  rw [e, cutOk_some]; rfl
/-- What CutRange answers. -/
def cutRR (n f t s : Int) (hf ht : Bool) : Int × Int := if (0 ≤ n ∧ n ≤ 1000000) ∧ cutB f t s hf ht = true then cutR n f t s hf ht else (0, 0)
theorem implCut_some (n f t s : Int) (hf ht : Bool) : impl_CutRange.f n f t s hf ht = some (cutRR n f t s hf ht) := by
  unfold impl_CutRange.f cutRR
  rw [within_some, cutOk_some]
  simp only [Option.bind_some]
  by_cases h : 0 ≤ n ∧ n ≤ 1000000
  · rw [if_pos (decide_eq_true h)]
    by_cases h2 : cutB f t s hf ht = true
    · rw [if_pos (by exact h2), if_pos ⟨h, h2⟩]
    · rw [if_neg (by exact h2), if_neg (fun z => h2 z.2)]
  · rw [if_neg (by simpa using h), if_neg (fun z => h z.1)]

/-! ### Slices: what is selected is there -/
theorem cutCount_in {n p q s : Int} (s0 : s ≠ 0) (hp : cutLo s ≤ p ∧ p ≤ cutHi n s) (hq : cutLo s ≤ q ∧ q ≤ cutHi n s) (i : Int) (i0 : 0 ≤ i) (i1 : i < cutCount s p q) :
    0 ≤ p + i * s ∧ p + i * s < n ∧ (0 < s → p + i * s < q) ∧ (s < 0 → q < p + i * s) := by
  unfold cutCount at i1
  by_cases hs : 0 < s
  · rw [if_pos hs] at i1
    have e1 : cutLo s = 0 := by rw [cutLo, if_neg (by omega)]
    have e2 : cutHi n s = n := by rw [cutHi, if_neg (by omega)]
    by_cases h : p < q
    · rw [if_pos h] at i1
      have m1 : (q - p - 1) / s * s ≤ q - p - 1 := Int.ediv_mul_le _ (by omega)
      have m2 : i * s ≤ (q - p - 1) / s * s := Int.mul_le_mul_of_nonneg_right (by omega) (by omega)
      have m3 : 0 ≤ i * s := Int.mul_nonneg i0 (by omega)
      omega
    · rw [if_neg h] at i1; omega
  · rw [if_neg hs] at i1
    have e1 : cutLo s = -1 := by rw [cutLo, if_pos (by omega)]
    have e2 : cutHi n s = n - 1 := by rw [cutHi, if_pos (by omega)]
    by_cases h : q < p
    · rw [if_pos h] at i1
      have m1 : (p - q - 1) / (-s) * (-s) ≤ p - q - 1 := Int.ediv_mul_le _ (by omega)
      have m2 : i * (-s) ≤ (p - q - 1) / (-s) * (-s) := Int.mul_le_mul_of_nonneg_right (by omega) (by omega)
      have m3 : 0 ≤ i * (-s) := Int.mul_nonneg i0 (by omega)
      have m4 : i * (-s) = -(i * s) := Int.mul_neg _ _
      omega
    · rw [if_neg h] at i1; omega
theorem cutCount_le {n p q s : Int} (s0 : s ≠ 0) (n0 : 0 ≤ n) (hp : cutLo s ≤ p ∧ p ≤ cutHi n s) (hq : cutLo s ≤ q ∧ q ≤ cutHi n s) : 0 ≤ cutCount s p q ∧ cutCount s p q ≤ n := by
  unfold cutCount
  by_cases hs : 0 < s
  · rw [if_pos hs]
    have e1 : cutLo s = 0 := by rw [cutLo, if_neg (by omega)]
    have e2 : cutHi n s = n := by rw [cutHi, if_neg (by omega)]
    by_cases h : p < q
    · rw [if_pos h]; have := cut_div_le (q - p - 1) s (by omega) hs; omega
    · rw [if_neg h]; omega
  · rw [if_neg hs]
    have e1 : cutLo s = -1 := by rw [cutLo, if_pos (by omega)]
    have e2 : cutHi n s = n - 1 := by rw [cutHi, if_pos (by omega)]
    by_cases h : q < p
    · rw [if_pos h]; have := cut_div_le (p - q - 1) (-s) (by omega) (by omega); omega
    · rw [if_neg h]; omega
/-- What CutRange answers at valid arguments: the first place and how many; all of them are there. -/
theorem cutR_in {n f t s : Int} {hf ht : Bool} (n0 : 0 ≤ n) (h : cutB f t s hf ht = true) :
    0 ≤ (cutR n f t s hf ht).2 ∧ (cutR n f t s hf ht).2 ≤ n ∧ ∀ i, 0 ≤ i → i < (cutR n f t s hf ht).2 → 0 ≤ (cutR n f t s hf ht).1 + i * s ∧ (cutR n f t s hf ht).1 + i * s < n := by
  obtain ⟨-, -, -, -, -, -, s0, -, -⟩ := cutB_iff h
  have P := cutP_bd (n := n) (f := f) (s := s) hf n0
  have Q := cutQ_bd (n := n) (t := t) (s := s) ht n0
  have L := cutCount_le s0 n0 P Q
  exact ⟨L.1, L.2, fun i i0 i1 => ⟨(cutCount_in s0 P Q i i0 i1).1, (cutCount_in s0 P Q i i0 i1).2.1⟩⟩
theorem cutRR_in {n f t s : Int} {hf ht : Bool} (hm : (cutRR n f t s hf ht).2 ≠ 0) :
    0 ≤ n ∧ n ≤ 1000000 ∧ cutB f t s hf ht = true ∧ cutRR n f t s hf ht = cutR n f t s hf ht := by
  unfold cutRR at hm ⊢
  by_cases h : (0 ≤ n ∧ n ≤ 1000000) ∧ cutB f t s hf ht = true
  · rw [if_pos h]; exact ⟨h.1.1, h.1.2, h.2, rfl⟩
  · rw [if_neg h] at hm; exact absurd rfl hm

/-! ### A slice that is drawn -/
theorem cut_ok {code : List Int} (hl : code.length ≤ 4000) (hb : ∀ x ∈ code, (Lit.int .u8 x).wf = true) {p : Int} (h0 : 0 ≤ p) (h1 : p ≤ 800000) :
    ∃ f t s hf ht q, Ev (fun k => spec_rnd_cut.f k code p) (f, t, s, hf, ht, q) ∧ p ≤ q ∧ q ≤ p + 20 := by
  obtain ⟨v1, p1, e1, -, a1, b1⟩ := often_ok hl hb h0 (by omega) 1 (by omega)
  obtain ⟨s, p2, e2, -, a2, b2⟩ := one_ok hl hb (p := p1) (by omega) (by omega) [1, 1, 1, (-1), 2, (-2), 3, (-3), 7, v1, 0] (by simp)
  obtain ⟨v3, p3, e3, -, -, a3, b3⟩ := pick_ok hl hb (p := p2) (by omega) (by omega) 4
  have tail : ∀ (p4 f : Int) (hf : Bool), 0 ≤ p4 → p4 ≤ 800010 → ∃ f' t hf' ht q, Ev (fun k => spec_rnd_cut.j0 k code p4 f 0 s hf false) (f', t, s, hf', ht, q) ∧ p4 ≤ q ∧ q ≤ p4 + 8 := by
    intro p4 f hf a4 b4
    obtain ⟨v5, p5, e5, -, -, a5, b5⟩ := pick_ok hl hb (p := p4) (by omega) (by omega) 4
    by_cases c5 : v5 > 0
    · obtain ⟨v6, p6, e6, c6, d6, a6, b6⟩ := pick_ok hl hb (p := p5) (by omega) (by omega) 16
      have hw : wrap64 (v6 - 8) = v6 - 8 := w64 (by omega) (by omega)
      obtain ⟨t, p7, e7, -, a7, b7⟩ := often_ok hl hb (p := p6) (by omega) (by omega) (v6 - 8) (by omega)
      obtain ⟨v8, p8, e8, -, -, a8, b8⟩ := pick_ok hl hb (p := p7) (by omega) (by omega) 30
      by_cases c8 : v8 = 0
      · refine ⟨1, t, hf, true, p8, ev_succ ?_, by omega, by omega⟩
        simp only [spec_rnd_cut.j0]
        refine ev_bind1 e5 (ev_pos c5 (ev_bind1 e6 ?_))
        rw [hw]
        exact ev_bind1 e7 (ev_bind1 e8 (ev_pos c8 (ev_some rfl)))
      · refine ⟨f, t, hf, true, p8, ev_succ ?_, by omega, by omega⟩
        simp only [spec_rnd_cut.j0]
        refine ev_bind1 e5 (ev_pos c5 (ev_bind1 e6 ?_))
        rw [hw]
        exact ev_bind1 e7 (ev_bind1 e8 (ev_neg c8 (ev_some rfl)))
    · obtain ⟨v8, p8, e8, -, -, a8, b8⟩ := pick_ok hl hb (p := p5) (by omega) (by omega) 30
      by_cases c8 : v8 = 0
      · refine ⟨1, 0, hf, false, p8, ev_succ ?_, by omega, by omega⟩
        simp only [spec_rnd_cut.j0]
        exact ev_bind1 e5 (ev_neg c5 (ev_bind1 e8 (ev_pos c8 (ev_some rfl))))
      · refine ⟨f, 0, hf, false, p8, ev_succ ?_, by omega, by omega⟩
        simp only [spec_rnd_cut.j0]
        exact ev_bind1 e5 (ev_neg c5 (ev_bind1 e8 (ev_neg c8 (ev_some rfl))))
  by_cases c3 : v3 > 0
  · obtain ⟨v4, p4, e4, c4, d4, a4, b4⟩ := pick_ok hl hb (p := p3) (by omega) (by omega) 16
    have hw : wrap64 (v4 - 8) = v4 - 8 := w64 (by omega) (by omega)
    obtain ⟨f, p5, e5, -, a5, b5⟩ := often_ok hl hb (p := p4) (by omega) (by omega) (v4 - 8) (by omega)
    obtain ⟨f', t, hf', ht, q, e6, a6, b6⟩ := tail p5 f true (by omega) (by omega)
    refine ⟨f', t, s, hf', ht, q, ?_, by omega, by omega⟩
    unfold spec_rnd_cut.f
    refine ev_bind1 e1 (ev_bind1 e2 (ev_bind1 e3 (ev_pos c3 (ev_bind1 e4 ?_))))
    simp only []
    rw [hw]
    exact ev_bind1 e5 e6
  · obtain ⟨f', t, hf', ht, q, e6, a6, b6⟩ := tail p3 0 false (by omega) (by omega)
    refine ⟨f', t, s, hf', ht, q, ?_, by omega, by omega⟩
    unfold spec_rnd_cut.f
    exact ev_bind1 e1 (ev_bind1 e2 (ev_bind1 e3 (ev_neg c3 e6)))

theorem FnCutOk : laws_FnCutOk.Pure := by
  intro l hm _ hb
  refine Ev.rounds ?_
  unfold laws_FnCutOk.f
  by_cases hl : (l.length : Int) > 1048576
  · exact ev_pos hl (ev_some rfl)
  refine ev_neg hl ?_
  obtain ⟨code, e, hc, hbc⟩ := newRnd_ok (l := l) (by omega) hb
  obtain ⟨f, t, s, hf, ht, q2, e3, -, -⟩ := cut_ok hc hbc (p := 0) (by omega) (by omega)
  have hd : Ev (fun k => spec_DrawCutOk.f k l) (f, t, s, hf, ht) := by
    unfold spec_DrawCutOk.f
    exact ev_bind1 e (Ev.bind e3 (ev_some rfl))
  have hs : spec_CutOk.f f t s hf ht = some (cutB f t s hf ht) := by
    unfold spec_CutOk.f
    rw [validCut_some]; rfl
  refine Ev.bind hd (ev_bind1 (cutOk_some _ _ _ _ _) (ev_bind1 hs ?_))
  refine ev_pos (by simp [cutB]) ?_
  by_cases h : cutB f t s hf ht = true
  · refine ev_pos (by exact h) (ev_bind1 (implCut_some _ _ _ _ _ _) ?_)
    have hR : cutRR 12 f t s hf ht = cutR 12 f t s hf ht := by rw [cutRR, if_pos ⟨by omega, h⟩]
    simp only [hR]
    obtain ⟨m0, m1, hin⟩ := cutR_in (n := 12) (by omega) h
    refine ev_pos m0 (ev_pos m1 ?_)
    by_cases hz : (cutR 12 f t s hf ht).2 = 0
    · exact ev_pos hz (ev_some rfl)
    · have hp := hin 0 (by omega) (by omega)
      exact ev_neg hz (ev_pos (by omega) (ev_some (by simp; omega)))
  · exact ev_neg (by exact h) (ev_some (by simp [cutB]))

end Go.Proofs.Yteippijocmpncaa.Pure
