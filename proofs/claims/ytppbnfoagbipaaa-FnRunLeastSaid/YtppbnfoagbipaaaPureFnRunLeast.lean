/- FnRunLeast: for every code, runs are long enough for few merges. -/
import Derived.Test.YtppbnfoagbipaaaXFnRunLeastx2
namespace Go.Proofs.Ytppbnfoagbipaaa.Pure
open Go.RowKit Go.Proofs.Ytppbnfoagbipaaa.XFnRunLeast Go.Proofs.YtppbnfoagbipaaaW.PrintWords Go.Proofs.YtppbnfoagbipaaaW.PrintLast Go.Proofs.YtppbnfoagbipaaaW.PrintMore
set_option linter.unusedVariables false
set_option linter.unusedSimpArgs false

/-! ### Rounds, and words of 64 bits -/
theorem ev_succ {α : Type} {g : Nat → Option α} {r : α} (h : Ev (fun k => g (k + 1)) r) : Ev g r := Ev.step (fun _ => rfl) h
theorem ev_some {α : Type} {o : Option α} {r : α} (h : o = some r) : Ev (fun _ => o) r := ⟨0, fun _ _ => h⟩
theorem ev_pos {α : Type} {c : Prop} [Decidable c] {A B : Nat → Option α} {r : α} (h : c) (k : Ev A r) : Ev (fun n => if c then A n else B n) r :=
  Ev.congr (fun _ => if_pos h) k
theorem ev_neg {α : Type} {c : Prop} [Decidable c] {A B : Nat → Option α} {r : α} (h : ¬ c) (k : Ev B r) : Ev (fun n => if c then A n else B n) r :=
  Ev.congr (fun _ => if_neg h) k
theorem ev_eq {α : Type} {g : Nat → Option α} {r s : α} (h : Ev g r) (e : r = s) : Ev g s := e ▸ h
theorem ev_bind1 {α β : Type} {o : Option α} {f : Nat → α → Option β} {a : α} {r : β} (h : o = some a) (k : Ev (fun n => f n a) r) : Ev (fun n => o.bind (f n)) r :=
  Ev.bind (ev_some h) k
theorem ev_det {α : Type} {g : Nat → Option α} {r s : α} (h : Ev g r) (k : Ev g s) : r = s := by
  obtain ⟨K, h⟩ := h
  obtain ⟨L, k⟩ := k
  have h1 := h (max K L) (by omega)
  have h2 := k (max K L) (by omega)
  rw [h1] at h2
  exact Option.some.inj h2
theorem w64 {n : Int} (h : -9223372036854775808 ≤ n) (h' : n ≤ 9223372036854775807) : wrap64 n = n := by unfold wrap64; omega
theorem byte_of {l : List Int} (h : ∀ x ∈ l, (Lit.int .u8 x).wf = true) (i : Int) : 0 ≤ rd l i ∧ rd l i ≤ 255 := by
  unfold rd
  by_cases hi : i.toNat < l.length
  · have hm : l.getD i.toNat 0 ∈ l := by
      rw [List.getD_eq_getElem?_getD, List.getElem?_eq_getElem hi]
      exact List.getElem_mem hi
    have := h _ hm
    have m0 : IntKind.u8.min = 0 := by decide
    have m1 : IntKind.u8.max = 255 := by decide
    simp only [Lit.wf, m0, m1, Bool.and_eq_true, decide_eq_true_eq] at this
    exact this
  · rw [List.getD_eq_getElem?_getD, List.getElem?_eq_none (by omega)]
    simp

/-! ### Draws: what they pick, and that they never panic -/
theorem xor_ok (v u : Int) (h0 : 0 ≤ v) (h1 : v < 4611686018427387904) (u0 : 0 ≤ u) (u1 : u < 4611686018427387904) : 0 ≤ Go.bits .xor .i64 v u := by
  obtain ⟨a, rfl⟩ := Int.eq_ofNat_of_zero_le h0
  obtain ⟨b, rfl⟩ := Int.eq_ofNat_of_zero_le u0
  have ofInt : ∀ a : Nat, a < 9223372036854775808 → (BitVec.ofInt 64 (a : Int)).toNat = a := fun a ha => by
    rw [BitVec.ofInt_natCast, BitVec.toNat_ofNat]; exact Nat.mod_eq_of_lt (by omega)
  have hx : a ^^^ b < 2 ^ 63 := Nat.xor_lt_two_pow (by omega) (by omega)
  show 0 ≤ IntKind.i64.wrap ((BitVec.ofInt 64 (a : Int) ^^^ BitVec.ofInt 64 (b : Int)).toNat : Int)
  rw [BitVec.toNat_xor, ofInt a (by omega), ofInt b (by omega), IntKind.wrap_i64]
  omega

theorem pick_ok {code : List Int} (hl : code.length ≤ 4000) (hb : ∀ x ∈ code, (Lit.int .u8 x).wf = true) {p : Int} (h0 : 0 ≤ p) (h1 : p ≤ 1000000) (n : Int) :
    ∃ v q, spec_rnd_pick.f code p n = some (v, q) ∧ 0 ≤ v ∧ (v < n ∨ (n < 2 ∧ v = 0)) ∧ p ≤ q ∧ q ≤ p + 1 := by
  unfold spec_rnd_pick.f
  by_cases hn : n < 2
  · rw [if_pos hn]; exact ⟨0, p, rfl, by omega, .inr ⟨hn, rfl⟩, by omega, by omega⟩
  rw [if_neg hn]
  have hw : wrap64 (p + 1) = p + 1 := w64 (by omega) (by omega)
  have fin : ∀ v : Int, 0 ≤ v → ∃ v' q, (if n = 0 then none else some (Int.tmod v n, wrap64 (p + 1))) = some (v', q) ∧ 0 ≤ v' ∧ (v' < n ∨ (n < 2 ∧ v' = 0)) ∧ p ≤ q ∧ q ≤ p + 1 := by
    intro v hv
    rw [if_neg (by omega), hw, Int.tmod_eq_emod_of_nonneg hv]
    exact ⟨_, _, rfl, Int.emod_nonneg _ (by omega), .inl (Int.emod_lt_of_pos _ (by omega)), by omega, by omega⟩
  by_cases hc : (code.length : Int) > 0
  · rw [if_pos hc, if_neg (by omega)]
    have e1 : Int.tmod p (code.length : Int) = p % code.length := Int.tmod_eq_emod_of_nonneg h0
    have e2 : wrap64 (wrap64 (p * 7) + 3) = p * 7 + 3 := by rw [w64 (n := p * 7) (by omega) (by omega)]; exact w64 (by omega) (by omega)
    have e3 : Int.tmod (p * 7 + 3) (code.length : Int) = (p * 7 + 3) % code.length := Int.tmod_eq_emod_of_nonneg (by omega)
    have m0 := Int.emod_nonneg p (show (code.length : Int) ≠ 0 by omega)
    have m1 := Int.emod_lt_of_pos p hc
    have m2 := Int.emod_nonneg (p * 7 + 3) (show (code.length : Int) ≠ 0 by omega)
    have m3 := Int.emod_lt_of_pos (p * 7 + 3) hc
    have e4 : Int.tdiv p (code.length : Int) = p / code.length := Int.tdiv_eq_ediv_of_nonneg h0
    have d0 : 0 ≤ p / (code.length : Int) := Int.ediv_nonneg h0 (by omega)
    have d1 : p / (code.length : Int) ≤ p := Int.ediv_le_self _ h0
    rw [e1, if_pos m0, if_pos m1, e2, e3, if_pos m2, if_pos m3, e4]
    obtain ⟨a0, a1⟩ := byte_of hb (p % code.length)
    obtain ⟨b0, b1⟩ := byte_of hb ((p * 7 + 3) % code.length)
    generalize rd code (p % code.length) = a at a0 a1 ⊢
    generalize rd code ((p * 7 + 3) % code.length) = b at b0 b1 ⊢
    generalize p / (code.length : Int) = d at d0 d1 ⊢
    have w1 : wrap64 a = a := w64 (by omega) (by omega)
    have w2 : wrap64 b = b := w64 (by omega) (by omega)
    have w3 : wrap64 (a * 131) = a * 131 := w64 (by omega) (by omega)
    have w4 : wrap64 (b * 1117) = b * 1117 := w64 (by omega) (by omega)
    have w5 : wrap64 (p * 29) = p * 29 := w64 (by omega) (by omega)
    have w6 : wrap64 d = d := w64 (by omega) (by omega)
    have w7 : wrap64 (d * 53) = d * 53 := w64 (by omega) (by omega)
    have w8 : wrap64 (a * 131 + b * 1117) = a * 131 + b * 1117 := w64 (by omega) (by omega)
    have w9 : wrap64 (a * 131 + b * 1117 + p * 29) = a * 131 + b * 1117 + p * 29 := w64 (by omega) (by omega)
    have w10 : wrap64 (a * 131 + b * 1117 + p * 29 + d * 53) = a * 131 + b * 1117 + p * 29 + d * 53 := w64 (by omega) (by omega)
    rw [w1, w2, w3, w4, w5, w6, w7, w8, w9, w10]
    have big : 0 ≤ Go.bits .xor .i64 (a * 131 + b * 1117 + p * 29 + d * 53) (wrap64 (Int.tdiv (a * 131 + b * 1117 + p * 29 + d * 53) 64)) := by
      have t : Int.tdiv (a * 131 + b * 1117 + p * 29 + d * 53) 64 = (a * 131 + b * 1117 + p * 29 + d * 53) / 64 := Int.tdiv_eq_ediv_of_nonneg (by omega)
      rw [t, w64 (by omega) (by omega)]
      exact xor_ok _ _ (by omega) (by omega) (by omega) (by omega)
    by_cases h256 : n > 256
    · rw [if_pos h256]; exact fin _ big
    · rw [if_neg h256]
      by_cases hp : p ≥ (code.length : Int)
      · rw [if_pos hp]; exact fin _ big
      · rw [if_neg hp]; exact fin _ a0
  · rw [if_neg hc, if_neg (by omega), hw]
    exact ⟨_, _, rfl, by simp, .inl (by simp; omega), by omega, by omega⟩

theorem newRnd_ok {l : List Int} (hl : l.length ≤ 1048576) (hb : ∀ x ∈ l, (Lit.int .u8 x).wf = true) :
    ∃ code, spec_newRnd.f l = some (code, 0) ∧ code.length ≤ 4000 ∧ ∀ x ∈ code, (Lit.int .u8 x).wf = true := by
  unfold spec_newRnd.f
  have h : mn (l.length : Int) 4000 = min (l.length : Int) 4000 := by unfold mn; split <;> omega
  rw [h, if_pos (by omega), if_pos (by omega)]
  refine ⟨_, rfl, ?_, fun x hx => hb x (List.mem_of_mem_take hx)⟩
  rw [List.length_take]; omega

theorem one_ok {code : List Int} (hl : code.length ≤ 4000) (hb : ∀ x ∈ code, (Lit.int .u8 x).wf = true) {p : Int} (h0 : 0 ≤ p) (h1 : p ≤ 1000000) (list : List Int) (hn : list ≠ []) :
    ∃ v q, spec_rnd_one.f code p list = some (v, q) ∧ v ∈ list ∧ p ≤ q ∧ q ≤ p + 1 := by
  have hlen : 0 < list.length := List.length_pos_iff.2 hn
  obtain ⟨i, q, e, i0, i1, q0, q1⟩ := pick_ok hl hb h0 h1 (list.length : Int)
  unfold spec_rnd_one.f
  have hi : i < (list.length : Int) := by omega
  rw [e]
  simp only [Option.bind_some]
  rw [if_pos i0, if_pos hi]
  refine ⟨_, _, rfl, ?_, q0, q1⟩
  unfold rd
  rw [List.getD_eq_getElem?_getD, List.getElem?_eq_getElem (show i.toNat < list.length by omega)]
  exact List.getElem_mem _

theorem often_ok {code : List Int} (hl : code.length ≤ 4000) (hb : ∀ x ∈ code, (Lit.int .u8 x).wf = true) {p : Int} (h0 : 0 ≤ p) (h1 : p ≤ 900000) (n : Int) (hn : -9223372036854775808 ≤ n ∧ n ≤ 9223372036854775807) :
    ∃ v q, spec_rnd_often.f code p n = some (v, q) ∧ (-9223372036854775808 ≤ v ∧ v ≤ 9223372036854775807) ∧ p ≤ q ∧ q ≤ p + 2 := by
  obtain ⟨i, q, e, i0, i1, q0, q1⟩ := pick_ok hl hb h0 (by omega) 16
  unfold spec_rnd_often.f
  rw [e]
  simp only [Option.bind_some]
  by_cases hi : i = 0
  · rw [if_pos hi]
    unfold spec_rnd_odd.f
    obtain ⟨v, q', e', hv, q0', q1'⟩ := one_ok hl hb (p := q) (by omega) (by omega) [(-1), 4611686018427387904, (-4611686018427387904), 1001, 7, 1000001, (-9223372036854775808), 9223372036854775807] (by simp)
    rw [e']
    simp only [Option.bind_some]
    refine ⟨_, _, rfl, ?_, by omega, by omega⟩
    simp only [List.mem_cons, List.not_mem_nil, or_false] at hv
    omega
  · rw [if_neg hi]
    exact ⟨_, _, rfl, hn, by omega, by omega⟩

theorem and_one (n : Int) : Go.bits .and .i64 n 1 = n % 2 := by
  have h1 : (BitVec.ofInt 64 1).toNat = 2 ^ 1 - 1 := by decide
  have key : (BitVec.ofInt 64 n &&& BitVec.ofInt 64 1).toNat = (n % ((2 ^ 64 : Nat) : Int)).toNat % 2 ^ 1 := by
    rw [BitVec.toNat_and, BitVec.toNat_ofInt, h1, Nat.and_two_pow_sub_one_eq_mod]
  show IntKind.i64.wrap ((BitVec.ofInt 64 n &&& BitVec.ofInt 64 1).toNat : Nat) = n % 2
  rw [key, IntKind.wrap_i64]
  omega

theorem or_bits (a b : Int) (ha : a = 0 ∨ a = 1) (hb : b = 0 ∨ b = 1) : Go.bits .or .i64 a b = 0 ∨ Go.bits .or .i64 a b = 1 := by
  rcases ha with rfl | rfl <;> rcases hb with rfl | rfl <;> decide

/-- What both loops come to: the same number; n where it is small, else between 4 and 8. -/
theorem least_both (d : Nat) : ∀ (n r : Int), 0 ≤ n → n ≤ 1000000 → n ≤ d → (r = 0 ∨ r = 1) →
    ∃ q, Ev (fun k => spec_leastRun.l0 k n r) q ∧ Ev (fun k => impl_RunLeast.l0 k n r) q ∧ (n < 8 → q = n + r) ∧ (8 ≤ n → 4 ≤ q ∧ q ≤ 8) := by
  induction d with
  | zero =>
    intro n r h0 h1 hd hr
    have hw : wrap64 (n + r) = n + r := w64 (by omega) (by omega)
    refine ⟨n + r, ev_succ ?_, ev_succ ?_, fun _ => rfl, fun h => by omega⟩
    · simp only [spec_leastRun.l0, hw]; exact ev_neg (by omega) (ev_some rfl)
    · simp only [impl_RunLeast.l0, hw]; exact ev_neg (by omega) (ev_some rfl)
  | succ d ih =>
    intro n r h0 h1 hd hr
    by_cases h8 : n ≥ 8
    · have hq : Int.tdiv n 2 = n / 2 := Int.tdiv_eq_ediv_of_nonneg h0
      have hm : Int.tmod n 2 = n % 2 := Int.tmod_eq_emod_of_nonneg h0
      have hw : wrap64 (n / 2) = n / 2 := w64 (by omega) (by omega)
      have hb := or_bits r (n % 2) hr (by omega)
      obtain ⟨q, e1, e2, q1, q2⟩ := ih (n / 2) (Go.bits .or .i64 r (n % 2)) (by omega) (by omega) (by omega) hb
      refine ⟨q, ev_succ ?_, ev_succ ?_, fun h => by omega, fun _ => ?_⟩
      · simp only [spec_leastRun.l0, hq, hm, hw]; exact ev_pos h8 e1
      · simp only [impl_RunLeast.l0, and_one, hq, hw]; exact ev_pos h8 e2
      · by_cases hs : n / 2 < 8
        · have := q1 hs; omega
        · exact q2 (by omega)
    · have hw : wrap64 (n + r) = n + r := w64 (by omega) (by omega)
      refine ⟨n + r, ev_succ ?_, ev_succ ?_, fun _ => rfl, fun h => by omega⟩
      · simp only [spec_leastRun.l0, hw]; exact ev_neg h8 (ev_some rfl)
      · simp only [impl_RunLeast.l0, hw]; exact ev_neg h8 (ev_some rfl)

theorem FnRunLeast : laws_FnRunLeast.Pure := by
  intro l hm _ hb
  refine Ev.rounds ?_
  unfold laws_FnRunLeast.f
  by_cases hl : (l.length : Int) > 1048576
  · exact ev_pos hl (ev_some rfl)
  refine ev_neg hl ?_
  obtain ⟨code, e, hc, hbc⟩ := newRnd_ok (l := l) (by omega) hb
  obtain ⟨v, q, e1, v0, v1, q0, q1⟩ := pick_ok hc hbc (p := 0) (by omega) (by omega) 2000
  obtain ⟨n, q', e2, ⟨n0, n1⟩, _, _⟩ := often_ok hc hbc (p := q) (by omega) (by omega) v (by omega)
  have hd : spec_DrawRunLeast.f l = some n := by
    unfold spec_DrawRunLeast.f
    rw [e]; simp only [Option.bind_some]
    rw [e1]; simp only [Option.bind_some]
    rw [e2]; simp only [Option.bind_some]
  by_cases h : 0 ≤ n ∧ n ≤ 1000000
  · obtain ⟨q, e1, e2, q1, q2⟩ := least_both n.toNat n 0 h.1 h.2 (by omega) (.inl rfl)
    have I : Ev (fun k => impl_RunLeast.f k n) q := by
      unfold impl_RunLeast.f impl_within.f
      exact ev_bind1 (if_pos h.1) (ev_pos (by simp [h.2]) e2)
    have S : Ev (fun k => spec_RunLeast.f k n) q := by
      unfold spec_RunLeast.f spec_inRange.f spec_leastRun.f
      exact ev_bind1 (if_pos h.1) (ev_pos (by simp [h.2]) (Ev.bind e1 (ev_some rfl)))
    refine ev_bind1 hd (Ev.bind I (Ev.bind S (ev_pos rfl ?_)))
    refine ev_succ ?_
    simp only [laws_FnRunLeast.j0]
    by_cases h8 : n < 8
    · have := q1 h8
      exact ev_neg (by simp; omega) (ev_pos h8 (ev_some (by simp; omega)))
    · have := q2 (by omega)
      exact ev_neg (by simp; omega) (ev_neg h8 (ev_pos (by omega) (ev_some (by simp; omega))))
  · have I : Ev (fun k => impl_RunLeast.f k n) (-1) := by
      unfold impl_RunLeast.f impl_within.f
      by_cases h0 : n ≥ 0
      · exact ev_bind1 (if_pos h0) (ev_neg (by simp; omega) (ev_some rfl))
      · exact ev_bind1 (if_neg h0) (ev_neg (by simp) (ev_some rfl))
    have S : Ev (fun k => spec_RunLeast.f k n) (-1) := by
      unfold spec_RunLeast.f spec_inRange.f
      by_cases h0 : n ≥ 0
      · exact ev_bind1 (if_pos h0) (ev_neg (by simp; omega) (ev_some rfl))
      · exact ev_bind1 (if_neg h0) (ev_neg (by simp) (ev_some rfl))
    refine ev_bind1 hd (Ev.bind I (Ev.bind S (ev_pos rfl ?_)))
    refine ev_succ ?_
    simp only [laws_FnRunLeast.j0]
    exact ev_pos (by simp) (ev_some rfl)

end Go.Proofs.Ytppbnfoagbipaaa.Pure
