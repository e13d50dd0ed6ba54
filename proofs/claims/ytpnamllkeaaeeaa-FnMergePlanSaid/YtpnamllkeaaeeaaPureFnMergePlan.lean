/- FnMergePlan: merges of runs are planned as the reference plans them. -/
import Derived.Test.YtpnamllkeaaeeaaXFnMergePlanx7
namespace Go.Proofs.Ytpnamllkeaaeeaa.Pure
open Go.RowKit Go.Proofs.Ytpnamllkeaaeeaa.XFnMergePlan Go.Proofs.YtpnamllkeaaeeaaW.PrintWords Go.Proofs.YtpnamllkeaaeeaaW.PrintLast Go.Proofs.YtpnamllkeaaeeaaW.PrintMore
set_option linter.unusedVariables false
set_option linter.unusedSimpArgs false

/-! ### Rounds, and words of 64 bits -/
theorem ev_succ {α : Type} {g : Nat → Option α} {r : α} (h : Ev (fun k => g (k + 1)) r) : Ev g r := Ev.step (fun _ => rfl) h
theorem ev_some {α : Type} {o : Option α} {r : α} (h : o = some r) : Ev (fun _ => o) r := ⟨0, fun _ _ => h⟩
theorem ev_pos {α : Type} {c : Prop} [Decidable c] {A B : Nat → Option α} {r : α} (h : c) (k : Ev A r) : Ev (fun n => if c then A n else B n) r :=
  Ev.congr (fun _ => if_pos h) k
theorem ev_neg {α : Type} {c : Prop} [Decidable c] {A B : Nat → Option α} {r : α} (h : ¬ c) (k : Ev B r) : Ev (fun n => if c then A n else B n) r :=
  Ev.congr (fun _ => if_neg h) k
theorem ev_eq {α : Type} {g : Nat → Option α} {r s : α} (h : Ev g r) (e : r = s) : Ev g s := e ▸ h
theorem ev_bind1 {α β : Type} {o : Option α} {f : Nat → α → Option β} {a : α} {r : β} (h : o = some a) (k : Ev (fun n => f n a) r) : Ev (fun n => o.bind (f n)) r :=
  Ev.bind (ev_some h) k
theorem ev_det {α : Type} {g : Nat → Option α} {r s : α} (h : Ev g r) (k : Ev g s) : r = s := by
  obtain ⟨K, h⟩ := h
  obtain ⟨L, k⟩ := k
  have h1 := h (max K L) (by omega)
  have h2 := k (max K L) (by omega)
  rw [h1] at h2
  exact Option.some.inj h2
theorem w64 {n : Int} (h : -9223372036854775808 ≤ n) (h' : n ≤ 9223372036854775807) : wrap64 n = n := by unfold wrap64; omega
theorem byte_of {l : List Int} (h : ∀ x ∈ l, (Lit.int .u8 x).wf = true) (i : Int) : 0 ≤ rd l i ∧ rd l i ≤ 255 := by
  unfold rd
  by_cases hi : i.toNat < l.length
  · have hm : l.getD i.toNat 0 ∈ l := by
      rw [List.getD_eq_getElem?_getD, List.getElem?_eq_getElem hi]
      exact List.getElem_mem hi
    have := h _ hm
    have m0 : IntKind.u8.min = 0 := by decide
    have m1 : IntKind.u8.max = 255 := by decide
    simp only [Lit.wf, m0, m1, Bool.and_eq_true, decide_eq_true_eq] at this
    exact this
  · rw [List.getD_eq_getElem?_getD, List.getElem?_eq_none (by omega)]
    simp

/-! ### Draws: what they pick, and that they never panic -/
theorem xor_ok (v u : Int) (h0 : 0 ≤ v) (h1 : v < 4611686018427387904) (u0 : 0 ≤ u) (u1 : u < 4611686018427387904) : 0 ≤ Go.bits .xor .i64 v u := by
  obtain ⟨a, rfl⟩ := Int.eq_ofNat_of_zero_le h0
  obtain ⟨b, rfl⟩ := Int.eq_ofNat_of_zero_le u0
  have ofInt : ∀ a : Nat, a < 9223372036854775808 → (BitVec.ofInt 64 (a : Int)).toNat = a := fun a ha => by
    rw [BitVec.ofInt_natCast, BitVec.toNat_ofNat]; exact Nat.mod_eq_of_lt (by omega)
  have hx : a ^^^ b < 2 ^ 63 := Nat.xor_lt_two_pow (by omega) (by omega)
  show 0 ≤ IntKind.i64.wrap ((BitVec.ofInt 64 (a : Int) ^^^ BitVec.ofInt 64 (b : Int)).toNat : Int)
  rw [BitVec.toNat_xor, ofInt a (by omega), ofInt b (by omega), IntKind.wrap_i64]
  omega

theorem pick_ok {code : List Int} (hl : code.length ≤ 4000) (hb : ∀ x ∈ code, (Lit.int .u8 x).wf = true) {p : Int} (h0 : 0 ≤ p) (h1 : p ≤ 1000000) (n : Int) :
    ∃ v q, spec_rnd_pick.f code p n = some (v, q) ∧ 0 ≤ v ∧ (v < n ∨ (n < 2 ∧ v = 0)) ∧ p ≤ q ∧ q ≤ p + 1 := by
  unfold spec_rnd_pick.f
  by_cases hn : n < 2
  · rw [if_pos hn]; exact ⟨0, p, rfl, by omega, .inr ⟨hn, rfl⟩, by omega, by omega⟩
  rw [if_neg hn]
  have hw : wrap64 (p + 1) = p + 1 := w64 (by omega) (by omega)
  have fin : ∀ v : Int, 0 ≤ v → ∃ v' q, (if n = 0 then none else some (Int.tmod v n, wrap64 (p + 1))) = some (v', q) ∧ 0 ≤ v' ∧ (v' < n ∨ (n < 2 ∧ v' = 0)) ∧ p ≤ q ∧ q ≤ p + 1 := by
    intro v hv
    rw [if_neg (by omega), hw, Int.tmod_eq_emod_of_nonneg hv]
    exact ⟨_, _, rfl, Int.emod_nonneg _ (by omega), .inl (Int.emod_lt_of_pos _ (by omega)), by omega, by omega⟩
  by_cases hc : (code.length : Int) > 0
  · rw [if_pos hc, if_neg (by omega)]
    have e1 : Int.tmod p (code.length : Int) = p % code.length := Int.tmod_eq_emod_of_nonneg h0
    have e2 : wrap64 (wrap64 (p * 7) + 3) = p * 7 + 3 := by rw [w64 (n := p * 7) (by omega) (by omega)]; exact w64 (by omega) (by omega)
    have e3 : Int.tmod (p * 7 + 3) (code.length : Int) = (p * 7 + 3) % code.length := Int.tmod_eq_emod_of_nonneg (by omega)
    have m0 := Int.emod_nonneg p (show (code.length : Int) ≠ 0 by omega)
    have m1 := Int.emod_lt_of_pos p hc
    have m2 := Int.emod_nonneg (p * 7 + 3) (show (code.length : Int) ≠ 0 by omega)
    have m3 := Int.emod_lt_of_pos (p * 7 + 3) hc
    have e4 : Int.tdiv p (code.length : Int) = p / code.length := Int.tdiv_eq_ediv_of_nonneg h0
    have d0 : 0 ≤ p / (code.length : Int) := Int.ediv_nonneg h0 (by omega)
    have d1 : p / (code.length : Int) ≤ p := Int.ediv_le_self _ h0
    rw [e1, if_pos m0, if_pos m1, e2, e3, if_pos m2, if_pos m3, e4]
    obtain ⟨a0, a1⟩ := byte_of hb (p % code.length)
    obtain ⟨b0, b1⟩ := byte_of hb ((p * 7 + 3) % code.length)
    generalize rd code (p % code.length) = a at a0 a1 ⊢
    generalize rd code ((p * 7 + 3) % code.length) = b at b0 b1 ⊢
    generalize p / (code.length : Int) = d at d0 d1 ⊢
    have w1 : wrap64 a = a := w64 (by omega) (by omega)
    have w2 : wrap64 b = b := w64 (by omega) (by omega)
    have w3 : wrap64 (a * 131) = a * 131 := w64 (by omega) (by omega)
    have w4 : wrap64 (b * 1117) = b * 1117 := w64 (by omega) (by omega)
    have w5 : wrap64 (p * 29) = p * 29 := w64 (by omega) (by omega)
    have w6 : wrap64 d = d := w64 (by omega) (by omega)
    have w7 : wrap64 (d * 53) = d * 53 := w64 (by omega) (by omega)
    have w8 : wrap64 (a * 131 + b * 1117) = a * 131 + b * 1117 := w64 (by omega) (by omega)
    have w9 : wrap64 (a * 131 + b * 1117 + p * 29) = a * 131 + b * 1117 + p * 29 := w64 (by omega) (by omega)
    have w10 : wrap64 (a * 131 + b * 1117 + p * 29 + d * 53) = a * 131 + b * 1117 + p * 29 + d * 53 := w64 (by omega) (by omega)
    rw [w1, w2, w3, w4, w5, w6, w7, w8, w9, w10]
    have big : 0 ≤ Go.bits .xor .i64 (a * 131 + b * 1117 + p * 29 + d * 53) (wrap64 (Int.tdiv (a * 131 + b * 1117 + p * 29 + d * 53) 64)) := by
      have t : Int.tdiv (a * 131 + b * 1117 + p * 29 + d * 53) 64 = (a * 131 + b * 1117 + p * 29 + d * 53) / 64 := Int.tdiv_eq_ediv_of_nonneg (by omega)
      rw [t, w64 (by omega) (by omega)]
      exact xor_ok _ _ (by omega) (by omega) (by omega) (by omega)
    by_cases h256 : n > 256
    · rw [if_pos h256]; exact fin _ big
    · rw [if_neg h256]
      by_cases hp : p ≥ (code.length : Int)
      · rw [if_pos hp]; exact fin _ big
      · rw [if_neg hp]; exact fin _ a0
  · rw [if_neg hc, if_neg (by omega), hw]
    exact ⟨_, _, rfl, by simp, .inl (by simp; omega), by omega, by omega⟩

theorem newRnd_ok {l : List Int} (hl : l.length ≤ 1048576) (hb : ∀ x ∈ l, (Lit.int .u8 x).wf = true) :
    ∃ code, spec_newRnd.f l = some (code, 0) ∧ code.length ≤ 4000 ∧ ∀ x ∈ code, (Lit.int .u8 x).wf = true := by
  unfold spec_newRnd.f
  have h : mn (l.length : Int) 4000 = min (l.length : Int) 4000 := by unfold mn; split <;> omega
  rw [h, if_pos (by omega), if_pos (by omega)]
  refine ⟨_, rfl, ?_, fun x hx => hb x (List.mem_of_mem_take hx)⟩
  rw [List.length_take]; omega

theorem one_ok {code : List Int} (hl : code.length ≤ 4000) (hb : ∀ x ∈ code, (Lit.int .u8 x).wf = true) {p : Int} (h0 : 0 ≤ p) (h1 : p ≤ 1000000) (list : List Int) (hn : list ≠ []) :
    ∃ v q, spec_rnd_one.f code p list = some (v, q) ∧ v ∈ list ∧ p ≤ q ∧ q ≤ p + 1 := by
  have hlen : 0 < list.length := List.length_pos_iff.2 hn
  obtain ⟨i, q, e, i0, i1, q0, q1⟩ := pick_ok hl hb h0 h1 (list.length : Int)
  unfold spec_rnd_one.f
  have hi : i < (list.length : Int) := by omega
  rw [e]
  simp only [Option.bind_some]
  rw [if_pos i0, if_pos hi]
  refine ⟨_, _, rfl, ?_, q0, q1⟩
  unfold rd
  rw [List.getD_eq_getElem?_getD, List.getElem?_eq_getElem (show i.toNat < list.length by omega)]
  exact List.getElem_mem _

theorem often_ok {code : List Int} (hl : code.length ≤ 4000) (hb : ∀ x ∈ code, (Lit.int .u8 x).wf = true) {p : Int} (h0 : 0 ≤ p) (h1 : p ≤ 900000) (n : Int) (hn : -9223372036854775808 ≤ n ∧ n ≤ 9223372036854775807) :
    ∃ v q, spec_rnd_often.f code p n = some (v, q) ∧ (-9223372036854775808 ≤ v ∧ v ≤ 9223372036854775807) ∧ p ≤ q ∧ q ≤ p + 2 := by
  obtain ⟨i, q, e, i0, i1, q0, q1⟩ := pick_ok hl hb h0 (by omega) 16
  unfold spec_rnd_often.f
  rw [e]
  simp only [Option.bind_some]
  by_cases hi : i = 0
  · rw [if_pos hi]
    unfold spec_rnd_odd.f
    obtain ⟨v, q', e', hv, q0', q1'⟩ := one_ok hl hb (p := q) (by omega) (by omega) [(-1), 4611686018427387904, (-4611686018427387904), 1001, 7, 1000001, (-9223372036854775808), 9223372036854775807] (by simp)
    rw [e']
    simp only [Option.bind_some]
    refine ⟨_, _, rfl, ?_, by omega, by omega⟩
    simp only [List.mem_cons, List.not_mem_nil, or_false] at hv
    omega
  · rw [if_neg hi]
    exact ⟨_, _, rfl, hn, by omega, by omega⟩

/-! ### Reading a list -/
theorem rd_at (l : List Int) (i : Nat) (h : i < l.length) : rd l (i : Int) = l[i] := by
  unfold rd
  simp [List.getD_eq_getElem?_getD, h]
theorem next_i (i : Nat) (h : i ≤ 4611686018427387904) : wrap64 ((i : Int) + 1) = ((i + 1 : Nat) : Int) := by rw [w64 (by omega) (by omega)]; omega

theorem same_from (l : List Int) (hl : l.length ≤ 1048576) (d : Nat) : ∀ (i : Nat), i + d = l.length → Ev (fun k => spec_sameNums.l0 k l l (i : Int)) true := by
  induction d with
  | zero =>
    intro i hi
    refine ev_succ ?_
    simp only [spec_sameNums.l0]
    exact ev_neg (by omega) (ev_some rfl)
  | succ d ih =>
    intro i hi
    refine ev_succ ?_
    simp only [spec_sameNums.l0]
    refine ev_pos (by omega) (ev_pos (by omega) (ev_pos (by omega) (ev_pos trivial ?_)))
    rw [next_i i (by omega)]
    exact ih (i + 1) (by omega)
theorem same_ev (l : List Int) (hl : l.length ≤ 1048576) : Ev (fun k => spec_SameInts.f k l l) true := by
  unfold spec_SameInts.f spec_sameNums.f
  refine Ev.bind (a := true) (ev_pos rfl (same_from l hl l.length 0 (by omega))) (ev_some rfl)

/-! ### Merges of runs: the reference -/
/-- Numbers that may lie on the stack. -/
def Sm (st : List Int) : Prop := ∀ x ∈ st, 1 ≤ x ∧ x ≤ 1000000000
theorem sm_rd {st : List Int} (h : Sm st) {i : Int} (h0 : 0 ≤ i) (h1 : i < st.length) : 1 ≤ rd st i ∧ rd st i ≤ 1000000000 := by
  obtain ⟨n, rfl⟩ := Int.eq_ofNat_of_zero_le h0
  rw [rd_at st n (by omega)]
  exact h _ (List.getElem_mem _)
theorem atL_lt {st : List Int} {fin : Bool} (h : 0 ≤ atL st fin) : atL st fin + 1 < st.length := by
  unfold atL at h ⊢
  by_cases h2 : st.length < 2
  · rw [if_pos h2] at h; omega
  · rw [if_neg h2] at h ⊢
    split at h <;> rename_i h3
    · rw [if_pos h3]; omega
    · rw [if_neg h3]
      split at h <;> rename_i h4
      · rw [if_pos h4]; omega
      · omega
theorem mergeAt_ev (st : List Int) (fin : Bool) (hl : st.length ≤ 1000) (hp : Sm st) : Ev (fun k => spec_mergeAt.f k st fin) (atL st fin) := by
  unfold spec_mergeAt.f
  rw [w64 (n := (st.length : Int) - 2) (by omega) (by omega)]
  by_cases h2 : st.length < 2
  · refine ev_pos (by omega) (ev_some (congrArg some ?_))
    unfold atL
    rw [if_pos h2]
  · have e1 : wrap64 ((st.length : Int) - 2 - 1) = (st.length : Int) - 3 := by rw [w64 (by omega) (by omega)]; omega
    have e2 : wrap64 ((st.length : Int) - 2 - 2) = (st.length : Int) - 4 := by rw [w64 (by omega) (by omega)]; omega
    have e3 : wrap64 ((st.length : Int) - 2 + 1) = (st.length : Int) - 1 := by rw [w64 (by omega) (by omega)]; omega
    have p1 := sm_rd hp (i := (st.length : Int) - 1) (by omega) (by omega)
    have p2 := sm_rd hp (i := (st.length : Int) - 2) (by omega) (by omega)
    have w1 : wrap64 (rd st ((st.length : Int) - 2) + rd st ((st.length : Int) - 1)) = rd st ((st.length : Int) - 2) + rd st ((st.length : Int) - 1) := w64 (by omega) (by omega)
    -- the end, at a tight stack or not
    have J1 : ∀ x : Bool, x = decide ((tightB st = true ∨ (fin = true ∧ 3 ≤ st.length)) ∧ rd st ((st.length : Int) - 3) < rd st ((st.length : Int) - 1)) → (tightB st = true → 3 ≤ st.length) → (3 ≤ st.length → tightB st = false → rd st ((st.length : Int) - 1) ≤ rd st ((st.length : Int) - 3)) →
        Ev (fun k => spec_mergeAt.j1 k st fin ((st.length : Int) - 2) (tightB st) x) (atL st fin) := by
      intro x hx ht3 hnt
      refine ev_succ ?_
      simp only [spec_mergeAt.j1]
      rw [e1, e3]
      have A1 : (tightB st = true ∧ rd st ((st.length : Int) - 3) < rd st ((st.length : Int) - 1)) → atL st fin = (st.length : Int) - 3 := fun h => by unfold atL; rw [if_neg h2, if_pos h]
      have A2 : ¬ (tightB st = true ∧ rd st ((st.length : Int) - 3) < rd st ((st.length : Int) - 1)) → (tightB st = true ∨ fin = true ∨ rd st ((st.length : Int) - 2) ≤ rd st ((st.length : Int) - 1)) → atL st fin = (st.length : Int) - 2 := fun h h' => by unfold atL; rw [if_neg h2, if_neg h, if_pos h']
      have A3 : ¬ (tightB st = true ∧ rd st ((st.length : Int) - 3) < rd st ((st.length : Int) - 1)) → ¬ (tightB st = true ∨ fin = true ∨ rd st ((st.length : Int) - 2) ≤ rd st ((st.length : Int) - 1)) → atL st fin = -1 := fun h h' => by unfold atL; rw [if_neg h2, if_neg h, if_neg h']
      by_cases hx1 : (tightB st = true ∨ (fin = true ∧ 3 ≤ st.length)) ∧ rd st ((st.length : Int) - 3) < rd st ((st.length : Int) - 1)
      · have ht : tightB st = true := by
          cases hb : tightB st with
          | true => rfl
          | false =>
            rcases hx1.1 with h | h
            · rw [hb] at h; exact h
            · have := hnt h.2 hb
              omega
        rw [hx, decide_eq_true hx1, A1 ⟨ht, hx1.2⟩]
        exact ev_pos rfl (ev_some rfl)
      · have hn1 : ¬ (tightB st = true ∧ rd st ((st.length : Int) - 3) < rd st ((st.length : Int) - 1)) := fun h => hx1 ⟨.inl h.1, h.2⟩
        rw [hx, decide_eq_false hx1]
        refine ev_neg (by simp) ?_
        by_cases ht : tightB st = true
        · rw [A2 hn1 (.inl ht)]
          exact ev_pos ht (ev_some rfl)
        · refine ev_neg ht ?_
          by_cases hf : fin = true
          · rw [A2 hn1 (.inr (.inl hf))]
            exact ev_pos hf (ev_some rfl)
          · refine ev_neg hf (ev_pos (by omega) (ev_pos (by omega) (ev_pos (by omega) (ev_pos (by omega) ?_))))
            by_cases hbc : rd st ((st.length : Int) - 2) ≤ rd st ((st.length : Int) - 1)
            · rw [A2 hn1 (.inr (.inr hbc))]
              exact ev_pos hbc (ev_some rfl)
            · rw [A3 hn1 (fun h => h.elim ht (fun h => h.elim hf hbc))]
              exact ev_neg hbc (ev_some rfl)
    have J0 : ∀ x : Bool, x = tightB st → (tightB st = true → 3 ≤ st.length) → (3 ≤ st.length → tightB st = false → rd st ((st.length : Int) - 1) ≤ rd st ((st.length : Int) - 3)) → Ev (fun k => spec_mergeAt.j0 k st fin ((st.length : Int) - 2) x) (atL st fin) := by
      intro x hx ht3 hnt
      subst hx
      refine ev_succ ?_
      simp only [spec_mergeAt.j0]
      rw [e1, e3]
      cases hb : tightB st with
      | true =>
        have h3 := ht3 hb
        refine ev_pos rfl (ev_pos (by omega) (ev_pos (by omega) (ev_pos (by omega) (ev_pos (by omega) ?_))))
        have := J1 (decide (rd st ((st.length : Int) - 3) < rd st ((st.length : Int) - 1))) (by simp [hb]) ht3 hnt
        rw [hb] at this
        exact this
      | false =>
        refine ev_neg (by simp) ?_
        cases hf : fin with
        | true =>
          by_cases h3 : (st.length : Int) - 2 > 0
          · refine ev_pos rfl (ev_pos h3 (ev_pos (by omega) (ev_pos (by omega) (ev_pos (by omega) (ev_pos (by omega) ?_)))))
            have := J1 (decide (rd st ((st.length : Int) - 3) < rd st ((st.length : Int) - 1))) (by
              rw [hb, hf, Bool.eq_iff_iff]
              simp
              omega) ht3 hnt
            rw [hb, hf] at this
            exact this
          · refine ev_pos rfl (ev_neg h3 ?_)
            have := J1 false (by
              rw [hb, hf]
              exact (decide_eq_false (by simp; omega)).symm) ht3 hnt
            rw [hb, hf] at this
            exact this
        | false =>
          refine ev_neg (by simp) ?_
          have := J1 false (by rw [hb, hf]; simp) ht3 hnt
          rw [hb, hf] at this
          exact this
    rw [e1, e2, e3, w1]
    refine ev_neg (by omega) ?_
    by_cases h3 : (st.length : Int) - 2 > 0
    · have p3 := sm_rd hp (i := (st.length : Int) - 3) (by omega) (by omega)
      have w2 : wrap64 (rd st ((st.length : Int) - 3) + rd st ((st.length : Int) - 2)) = rd st ((st.length : Int) - 3) + rd st ((st.length : Int) - 2) := w64 (by omega) (by omega)
      rw [w2]
      clear e1 e2 e3 w1 w2
      refine ev_pos h3 (ev_pos (by omega) (ev_pos (by omega) (ev_pos (by omega) (ev_pos (by omega) (ev_pos (by omega) (ev_pos (by omega) ?_))))))
      have nt : tightB st = false → rd st ((st.length : Int) - 1) ≤ rd st ((st.length : Int) - 3) := by
        intro h
        unfold tightB at h
        have := of_decide_eq_false h
        omega
      by_cases ht : rd st ((st.length : Int) - 3) ≤ rd st ((st.length : Int) - 2) + rd st ((st.length : Int) - 1)
      · exact ev_pos ht (J0 true (by unfold tightB; exact (decide_eq_true (.inl ⟨by omega, ht⟩)).symm) (fun _ => by omega) (fun _ => nt))
      · refine ev_neg ht ?_
        by_cases h4 : (st.length : Int) - 2 > 1
        · refine ev_pos h4 (ev_pos (by omega) (ev_pos (by omega) (J0 _ ?_ (fun _ => by omega) (fun _ => nt))))
          unfold tightB
          rw [decide_eq_decide]
          omega
        · refine ev_neg h4 (J0 false ?_ (fun _ => by omega) (fun _ => nt))
          unfold tightB
          exact (decide_eq_false (by omega)).symm
    · clear e1 e2 e3 w1
      refine ev_neg h3 (ev_neg (by omega) (J0 false ?_ (fun h => by
        unfold tightB at h
        have := of_decide_eq_true h
        omega) (fun h => by omega)))
      unfold tightB
      exact (decide_eq_false (by omega)).symm
theorem mergeStep_some (st : List Int) (a : Nat) (hl : st.length ≤ 1000) (h : a + 1 < st.length) (hp : Sm st) : spec_mergeStep.f st (a : Int) = some (stepL st a) := by
  have p1 := sm_rd hp (i := (a : Int)) (by omega) (by omega)
  have p2 := sm_rd hp (i := (a : Int) + 1) (by omega) (by omega)
  have e1 : wrap64 ((a : Int) + 1) = (a : Int) + 1 := w64 (by omega) (by omega)
  have e2 : wrap64 ((a : Int) + 2) = (a : Int) + 2 := w64 (by omega) (by omega)
  have e3 : wrap64 (rd st (a : Int) + rd st ((a : Int) + 1)) = rd st (a : Int) + rd st ((a : Int) + 1) := w64 (by omega) (by omega)
  unfold spec_mergeStep.f
  rw [e1, e2, e3]
  clear e1 e2 e3
  simp only [Option.bind_some, List.nil_append]
  rw [if_pos (by omega), if_pos (by omega), if_pos (by simp; omega)]
  rw [if_pos (by omega), if_pos (by omega), if_pos (by omega), if_pos (by simp; omega)]
  rw [if_pos (by omega), if_pos (by omega), if_pos (by simp; omega)]
  unfold stepL
  rw [show ((a : Int) + 2).toNat = a + 2 by omega, Int.toNat_natCast]
theorem stepL_len {st : List Int} {a : Nat} (h : a + 1 < st.length) : (stepL st a).length = st.length - 1 := by
  unfold stepL
  simp only [List.length_append, List.length_take, List.length_drop, List.length_cons, List.length_nil]
  omega
/-- The merges that go on, at most f of them. -/
def planW : Nat → Bool → List Int → List (List Int) → List Int × List (List Int)
  | 0, _, st, p => (st, p)
  | f + 1, fin, st, p => if 0 ≤ atL st fin then planW f fin (stepL st (atL st fin).toNat) (p ++ [rowL st (atL st fin)]) else (st, p)
/-- All of them. -/
def planL : List Int → List Int → List (List Int) → List (List Int)
  | [], st, p => (planW st.length true st p).2
  | x :: rest, st, p => planL rest (planW (st.length + 1) false (st ++ [x]) p).1 (planW (st.length + 1) false (st ++ [x]) p).2
/-- What is on the stack: each number at least 1, and all of them together at most a bound. -/
def Sn (B : Int) (st : List Int) : Prop := (∀ x ∈ st, 1 ≤ x) ∧ st.sum ≤ B
theorem sum_ge {st : List Int} (h : ∀ x ∈ st, 1 ≤ x) : (st.length : Int) ≤ st.sum ∧ ∀ x ∈ st, x ≤ st.sum := by
  induction st with
  | nil => simp
  | cons y l ih =>
    obtain ⟨h1, h2⟩ := ih (fun x hx => h x (List.mem_cons_of_mem _ hx))
    have hy := h y (List.mem_cons_self ..)
    simp only [List.sum_cons, List.length_cons]
    refine ⟨by omega, fun x hx => ?_⟩
    rcases List.mem_cons.1 hx with rfl | hx
    · omega
    · have := h2 x hx; omega
theorem sn_sm {B : Int} {st : List Int} (hB : B ≤ 1000000000) (h : Sn B st) : Sm st := fun x hx => ⟨h.1 x hx, by have := (sum_ge h.1).2 x hx; have := h.2; omega⟩
theorem stepL_eq {st : List Int} {a : Nat} (h : a + 1 < st.length) : st = st.take a ++ [rd st (a : Int), rd st ((a : Int) + 1)] ++ st.drop (a + 2) := by
  have e : ((a : Int) + 1) = ((a + 1 : Nat) : Int) := by omega
  rw [e, rd_at st a (by omega), rd_at st (a + 1) h]
  conv => lhs; rw [← List.take_append_drop a st, List.drop_eq_getElem_cons (show a < st.length by omega), List.drop_eq_getElem_cons h]
  simp
theorem stepL_sum {st : List Int} {a : Nat} (h : a + 1 < st.length) : (stepL st a).sum = st.sum := by
  conv => rhs; rw [stepL_eq h]
  unfold stepL
  simp only [List.sum_append, List.sum_cons, List.sum_nil]
  omega
theorem stepL_sn {B : Int} {st : List Int} {a : Nat} (h : a + 1 < st.length) (hs : Sn B st) : Sn B (stepL st a) := by
  refine ⟨fun x hx => ?_, by rw [stepL_sum h]; exact hs.2⟩
  have e : ((a : Int) + 1) = ((a + 1 : Nat) : Int) := by omega
  unfold stepL at hx
  simp only [List.mem_append, List.mem_singleton] at hx
  rcases hx with (hx | rfl) | hx
  · exact hs.1 x (List.mem_of_mem_take hx)
  · rw [e, rd_at st a (by omega), rd_at st (a + 1) h]
    have h1 := hs.1 _ (List.getElem_mem (show a < st.length by omega))
    have h2 := hs.1 _ (List.getElem_mem h)
    omega
  · exact hs.1 x (List.mem_of_mem_drop hx)
/-- While there is a merge. -/
theorem merges_ev (l : List Int) (i : Int) (hi : -1 ≤ i ∧ i ≤ 1000) (B : Int) (hB : B ≤ 1000000000) (R : List (List Int)) (fin : Bool) (hfin : (i == (l.length : Int)) = fin) (f : Nat) : ∀ (st : List Int) (p : List (List Int)), st.length ≤ f → st.length ≤ 1000 → Sn B st → p.length + st.length ≤ 10000 →
    (∀ st' p', (st', p') = planW f fin st p → Sn B st' → p'.length + st'.length ≤ 10000 → st'.length ≤ st.length → Ev (fun k => spec_mergePlan.l0 k l p' st' (i + 1)) R) →
    Ev (fun k => spec_mergePlan.l1 k l p st i (atL st fin)) R := by
  induction f with
  | zero =>
    intro st p hf hl hs hp K
    have hn : atL st fin = -1 := by unfold atL; rw [if_pos (by omega)]
    refine ev_succ ?_
    simp only [spec_mergePlan.l1]
    rw [hn, w64 (n := i + 1) (by omega) (by omega)]
    exact ev_neg (by omega) (K st p rfl hs hp (Nat.le_refl _))
  | succ f ih =>
    intro st p hf hl hs hp K
    have hm := sn_sm hB hs
    refine ev_succ ?_
    simp only [spec_mergePlan.l1]
    by_cases h0 : 0 ≤ atL st fin
    · have hlt := atL_lt h0
      obtain ⟨a, ha⟩ := Int.eq_ofNat_of_zero_le h0
      have hst := mergeStep_some st a hl (by omega) hm
      have hlen := stepL_len (st := st) (a := a) (by omega)
      have N := mergeAt_ev (stepL st a) fin (by omega) (sn_sm hB (stepL_sn (by omega) hs))
      rw [hfin, ha, w64 (n := (a : Int) + 1) (by omega) (by omega)]
      refine ev_pos (by omega) (ev_pos (by omega) (ev_pos (by omega) (ev_pos (by omega) (ev_pos (by omega) (ev_bind1 rfl (ev_pos (by simp; omega) (ev_bind1 hst (Ev.bind N ?_))))))))
      refine ih (stepL st a) _ (by omega) (by omega) (stepL_sn (by omega) hs) (by simp; omega) (fun st' p' he hs' hp' hl' => K st' p' ?_ hs' hp' (by omega))
      rw [he]
      conv => rhs; rw [planW, if_pos h0, ha, Int.toNat_natCast]
      rfl
    · rw [w64 (n := i + 1) (by omega) (by omega)]
      exact ev_neg (by omega) (K st p (by rw [planW, if_neg h0]) hs hp (Nat.le_refl _))
theorem planW_sum {fin : Bool} : ∀ (f : Nat) (st : List Int) (p : List (List Int)), (planW f fin st p).1.sum = st.sum
  | 0, st, p => rfl
  | f + 1, st, p => by
    rw [planW]
    by_cases h0 : 0 ≤ atL st fin
    · rw [if_pos h0, planW_sum f]
      have := atL_lt h0
      exact stepL_sum (by omega)
    · rw [if_neg h0]
theorem planW_len {fin : Bool} : ∀ (f : Nat) (st : List Int) (p : List (List Int)), (planW f fin st p).2.length + (planW f fin st p).1.length = p.length + st.length
  | 0, st, p => rfl
  | f + 1, st, p => by
    rw [planW]
    by_cases h0 : 0 ≤ atL st fin
    · rw [if_pos h0, planW_len f]
      have := atL_lt h0
      have := stepL_len (st := st) (a := (atL st fin).toNat) (by omega)
      rw [List.length_append, this]
      simp
      omega
    · rw [if_neg h0]
/-- The reference's plan. -/
theorem plan_ev (l : List Int) (hl : l.length ≤ 60) (hp : ∀ x ∈ l, 1 ≤ x ∧ x ≤ 1000000) (d : Nat) : ∀ (i : Nat) (st : List Int) (p : List (List Int)), i + d = l.length → st.length ≤ i → Sn (1000000 * i) st → p.length + st.length ≤ i →
    Ev (fun k => spec_mergePlan.l0 k l p st (i : Int)) (planL (l.drop i) st p) := by
  have last : ∀ (st : List Int) (p : List (List Int)), Ev (fun k => spec_mergePlan.l0 k l p st ((l.length : Int) + 1)) p := fun st p => by
    refine ev_succ ?_
    simp only [spec_mergePlan.l0]
    exact ev_neg (by omega) (ev_some rfl)
  induction d with
  | zero =>
    intro i st p hi hs hn hpl
    have e : i = l.length := by omega
    subst e
    have A := mergeAt_ev st true (by omega) (sn_sm (B := 1000000 * l.length) (by omega) hn)
    rw [List.drop_length]
    refine ev_succ ?_
    simp only [spec_mergePlan.l0]
    refine ev_pos (by omega) (ev_neg (by omega) (ev_succ ?_))
    simp only [spec_mergePlan.j1]
    rw [show ((l.length : Int) == (l.length : Int)) = true by simp]
    refine Ev.bind A (merges_ev l (l.length : Int) (by omega) (1000000 * l.length) (by omega) _ true (by simp) st.length st p (Nat.le_refl _) (by omega) hn (by omega) (fun st' p' he _ _ _ => ?_))
    have e2 : p' = (planW st.length true st p).2 := by rw [← he]
    rw [planL, ← e2]
    exact last st' p'
  | succ d ih =>
    intro i st p hi hs hn hpl
    have hlt : i < l.length := by omega
    have hx := hp _ (List.getElem_mem hlt)
    have hsn : Sn (1000000 * ((i + 1 : Nat) : Int)) (st ++ [l[i]]) := by
      refine ⟨fun x hx2 => ?_, ?_⟩
      · simp only [List.mem_append, List.mem_singleton] at hx2
        rcases hx2 with h | rfl
        · exact hn.1 x h
        · exact hx.1
      · have := hn.2
        simp only [List.sum_append, List.sum_cons, List.sum_nil]
        omega
    have A := mergeAt_ev (st ++ [l[i]]) false (by simp; omega) (sn_sm (B := 1000000 * ((i + 1 : Nat) : Int)) (by omega) hsn)
    have hne : ((i : Int) == (l.length : Int)) = false := by simp; omega
    refine ev_succ ?_
    simp only [spec_mergePlan.l0, List.nil_append]
    rw [rd_at l i hlt, List.drop_eq_getElem_cons hlt, planL]
    refine ev_pos (by omega) (ev_pos (by omega) (ev_bind1 rfl (ev_pos (by simp; omega) (ev_bind1 rfl (ev_pos (by omega) (ev_bind1 rfl (ev_pos (by simp; omega) (ev_succ ?_))))))))
    simp only [spec_mergePlan.j1, List.nil_append]
    rw [hne]
    refine Ev.bind A (merges_ev l (i : Int) (by omega) (1000000 * ((i + 1 : Nat) : Int)) (by omega) _ false hne (st.length + 1) (st ++ [l[i]]) p (by simp) (by simp; omega) hsn (by simp; omega) (fun st' p' he hs' hp' hl' => ?_))
    have e1 : st' = (planW (st.length + 1) false (st ++ [l[i]]) p).1 := by rw [← he]
    have e2 : p' = (planW (st.length + 1) false (st ++ [l[i]]) p).2 := by rw [← he]
    have hL := planW_len (fin := false) (st.length + 1) (st ++ [l[i]]) p
    rw [← e1, ← e2] at hL ⊢
    simp only [List.length_append, List.length_cons, List.length_nil] at hL hl'
    have := ih (i + 1) st' p' (by omega) (by omega) hs' (by omega)
    rw [show ((i : Int) + 1) = ((i + 1 : Nat) : Int) by omega]
    exact this
def planR (l : List Int) : List (List Int) := if okL l = true then planL l [] [] else []
theorem inRange_mp (a b c : Int) : spec_inRange.f a b c = some (decide (b ≤ a ∧ a ≤ c)) := by
  unfold spec_inRange.f
  by_cases h1 : a ≥ b
  · rw [if_pos h1]; congr 1; simp; omega
  · rw [if_neg h1, decide_eq_false (by omega)]
theorem specPlan_from (l : List Int) (hl : l.length ≤ 60) (d : Nat) : ∀ i : Nat, i + d = l.length → (∀ x ∈ l.take i, 1 ≤ x ∧ x ≤ 1000000) → Ev (fun k => spec_MergePlan.l0 k l (i : Int)) (planR l) := by
  induction d with
  | zero =>
    intro i hi hp
    rw [List.take_of_length_le (by omega)] at hp
    refine ev_succ ?_
    simp only [spec_MergePlan.l0]
    have hok : okL l = true := by
      rw [okL, decide_eq_true hl, Bool.true_and, List.all_eq_true]
      exact fun x hx => decide_eq_true (hp x hx)
    have P := plan_ev l hl hp l.length 0 [] [] (by omega) (by simp) ⟨by simp, by simp⟩ (by simp)
    rw [List.drop_zero] at P
    rw [planR, if_pos hok]
    refine ev_neg (by omega) (Ev.bind ?_ (ev_some rfl))
    unfold spec_mergePlan.f
    exact P
  | succ d ih =>
    intro i hi hp
    have hlt : i < l.length := by omega
    refine ev_succ ?_
    simp only [spec_MergePlan.l0]
    rw [rd_at l i hlt, next_i i (by omega)]
    refine ev_pos (by omega) (ev_pos (by omega) (ev_bind1 (inRange_mp _ _ _) ?_))
    by_cases hr : 1 ≤ l[i] ∧ l[i] ≤ 1000000
    · rw [decide_eq_true hr]
      refine ev_pos rfl (ih (i + 1) (by omega) (fun x hx => ?_))
      rw [List.take_succ_eq_append_getElem hlt] at hx
      simp only [List.mem_append, List.mem_singleton] at hx
      rcases hx with hx | rfl
      · exact hp x hx
      · exact hr
    · rw [decide_eq_false hr]
      refine ev_neg (by simp) (ev_some (congrArg some ?_))
      have : okL l ≠ true := by
        intro h
        rw [okL, Bool.and_eq_true, List.all_eq_true] at h
        exact hr (of_decide_eq_true (h.2 _ (List.getElem_mem hlt)))
      rw [planR, if_neg this]
theorem specMergePlan_ev (l : List Int) : Ev (fun k => spec_MergePlan.f k l) (planR l) := by
  unfold spec_MergePlan.f
  by_cases hl : (l.length : Int) > 60
  · refine ev_pos hl (ev_some (congrArg some ?_))
    rw [planR, okL, decide_eq_false (by omega)]; rfl
  · exact ev_neg hl (specPlan_from l (by omega) l.length 0 (by omega) (by simp))

/-! ### Merges of runs: what the plan ends with -/
/-- The last merge, where one run is left. -/
def Gl (st : List Int) (p : List (List Int)) : Prop := (st = [] → p = []) ∧ (st.length = 1 → p ≠ [] → ∃ q a b, p = q ++ [[0, a, b]] ∧ a + b = st.sum)
theorem gl_step {st : List Int} {p : List (List Int)} {fin : Bool} (h0 : 0 ≤ atL st fin) : Gl (stepL st (atL st fin).toNat) (p ++ [rowL st (atL st fin)]) := by
  have hlt := atL_lt h0
  have hlen := stepL_len (st := st) (a := (atL st fin).toNat) (by omega)
  refine ⟨fun h => ?_, fun h _ => ?_⟩
  · rw [h] at hlen
    simp at hlen
    omega
  · have h2 : st.length = 2 := by omega
    have ha : atL st fin = 0 := by omega
    rw [ha]
    refine ⟨p, rd st 0, rd st 1, rfl, ?_⟩
    rw [show (0 : Int).toNat = 0 from rfl, stepL_sum (by omega)]
    match st, h2 with
    | [x, y], _ => simp [rd]
theorem gl_planW {fin : Bool} : ∀ (f : Nat) (st : List Int) (p : List (List Int)), Gl st p → Gl (planW f fin st p).1 (planW f fin st p).2
  | 0, st, p, h => h
  | f + 1, st, p, h => by
    rw [planW]
    by_cases h0 : 0 ≤ atL st fin
    · rw [if_pos h0]; exact gl_planW f _ _ (gl_step h0)
    · rw [if_neg h0]; exact h
theorem planW_one : ∀ (f : Nat) (st : List Int) (p : List (List Int)), st.length ≤ f → st ≠ [] → (planW f true st p).1.length = 1
  | 0, st, p, hf, hn => absurd (List.eq_nil_of_length_eq_zero (by omega)) hn
  | f + 1, st, p, hf, hn => by
    rw [planW]
    by_cases h0 : 0 ≤ atL st true
    · rw [if_pos h0]
      have hlt := atL_lt h0
      have hlen := stepL_len (st := st) (a := (atL st true).toNat) (by omega)
      exact planW_one f _ _ (by omega) (fun e => by rw [e] at hlen; simp at hlen; omega)
    · rw [if_neg h0]
      have h1 : 0 < st.length := List.length_pos_iff.2 hn
      show st.length = 1
      apply Classical.byContradiction
      intro hc
      apply h0
      unfold atL
      rw [if_neg (by omega)]
      split
      · rename_i h
        unfold tightB at h
        have := of_decide_eq_true h.1
        omega
      · rw [if_pos (.inr (.inl rfl))]
        omega
theorem planW_ne {fin : Bool} : ∀ (f : Nat) (st : List Int) (p : List (List Int)), st ≠ [] → (planW f fin st p).1 ≠ []
  | 0, st, p, h => h
  | f + 1, st, p, h => by
    rw [planW]
    by_cases h0 : 0 ≤ atL st fin
    · rw [if_pos h0]
      have hlt := atL_lt h0
      have hlen := stepL_len (st := st) (a := (atL st fin).toNat) (by omega)
      exact planW_ne f _ _ (fun e => by rw [e] at hlen; simp at hlen; omega)
    · rw [if_neg h0]; exact h
theorem planL_last : ∀ (l st : List Int) (p : List (List Int)), Gl st p → l ++ st ≠ [] → ((planL l st p).length + 1 = p.length + st.length + l.length) ∧ (planL l st p ≠ [] → ∃ q a b, planL l st p = q ++ [[0, a, b]] ∧ a + b = st.sum + l.sum)
  | [], st, p, h, hn => by
    rw [List.nil_append] at hn
    have hL := planW_len (fin := true) st.length st p
    have h1 := planW_one st.length st p (Nat.le_refl _) hn
    have hs := planW_sum (fin := true) st.length st p
    have hg := gl_planW (fin := true) st.length st p h
    rw [planL]
    refine ⟨by rw [h1] at hL; simpa using hL, fun hne => ?_⟩
    obtain ⟨q, a, b, e, hab⟩ := hg.2 h1 hne
    exact ⟨q, a, b, e, by rw [hab, hs]; simp⟩
  | x :: l, st, p, h, hn => by
    have hg : Gl (st ++ [x]) p := by
      refine ⟨fun e => by simp at e, fun e hne => ?_⟩
      have : st = [] := List.eq_nil_of_length_eq_zero (by simpa using e)
      exact absurd (h.1 this) hne
    have hL := planW_len (fin := false) (st.length + 1) (st ++ [x]) p
    have hs := planW_sum (fin := false) (st.length + 1) (st ++ [x]) p
    have hg2 := gl_planW (fin := false) (st.length + 1) (st ++ [x]) p hg
    have hne := planW_ne (fin := false) (st.length + 1) (st ++ [x]) p (by simp)
    obtain ⟨c, d⟩ := planL_last l _ _ hg2 (by simp [hne])
    rw [planL]
    rw [hL] at c
    rw [hs] at d
    refine ⟨by simp at c ⊢; omega, fun h2 => ?_⟩
    obtain ⟨q, a, b, e, hab⟩ := d h2
    refine ⟨q, a, b, e, ?_⟩
    rw [hab]
    simp
    omega
theorem planR_last (l : List Int) (h : planR l ≠ []) : (planR l).length + 1 = l.length ∧ ∃ q a b, planR l = q ++ [[0, a, b]] ∧ a + b = l.sum := by
  unfold planR at h ⊢
  by_cases hok : okL l = true
  · rw [if_pos hok] at h ⊢
    have hn : l ≠ [] := by
      rintro rfl
      exact h rfl
    obtain ⟨a, b⟩ := planL_last l [] [] ⟨fun _ => rfl, fun h => by simp at h⟩ (by simpa using hn)
    refine ⟨by simpa using a, ?_⟩
    obtain ⟨q, x, y, e, hxy⟩ := b h
    exact ⟨q, x, y, e, by simpa using hxy⟩
  · rw [if_neg hok] at h; exact absurd rfl h

/-! ### Merges of runs: the program's one loop -/
theorem atL_true {st : List Int} (h : 0 ≤ atL st false) : atL st true = atL st false := by
  unfold atL at h ⊢
  by_cases h2 : st.length < 2
  · rw [if_pos h2] at h; omega
  · rw [if_neg h2] at h
    rw [if_neg h2, if_neg h2]
    by_cases h3 : tightB st = true ∧ rd st ((st.length : Int) - 3) < rd st ((st.length : Int) - 1)
    · rw [if_pos h3, if_pos h3]
    · rw [if_neg h3] at h
      rw [if_neg h3, if_neg h3]
      by_cases h4 : tightB st = true ∨ false = true ∨ rd st ((st.length : Int) - 2) ≤ rd st ((st.length : Int) - 1)
      · rw [if_pos h4, if_pos (.inr (.inl rfl))]
      · rw [if_neg h4] at h; omega
theorem planW_more {fin : Bool} : ∀ (f g : Nat) (st : List Int) (p : List (List Int)), st.length ≤ f → st.length ≤ g → planW f fin st p = planW g fin st p
  | 0, 0, _, _, _, _ => rfl
  | 0, g + 1, st, p, h, _ => by
    have : ¬ 0 ≤ atL st fin := fun h0 => by have := atL_lt h0; omega
    rw [planW, planW, if_neg this]
  | f + 1, 0, st, p, _, h => by
    have : ¬ 0 ≤ atL st fin := fun h0 => by have := atL_lt h0; omega
    rw [planW, planW, if_neg this]
  | f + 1, g + 1, st, p, h1, h2 => by
    rw [planW, planW]
    by_cases h0 : 0 ≤ atL st fin
    · rw [if_pos h0, if_pos h0]
      have hlt := atL_lt h0
      have hlen := stepL_len (st := st) (a := (atL st fin).toNat) (by omega)
      exact planW_more f g _ _ (by omega) (by omega)
    · rw [if_neg h0, if_neg h0]
theorem planI_end : ∀ (f : Nat) (st : List Int) (p : List (List Int)), st.length ≤ f → planI f [] st p = (planW st.length true st p).2
  | 0, st, p, h => by
    have : st.length = 0 := by omega
    rw [this]; rfl
  | f + 1, st, p, h => by
    rw [planW_more st.length (f + 1) st p (Nat.le_refl _) h, planI, planW]
    by_cases h0 : 0 ≤ atL st true
    · have hlt := atL_lt h0
      have hlen := stepL_len (st := st) (a := (atL st true).toNat) (by omega)
      have ih := planI_end f (stepL st (atL st true).toNat) (p ++ [rowL st (atL st true)]) (by omega)
      rw [planW_more _ f _ _ (Nat.le_refl _) (by omega)] at ih
      simp only [if_pos h0]
      by_cases h1 : 0 ≤ atL st false
      · rw [if_pos h1, ← atL_true h1]; exact ih
      · rw [if_neg h1]; exact ih
    · have h1 : ¬ 0 ≤ atL st false := fun h1 => h0 (by rw [atL_true h1]; exact h1)
      rw [if_neg h0, if_neg h1]
      simp only [if_neg h0]
theorem planI_eq : ∀ (f : Nat) (rest st : List Int) (p : List (List Int)), 2 * rest.length + st.length ≤ f → planI f rest st p = planL rest (planW st.length false st p).1 (planW st.length false st p).2
  | f, [], st, p, h => by
    rw [planI_end f st p (by simpa using h), planL]
    -- merges that are not forced come first either way
    have key : ∀ (g : Nat) (st : List Int) (p : List (List Int)), st.length ≤ g → planW st.length true st p = planW (planW st.length false st p).1.length true (planW st.length false st p).1 (planW st.length false st p).2 := by
      intro g
      induction g with
      | zero =>
        intro st p h
        have : st.length = 0 := by omega
        rw [this]
        have e : st = [] := List.eq_nil_of_length_eq_zero this
        rw [e]; rfl
      | succ g ih =>
        intro st p h
        by_cases h1 : 0 ≤ atL st false
        · have hlt := atL_lt h1
          have hlen := stepL_len (st := st) (a := (atL st false).toNat) (by omega)
          have i := ih (stepL st (atL st false).toNat) (p ++ [rowL st (atL st false)]) (by omega)
          have e1 : planW st.length false st p = planW (stepL st (atL st false).toNat).length false (stepL st (atL st false).toNat) (p ++ [rowL st (atL st false)]) := by
            rw [planW_more st.length ((stepL st (atL st false).toNat).length + 1) st p (Nat.le_refl _) (by omega), planW, if_pos h1]
          have e2 : planW st.length true st p = planW (stepL st (atL st false).toNat).length true (stepL st (atL st false).toNat) (p ++ [rowL st (atL st false)]) := by
            rw [planW_more st.length ((stepL st (atL st false).toNat).length + 1) st p (Nat.le_refl _) (by omega), planW, atL_true h1, if_pos h1]
          rw [e1, e2]
          exact i
        · have e1 : planW st.length false st p = (st, p) := by
            rw [planW_more st.length (st.length + 1) st p (Nat.le_refl _) (by omega), planW, if_neg h1]
          rw [e1]
    rw [key st.length st p (Nat.le_refl _)]
  | 0, x :: rest, st, p, h => by simp at h
  | f + 1, x :: rest, st, p, h => by
    simp only [List.length_cons] at h
    rw [planI]
    by_cases h1 : 0 ≤ atL st false
    · have hlt := atL_lt h1
      have hlen := stepL_len (st := st) (a := (atL st false).toNat) (by omega)
      rw [if_pos h1, planI_eq f (x :: rest) _ _ (by simp; omega)]
      have e1 : planW st.length false st p = planW (stepL st (atL st false).toNat).length false (stepL st (atL st false).toNat) (p ++ [rowL st (atL st false)]) := by
        rw [planW_more st.length ((stepL st (atL st false).toNat).length + 1) st p (Nat.le_refl _) (by omega), planW, if_pos h1]
      rw [e1]
    · have e1 : planW st.length false st p = (st, p) := by
        rw [planW_more st.length (st.length + 1) st p (Nat.le_refl _) (by omega), planW, if_neg h1]
      rw [if_neg h1, e1]
      simp only []
      rw [planI_eq f rest (st ++ [x]) p (by simp; omega), planL, planW_more (st ++ [x]).length (st.length + 1) (st ++ [x]) p (Nat.le_refl _) (by simp)]
theorem planI_all (l : List Int) (f : Nat) (hf : 2 * l.length ≤ f) : planI f l [] [] = planL l [] [] := by
  rw [planI_eq f l [] [] (by simpa using hf)]
  rfl

/-! ### The law -/
theorem planW_rows {fin : Bool} : ∀ (f : Nat) (st : List Int) (p : List (List Int)), (∀ r ∈ p, r.length = 3) → ∀ r ∈ (planW f fin st p).2, r.length = 3
  | 0, _, _, h => h
  | f + 1, st, p, h => by
    rw [planW]
    by_cases h0 : 0 ≤ atL st fin
    · rw [if_pos h0]
      refine planW_rows f _ _ (fun r hr => ?_)
      simp only [List.mem_append, List.mem_singleton] at hr
      rcases hr with hr | rfl
      · exact h r hr
      · rfl
    · rw [if_neg h0]; exact h
theorem planL_rows : ∀ (l st : List Int) (p : List (List Int)), (∀ r ∈ p, r.length = 3) → ∀ r ∈ planL l st p, r.length = 3
  | [], st, p, h => by rw [planL]; exact planW_rows _ _ _ h
  | x :: l, st, p, h => by rw [planL]; exact planL_rows l _ _ (planW_rows _ _ _ h)
theorem planR_rows (l : List Int) : ∀ r ∈ planR l, r.length = 3 := by
  unfold planR
  by_cases h : okL l = true
  · rw [if_pos h]; exact planL_rows l [] [] (by simp)
  · rw [if_neg h]; simp
theorem planR_len (l : List Int) : (planR l).length ≤ 60 := by
  by_cases h : planR l = []
  · rw [h]; simp
  · have := (planR_last l h).1
    have hok : okL l = true := by
      apply Classical.byContradiction
      intro hc
      exact h (by rw [planR, if_neg hc])
    rw [okL, Bool.and_eq_true] at hok
    have := of_decide_eq_true hok.1
    omega
theorem implPlan_some (l : List Int) : impl_MergePlan.f l = some (planR l) := by
  unfold impl_MergePlan.f planR
  by_cases h : okL l = true
  · rw [if_pos h, if_pos h, planI_all l _ (Nat.le_refl _)]
  · rw [if_neg h, if_neg h]
theorem rd_L1_at (L : List (List Int)) (i : Nat) (h : i < L.length) : rd_L1 L (i : Int) = L[i] := by
  unfold rd_L1
  simp [List.getD_eq_getElem?_getD, h]
theorem sameRows_from (L : List (List Int)) (hl : L.length ≤ 1000) (hr : ∀ r ∈ L, r.length = 3) (d : Nat) : ∀ i : Nat, i + d = L.length → Ev (fun k => spec_SameRows.l0 k L L (i : Int)) true := by
  induction d with
  | zero =>
    intro i hi
    refine ev_succ ?_
    simp only [spec_SameRows.l0]
    exact ev_neg (by omega) (ev_some rfl)
  | succ d ih =>
    intro i hi
    have hlt : i < L.length := by omega
    have h3 := hr _ (List.getElem_mem hlt)
    refine ev_succ ?_
    simp only [spec_SameRows.l0]
    rw [rd_L1_at L i hlt, next_i i (by omega)]
    exact ev_pos (by omega) (ev_pos (by omega) (ev_pos (by omega) (Ev.bind (same_ev L[i] (by omega)) (ev_pos rfl (ih (i + 1) (by omega))))))
theorem sameRows_ev (L : List (List Int)) (hl : L.length ≤ 1000) (hr : ∀ r ∈ L, r.length = 3) : Ev (fun k => spec_SameRows.f k L L) true := by
  unfold spec_SameRows.f
  exact ev_pos rfl (sameRows_from L hl hr L.length 0 (by omega))
theorem draw_from {code : List Int} (hl : code.length ≤ 4000) (hb : ∀ x ∈ code, (Lit.int .u8 x).wf = true) (d : Nat) : ∀ (out : List Int) (p : Int), out.length + d ≤ 100 → 0 ≤ p → p + 3 * d ≤ 800000 →
    ∃ r, Ev (fun k => spec_DrawMergePlan.l0 k out (d : Int) code p) r := by
  induction d with
  | zero =>
    intro out p _ _ _
    refine ⟨out, ev_succ ?_⟩
    simp only [spec_DrawMergePlan.l0]
    exact ev_neg (by omega) (ev_some rfl)
  | succ d ih =>
    intro out p ho p0 p1
    obtain ⟨v, q, e, v0, v1, q0, q1⟩ := pick_ok hl hb p0 (by omega) 20
    obtain ⟨u, q', e', _, q0', q1'⟩ := often_ok hl hb (p := q) (by omega) (by omega) (1 + v) (by omega)
    obtain ⟨r, hr⟩ := ih (out ++ [u]) q' (by simp; omega) (by omega) (by omega)
    refine ⟨r, ev_succ ?_⟩
    simp only [spec_DrawMergePlan.l0]
    rw [show wrap64 (((d + 1 : Nat) : Int) - 1) = (d : Int) by rw [w64 (by omega) (by omega)]; omega]
    refine ev_pos (by omega) (ev_bind1 e ?_)
    rw [w64 (n := 1 + v) (by omega) (by omega)]
    exact ev_bind1 e' (ev_pos (by omega) hr)
theorem draw_merge {l : List Int} (hl : l.length ≤ 1048576) (hb : ∀ x ∈ l, (Lit.int .u8 x).wf = true) : ∃ f, Ev (fun k => spec_DrawMergePlan.f k l) f := by
  obtain ⟨code, e, hc, hbc⟩ := newRnd_ok (l := l) hl hb
  obtain ⟨v, q, e1, v0, v1, q0, q1⟩ := pick_ok hc hbc (p := 0) (by omega) (by omega) 14
  obtain ⟨n, rfl⟩ := Int.eq_ofNat_of_zero_le v0
  obtain ⟨r, hr⟩ := draw_from hc hbc n [] q (by simp; omega) (by omega) (by omega)
  refine ⟨r, ?_⟩
  unfold spec_DrawMergePlan.f
  exact ev_bind1 e (ev_bind1 e1 hr)
theorem law_from (f : List Int) (hf : f.length ≤ 60) (hp : ∀ x ∈ f, 1 ≤ x ∧ x ≤ 1000000) (q : List (List Int)) (a b : Int) (hlen : (q ++ [[0, a, b]]).length + 1 = f.length) (hab : a + b = f.sum) (d : Nat) : ∀ i : Nat, i + d = f.length →
    0 ≤ (f.take i).sum → (f.take i).sum ≤ 1000000 * i → Ev (fun k => laws_FnMergePlan.l0 k f (q ++ [[0, a, b]]) (f.take i).sum (i : Int)) true := by
  have hq : ((q ++ [[0, a, b]]).length : Int) - 1 = (q.length : Int) := by simp
  have hrd : rd_L1 (q ++ [[0, a, b]]) (q.length : Int) = [0, a, b] := by
    rw [rd_L1_at _ _ (by simp)]
    simp
  induction d with
  | zero =>
    intro i hi s0 s1
    rw [List.take_of_length_le (by omega)] at s0 s1 ⊢
    refine ev_succ ?_
    simp only [laws_FnMergePlan.l0]
    rw [w64 (n := ((q ++ [[0, a, b]]).length : Int) - 1) (by omega) (by omega), hq, hrd, w64 (n := (f.length : Int) - 1) (by omega) (by omega)]
    have r1 : rd [0, a, b] 1 = a := rfl
    have r2 : rd [0, a, b] 2 = b := rfl
    have r0 : rd [0, a, b] 0 = 0 := rfl
    rw [r0, r1, r2, w64 (n := a + b) (by omega) (by omega)]
    refine ev_neg (by omega) (ev_pos (by omega) (ev_pos (by omega) (ev_pos (by omega) (ev_pos (by simp) (ev_pos (by simp) (ev_pos rfl (ev_pos (by simp) (ev_pos (by simp) (ev_some (congrArg some ?_))))))))))
    simp [hab]
  | succ d ih =>
    intro i hi s0 s1
    have hlt : i < f.length := by omega
    have hx := hp _ (List.getElem_mem hlt)
    have e : (f.take (i + 1)).sum = (f.take i).sum + f[i] := by rw [List.take_succ_eq_append_getElem hlt, List.sum_append]; simp
    refine ev_succ ?_
    simp only [laws_FnMergePlan.l0]
    rw [rd_at f i hlt, next_i i (by omega), w64 (n := (f.take i).sum + f[i]) (by omega) (by omega), ← e]
    exact ev_pos (by omega) (ev_pos (by omega) (ih (i + 1) (by omega) (by omega) (by omega)))
theorem FnMergePlan : laws_FnMergePlan.Pure := by
  intro l hm _ hb
  refine Ev.rounds ?_
  unfold laws_FnMergePlan.f
  by_cases hl : (l.length : Int) > 1048576
  · exact ev_pos hl (ev_some rfl)
  refine ev_neg hl ?_
  obtain ⟨f, D⟩ := draw_merge (l := l) (by omega) hb
  have hlen := planR_len f
  have S := sameRows_ev (planR f) (by omega) (planR_rows f)
  refine Ev.bind D (ev_bind1 (implPlan_some f) (Ev.bind (specMergePlan_ev f) (Ev.bind S (ev_pos rfl (ev_succ ?_)))))
  simp only [laws_FnMergePlan.j0]
  by_cases h : planR f = []
  · rw [h]
    exact ev_pos rfl (ev_some rfl)
  · obtain ⟨h1, q, a, b, e, hab⟩ := planR_last f h
    have hok : okL f = true := by
      apply Classical.byContradiction
      intro hc
      exact h (by rw [planR, if_neg hc])
    rw [okL, Bool.and_eq_true, List.all_eq_true] at hok
    rw [e] at h1 ⊢
    refine ev_neg (by simp; omega) ?_
    have := law_from f (of_decide_eq_true hok.1) (fun x hx => of_decide_eq_true (hok.2 x hx)) q a b h1 hab f.length 0 (by omega) (by simp) (by simp)
    simpa using this

end Go.Proofs.Ytpnamllkeaaeeaa.Pure
