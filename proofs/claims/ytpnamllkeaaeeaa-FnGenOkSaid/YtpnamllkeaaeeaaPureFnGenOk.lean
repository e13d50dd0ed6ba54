/- FnGenOk: the program judges generator steps as the reference does. -/
import Derived.Test.YtpnamllkeaaeeaaXFnGenOkx5
namespace Go.Proofs.Ytpnamllkeaaeeaa.Pure
open Go.RowKit Go.Proofs.Ytpnamllkeaaeeaa.XFnGenOk Go.Proofs.YtpnamllkeaaeeaaW.PrintWords Go.Proofs.YtpnamllkeaaeeaaW.PrintLast Go.Proofs.YtpnamllkeaaeeaaW.PrintMore
set_option linter.unusedVariables false
set_option linter.unusedSimpArgs false

/-! ### Rounds, and words of 64 bits -/
theorem ev_succ {α : Type} {g : Nat → Option α} {r : α} (h : Ev (fun k => g (k + 1)) r) : Ev g r := Ev.step (fun _ => rfl) h
theorem ev_some {α : Type} {o : Option α} {r : α} (h : o = some r) : Ev (fun _ => o) r := ⟨0, fun _ _ => h⟩
theorem ev_pos {α : Type} {c : Prop} [Decidable c] {A B : Nat → Option α} {r : α} (h : c) (k : Ev A r) : Ev (fun n => if c then A n else B n) r :=
  Ev.congr (fun _ => if_pos h) k
theorem ev_neg {α : Type} {c : Prop} [Decidable c] {A B : Nat → Option α} {r : α} (h : ¬ c) (k : Ev B r) : Ev (fun n => if c then A n else B n) r :=
  Ev.congr (fun _ => if_neg h) k
theorem ev_eq {α : Type} {g : Nat → Option α} {r s : α} (h : Ev g r) (e : r = s) : Ev g s := e ▸ h
theorem ev_bind1 {α β : Type} {o : Option α} {f : Nat → α → Option β} {a : α} {r : β} (h : o = some a) (k : Ev (fun n => f n a) r) : Ev (fun n => o.bind (f n)) r :=
  Ev.bind (ev_some h) k
theorem ev_det {α : Type} {g : Nat → Option α} {r s : α} (h : Ev g r) (k : Ev g s) : r = s := by
  obtain ⟨K, h⟩ := h
  obtain ⟨L, k⟩ := k
  have h1 := h (max K L) (by omega)
  have h2 := k (max K L) (by omega)
  rw [h1] at h2
  exact Option.some.inj h2
theorem w64 {n : Int} (h : -9223372036854775808 ≤ n) (h' : n ≤ 9223372036854775807) : wrap64 n = n := by unfold wrap64; omega
theorem byte_of {l : List Int} (h : ∀ x ∈ l, (Lit.int .u8 x).wf = true) (i : Int) : 0 ≤ rd l i ∧ rd l i ≤ 255 := by
  unfold rd
  by_cases hi : i.toNat < l.length
  · have hm : l.getD i.toNat 0 ∈ l := by
      rw [List.getD_eq_getElem?_getD, List.getElem?_eq_getElem hi]
      exact List.getElem_mem hi
    have := h _ hm
    have m0 : IntKind.u8.min = 0 := by decide
    have m1 : IntKind.u8.max = 255 := by decide
    simp only [Lit.wf, m0, m1, Bool.and_eq_true, decide_eq_true_eq] at this
    exact this
  · rw [List.getD_eq_getElem?_getD, List.getElem?_eq_none (by omega)]
    simp

/-! ### Draws: what they pick, and that they never panic -/
theorem xor_ok (v u : Int) (h0 : 0 ≤ v) (h1 : v < 4611686018427387904) (u0 : 0 ≤ u) (u1 : u < 4611686018427387904) : 0 ≤ Go.bits .xor .i64 v u := by
  obtain ⟨a, rfl⟩ := Int.eq_ofNat_of_zero_le h0
  obtain ⟨b, rfl⟩ := Int.eq_ofNat_of_zero_le u0
  have ofInt : ∀ a : Nat, a < 9223372036854775808 → (BitVec.ofInt 64 (a : Int)).toNat = a := fun a ha => by
    rw [BitVec.ofInt_natCast, BitVec.toNat_ofNat]; exact Nat.mod_eq_of_lt (by omega)
  have hx : a ^^^ b < 2 ^ 63 := Nat.xor_lt_two_pow (by omega) (by omega)
  show 0 ≤ IntKind.i64.wrap ((BitVec.ofInt 64 (a : Int) ^^^ BitVec.ofInt 64 (b : Int)).toNat : Int)
  rw [BitVec.toNat_xor, ofInt a (by omega), ofInt b (by omega), IntKind.wrap_i64]
  omega

theorem pick_ok {code : List Int} (hl : code.length ≤ 4000) (hb : ∀ x ∈ code, (Lit.int .u8 x).wf = true) {p : Int} (h0 : 0 ≤ p) (h1 : p ≤ 1000000) (n : Int) :
    ∃ v q, spec_rnd_pick.f code p n = some (v, q) ∧ 0 ≤ v ∧ (v < n ∨ (n < 2 ∧ v = 0)) ∧ p ≤ q ∧ q ≤ p + 1 := by
  unfold spec_rnd_pick.f
  by_cases hn : n < 2
  · rw [if_pos hn]; exact ⟨0, p, rfl, by omega, .inr ⟨hn, rfl⟩, by omega, by omega⟩
  rw [if_neg hn]
  have hw : wrap64 (p + 1) = p + 1 := w64 (by omega) (by omega)
  have fin : ∀ v : Int, 0 ≤ v → ∃ v' q, (if n = 0 then none else some (Int.tmod v n, wrap64 (p + 1))) = some (v', q) ∧ 0 ≤ v' ∧ (v' < n ∨ (n < 2 ∧ v' = 0)) ∧ p ≤ q ∧ q ≤ p + 1 := by
    intro v hv
    rw [if_neg (by omega), hw, Int.tmod_eq_emod_of_nonneg hv]
    exact ⟨_, _, rfl, Int.emod_nonneg _ (by omega), .inl (Int.emod_lt_of_pos _ (by omega)), by omega, by omega⟩
  by_cases hc : (code.length : Int) > 0
  · rw [if_pos hc, if_neg (by omega)]
    have e1 : Int.tmod p (code.length : Int) = p % code.length := Int.tmod_eq_emod_of_nonneg h0
    have e2 : wrap64 (wrap64 (p * 7) + 3) = p * 7 + 3 := by rw [w64 (n := p * 7) (by omega) (by omega)]; exact w64 (by omega) (by omega)
    have e3 : Int.tmod (p * 7 + 3) (code.length : Int) = (p * 7 + 3) % code.length := Int.tmod_eq_emod_of_nonneg (by omega)
    have m0 := Int.emod_nonneg p (show (code.length : Int) ≠ 0 by omega)
    have m1 := Int.emod_lt_of_pos p hc
    have m2 := Int.emod_nonneg (p * 7 + 3) (show (code.length : Int) ≠ 0 by omega)
    have m3 := Int.emod_lt_of_pos (p * 7 + 3) hc
    have e4 : Int.tdiv p (code.length : Int) = p / code.length := Int.tdiv_eq_ediv_of_nonneg h0
    have d0 : 0 ≤ p / (code.length : Int) := Int.ediv_nonneg h0 (by omega)
    have d1 : p / (code.length : Int) ≤ p := Int.ediv_le_self _ h0
    rw [e1, if_pos m0, if_pos m1, e2, e3, if_pos m2, if_pos m3, e4]
    obtain ⟨a0, a1⟩ := byte_of hb (p % code.length)
    obtain ⟨b0, b1⟩ := byte_of hb ((p * 7 + 3) % code.length)
    generalize rd code (p % code.length) = a at a0 a1 ⊢
    generalize rd code ((p * 7 + 3) % code.length) = b at b0 b1 ⊢
    generalize p / (code.length : Int) = d at d0 d1 ⊢
    have w1 : wrap64 a = a := w64 (by omega) (by omega)
    have w2 : wrap64 b = b := w64 (by omega) (by omega)
    have w3 : wrap64 (a * 131) = a * 131 := w64 (by omega) (by omega)
    have w4 : wrap64 (b * 1117) = b * 1117 := w64 (by omega) (by omega)
    have w5 : wrap64 (p * 29) = p * 29 := w64 (by omega) (by omega)
    have w6 : wrap64 d = d := w64 (by omega) (by omega)
    have w7 : wrap64 (d * 53) = d * 53 := w64 (by omega) (by omega)
    have w8 : wrap64 (a * 131 + b * 1117) = a * 131 + b * 1117 := w64 (by omega) (by omega)
    have w9 : wrap64 (a * 131 + b * 1117 + p * 29) = a * 131 + b * 1117 + p * 29 := w64 (by omega) (by omega)
    have w10 : wrap64 (a * 131 + b * 1117 + p * 29 + d * 53) = a * 131 + b * 1117 + p * 29 + d * 53 := w64 (by omega) (by omega)
    rw [w1, w2, w3, w4, w5, w6, w7, w8, w9, w10]
    have big : 0 ≤ Go.bits .xor .i64 (a * 131 + b * 1117 + p * 29 + d * 53) (wrap64 (Int.tdiv (a * 131 + b * 1117 + p * 29 + d * 53) 64)) := by
      have t : Int.tdiv (a * 131 + b * 1117 + p * 29 + d * 53) 64 = (a * 131 + b * 1117 + p * 29 + d * 53) / 64 := Int.tdiv_eq_ediv_of_nonneg (by omega)
      rw [t, w64 (by omega) (by omega)]
      exact xor_ok _ _ (by omega) (by omega) (by omega) (by omega)
    by_cases h256 : n > 256
    · rw [if_pos h256]; exact fin _ big
    · rw [if_neg h256]
      by_cases hp : p ≥ (code.length : Int)
      · rw [if_pos hp]; exact fin _ big
      · rw [if_neg hp]; exact fin _ a0
  · rw [if_neg hc, if_neg (by omega), hw]
    exact ⟨_, _, rfl, by simp, .inl (by simp; omega), by omega, by omega⟩

theorem newRnd_ok {l : List Int} (hl : l.length ≤ 1048576) (hb : ∀ x ∈ l, (Lit.int .u8 x).wf = true) :
    ∃ code, spec_newRnd.f l = some (code, 0) ∧ code.length ≤ 4000 ∧ ∀ x ∈ code, (Lit.int .u8 x).wf = true := by
  unfold spec_newRnd.f
  have h : mn (l.length : Int) 4000 = min (l.length : Int) 4000 := by unfold mn; split <;> omega
  rw [h, if_pos (by omega), if_pos (by omega)]
  refine ⟨_, rfl, ?_, fun x hx => hb x (List.mem_of_mem_take hx)⟩
  rw [List.length_take]; omega

theorem one_ok {code : List Int} (hl : code.length ≤ 4000) (hb : ∀ x ∈ code, (Lit.int .u8 x).wf = true) {p : Int} (h0 : 0 ≤ p) (h1 : p ≤ 1000000) (list : List Int) (hn : list ≠ []) :
    ∃ v q, spec_rnd_one.f code p list = some (v, q) ∧ v ∈ list ∧ p ≤ q ∧ q ≤ p + 1 := by
  have hlen : 0 < list.length := List.length_pos_iff.2 hn
  obtain ⟨i, q, e, i0, i1, q0, q1⟩ := pick_ok hl hb h0 h1 (list.length : Int)
  unfold spec_rnd_one.f
  have hi : i < (list.length : Int) := by omega
  rw [e]
  simp only [Option.bind_some]
  rw [if_pos i0, if_pos hi]
  refine ⟨_, _, rfl, ?_, q0, q1⟩
  unfold rd
  rw [List.getD_eq_getElem?_getD, List.getElem?_eq_getElem (show i.toNat < list.length by omega)]
  exact List.getElem_mem _

theorem often_ok {code : List Int} (hl : code.length ≤ 4000) (hb : ∀ x ∈ code, (Lit.int .u8 x).wf = true) {p : Int} (h0 : 0 ≤ p) (h1 : p ≤ 900000) (n : Int) (hn : -9223372036854775808 ≤ n ∧ n ≤ 9223372036854775807) :
    ∃ v q, spec_rnd_often.f code p n = some (v, q) ∧ (-9223372036854775808 ≤ v ∧ v ≤ 9223372036854775807) ∧ p ≤ q ∧ q ≤ p + 2 := by
  obtain ⟨i, q, e, i0, i1, q0, q1⟩ := pick_ok hl hb h0 (by omega) 16
  unfold spec_rnd_often.f
  rw [e]
  simp only [Option.bind_some]
  by_cases hi : i = 0
  · rw [if_pos hi]
    unfold spec_rnd_odd.f
    obtain ⟨v, q', e', hv, q0', q1'⟩ := one_ok hl hb (p := q) (by omega) (by omega) [(-1), 4611686018427387904, (-4611686018427387904), 1001, 7, 1000001, (-9223372036854775808), 9223372036854775807] (by simp)
    rw [e']
    simp only [Option.bind_some]
    refine ⟨_, _, rfl, ?_, by omega, by omega⟩
    simp only [List.mem_cons, List.not_mem_nil, or_false] at hv
    omega
  · rw [if_neg hi]
    exact ⟨_, _, rfl, hn, by omega, by omega⟩

/-! ### Reading a list -/
theorem rd_at (l : List Int) (i : Nat) (h : i < l.length) : rd l (i : Int) = l[i] := by
  unfold rd
  simp [List.getD_eq_getElem?_getD, h]
theorem next_i (i : Nat) (h : i ≤ 4611686018427387904) : wrap64 ((i : Int) + 1) = ((i + 1 : Nat) : Int) := by rw [w64 (by omega) (by omega)]; omega

/-! ### Generator steps: which are valid -/
def stepB (g : List S61 → Bool) (s : S61) : Bool :=
  if s.f0 = 1 then (s.f2.isEmpty && s.f3.isEmpty) && decide (-1 ≤ s.f1 ∧ s.f1 ≤ 1000000)
  else if s.f0 = 2 ∨ s.f0 = 3 then decide (s.f1 = 0) && (g s.f2 && g s.f3)
  else if s.f0 = 4 then s.f3.isEmpty && (decide (0 ≤ s.f1 ∧ s.f1 ≤ 6) && g s.f2)
  else if s.f0 = 5 then (s.f2.isEmpty && s.f3.isEmpty) && decide (0 ≤ s.f1 ∧ s.f1 ≤ 1000000)
  else false
def genB : Nat → List S61 → Bool
  | 0, l => l.isEmpty
  | m + 1, l => decide (l.length ≤ 6) && l.all (stepB (genB m))
theorem genB_nil : ∀ m, genB m [] = true
  | 0 => rfl
  | m + 1 => rfl
/-- No row in it is too long, down to a depth. -/
def Bd : Nat → List S61 → Prop
  | 0, l => l.length ≤ 1048576
  | m + 1, l => l.length ≤ 1048576 ∧ ∀ s ∈ l, Bd m s.f2 ∧ Bd m s.f3
theorem bd_len : ∀ {m : Nat} {l : List S61}, Bd m l → l.length ≤ 1048576
  | 0, _, h => h
  | _ + 1, _, h => h.1
theorem bd_nil : ∀ m, Bd m []
  | 0 => by simp [Bd]
  | m + 1 => by simp [Bd]
theorem bd_push {l : List S61} {s : S61} (hl : l.length + 1 ≤ 1048576) (h : ∀ m, Bd m l) (h2 : ∀ m, Bd m s.f2) (h3 : ∀ m, Bd m s.f3) : ∀ m, Bd m (l ++ [s])
  | 0 => by simpa [Bd] using hl
  | m + 1 => by
    refine ⟨by simpa using hl, fun x hx => ?_⟩
    simp only [List.mem_append, List.mem_singleton] at hx
    rcases hx with hx | rfl
    · exact (h (m + 1)).2 x hx
    · exact ⟨h2 m, h3 m⟩
theorem bd_take {m : Nat} {l : List S61} (h : Bd m l) (n : Nat) : Bd m (l.take n) := by
  have hl := bd_len h
  have ht : (l.take n).length ≤ l.length := by rw [List.length_take]; omega
  cases m with
  | zero => exact Nat.le_trans ht hl
  | succ m => exact ⟨Nat.le_trans ht hl, fun s hs => h.2 s (List.mem_of_mem_take hs)⟩
theorem rd_T61_at (l : List S61) (i : Nat) (h : i < l.length) : rd_T61 l (i : Int) = l[i] := by
  unfold rd_T61
  simp [List.getD_eq_getElem?_getD, h]
theorem inRange_is (a b c : Int) : spec_inRange.f a b c = some (decide (b ≤ a ∧ a ≤ c)) := by
  unfold spec_inRange.f
  by_cases h1 : a ≥ b
  · rw [if_pos h1]; congr 1; simp; omega
  · rw [if_neg h1, decide_eq_false (by omega)]
theorem within_is (a b c : Int) : impl_within.f a b c = some (decide (b ≤ a ∧ a ≤ c)) := inRange_is a b c
theorem isEmpty_len (l : List S61) : l.isEmpty = decide ((l.length : Int) = 0) := by cases l <;> simp; omega
theorem len_zero {l : List S61} (h : (l.length : Int) = 0) : l = [] := List.eq_nil_of_length_eq_zero (by omega)
/-! The program. -/
theorem ok_ev (g : List S61 → Bool) (d : Int) (s : S61) (h2 : Ev (fun k => impl_genOk.f k s.f2 d) (g s.f2)) (h3 : Ev (fun k => impl_genOk.f k s.f3 d) (g s.f3)) :
    Ev (fun k => impl_GenStep_ok.f k s.f0 s.f1 s.f2 s.f3 d) (stepB g s) := by
  have J : ∀ x5 : Bool, x5 = (s.f2.isEmpty && s.f3.isEmpty) → Ev (fun k => impl_GenStep_ok.j0 k d x5 s.f0 s.f1 s.f2 s.f3) (stepB g s) := by
    intro x5 hx
    have F : ∀ x26 : Bool, x26 = decide (s.f0 = 2 ∨ s.f0 = 3) → s.f0 ≠ 1 → Ev (fun k => impl_GenStep_ok.j1 k d x5 s.f0 x26 s.f0 s.f1 s.f2 s.f3) (stepB g s) := by
      intro x26 h26 h1
      unfold stepB
      rw [if_neg h1]
      refine ev_succ ?_
      simp only [impl_GenStep_ok.j1]
      by_cases h23 : s.f0 = 2 ∨ s.f0 = 3
      · rw [if_pos h23]
        refine ev_pos (by rw [h26]; exact decide_eq_true h23) ?_
        by_cases hn : s.f1 = 0
        · rw [decide_eq_true hn, Bool.true_and]
          refine ev_pos hn (Ev.bind h2 ?_)
          cases hg : g s.f2 with
          | true => exact ev_pos rfl (Ev.bind h3 (ev_some (by simp)))
          | false => exact ev_neg (by simp) (ev_some rfl)
        · rw [decide_eq_false hn]
          exact ev_neg hn (ev_some rfl)
      · rw [if_neg h23]
        refine ev_neg (by rw [h26, decide_eq_false h23]; simp) ?_
        by_cases h4 : s.f0 = 4
        · rw [if_pos h4]
          refine ev_pos h4 ?_
          by_cases he : (s.f3.length : Int) = 0
          · rw [isEmpty_len, decide_eq_true he, Bool.true_and]
            refine ev_pos he (ev_bind1 (within_is _ _ _) ?_)
            by_cases hr : 0 ≤ s.f1 ∧ s.f1 ≤ 6
            · rw [decide_eq_true hr, Bool.true_and]
              exact ev_pos rfl (Ev.bind h2 (ev_some rfl))
            · rw [decide_eq_false hr]
              exact ev_neg (by simp) (ev_some rfl)
          · rw [isEmpty_len, decide_eq_false he]
            exact ev_neg he (ev_some rfl)
        · rw [if_neg h4]
          refine ev_neg h4 ?_
          by_cases h5 : s.f0 = 5
          · simp only [if_pos h5]
            cases x5 with
            | true =>
              rw [← hx, Bool.true_and]
              exact ev_pos rfl (ev_bind1 (within_is _ _ _) (ev_some rfl))
            | false =>
              rw [← hx]
              exact ev_neg (by simp) (ev_some rfl)
          · simp only [if_neg h5]
            exact ev_some rfl
    refine ev_succ ?_
    simp only [impl_GenStep_ok.j0]
    by_cases h1 : s.f0 = 1
    · unfold stepB
      rw [if_pos h1]
      refine ev_pos h1 ?_
      cases x5 with
      | true =>
        rw [← hx, Bool.true_and]
        exact ev_pos rfl (ev_bind1 (within_is _ _ _) (ev_some rfl))
      | false =>
        rw [← hx]
        exact ev_neg (by simp) (ev_some rfl)
    · refine ev_neg h1 ?_
      by_cases h2' : s.f0 = 2
      · refine ev_pos h2' (F _ ?_ h1)
        rw [h2']; simp
      · refine ev_neg h2' (F _ ?_ h1)
        rw [Bool.eq_iff_iff]
        simp [h2']
  unfold impl_GenStep_ok.f
  by_cases h : (s.f2.length : Int) = 0
  · refine ev_pos h (J _ ?_)
    rw [isEmpty_len, isEmpty_len, decide_eq_true h, Bool.true_and, Bool.eq_iff_iff]
    simp
  · refine ev_neg h (J _ ?_)
    rw [isEmpty_len, decide_eq_false h, Bool.false_and]
theorem genOk_from (m : Nat) (d : Int) (l : List S61) (hd : -1000000 ≤ d ∧ d ≤ 1000000) (hl : l.length ≤ 1048576)
    (ih : ∀ s ∈ l, Ev (fun k => impl_genOk.f k s.f2 (d + 1)) (genB m s.f2) ∧ Ev (fun k => impl_genOk.f k s.f3 (d + 1)) (genB m s.f3)) (e : Nat) : ∀ i : Nat, i + e = l.length →
    Ev (fun k => impl_genOk.l0 k d l (l.length : Int) (i : Int)) ((l.drop i).all (stepB (genB m))) := by
  induction e with
  | zero =>
    intro i hi
    refine ev_succ ?_
    simp only [impl_genOk.l0]
    refine ev_neg (by omega) (ev_some ?_)
    rw [List.drop_of_length_le (by omega)]; rfl
  | succ e ihe =>
    intro i hi
    have hlt : i < l.length := by omega
    obtain ⟨a, b⟩ := ih _ (List.getElem_mem hlt)
    have O := ok_ev (genB m) (d + 1) l[i] a b
    refine ev_succ ?_
    simp only [impl_genOk.l0]
    rw [rd_T61_at l i hlt, next_i i (by omega), w64 (n := d + 1) (by omega) (by omega), List.drop_eq_getElem_cons hlt, List.all_cons]
    refine ev_pos (by omega) (ev_pos (by omega) (ev_pos (by omega) (Ev.bind O ?_)))
    cases stepB (genB m) l[i] with
    | true =>
      rw [Bool.true_and]
      exact ev_pos rfl (ihe (i + 1) (by omega))
    | false => exact ev_neg (by simp) (ev_some rfl)
theorem genOk_ev : ∀ (m : Nat) (l : List S61), m ≤ 4 → Bd m l → Ev (fun k => impl_genOk.f k l (4 - (m : Int))) (genB m l) := by
  intro m
  induction m with
  | zero =>
    intro l _ hb
    have hl := bd_len hb
    unfold impl_genOk.f
    have no : Ev (fun k => impl_genOk.j0 k l (4 - ((0 : Nat) : Int)) true) false := by
      refine ev_succ ?_
      simp only [impl_genOk.j0]
      exact ev_pos trivial (ev_some rfl)
    by_cases h6 : (l.length : Int) > 6
    · refine ev_pos h6 (ev_eq no ?_)
      show false = l.isEmpty
      rw [isEmpty_len, decide_eq_false (by omega)]
    · refine ev_neg h6 ?_
      by_cases h0 : (l.length : Int) > 0
      · refine ev_pos h0 ?_
        rw [show decide ((4 - ((0 : Nat) : Int)) ≥ 4) = true from rfl]
        refine ev_eq no ?_
        show false = l.isEmpty
        rw [isEmpty_len, decide_eq_false (by omega)]
      · have e := len_zero (l := l) (by omega)
        subst e
        refine ev_neg h0 (ev_succ ?_)
        simp only [impl_genOk.j0]
        refine ev_neg (by simp) (ev_succ ?_)
        simp only [impl_genOk.l0]
        exact ev_neg (by simp) (ev_some rfl)
  | succ m ih =>
    intro l hm hb
    have hl := bd_len hb
    have no : Ev (fun k => impl_genOk.j0 k l (4 - ((m + 1 : Nat) : Int)) true) false := by
      refine ev_succ ?_
      simp only [impl_genOk.j0]
      exact ev_pos trivial (ev_some rfl)
    have L := genOk_from m (4 - ((m + 1 : Nat) : Int)) l (by omega) hl (fun s hs => by
      have := hb.2 s hs
      rw [show 4 - ((m + 1 : Nat) : Int) + 1 = 4 - (m : Int) by omega]
      exact ⟨ih _ (by omega) this.1, ih _ (by omega) this.2⟩) l.length 0 (by omega)
    rw [List.drop_zero] at L
    have yes : l.length ≤ 6 → Ev (fun k => impl_genOk.j0 k l (4 - ((m + 1 : Nat) : Int)) false) (genB (m + 1) l) := by
      intro h6
      refine ev_succ ?_
      simp only [impl_genOk.j0]
      refine ev_neg (by simp) (ev_eq L ?_)
      rw [genB, decide_eq_true h6, Bool.true_and]
    unfold impl_genOk.f
    by_cases h6 : (l.length : Int) > 6
    · refine ev_pos h6 (ev_eq no ?_)
      rw [genB, decide_eq_false (by omega), Bool.false_and]
    · refine ev_neg h6 ?_
      by_cases h0 : (l.length : Int) > 0
      · refine ev_pos h0 ?_
        rw [show decide ((4 - ((m + 1 : Nat) : Int)) ≥ 4) = false from decide_eq_false (by omega)]
        exact yes (by omega)
      · exact ev_neg h0 (yes (by omega))
/-! The reference. -/
def tailB (g : List S61 → Bool) (lo hi : Int) (f1 : Int) (f2 f3 : List S61) (R : Bool) : Bool := decide (lo ≤ f1 ∧ f1 ≤ hi) && (g f2 && (g f3 && R))
def stepS (g : List S61 → Bool) (s : S61) (R : Bool) : Bool :=
  if (1 ≤ s.f0 ∧ s.f0 ≤ 5) ∧ ((s.f0 = 2 ∨ s.f0 = 3 ∨ s.f0 = 4) ∨ s.f2 = []) ∧ (if s.f0 = 2 ∨ s.f0 = 3 then s.f1 = 0 else s.f3 = []) then
    tailB g (if s.f0 = 1 then -1 else 0) (if s.f0 = 4 then 6 else 1000000) s.f1 s.f2 s.f3 R
  else false
theorem stepS_eq (g : List S61 → Bool) (hg : g [] = true) (s : S61) (R : Bool) : stepS g s R = (stepB g s && R) := by
  obtain ⟨f0, f1, f2, f3⟩ := s
  unfold stepS stepB tailB
  dsimp only
  by_cases h1 : f0 = 1
  · subst h1
    simp only [if_pos rfl, if_neg (show ¬ ((1 : Int) = 2 ∨ (1 : Int) = 3) by omega), if_neg (show ¬ (1 : Int) = 4 by omega)]
    by_cases e2 : f2 = []
    · subst e2
      by_cases e3 : f3 = []
      · subst e3; simp [hg]
      · simp [e3]
    · simp [e2]
  · by_cases h23 : f0 = 2 ∨ f0 = 3
    · simp only [if_neg h1, if_pos h23, if_neg (show ¬ f0 = 4 by omega)]
      by_cases hz : f1 = 0
      · subst hz
        rw [if_pos ⟨by omega, .inl (by omega), rfl⟩]
        simp [Bool.and_assoc]
      · rw [if_neg (fun h => hz h.2.2), decide_eq_false hz]; rfl
    · simp only [if_neg h1, if_neg h23]
      by_cases h4 : f0 = 4
      · subst h4
        by_cases e3 : f3 = []
        · subst e3
          rw [if_pos ⟨by omega, .inl (by omega), rfl⟩, if_pos rfl, if_pos rfl]
          simp [hg, Bool.and_assoc]
        · rw [if_neg (fun h => e3 h.2.2), if_pos rfl]
          simp [e3]
      · rw [if_neg h4, if_neg h4]
        by_cases h5 : f0 = 5
        · subst h5
          rw [if_pos rfl]
          by_cases e2 : f2 = []
          · subst e2
            by_cases e3 : f3 = []
            · subst e3
              rw [if_pos ⟨by omega, .inr rfl, rfl⟩]
              simp [hg]
            · rw [if_neg (fun h => e3 h.2.2)]
              simp [e3]
          · rw [if_neg (fun h => h.2.1.elim (by omega) e2)]
            simp [e2]
        · rw [if_neg (by omega), if_neg h5]; rfl
theorem valid_step (g : List S61 → Bool) (d : Int) (l : List S61) (i : Nat) (hd : -1000000 ≤ d ∧ d ≤ 1000000) (hl : l.length ≤ 1048576) (hi : i < l.length) (R : Bool)
    (h2 : Ev (fun k => spec_validSteps.f k l[i].f2 (d - 1)) (g l[i].f2)) (h3 : Ev (fun k => spec_validSteps.f k l[i].f3 (d - 1)) (g l[i].f3)) (K : Ev (fun k => spec_validSteps.l0 k l d ((i + 1 : Nat) : Int)) R) :
    Ev (fun k => spec_validSteps.l0 k l d (i : Int)) (stepS g l[i] R) := by
  generalize hs : l[i] = s at *
  have T : ∀ lo hi : Int, Ev (fun k => spec_validSteps.j6 k l d (i : Int) lo hi s.f0 s.f1 s.f2 s.f3) (tailB g lo hi s.f1 s.f2 s.f3 R) := by
    intro lo hi
    refine ev_succ ?_
    simp only [spec_validSteps.j6]
    rw [w64 (n := d - 1) (by omega) (by omega), next_i i (by omega)]
    unfold tailB
    refine ev_bind1 (inRange_is _ _ _) ?_
    by_cases hr : lo ≤ s.f1 ∧ s.f1 ≤ hi
    · rw [decide_eq_true hr, Bool.true_and]
      refine ev_pos rfl (Ev.bind h2 ?_)
      cases g s.f2 with
      | true =>
        rw [Bool.true_and]
        refine ev_pos rfl (Ev.bind h3 ?_)
        cases g s.f3 with
        | true => rw [Bool.true_and]; exact ev_pos rfl K
        | false => exact ev_neg (by simp) (ev_some rfl)
      | false => exact ev_neg (by simp) (ev_some rfl)
    · rw [decide_eq_false hr]
      exact ev_neg (by simp) (ev_some rfl)
  have U : ∀ lo : Int, Ev (fun k => spec_validSteps.j5 k l d (i : Int) lo 1000000 s.f0 s.f1 s.f2 s.f3) (tailB g lo (if s.f0 = 4 then 6 else 1000000) s.f1 s.f2 s.f3 R) := by
    intro lo
    refine ev_succ ?_
    simp only [spec_validSteps.j5]
    by_cases h4 : s.f0 = 4
    · rw [if_pos h4]; exact ev_pos h4 (T _ _)
    · rw [if_neg h4]; exact ev_neg h4 (T _ _)
  have V : ∀ x : Bool, Ev (fun k => spec_validSteps.j4 k l d (i : Int) x s.f0 s.f1 s.f2 s.f3) (if x = true then false else tailB g (if s.f0 = 1 then -1 else 0) (if s.f0 = 4 then 6 else 1000000) s.f1 s.f2 s.f3 R) := by
    intro x
    refine ev_succ ?_
    simp only [spec_validSteps.j4]
    cases x with
    | true => exact ev_pos rfl (ev_some rfl)
    | false =>
      refine ev_neg (by simp) ?_
      rw [if_neg (by simp)]
      by_cases h1 : s.f0 = 1
      · rw [if_pos h1]; exact ev_pos h1 (U _)
      · rw [if_neg h1]; exact ev_neg h1 (U _)
  have X : ∀ x7 x8 : Bool, x7 = decide (s.f0 = 2 ∨ s.f0 = 3 ∨ s.f0 = 4) → x8 = decide (s.f0 = 2 ∨ s.f0 = 3) → Ev (fun k => spec_validSteps.j3 k l d (i : Int) x7 x8 s.f0 s.f1 s.f2 s.f3) (stepS g s R) := by
    intro x7 x8 h7 h8
    have no : ¬ ((1 ≤ s.f0 ∧ s.f0 ≤ 5) ∧ ((s.f0 = 2 ∨ s.f0 = 3 ∨ s.f0 = 4) ∨ s.f2 = []) ∧ (if s.f0 = 2 ∨ s.f0 = 3 then s.f1 = 0 else s.f3 = [])) → ∀ x : Bool, x = true → Ev (fun k => spec_validSteps.j4 k l d (i : Int) x s.f0 s.f1 s.f2 s.f3) (stepS g s R) := by
      intro hn x hx
      refine ev_eq (V x) ?_
      rw [if_pos hx, stepS, if_neg hn]
    have yes : ((1 ≤ s.f0 ∧ s.f0 ≤ 5) ∧ ((s.f0 = 2 ∨ s.f0 = 3 ∨ s.f0 = 4) ∨ s.f2 = []) ∧ (if s.f0 = 2 ∨ s.f0 = 3 then s.f1 = 0 else s.f3 = [])) → ∀ x : Bool, x = false → Ev (fun k => spec_validSteps.j4 k l d (i : Int) x s.f0 s.f1 s.f2 s.f3) (stepS g s R) := by
      intro hy x hx
      refine ev_eq (V x) ?_
      rw [hx, if_neg (by simp), stepS, if_pos hy]
    -- what the last row or the number says
    have Y : (1 ≤ s.f0 ∧ s.f0 ≤ 5) → ((s.f0 = 2 ∨ s.f0 = 3 ∨ s.f0 = 4) ∨ s.f2 = []) → Ev (fun k => if x8 = true then (spec_validSteps.j4 k l d (i : Int) (s.f1 != 0) s.f0 s.f1 s.f2 s.f3) else (if (s.f3.length : Int) > 0 then (spec_validSteps.j4 k l d (i : Int) true s.f0 s.f1 s.f2 s.f3) else (spec_validSteps.j4 k l d (i : Int) false s.f0 s.f1 s.f2 s.f3))) (stepS g s R) := by
      intro hr hb
      by_cases h23 : s.f0 = 2 ∨ s.f0 = 3
      · refine ev_pos (by rw [h8]; exact decide_eq_true h23) ?_
        by_cases hz : s.f1 = 0
        · exact yes ⟨hr, hb, by rw [if_pos h23]; exact hz⟩ _ (by simp [hz])
        · exact no (fun h => hz (by have := h.2.2; rwa [if_pos h23] at this)) _ (by simp [hz])
      · refine ev_neg (by rw [h8, decide_eq_false h23]; simp) ?_
        by_cases he : (s.f3.length : Int) > 0
        · exact ev_pos he (no (fun h => by have := h.2.2; rw [if_neg h23] at this; rw [this] at he; simp at he) _ rfl)
        · exact ev_neg he (yes ⟨hr, hb, by rw [if_neg h23]; exact len_zero (by omega)⟩ _ rfl)
    refine ev_succ ?_
    simp only [spec_validSteps.j3]
    refine ev_bind1 (inRange_is _ _ _) ?_
    by_cases hr : 1 ≤ s.f0 ∧ s.f0 ≤ 5
    · rw [decide_eq_true hr]
      refine ev_pos rfl ?_
      by_cases hb : s.f0 = 2 ∨ s.f0 = 3 ∨ s.f0 = 4
      · exact ev_pos (by rw [h7]; exact decide_eq_true hb) (Y hr (.inl hb))
      · refine ev_neg (by rw [h7, decide_eq_false hb]; simp) ?_
        by_cases he : (s.f2.length : Int) > 0
        · exact ev_pos he (no (fun h => h.2.1.elim hb (fun e => by rw [e] at he; simp at he)) _ rfl)
        · exact ev_neg he (Y hr (.inr (len_zero (by omega))))
    · rw [decide_eq_false hr]
      exact ev_neg (by simp) (no (fun h => hr h.1) _ rfl)
  have Z : ∀ x7 : Bool, x7 = decide (s.f0 = 2 ∨ s.f0 = 3 ∨ s.f0 = 4) → Ev (fun k => spec_validSteps.j2 k l d (i : Int) x7 s.f0 s.f1 s.f2 s.f3) (stepS g s R) := by
    intro x7 h7
    refine ev_succ ?_
    simp only [spec_validSteps.j2]
    by_cases h2' : s.f0 = 2
    · exact ev_pos h2' (X _ _ h7 (by simp [h2']))
    · refine ev_neg h2' (X _ _ h7 ?_)
      rw [Bool.eq_iff_iff]
      simp [h2']
  refine ev_succ ?_
  simp only [spec_validSteps.l0]
  rw [rd_T61_at l i hi, hs]
  refine ev_pos (by omega) (ev_pos (by omega) ?_)
  by_cases h2' : s.f0 = 2
  · exact ev_pos h2' (Z _ (by simp [h2']))
  · refine ev_neg h2' ?_
    by_cases h3' : s.f0 = 3
    · exact ev_pos h3' (Z _ (by simp [h3']))
    · refine ev_neg h3' (Z _ ?_)
      rw [Bool.eq_iff_iff]
      simp [h2', h3']
theorem validSteps_from (m : Nat) (d : Int) (l : List S61) (hd : -1000000 ≤ d ∧ d ≤ 1000000) (hl : l.length ≤ 1048576)
    (ih : ∀ s ∈ l, Ev (fun k => spec_validSteps.f k s.f2 (d - 1)) (genB m s.f2) ∧ Ev (fun k => spec_validSteps.f k s.f3 (d - 1)) (genB m s.f3)) (e : Nat) : ∀ i : Nat, i + e = l.length →
    Ev (fun k => spec_validSteps.l0 k l d (i : Int)) ((l.drop i).all (stepB (genB m)) && decide ((l.length : Int) ≤ 6)) := by
  induction e with
  | zero =>
    intro i hi
    refine ev_succ ?_
    simp only [spec_validSteps.l0]
    refine ev_neg (by omega) (ev_some ?_)
    rw [List.drop_of_length_le (by omega)]; simp
  | succ e ihe =>
    intro i hi
    have hlt : i < l.length := by omega
    obtain ⟨a, b⟩ := ih _ (List.getElem_mem hlt)
    refine ev_eq (valid_step (genB m) d l i hd hl hlt _ a b (ihe (i + 1) (by omega))) ?_
    rw [stepS_eq _ (genB_nil m), List.drop_eq_getElem_cons hlt, List.all_cons, Bool.and_assoc]
theorem validSteps_ev : ∀ (m : Nat) (l : List S61), m ≤ 4 → Bd m l → Ev (fun k => spec_validSteps.f k l (m : Int)) (genB m l) := by
  intro m
  induction m with
  | zero =>
    intro l _ hb
    refine ev_succ ?_
    simp only [spec_validSteps.f]
    refine ev_pos (by omega) (ev_succ ?_)
    simp only [spec_validSteps.j0]
    by_cases h0 : (l.length : Int) > 0
    · rw [decide_eq_true h0]
      refine ev_pos rfl (ev_some ?_)
      show some false = some l.isEmpty
      rw [isEmpty_len, decide_eq_false (by omega)]
    · have e := len_zero (l := l) (by omega)
      subst e
      refine ev_neg (by simp) (ev_succ ?_)
      simp only [spec_validSteps.l0]
      exact ev_neg (by simp) (ev_some rfl)
  | succ m ih =>
    intro l hm hb
    have hl := bd_len hb
    have L := validSteps_from m ((m + 1 : Nat) : Int) l (by omega) hl (fun s hs => by
      have := hb.2 s hs
      rw [show ((m + 1 : Nat) : Int) - 1 = (m : Int) by omega]
      exact ⟨ih _ (by omega) this.1, ih _ (by omega) this.2⟩) l.length 0 (by omega)
    rw [List.drop_zero] at L
    refine ev_succ ?_
    simp only [spec_validSteps.f]
    refine ev_neg (by omega) (ev_succ ?_)
    simp only [spec_validSteps.j0]
    refine ev_neg (by simp) (ev_eq L ?_)
    rw [genB, Bool.and_comm]
    congr 1
    rw [decide_eq_decide]
    omega

/-! ### Steps that are drawn -/
def costW : Nat → Int
  | 0 => 0
  | d + 1 => 28 + 6 * costW d
theorem costW_bd : ∀ d : Nat, d ≤ 5 → 0 ≤ costW d ∧ costW d ≤ 50000
  | 0, _ => by decide
  | 1, _ => by decide
  | 2, _ => by decide
  | 3, _ => by decide
  | 4, _ => by decide
  | 5, _ => by decide
  | _ + 6, h => by omega
/-- A row of steps that may be drawn. -/
def Dn (l : List S61) : Prop := l.length ≤ 3 ∧ ∀ m, Bd m l
theorem dn_nil : Dn [] := ⟨by simp, bd_nil⟩
section
variable {code : List Int} (hl : code.length ≤ 4000) (hb : ∀ x ∈ code, (Lit.int .u8 x).wf = true)
include hl hb
theorem gen_j4 (d n : Nat) (c : Int) (x5 : List S61) (p a b : Int) (y z : List S61) (hx : x5.length + 1 ≤ 3) (hB : ∀ m, Bd m x5) (hy : Dn y) (hz : Dn z) (p0 : 0 ≤ p) (p1 : p + 4 + c ≤ 800000) (hn : n ≤ 3)
    (K : ∀ (x5' : List S61) (p' : Int), x5'.length = x5.length + 1 → (∀ m, Bd m x5') → 0 ≤ p' → p' + c ≤ 800000 → ∃ f q, Ev (fun k => spec_rnd_steps.l0 k (d : Int) x5' (n : Int) code p') (f, q) ∧ Dn f ∧ p' ≤ q ∧ q ≤ p' + c) (c0 : 0 ≤ c) :
    ∃ f q, Ev (fun k => spec_rnd_steps.j4 k (d : Int) x5 ((n + 1 : Nat) : Int) code p a b y z) (f, q) ∧ Dn f ∧ p ≤ q ∧ q ≤ p + 4 + c := by
  have e : wrap64 (((n + 1 : Nat) : Int) - 1) = (n : Int) := by rw [w64 (by omega) (by omega)]; omega
  obtain ⟨v, q, ev, _, _, q0, q1⟩ := pick_ok hl hb p0 (by omega) 30
  by_cases hv : v = 0
  · obtain ⟨v2, q2, ev2, v20, v21, q20, q21⟩ := pick_ok hl hb (p := q) (by omega) (by omega) 7
    obtain ⟨v3, q3, ev3, _, q30, q31⟩ := often_ok hl hb (p := q2) (by omega) (by omega) v2 (by omega)
    obtain ⟨f, r, F, D, r0, r1⟩ := K (x5 ++ [⟨v3, b, y, z⟩]) q3 (by simp) (bd_push (by omega) hB hy.2 hz.2) (by omega) (by omega)
    refine ⟨f, r, ev_succ ?_, D, by omega, by omega⟩
    simp only [spec_rnd_steps.j4]
    rw [e]
    exact ev_bind1 ev (ev_pos hv (ev_bind1 ev2 (ev_bind1 ev3 (ev_pos (by omega) F))))
  · obtain ⟨f, r, F, D, r0, r1⟩ := K (x5 ++ [⟨a, b, y, z⟩]) q (by simp) (bd_push (by omega) hB hy.2 hz.2) (by omega) (by omega)
    refine ⟨f, r, ev_succ ?_, D, by omega, by omega⟩
    simp only [spec_rnd_steps.j4]
    rw [e]
    exact ev_bind1 ev (ev_neg hv (ev_pos (by omega) F))
theorem gen_loop (d : Nat) (hd1 : 1 ≤ d) (hd : d ≤ 5) (S : 1 < d → ∀ p : Int, 0 ≤ p → p + costW (d - 1) ≤ 800000 → ∃ f q, Ev (fun k => spec_rnd_steps.f k code p ((d - 1 : Nat) : Int)) (f, q) ∧ Dn f ∧ p ≤ q ∧ q ≤ p + costW (d - 1)) :
    ∀ (n : Nat) (x5 : List S61) (p : Int), n ≤ 3 → x5.length + n ≤ 3 → (∀ m, Bd m x5) → 0 ≤ p → p + n * (9 + 2 * costW (d - 1)) ≤ 800000 → ∃ f q, Ev (fun k => spec_rnd_steps.l0 k (d : Int) x5 (n : Int) code p) (f, q) ∧ Dn f ∧ p ≤ q ∧ q ≤ p + n * (9 + 2 * costW (d - 1)) := by
  have hW := costW_bd (d - 1) (by omega)
  have hw : wrap64 ((d : Int) - 1) = ((d - 1 : Nat) : Int) := by rw [w64 (by omega) (by omega)]; omega
  generalize hC : costW (d - 1) = W at *
  intro n
  induction n with
  | zero =>
    intro x5 p _ hx hB p0 p1
    refine ⟨x5, p, ev_succ ?_, ⟨by omega, hB⟩, by omega, by omega⟩
    simp only [spec_rnd_steps.l0]
    exact ev_neg (by omega) (ev_some rfl)
  | succ n ih =>
    intro x5 p hn hx hB p0 p1
    have hmul : ((n + 1 : Nat) : Int) * (9 + 2 * W) = n * (9 + 2 * W) + (9 + 2 * W) := by
      rw [show ((n + 1 : Nat) : Int) = (n : Int) + 1 by omega, Int.add_mul, Int.one_mul]
    have hc0 : 0 ≤ (n : Int) * (9 + 2 * W) := Int.mul_nonneg (by omega) (by omega)
    rw [hmul] at p1 ⊢
    generalize hc : (n : Int) * (9 + 2 * W) = c at *
    have K : ∀ (x5' : List S61) (p' : Int), x5'.length = x5.length + 1 → (∀ m, Bd m x5') → 0 ≤ p' → p' + c ≤ 800000 → ∃ f q, Ev (fun k => spec_rnd_steps.l0 k (d : Int) x5' (n : Int) code p') (f, q) ∧ Dn f ∧ p' ≤ q ∧ q ≤ p' + c :=
      fun x5' p' h1 h2 h3 h4 => ih x5' p' (by omega) (by omega) h2 h3 h4
    -- the end of a step
    have E : ∀ (p a b : Int) (y z : List S61), Dn y → Dn z → 0 ≤ p → p + 4 + c ≤ 800000 → ∃ f q, Ev (fun k => spec_rnd_steps.j4 k (d : Int) x5 ((n + 1 : Nat) : Int) code p a b y z) (f, q) ∧ Dn f ∧ p ≤ q ∧ q ≤ p + 4 + c :=
      fun p a b y z hy hz h0 h1 => gen_j4 hl hb d n c x5 p a b y z (by omega) hB hy hz h0 h1 (by omega) K hc0
    have J3 : ∀ (x8 : Int) (x : Bool) (p a b : Int), (x = true → 1 < d) → 0 ≤ p → p + 5 + 2 * W + c ≤ 800000 → ∃ f q, Ev (fun k => spec_rnd_steps.j3 k (d : Int) x5 ((n + 1 : Nat) : Int) x8 x code p a b) (f, q) ∧ Dn f ∧ p ≤ q ∧ q ≤ p + 5 + 2 * W + c := by
      intro x8 x p a b hx h0 h1
      cases x with
      | true =>
        obtain ⟨v, q, e, _, _, q0, q1⟩ := pick_ok hl hb h0 (by omega) 4
        obtain ⟨f, q2, F, D, r0, r1⟩ := S (hx rfl) q (by omega) (by omega)
        obtain ⟨g, q3, G, D2, s0, s1⟩ := E q2 4 v f [] D dn_nil (by omega) (by omega)
        refine ⟨g, q3, ev_succ ?_, D2, by omega, by omega⟩
        simp only [spec_rnd_steps.j3]
        rw [hw]
        exact ev_pos trivial (ev_bind1 e (Ev.bind F G))
      | false =>
        by_cases h4 : x8 = 4
        · obtain ⟨v, q, e, _, _, q0, q1⟩ := pick_ok hl hb h0 (by omega) 5
          obtain ⟨g, q3, G, D2, s0, s1⟩ := E q 5 v [] [] dn_nil dn_nil (by omega) (by omega)
          refine ⟨g, q3, ev_succ ?_, D2, by omega, by omega⟩
          simp only [spec_rnd_steps.j3]
          exact ev_neg (by simp) (ev_pos h4 (ev_bind1 e G))
        · obtain ⟨g, q3, G, D2, s0, s1⟩ := E p a b [] [] dn_nil dn_nil (by omega) (by omega)
          refine ⟨g, q3, ev_succ ?_, D2, by omega, by omega⟩
          simp only [spec_rnd_steps.j3]
          exact ev_neg (by simp) (ev_neg h4 G)
    have two : ∀ (p a : Int), 1 < d → 0 ≤ p → p + 5 + 2 * W + c ≤ 800000 → ∃ f q g q2 h q3, Ev (fun k => spec_rnd_steps.f k code p ((d - 1 : Nat) : Int)) (f, q) ∧ Ev (fun k => spec_rnd_steps.f k code q ((d - 1 : Nat) : Int)) (g, q2) ∧ Ev (fun k => spec_rnd_steps.j4 k (d : Int) x5 ((n + 1 : Nat) : Int) code q2 a 0 f g) (h, q3) ∧ Dn h ∧ p ≤ q3 ∧ q3 ≤ p + 5 + 2 * W + c := by
      intro p a h1 h0 hp
      obtain ⟨f, q, F, D, r0, r1⟩ := S h1 p h0 (by omega)
      obtain ⟨g, q2, G, D2, s0, s1⟩ := S h1 q (by omega) (by omega)
      obtain ⟨h, q3, H, D3, t0, t1⟩ := E q2 a 0 f g D D2 (by omega) (by omega)
      exact ⟨f, q, g, q2, h, q3, F, G, H, D3, by omega, by omega⟩
    have J2 : ∀ (x8 : Int) (x : Bool) (p a b : Int), (x = true → 1 < d) → 0 ≤ p → p + 5 + 2 * W + c ≤ 800000 → ∃ f q, Ev (fun k => spec_rnd_steps.j2 k (d : Int) x5 ((n + 1 : Nat) : Int) x8 x code p a b) (f, q) ∧ Dn f ∧ p ≤ q ∧ q ≤ p + 5 + 2 * W + c := by
      intro x8 x p a b hx h0 h1
      cases x with
      | true =>
        obtain ⟨f, q, g, q2, h, q3, F, G, H, D3, t0, t1⟩ := two p 3 (hx rfl) h0 h1
        refine ⟨h, q3, ev_succ ?_, D3, t0, t1⟩
        simp only [spec_rnd_steps.j2]
        rw [hw]
        exact ev_pos trivial (Ev.bind F (Ev.bind G H))
      | false =>
        by_cases hd2 : (d : Int) > 1
        · obtain ⟨g, q3, G, D2, s0, s1⟩ := J3 x8 (x8 == 3) p a b (fun _ => by omega) h0 h1
          refine ⟨g, q3, ev_succ ?_, D2, s0, s1⟩
          simp only [spec_rnd_steps.j2]
          exact ev_neg (by simp) (ev_pos hd2 G)
        · obtain ⟨g, q3, G, D2, s0, s1⟩ := J3 x8 false p a b (fun h => by cases h) h0 h1
          refine ⟨g, q3, ev_succ ?_, D2, s0, s1⟩
          simp only [spec_rnd_steps.j2]
          exact ev_neg (by simp) (ev_neg hd2 G)
    have J1 : ∀ (x8 : Int) (x : Bool) (p a b : Int), (x = true → 1 < d) → 0 ≤ p → p + 5 + 2 * W + c ≤ 800000 → ∃ f q, Ev (fun k => spec_rnd_steps.j1 k (d : Int) x5 ((n + 1 : Nat) : Int) x8 x code p a b) (f, q) ∧ Dn f ∧ p ≤ q ∧ q ≤ p + 5 + 2 * W + c := by
      intro x8 x p a b hx h0 h1
      cases x with
      | true =>
        obtain ⟨f, q, g, q2, h, q3, F, G, H, D3, t0, t1⟩ := two p 2 (hx rfl) h0 h1
        refine ⟨h, q3, ev_succ ?_, D3, t0, t1⟩
        simp only [spec_rnd_steps.j1]
        rw [hw]
        exact ev_pos trivial (Ev.bind F (Ev.bind G H))
      | false =>
        by_cases hd2 : (d : Int) > 1
        · obtain ⟨g, q3, G, D2, s0, s1⟩ := J2 x8 (decide (x8 < 3)) p a b (fun _ => by omega) h0 h1
          refine ⟨g, q3, ev_succ ?_, D2, s0, s1⟩
          simp only [spec_rnd_steps.j1]
          exact ev_neg (by simp) (ev_pos hd2 G)
        · obtain ⟨g, q3, G, D2, s0, s1⟩ := J2 x8 false p a b (fun h => by cases h) h0 h1
          refine ⟨g, q3, ev_succ ?_, D2, s0, s1⟩
          simp only [spec_rnd_steps.j1]
          exact ev_neg (by simp) (ev_neg hd2 G)
    obtain ⟨v1, q1, e1, _, a0, a1⟩ := often_ok hl hb p0 (by omega) 4 (by omega)
    obtain ⟨v2, q2, e2, _, b0, b1⟩ := one_ok hl hb (p := q1) (by omega) (by omega) [(-1), (-1), 1, 2, 3, v1] (by simp)
    obtain ⟨v3, q3, e3, _, _, d0, d1⟩ := pick_ok hl hb (p := q2) (by omega) (by omega) 8
    by_cases hd2 : (d : Int) > 1
    · obtain ⟨g, q4, G, D2, s0, s1⟩ := J1 v3 (v3 == 0) q3 1 v2 (fun _ => by omega) (by omega) (by omega)
      refine ⟨g, q4, ev_succ ?_, D2, by omega, by omega⟩
      simp only [spec_rnd_steps.l0]
      exact ev_pos (by omega) (ev_bind1 e1 (ev_bind1 e2 (ev_bind1 e3 (ev_pos hd2 G))))
    · obtain ⟨g, q4, G, D2, s0, s1⟩ := J1 v3 false q3 1 v2 (fun h => by cases h) (by omega) (by omega)
      refine ⟨g, q4, ev_succ ?_, D2, by omega, by omega⟩
      simp only [spec_rnd_steps.l0]
      exact ev_pos (by omega) (ev_bind1 e1 (ev_bind1 e2 (ev_bind1 e3 (ev_neg hd2 G))))
theorem gen_steps : ∀ (d : Nat), 1 ≤ d → d ≤ 5 → ∀ p : Int, 0 ≤ p → p + costW d ≤ 800000 → ∃ f q, Ev (fun k => spec_rnd_steps.f k code p (d : Int)) (f, q) ∧ Dn f ∧ p ≤ q ∧ q ≤ p + costW d := by
  intro d
  induction d with
  | zero => intro h; omega
  | succ d ih =>
    intro _ hd p p0 p1
    have hW := costW_bd d (by omega)
    have hc : costW (d + 1) = 28 + 6 * costW d := rfl
    rw [hc] at p1 ⊢
    obtain ⟨v, q, e, v0, v1, q0, q1⟩ := pick_ok hl hb p0 (by omega) 4
    obtain ⟨n, rfl⟩ := Int.eq_ofNat_of_zero_le v0
    have hn : n ≤ 3 := by omega
    have hm : (n : Int) * (9 + 2 * costW d) ≤ 3 * (9 + 2 * costW d) := Int.mul_le_mul_of_nonneg_right (by omega) (by omega)
    obtain ⟨f, q2, F, D, r0, r1⟩ := gen_loop hl hb (d + 1) (by omega) hd (fun h1 p' h2 h3 => ih (by omega) (by omega) p' h2 h3) n [] q hn (by simpa using hn) bd_nil (by omega) (by rw [Nat.add_sub_cancel]; omega)
    rw [Nat.add_sub_cancel] at r1
    refine ⟨f, q2, ev_succ ?_, D, by omega, by omega⟩
    simp only [spec_rnd_steps.f]
    exact ev_bind1 e F
end
theorem draw_gen {l : List Int} (hl : l.length ≤ 1048576) (hb : ∀ x ∈ l, (Lit.int .u8 x).wf = true) : ∃ f, Ev (fun k => spec_DrawGenOk.f k l) f ∧ Dn f := by
  obtain ⟨code, e, hc, hbc⟩ := newRnd_ok (l := l) hl hb
  obtain ⟨v, q, e1, hv, q0, q1⟩ := one_ok hc hbc (p := 0) (by omega) (by omega) [1, 2, 3, 4, 5] (by simp)
  have hv' : 1 ≤ v ∧ v ≤ 5 := by
    simp only [List.mem_cons, List.not_mem_nil, or_false] at hv
    omega
  obtain ⟨d, rfl⟩ := Int.eq_ofNat_of_zero_le (show 0 ≤ v by omega)
  have hW := costW_bd d (by omega)
  obtain ⟨f, q2, F, D, _, _⟩ := gen_steps hc hbc d (by omega) (by omega) q (by omega) (by omega)
  refine ⟨f, ?_, D⟩
  unfold spec_DrawGenOk.f
  exact ev_bind1 e (ev_bind1 e1 (Ev.bind F (ev_some rfl)))
theorem FnGenOk : laws_FnGenOk.Pure := by
  intro l hm _ hb
  refine Ev.rounds ?_
  unfold laws_FnGenOk.f
  by_cases hl : (l.length : Int) > 1048576
  · exact ev_pos hl (ev_some rfl)
  refine ev_neg hl ?_
  obtain ⟨f, D, hf, hB⟩ := draw_gen (l := l) (by omega) hb
  have I : ∀ x : List S61, Bd 4 x → Ev (fun k => impl_GenOk.f k x) (genB 4 x) := by
    intro x hx
    unfold impl_GenOk.f
    exact Ev.bind (genOk_ev 4 x (Nat.le_refl _) hx) (ev_some rfl)
  have S : Ev (fun k => spec_GenOk.f k f) (genB 4 f) := by
    unfold spec_GenOk.f
    exact Ev.bind (validSteps_ev 4 f (Nat.le_refl _) (hB 4)) (ev_some rfl)
  refine Ev.bind D (Ev.bind (I f (hB 4)) (Ev.bind S (ev_pos (by simp) ?_)))
  cases hg : genB 4 f with
  | false => exact ev_neg (by simp) (ev_some rfl)
  | true =>
    refine ev_pos rfl ?_
    by_cases hz : (f.length : Int) = 0
    · exact ev_pos hz (ev_some rfl)
    · rw [w64 (n := (f.length : Int) - 1) (by omega) (by omega)]
      refine ev_neg hz (ev_pos (by omega) (ev_pos (by omega) (Ev.bind (I _ (bd_take (hB 4) _)) (ev_some ?_))))
      rw [genB, Bool.and_eq_true, List.all_eq_true] at hg
      congr 1
      rw [genB, Bool.and_eq_true, List.all_eq_true]
      exact ⟨decide_eq_true (Nat.le_trans (List.length_take_le' _ _) (of_decide_eq_true hg.1)), fun x hx => hg.2 x (List.mem_of_mem_take hx)⟩

end Go.Proofs.Ytpnamllkeaaeeaa.Pure
