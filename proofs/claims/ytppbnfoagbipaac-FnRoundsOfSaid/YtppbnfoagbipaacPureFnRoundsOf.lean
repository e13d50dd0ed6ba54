/- FnRoundsOf: for every code, fewer rounds of collections are the first ones. -/
import Derived.Test.YtppbnfoagbipaacXFnRoundsOfx4
namespace Go.Proofs.Ytppbnfoagbipaac.Pure
open Go.RowKit Go.Proofs.Ytppbnfoagbipaac.XFnRoundsOf Go.Proofs.YtppbnfoagbipaacW.PrintWords Go.Proofs.YtppbnfoagbipaacW.PrintLast Go.Proofs.YtppbnfoagbipaacW.PrintMore
set_option linter.unusedVariables false
set_option linter.unusedSimpArgs false

/-! ### Rounds, and words of 64 bits -/
theorem ev_succ {α : Type} {g : Nat → Option α} {r : α} (h : Ev (fun k => g (k + 1)) r) : Ev g r := Ev.step (fun _ => rfl) h
theorem ev_some {α : Type} {o : Option α} {r : α} (h : o = some r) : Ev (fun _ => o) r := ⟨0, fun _ _ => h⟩
theorem ev_pos {α : Type} {c : Prop} [Decidable c] {A B : Nat → Option α} {r : α} (h : c) (k : Ev A r) : Ev (fun n => if c then A n else B n) r :=
  Ev.congr (fun _ => if_pos h) k
theorem ev_neg {α : Type} {c : Prop} [Decidable c] {A B : Nat → Option α} {r : α} (h : ¬ c) (k : Ev B r) : Ev (fun n => if c then A n else B n) r :=
  Ev.congr (fun _ => if_neg h) k
theorem ev_eq {α : Type} {g : Nat → Option α} {r s : α} (h : Ev g r) (e : r = s) : Ev g s := e ▸ h
theorem ev_bind1 {α β : Type} {o : Option α} {f : Nat → α → Option β} {a : α} {r : β} (h : o = some a) (k : Ev (fun n => f n a) r) : Ev (fun n => o.bind (f n)) r :=
  Ev.bind (ev_some h) k
theorem ev_det {α : Type} {g : Nat → Option α} {r s : α} (h : Ev g r) (k : Ev g s) : r = s := by
  obtain ⟨K, h⟩ := h
  obtain ⟨L, k⟩ := k
  have h1 := h (max K L) (by omega)
  have h2 := k (max K L) (by omega)
  rw [h1] at h2
  exact Option.some.inj h2
theorem w64 {n : Int} (h : -9223372036854775808 ≤ n) (h' : n ≤ 9223372036854775807) : wrap64 n = n := by unfold wrap64; omega
theorem byte_of {l : List Int} (h : ∀ x ∈ l, (Lit.int .u8 x).wf = true) (i : Int) : 0 ≤ rd l i ∧ rd l i ≤ 255 := by
  unfold rd
  by_cases hi : i.toNat < l.length
  · have hm : l.getD i.toNat 0 ∈ l := by
      rw [List.getD_eq_getElem?_getD, List.getElem?_eq_getElem hi]
      exact List.getElem_mem hi
    have := h _ hm
    have m0 : IntKind.u8.min = 0 := by decide
    have m1 : IntKind.u8.max = 255 := by decide
    simp only [Lit.wf, m0, m1, Bool.and_eq_true, decide_eq_true_eq] at this
    exact this
  · rw [List.getD_eq_getElem?_getD, List.getElem?_eq_none (by omega)]
    simp

/-! ### Draws: what they pick, and that they never panic -/
theorem xor_ok (v u : Int) (h0 : 0 ≤ v) (h1 : v < 4611686018427387904) (u0 : 0 ≤ u) (u1 : u < 4611686018427387904) : 0 ≤ Go.bits .xor .i64 v u := by
  obtain ⟨a, rfl⟩ := Int.eq_ofNat_of_zero_le h0
  obtain ⟨b, rfl⟩ := Int.eq_ofNat_of_zero_le u0
  have ofInt : ∀ a : Nat, a < 9223372036854775808 → (BitVec.ofInt 64 (a : Int)).toNat = a := fun a ha => by
    rw [BitVec.ofInt_natCast, BitVec.toNat_ofNat]; exact Nat.mod_eq_of_lt (by omega)
  have hx : a ^^^ b < 2 ^ 63 := Nat.xor_lt_two_pow (by omega) (by omega)
  show 0 ≤ IntKind.i64.wrap ((BitVec.ofInt 64 (a : Int) ^^^ BitVec.ofInt 64 (b : Int)).toNat : Int)
  rw [BitVec.toNat_xor, ofInt a (by omega), ofInt b (by omega), IntKind.wrap_i64]
  omega

theorem pick_ok {code : List Int} (hl : code.length ≤ 4000) (hb : ∀ x ∈ code, (Lit.int .u8 x).wf = true) {p : Int} (h0 : 0 ≤ p) (h1 : p ≤ 1000000) (n : Int) :
    ∃ v q, spec_rnd_pick.f code p n = some (v, q) ∧ 0 ≤ v ∧ (v < n ∨ (n < 2 ∧ v = 0)) ∧ p ≤ q ∧ q ≤ p + 1 := by
  unfold spec_rnd_pick.f
  by_cases hn : n < 2
  · rw [if_pos hn]; exact ⟨0, p, rfl, by omega, .inr ⟨hn, rfl⟩, by omega, by omega⟩
  rw [if_neg hn]
  have hw : wrap64 (p + 1) = p + 1 := w64 (by omega) (by omega)
  have fin : ∀ v : Int, 0 ≤ v → ∃ v' q, (if n = 0 then none else some (Int.tmod v n, wrap64 (p + 1))) = some (v', q) ∧ 0 ≤ v' ∧ (v' < n ∨ (n < 2 ∧ v' = 0)) ∧ p ≤ q ∧ q ≤ p + 1 := by
    intro v hv
    rw [if_neg (by omega), hw, Int.tmod_eq_emod_of_nonneg hv]
    exact ⟨_, _, rfl, Int.emod_nonneg _ (by omega), .inl (Int.emod_lt_of_pos _ (by omega)), by omega, by omega⟩
  by_cases hc : (code.length : Int) > 0
  · rw [if_pos hc, if_neg (by omega)]
    have e1 : Int.tmod p (code.length : Int) = p % code.length := Int.tmod_eq_emod_of_nonneg h0
    have e2 : wrap64 (wrap64 (p * 7) + 3) = p * 7 + 3 := by rw [w64 (n := p * 7) (by omega) (by omega)]; exact w64 (by omega) (by omega)
    have e3 : Int.tmod (p * 7 + 3) (code.length : Int) = (p * 7 + 3) % code.length := Int.tmod_eq_emod_of_nonneg (by omega)
    have m0 := Int.emod_nonneg p (show (code.length : Int) ≠ 0 by omega)
    have m1 := Int.emod_lt_of_pos p hc
    have m2 := Int.emod_nonneg (p * 7 + 3) (show (code.length : Int) ≠ 0 by omega)
    have m3 := Int.emod_lt_of_pos (p * 7 + 3) hc
    have e4 : Int.tdiv p (code.length : Int) = p / code.length := Int.tdiv_eq_ediv_of_nonneg h0
    have d0 : 0 ≤ p / (code.length : Int) := Int.ediv_nonneg h0 (by omega)
    have d1 : p / (code.length : Int) ≤ p := Int.ediv_le_self _ h0
    rw [e1, if_pos m0, if_pos m1, e2, e3, if_pos m2, if_pos m3, e4]
    obtain ⟨a0, a1⟩ := byte_of hb (p % code.length)
    obtain ⟨b0, b1⟩ := byte_of hb ((p * 7 + 3) % code.length)
    generalize rd code (p % code.length) = a at a0 a1 ⊢
    generalize rd code ((p * 7 + 3) % code.length) = b at b0 b1 ⊢
    generalize p / (code.length : Int) = d at d0 d1 ⊢
    have w1 : wrap64 a = a := w64 (by omega) (by omega)
    have w2 : wrap64 b = b := w64 (by omega) (by omega)
    have w3 : wrap64 (a * 131) = a * 131 := w64 (by omega) (by omega)
    have w4 : wrap64 (b * 1117) = b * 1117 := w64 (by omega) (by omega)
    have w5 : wrap64 (p * 29) = p * 29 := w64 (by omega) (by omega)
    have w6 : wrap64 d = d := w64 (by omega) (by omega)
    have w7 : wrap64 (d * 53) = d * 53 := w64 (by omega) (by omega)
    have w8 : wrap64 (a * 131 + b * 1117) = a * 131 + b * 1117 := w64 (by omega) (by omega)
    have w9 : wrap64 (a * 131 + b * 1117 + p * 29) = a * 131 + b * 1117 + p * 29 := w64 (by omega) (by omega)
    have w10 : wrap64 (a * 131 + b * 1117 + p * 29 + d * 53) = a * 131 + b * 1117 + p * 29 + d * 53 := w64 (by omega) (by omega)
    rw [w1, w2, w3, w4, w5, w6, w7, w8, w9, w10]
    have big : 0 ≤ Go.bits .xor .i64 (a * 131 + b * 1117 + p * 29 + d * 53) (wrap64 (Int.tdiv (a * 131 + b * 1117 + p * 29 + d * 53) 64)) := by
      have t : Int.tdiv (a * 131 + b * 1117 + p * 29 + d * 53) 64 = (a * 131 + b * 1117 + p * 29 + d * 53) / 64 := Int.tdiv_eq_ediv_of_nonneg (by omega)
      rw [t, w64 (by omega) (by omega)]
      exact xor_ok _ _ (by omega) (by omega) (by omega) (by omega)
    by_cases h256 : n > 256
    · rw [if_pos h256]; exact fin _ big
    · rw [if_neg h256]
      by_cases hp : p ≥ (code.length : Int)
      · rw [if_pos hp]; exact fin _ big
      · rw [if_neg hp]; exact fin _ a0
  · rw [if_neg hc, if_neg (by omega), hw]
    exact ⟨_, _, rfl, by simp, .inl (by simp; omega), by omega, by omega⟩

theorem newRnd_ok {l : List Int} (hl : l.length ≤ 1048576) (hb : ∀ x ∈ l, (Lit.int .u8 x).wf = true) :
    ∃ code, spec_newRnd.f l = some (code, 0) ∧ code.length ≤ 4000 ∧ ∀ x ∈ code, (Lit.int .u8 x).wf = true := by
  unfold spec_newRnd.f
  have h : mn (l.length : Int) 4000 = min (l.length : Int) 4000 := by unfold mn; split <;> omega
  rw [h, if_pos (by omega), if_pos (by omega)]
  refine ⟨_, rfl, ?_, fun x hx => hb x (List.mem_of_mem_take hx)⟩
  rw [List.length_take]; omega

theorem one_ok {code : List Int} (hl : code.length ≤ 4000) (hb : ∀ x ∈ code, (Lit.int .u8 x).wf = true) {p : Int} (h0 : 0 ≤ p) (h1 : p ≤ 1000000) (list : List Int) (hn : list ≠ []) :
    ∃ v q, spec_rnd_one.f code p list = some (v, q) ∧ v ∈ list ∧ p ≤ q ∧ q ≤ p + 1 := by
  have hlen : 0 < list.length := List.length_pos_iff.2 hn
  obtain ⟨i, q, e, i0, i1, q0, q1⟩ := pick_ok hl hb h0 h1 (list.length : Int)
  unfold spec_rnd_one.f
  have hi : i < (list.length : Int) := by omega
  rw [e]
  simp only [Option.bind_some]
  rw [if_pos i0, if_pos hi]
  refine ⟨_, _, rfl, ?_, q0, q1⟩
  unfold rd
  rw [List.getD_eq_getElem?_getD, List.getElem?_eq_getElem (show i.toNat < list.length by omega)]
  exact List.getElem_mem _

theorem often_ok {code : List Int} (hl : code.length ≤ 4000) (hb : ∀ x ∈ code, (Lit.int .u8 x).wf = true) {p : Int} (h0 : 0 ≤ p) (h1 : p ≤ 900000) (n : Int) (hn : -9223372036854775808 ≤ n ∧ n ≤ 9223372036854775807) :
    ∃ v q, spec_rnd_often.f code p n = some (v, q) ∧ (-9223372036854775808 ≤ v ∧ v ≤ 9223372036854775807) ∧ p ≤ q ∧ q ≤ p + 2 := by
  obtain ⟨i, q, e, i0, i1, q0, q1⟩ := pick_ok hl hb h0 (by omega) 16
  unfold spec_rnd_often.f
  rw [e]
  simp only [Option.bind_some]
  by_cases hi : i = 0
  · rw [if_pos hi]
    unfold spec_rnd_odd.f
    obtain ⟨v, q', e', hv, q0', q1'⟩ := one_ok hl hb (p := q) (by omega) (by omega) [(-1), 4611686018427387904, (-4611686018427387904), 1001, 7, 1000001, (-9223372036854775808), 9223372036854775807] (by simp)
    rw [e']
    simp only [Option.bind_some]
    refine ⟨_, _, rfl, ?_, by omega, by omega⟩
    simp only [List.mem_cons, List.not_mem_nil, or_false] at hv
    omega
  · rw [if_neg hi]
    exact ⟨_, _, rfl, hn, by omega, by omega⟩

/-! ### Reading a list -/
theorem rd_at (l : List Int) (i : Nat) (h : i < l.length) : rd l (i : Int) = l[i] := by
  unfold rd
  simp [List.getD_eq_getElem?_getD, h]
theorem next_i (i : Nat) (h : i ≤ 4611686018427387904) : wrap64 ((i : Int) + 1) = ((i + 1 : Nat) : Int) := by rw [w64 (by omega) (by omega)]; omega

/-! ### Rounds of collections -/
/-- One collection: how far it goes, and the two counts behind it. -/
def stepR (t0 t1 s0 s1 : Int) : Int × Int × Int := if s0 + 1 < t0 then (0, s0 + 1, s1) else if s1 + 1 < t1 then (1, 0, s1 + 1) else (2, 0, 0)
def roundsL (t0 t1 : Int) : Nat → Int → Int → List Int
  | 0, _, _ => []
  | n + 1, s0, s1 => (stepR t0 t1 s0 s1).1 :: roundsL t0 t1 n (stepR t0 t1 s0 s1).2.1 (stepR t0 t1 s0 s1).2.2
theorem roundsL_length (t0 t1 : Int) : ∀ (n : Nat) (s0 s1 : Int), (roundsL t0 t1 n s0 s1).length = n
  | 0, _, _ => rfl
  | n + 1, _, _ => by simp [roundsL, roundsL_length t0 t1 n]
theorem roundsL_take (t0 t1 : Int) : ∀ (n : Nat) (s0 s1 : Int), (roundsL t0 t1 (n + 1) s0 s1).take n = roundsL t0 t1 n s0 s1
  | 0, _, _ => by simp [roundsL]
  | n + 1, s0, s1 => by
    rw [roundsL, List.take_succ_cons, roundsL_take t0 t1 n]; rfl
theorem stepR_bd (t0 t1 s0 s1 : Int) : 0 ≤ (stepR t0 t1 s0 s1).1 ∧ (stepR t0 t1 s0 s1).1 < 3 := by
  unfold stepR; split <;> (try split) <;> simp
theorem roundsL_bd (t0 t1 : Int) : ∀ (n : Nat) (s0 s1 : Int), ∀ x ∈ roundsL t0 t1 n s0 s1, 0 ≤ x ∧ x < 3
  | 0, _, _ => by simp [roundsL]
  | n + 1, s0, s1 => by
    intro x hx
    simp only [roundsL, List.mem_cons] at hx
    rcases hx with rfl | hx
    · exact stepR_bd _ _ _ _
    · exact roundsL_bd t0 t1 n _ _ x hx
/-- What RoundsOf answers. -/
def roundsR (many : Int) (ts : List Int) : List Int :=
  match ts with
  | [t0, t1] => if (0 ≤ many ∧ many ≤ 60) ∧ (1 ≤ t0 ∧ t0 ≤ 60) ∧ (1 ≤ t1 ∧ t1 ≤ 60) then roundsL t0 t1 many.toNat 0 0 else []
  | _ => []
theorem roundsR_len (many : Int) (ts : List Int) : (roundsR many ts).length ≤ 60 := by
  unfold roundsR
  split
  · split
    · rw [roundsL_length]; omega
    · simp
  · simp

theorem spec_round (many t0 t1 : Int) (ht : 1 ≤ t0 ∧ t0 ≤ 60 ∧ 1 ≤ t1 ∧ t1 ≤ 60) (hm : many ≤ 60) (d : Nat) : ∀ (n : Int) (out : List Int) (s0 s1 : Int), 0 ≤ n → n + d = many → out.length = n → (0 ≤ s0 ∧ s0 < t0) → (0 ≤ s1 ∧ s1 < t1) →
    Ev (fun k => spec_RoundsOf.l1 k many [t0, t1] out [s0, s1] n) (out ++ roundsL t0 t1 d s0 s1) := by
  induction d with
  | zero =>
    intro n out s0 s1 n0 hn ho h0 h1
    refine ev_succ ?_
    simp only [spec_RoundsOf.l1]
    exact ev_neg (by omega) (ev_some (by simp [roundsL]))
  | succ d ih =>
    intro n out s0 s1 n0 hn ho h0 h1
    have w0 : wrap64 (s0 + 1) = s0 + 1 := w64 (by omega) (by omega)
    have w1 : wrap64 (s1 + 1) = s1 + 1 := w64 (by omega) (by omega)
    have wn : wrap64 (n + 1) = n + 1 := w64 (by omega) (by omega)
    have wz : wrap64 (0 + 1) = 1 := w64 (by omega) (by omega)
    have wo : wrap64 (1 + 1) = 2 := w64 (by omega) (by omega)
    have r0 : rd [s0, s1] 0 = s0 := rfl
    have r1 : rd [t0, t1] 0 = t0 := rfl
    have r2 : rd [t0, t1] 1 = t1 := rfl
    refine ev_succ ?_
    simp only [spec_RoundsOf.l1]
    refine ev_pos (by omega) (ev_succ ?_)
    simp only [spec_RoundsOf.l2]
    refine ev_pos (by omega) (ev_pos (by omega) (ev_pos (by simp) (ev_bind1 rfl (ev_pos (by simp) ?_))))
    rw [r0, w0, r1]
    have x0 : rd (([s0, s1] : List Int).set (0 : Int).toNat (s0 + 1)) 0 = s0 + 1 := rfl
    rw [x0]
    by_cases c0 : s0 + 1 < t0
    · refine ev_pos c0 (ev_pos (by omega) ?_)
      rw [wn]
      have e : stepR t0 t1 s0 s1 = (0, s0 + 1, s1) := by unfold stepR; rw [if_pos c0]
      refine ev_eq (ih (n + 1) (out ++ [0]) (s0 + 1) s1 (by omega) (by omega) (by simp; omega) (by omega) h1) ?_
      simp [roundsL, e]
    · refine ev_neg c0 (ev_succ ?_)
      rw [wz]
      simp only [spec_RoundsOf.l2]
      refine ev_pos (by omega) (ev_pos (by omega) (ev_pos (by simp) (ev_bind1 rfl (ev_pos (by simp) ?_))))
      have x1 : rd ((([s0, s1] : List Int).set (0 : Int).toNat (s0 + 1)).set (0 : Int).toNat 0) 1 = s1 := rfl
      rw [x1, w1, r2]
      have x2 : rd (((([s0, s1] : List Int).set (0 : Int).toNat (s0 + 1)).set (0 : Int).toNat 0).set (1 : Int).toNat (s1 + 1)) 1 = s1 + 1 := rfl
      rw [x2]
      by_cases c1 : s1 + 1 < t1
      · refine ev_pos c1 (ev_pos (by omega) ?_)
        rw [wn]
        have e : stepR t0 t1 s0 s1 = (1, 0, s1 + 1) := by unfold stepR; rw [if_neg c0, if_pos c1]
        refine ev_eq (ih (n + 1) (out ++ [1]) 0 (s1 + 1) (by omega) (by omega) (by simp; omega) (by omega) (by omega)) ?_
        simp [roundsL, e]
      · refine ev_neg c1 (ev_succ ?_)
        rw [wo]
        simp only [spec_RoundsOf.l2]
        refine ev_neg (by omega) (ev_pos (by omega) ?_)
        rw [wn]
        have e : stepR t0 t1 s0 s1 = (2, 0, 0) := by unfold stepR; rw [if_neg c0, if_neg c1]
        refine ev_eq (ih (n + 1) (out ++ [2]) 0 0 (by omega) (by omega) (by simp; omega) (by omega) (by omega)) ?_
        simp [roundsL, e]

theorem impl_round (many t0 t1 z : Int) (ht : 1 ≤ t0 ∧ t0 ≤ 60 ∧ 1 ≤ t1 ∧ t1 ≤ 60) (hm : many ≤ 60) (d : Nat) : ∀ (n : Int) (out : List Int) (s0 s1 : Int), 0 ≤ n → n + d = many → out.length = n → (0 ≤ s0 ∧ s0 < t0) → (0 ≤ s1 ∧ s1 < t1) →
    Ev (fun k => impl_RoundsOf.l1 k [t0, t1] out [z, s0, s1] many n) (out ++ roundsL t0 t1 d s0 s1) := by
  induction d with
  | zero =>
    intro n out s0 s1 n0 hn ho h0 h1
    refine ev_succ ?_
    simp only [impl_RoundsOf.l1]
    exact ev_neg (by omega) (ev_some (by simp [roundsL]))
  | succ d ih =>
    intro n out s0 s1 n0 hn ho h0 h1
    have w0 : wrap64 (s0 + 1) = s0 + 1 := w64 (by omega) (by omega)
    have w1 : wrap64 (s1 + 1) = s1 + 1 := w64 (by omega) (by omega)
    have wn : wrap64 (n + 1) = n + 1 := w64 (by omega) (by omega)
    have wz : wrap64 (0 + 1) = 1 := w64 (by omega) (by omega)
    have wo : wrap64 (1 + 1) = 2 := w64 (by omega) (by omega)
    have wp : wrap64 (2 + 1) = 3 := w64 (by omega) (by omega)
    have r0 : rd [z, s0, s1] 1 = s0 := rfl
    have r1 : rd [t0, t1] 0 = t0 := rfl
    have r2 : rd [t0, t1] 1 = t1 := rfl
    refine ev_succ ?_
    simp only [impl_RoundsOf.l1]
    refine ev_pos (by omega) (ev_succ ?_)
    simp only [impl_RoundsOf.l2]
    rw [wz, r0, w0, r1]
    refine ev_pos (by omega) (ev_pos (by omega) (ev_pos (by simp) (ev_pos (by omega) (ev_pos (by simp) ?_))))
    by_cases c0 : s0 + 1 < t0
    · refine ev_neg (by omega) (ev_pos (by omega) ?_)
      rw [wn]
      have e : stepR t0 t1 s0 s1 = (0, s0 + 1, s1) := by unfold stepR; rw [if_pos c0]
      refine ev_eq (ih (n + 1) (out ++ [0]) (s0 + 1) s1 (by omega) (by omega) (by simp; omega) (by omega) h1) ?_
      simp [roundsL, e]
    · refine ev_pos (by omega) (ev_succ ?_)
      simp only [impl_RoundsOf.l2]
      have x1 : rd (([z, s0, s1] : List Int).set (1 : Int).toNat 0) 2 = s1 := rfl
      rw [wo, x1, w1, r2]
      refine ev_pos (by omega) (ev_pos (by omega) (ev_pos (by simp) (ev_pos (by omega) (ev_pos (by simp) ?_))))
      by_cases c1 : s1 + 1 < t1
      · refine ev_neg (by omega) (ev_pos (by omega) ?_)
        rw [wn]
        have e : stepR t0 t1 s0 s1 = (1, 0, s1 + 1) := by unfold stepR; rw [if_neg c0, if_pos c1]
        refine ev_eq (ih (n + 1) (out ++ [1]) 0 (s1 + 1) (by omega) (by omega) (by simp; omega) (by omega) (by omega)) ?_
        simp [roundsL, e]
      · refine ev_pos (by omega) (ev_succ ?_)
        simp only [impl_RoundsOf.l2]
        rw [wp]
        refine ev_neg (by omega) (ev_pos (by omega) ?_)
        rw [wn]
        have e : stepR t0 t1 s0 s1 = (2, 0, 0) := by unfold stepR; rw [if_neg c0, if_neg c1]
        refine ev_eq (ih (n + 1) (out ++ [2]) 0 0 (by omega) (by omega) (by simp; omega) (by omega) (by omega)) ?_
        simp [roundsL, e]

theorem in60 (t : Int) : spec_inRange.f t 1 60 = some (decide (1 ≤ t ∧ t ≤ 60)) := by
  unfold spec_inRange.f
  by_cases h : t ≥ 1
  · have : 1 ≤ t := h
    simp [h]
  · simp [h]
theorem in60' (t : Int) : impl_within.f t 1 60 = some (decide (1 ≤ t ∧ t ≤ 60)) := in60 t
theorem in061 (t : Int) : spec_inRange.f t 0 60 = some (decide (0 ≤ t ∧ t ≤ 60)) := by
  unfold spec_inRange.f
  by_cases h : t ≥ 0
  · have : 0 ≤ t := h
    simp [h]
  · simp [h]
theorem in061' (t : Int) : impl_within.f t 0 60 = some (decide (0 ≤ t ∧ t ≤ 60)) := in061 t

theorem spec_rounds_ev (many : Int) (ts : List Int) : Ev (fun k => spec_RoundsOf.f k many ts) (roundsR many ts) := by
  unfold spec_RoundsOf.f
  have no : ∀ r : List Int, r = [] → Ev (fun k => spec_RoundsOf.j0 k many ts true) r := by
    intro r hr
    refine ev_succ ?_
    simp only [spec_RoundsOf.j0]
    exact ev_pos trivial (ev_some (by rw [hr]))
  refine ev_bind1 (in061 many) ?_
  by_cases hm : 0 ≤ many ∧ many ≤ 60
  · refine ev_pos (by simp [hm]) ?_
    match ts, no with
    | [t0, t1], no =>
      refine ev_succ ?_
      simp only [spec_RoundsOf.j0]
      refine ev_neg (by simp) (ev_succ ?_)
      have wz : wrap64 (0 + 1) = 1 := w64 (by omega) (by omega)
      have wo : wrap64 (1 + 1) = 2 := w64 (by omega) (by omega)
      have r0 : rd [t0, t1] 0 = t0 := rfl
      have r1 : rd [t0, t1] 1 = t1 := rfl
      simp only [spec_RoundsOf.l0]
      refine ev_pos (by simp) (ev_pos (by omega) ?_)
      rw [r0]
      refine ev_bind1 (in60 t0) ?_
      by_cases h0 : 1 ≤ t0 ∧ t0 ≤ 60
      · refine ev_pos (by simp [h0]) (ev_succ ?_)
        rw [wz]
        simp only [spec_RoundsOf.l0]
        refine ev_pos (by simp) (ev_pos (by omega) ?_)
        rw [r1]
        refine ev_bind1 (in60 t1) ?_
        by_cases h1 : 1 ≤ t1 ∧ t1 ≤ 60
        · refine ev_pos (by simp [h1]) (ev_succ ?_)
          rw [wo]
          simp only [spec_RoundsOf.l0]
          refine ev_neg (by simp) (ev_pos (by omega) ?_)
          have e : roundsR many [t0, t1] = roundsL t0 t1 many.toNat 0 0 := by simp [roundsR, hm, h0, h1]
          rw [e]
          exact spec_round many t0 t1 (by omega) (by omega) many.toNat 0 [] 0 0 (by omega) (by omega) rfl (by omega) (by omega)
        · exact ev_neg (by simpa using h1) (ev_some (by simp [roundsR, h1]))
      · exact ev_neg (by simpa using h0) (ev_some (by simp [roundsR, h0]))
    | [], no => exact no _ rfl
    | [_], no => exact no _ rfl
    | a :: b :: c :: l, no =>
      have : (((a :: b :: c :: l : List Int).length : Int) != 2) = true := by simp; omega
      rw [this]; exact no _ rfl
  · refine ev_neg (by simpa using hm) (no _ ?_)
    unfold roundsR
    split
    · rw [if_neg (fun h => hm h.1)]
    · rfl

theorem impl_rounds_ev (many : Int) (ts : List Int) : Ev (fun k => impl_RoundsOf.f k many ts) (roundsR many ts) := by
  unfold impl_RoundsOf.f
  have no : ∀ r : List Int, r = [] → Ev (fun k => impl_RoundsOf.j0 k many ts true) r := by
    intro r hr
    refine ev_succ ?_
    simp only [impl_RoundsOf.j0]
    exact ev_pos trivial (ev_some (by rw [hr]))
  refine ev_bind1 (in061' many) ?_
  by_cases hm : 0 ≤ many ∧ many ≤ 60
  · refine ev_pos (by simp [hm]) ?_
    match ts, no with
    | [t0, t1], no =>
      refine ev_succ ?_
      simp only [impl_RoundsOf.j0]
      refine ev_neg (by simp) (ev_succ ?_)
      have wz : wrap64 (0 + 1) = 1 := w64 (by omega) (by omega)
      have wo : wrap64 (1 + 1) = 2 := w64 (by omega) (by omega)
      have r0 : rd [t0, t1] 0 = t0 := rfl
      have r1 : rd [t0, t1] 1 = t1 := rfl
      simp only [impl_RoundsOf.l0]
      refine ev_pos (by simp) (ev_pos (by omega) (ev_pos (by simp) ?_))
      rw [r0]
      refine ev_bind1 (in60' t0) ?_
      by_cases h0 : 1 ≤ t0 ∧ t0 ≤ 60
      · refine ev_pos (by simp [h0]) (ev_succ ?_)
        rw [wz]
        simp only [impl_RoundsOf.l0]
        refine ev_pos (by simp) (ev_pos (by omega) (ev_pos (by simp) ?_))
        rw [r1]
        refine ev_bind1 (in60' t1) ?_
        by_cases h1 : 1 ≤ t1 ∧ t1 ≤ 60
        · refine ev_pos (by simp [h1]) (ev_succ ?_)
          rw [wo]
          simp only [impl_RoundsOf.l0]
          refine ev_neg (by simp) (ev_pos (by omega) ?_)
          have e : roundsR many [t0, t1] = roundsL t0 t1 many.toNat 0 0 := by simp [roundsR, hm, h0, h1]
          rw [e]
          exact impl_round many t0 t1 0 (by omega) (by omega) many.toNat 0 [] 0 0 (by omega) (by omega) rfl (by omega) (by omega)
        · exact ev_neg (by simpa using h1) (ev_some (by simp [roundsR, h1]))
      · exact ev_neg (by simpa using h0) (ev_some (by simp [roundsR, h0]))
    | [], no => exact no _ rfl
    | [_], no => exact no _ rfl
    | a :: b :: c :: l, no =>
      have : (((a :: b :: c :: l : List Int).length : Int) != 2) = true := by simp; omega
      rw [this]; exact no _ rfl
  · refine ev_neg (by simpa using hm) (no _ ?_)
    unfold roundsR
    split
    · rw [if_neg (fun h => hm h.1)]
    · rfl

theorem same_from (l : List Int) (hl : l.length ≤ 1048576) (d : Nat) : ∀ (i : Nat), i + d = l.length → Ev (fun k => spec_sameNums.l0 k l l (i : Int)) true := by
  induction d with
  | zero =>
    intro i hi
    refine ev_succ ?_
    simp only [spec_sameNums.l0]
    exact ev_neg (by omega) (ev_some rfl)
  | succ d ih =>
    intro i hi
    refine ev_succ ?_
    simp only [spec_sameNums.l0]
    refine ev_pos (by omega) (ev_pos (by omega) (ev_pos (by omega) (ev_pos trivial ?_)))
    rw [next_i i (by omega)]
    exact ih (i + 1) (by omega)
theorem same_ev (l : List Int) (hl : l.length ≤ 1048576) : Ev (fun k => spec_SameInts.f k l l) true := by
  unfold spec_SameInts.f spec_sameNums.f
  refine Ev.bind (a := true) (ev_pos rfl (same_from l hl l.length 0 (by omega))) (ev_some rfl)

theorem draw_ok {l : List Int} (hl : l.length ≤ 1048576) (hb : ∀ x ∈ l, (Lit.int .u8 x).wf = true) : ∃ m t0 t1, spec_DrawRoundsOf.f l = some (m, [t0, t1]) ∧ -9223372036854775808 ≤ m ∧ m ≤ 9223372036854775807 := by
  obtain ⟨code, e, hc, hbc⟩ := newRnd_ok (l := l) hl hb
  obtain ⟨v, q, e1, v0, v1, q0, q1⟩ := pick_ok hc hbc (p := 0) (by omega) (by omega) 61
  obtain ⟨m, q2, e2, hm, _, _⟩ := often_ok hc hbc (p := q) (by omega) (by omega) v (by omega)
  obtain ⟨v3, q3, e3, _, _, _, _⟩ := pick_ok hc hbc (p := q2) (by omega) (by omega) 5
  have w3 : wrap64 (1 + v3) = 1 + v3 := w64 (by omega) (by omega)
  obtain ⟨t0, q4, e4, _, _, _⟩ := often_ok hc hbc (p := q3) (by omega) (by omega) (1 + v3) (by omega)
  obtain ⟨v5, q5, e5, _, _, _, _⟩ := pick_ok hc hbc (p := q4) (by omega) (by omega) 4
  have w5 : wrap64 (1 + v5) = 1 + v5 := w64 (by omega) (by omega)
  obtain ⟨t1, q6, e6, _, _, _⟩ := often_ok hc hbc (p := q5) (by omega) (by omega) (1 + v5) (by omega)
  refine ⟨m, t0, t1, ?_, hm⟩
  unfold spec_DrawRoundsOf.f
  rw [e]; simp only [Option.bind_some]
  rw [e1]; simp only [Option.bind_some]
  rw [e2]; simp only [Option.bind_some]
  rw [e3]; simp only [Option.bind_some]
  rw [w3, e4]; simp only [Option.bind_some]
  rw [e5]; simp only [Option.bind_some]
  rw [w5, e6]; simp only [Option.bind_some]

theorem check (t0 t1 m : Int) (hm : 1 ≤ m ∧ m ≤ 60) (d : Nat) : ∀ i : Nat, i + d = m.toNat →
    Ev (fun k => laws_FnRoundsOf.l0 k m (roundsL t0 t1 m.toNat 0 0) (roundsL t0 t1 (m - 1).toNat 0 0) (i : Int)) true := by
  have hlen := roundsL_length t0 t1 m.toNat 0 0
  induction d with
  | zero =>
    intro i hi
    have hw : wrap64 (m - 1) = m - 1 := w64 (by omega) (by omega)
    have ht : (roundsL t0 t1 m.toNat 0 0).take (m - 1).toNat = roundsL t0 t1 (m - 1).toNat 0 0 := by
      have := roundsL_take t0 t1 (m - 1).toNat 0 0
      rw [show (m - 1).toNat + 1 = m.toNat by omega] at this; exact this
    refine ev_succ ?_
    simp only [laws_FnRoundsOf.l0]
    refine ev_neg (by omega) (ev_pos (by omega) ?_)
    rw [hw, ht]
    exact ev_pos (by omega) (ev_pos (by omega) (Ev.bind (same_ev _ (by rw [roundsL_length]; omega)) (ev_some rfl)))
  | succ d ih =>
    intro i hi
    have hlt : i < (roundsL t0 t1 m.toNat 0 0).length := by omega
    have hb := roundsL_bd t0 t1 m.toNat 0 0 _ (List.getElem_mem hlt)
    refine ev_succ ?_
    simp only [laws_FnRoundsOf.l0]
    rw [rd_at _ i hlt, next_i i (by omega)]
    exact ev_pos (by omega) (ev_pos (by omega) (ev_neg (by omega) (ev_neg (by omega) (ih (i + 1) (by omega)))))

theorem FnRoundsOf : laws_FnRoundsOf.Pure := by
  intro l hm _ hb
  refine Ev.rounds ?_
  unfold laws_FnRoundsOf.f
  by_cases hl : (l.length : Int) > 1048576
  · exact ev_pos hl (ev_some rfl)
  refine ev_neg hl ?_
  obtain ⟨m, t0, t1, D, m0, m1⟩ := draw_ok (l := l) (by omega) hb
  have hlen := roundsR_len m [t0, t1]
  refine ev_bind1 D (Ev.bind (impl_rounds_ev m [t0, t1]) (Ev.bind (spec_rounds_ev m [t0, t1]) (Ev.bind (same_ev _ (by omega)) (ev_pos rfl ?_))))
  refine ev_succ ?_
  simp only [laws_FnRoundsOf.j0]
  by_cases hz : (roundsR m [t0, t1]).length = 0
  · exact ev_pos (by simp [hz]) (ev_some rfl)
  · refine ev_neg (by simpa using hz) ?_
    by_cases hc : (0 ≤ m ∧ m ≤ 60) ∧ (1 ≤ t0 ∧ t0 ≤ 60) ∧ (1 ≤ t1 ∧ t1 ≤ 60)
    · have e : roundsR m [t0, t1] = roundsL t0 t1 m.toNat 0 0 := by unfold roundsR; exact if_pos hc
      rw [e] at hz ⊢
      rw [roundsL_length] at hz
      have hw : wrap64 (m - 1) = m - 1 := w64 (by omega) (by omega)
      have e2 : roundsR (m - 1) [t0, t1] = roundsL t0 t1 (m - 1).toNat 0 0 := by unfold roundsR; exact if_pos ⟨by omega, hc.2⟩
      rw [hw]
      have I := impl_rounds_ev (m - 1) [t0, t1]
      rw [e2] at I
      exact Ev.bind I (check t0 t1 m (by omega) m.toNat 0 (by omega))
    · have e : roundsR m [t0, t1] = [] := by unfold roundsR; exact if_neg hc
      rw [e] at hz; exact absurd rfl hz

end Go.Proofs.Ytppbnfoagbipaac.Pure
