/- FnTextParts: for every code, a text is what is ahead of a place and what is behind it. -/
import Derived.Test.YteippijocmpncaaXFnTextPartsx3
namespace Go.Proofs.Yteippijocmpncaa.Pure
open Go.RowKit Go.Proofs.Yteippijocmpncaa.XFnTextParts Go.Proofs.YteippijocmpncaaW.PrintWords Go.Proofs.YteippijocmpncaaW.PrintLast Go.Proofs.YteippijocmpncaaW.PrintMore
set_option linter.unusedVariables false
set_option linter.unusedSimpArgs false

/-! ### Rounds, and words of 64 bits -/
theorem ev_succ {α : Type} {g : Nat → Option α} {r : α} (h : Ev (fun k => g (k + 1)) r) : Ev g r := Ev.step (fun _ => rfl) h
theorem ev_some {α : Type} {o : Option α} {r : α} (h : o = some r) : Ev (fun _ => o) r := ⟨0, fun _ _ => h⟩
theorem ev_pos {α : Type} {c : Prop} [Decidable c] {A B : Nat → Option α} {r : α} (h : c) (k : Ev A r) : Ev (fun n => if c then A n else B n) r :=
  Ev.congr (fun _ => if_pos h) k
theorem ev_neg {α : Type} {c : Prop} [Decidable c] {A B : Nat → Option α} {r : α} (h : ¬ c) (k : Ev B r) : Ev (fun n => if c then A n else B n) r :=
  Ev.congr (fun _ => if_neg h) k
theorem ev_eq {α : Type} {g : Nat → Option α} {r s : α} (h : Ev g r) (e : r = s) : Ev g s := e ▸ h
theorem ev_bind1 {α β : Type} {o : Option α} {f : Nat → α → Option β} {a : α} {r : β} (h : o = some a) (k : Ev (fun n => f n a) r) : Ev (fun n => o.bind (f n)) r :=
  Ev.bind (ev_some h) k
theorem ev_det {α : Type} {g : Nat → Option α} {r s : α} (h : Ev g r) (k : Ev g s) : r = s := by
  obtain ⟨K, h⟩ := h
  obtain ⟨L, k⟩ := k
  have h1 := h (max K L) (by omega)
  have h2 := k (max K L) (by omega)
  rw [h1] at h2
  exact Option.some.inj h2
theorem w64 {n : Int} (h : -9223372036854775808 ≤ n) (h' : n ≤ 9223372036854775807) : wrap64 n = n := by unfold wrap64; omega
theorem byte_of {l : List Int} (h : ∀ x ∈ l, (Lit.int .u8 x).wf = true) (i : Int) : 0 ≤ rd l i ∧ rd l i ≤ 255 := by
  unfold rd
  by_cases hi : i.toNat < l.length
  · have hm : l.getD i.toNat 0 ∈ l := by
      rw [List.getD_eq_getElem?_getD, List.getElem?_eq_getElem hi]
      exact List.getElem_mem hi
    have := h _ hm
    have m0 : IntKind.u8.min = 0 := by decide
    have m1 : IntKind.u8.max = 255 := by decide
    simp only [Lit.wf, m0, m1, Bool.and_eq_true, decide_eq_true_eq] at this
    exact this
  · rw [List.getD_eq_getElem?_getD, List.getElem?_eq_none (by omega)]
    simp

/-! ### Draws: what they pick, and that they never panic -/
theorem xor_ok (v u : Int) (h0 : 0 ≤ v) (h1 : v < 4611686018427387904) (u0 : 0 ≤ u) (u1 : u < 4611686018427387904) : 0 ≤ Go.bits .xor .i64 v u := by
  obtain ⟨a, rfl⟩ := Int.eq_ofNat_of_zero_le h0
  obtain ⟨b, rfl⟩ := Int.eq_ofNat_of_zero_le u0
  have ofInt : ∀ a : Nat, a < 9223372036854775808 → (BitVec.ofInt 64 (a : Int)).toNat = a := fun a ha => by
    rw [BitVec.ofInt_natCast, BitVec.toNat_ofNat]; exact Nat.mod_eq_of_lt (by omega)
  have hx : a ^^^ b < 2 ^ 63 := Nat.xor_lt_two_pow (by omega) (by omega)
  show 0 ≤ IntKind.i64.wrap ((BitVec.ofInt 64 (a : Int) ^^^ BitVec.ofInt 64 (b : Int)).toNat : Int)
  rw [BitVec.toNat_xor, ofInt a (by omega), ofInt b (by omega), IntKind.wrap_i64]
  omega

theorem pick_ok {code : List Int} (hl : code.length ≤ 4000) (hb : ∀ x ∈ code, (Lit.int .u8 x).wf = true) {p : Int} (h0 : 0 ≤ p) (h1 : p ≤ 1000000) (n : Int) :
    ∃ v q, spec_rnd_pick.f code p n = some (v, q) ∧ 0 ≤ v ∧ (v < n ∨ (n < 2 ∧ v = 0)) ∧ p ≤ q ∧ q ≤ p + 1 := by
  unfold spec_rnd_pick.f
  by_cases hn : n < 2
  · rw [if_pos hn]; exact ⟨0, p, rfl, by omega, .inr ⟨hn, rfl⟩, by omega, by omega⟩
  rw [if_neg hn]
  have hw : wrap64 (p + 1) = p + 1 := w64 (by omega) (by omega)
  have fin : ∀ v : Int, 0 ≤ v → ∃ v' q, (if n = 0 then none else some (Int.tmod v n, wrap64 (p + 1))) = some (v', q) ∧ 0 ≤ v' ∧ (v' < n ∨ (n < 2 ∧ v' = 0)) ∧ p ≤ q ∧ q ≤ p + 1 := by
    intro v hv
    rw [if_neg (by omega), hw, Int.tmod_eq_emod_of_nonneg hv]
    exact ⟨_, _, rfl, Int.emod_nonneg _ (by omega), .inl (Int.emod_lt_of_pos _ (by omega)), by omega, by omega⟩
  by_cases hc : (code.length : Int) > 0
  · rw [if_pos hc, if_neg (by omega)]
    have e1 : Int.tmod p (code.length : Int) = p % code.length := Int.tmod_eq_emod_of_nonneg h0
    have e2 : wrap64 (wrap64 (p * 7) + 3) = p * 7 + 3 := by rw [w64 (n := p * 7) (by omega) (by omega)]; exact w64 (by omega) (by omega)
    have e3 : Int.tmod (p * 7 + 3) (code.length : Int) = (p * 7 + 3) % code.length := Int.tmod_eq_emod_of_nonneg (by omega)
    have m0 := Int.emod_nonneg p (show (code.length : Int) ≠ 0 by omega)
    have m1 := Int.emod_lt_of_pos p hc
    have m2 := Int.emod_nonneg (p * 7 + 3) (show (code.length : Int) ≠ 0 by omega)
    have m3 := Int.emod_lt_of_pos (p * 7 + 3) hc
    have e4 : Int.tdiv p (code.length : Int) = p / code.length := Int.tdiv_eq_ediv_of_nonneg h0
    have d0 : 0 ≤ p / (code.length : Int) := Int.ediv_nonneg h0 (by omega)
    have d1 : p / (code.length : Int) ≤ p := Int.ediv_le_self _ h0
    rw [e1, if_pos m0, if_pos m1, e2, e3, if_pos m2, if_pos m3, e4]
    obtain ⟨a0, a1⟩ := byte_of hb (p % code.length)
    obtain ⟨b0, b1⟩ := byte_of hb ((p * 7 + 3) % code.length)
    generalize rd code (p % code.length) = a at a0 a1 ⊢
    generalize rd code ((p * 7 + 3) % code.length) = b at b0 b1 ⊢
    generalize p / (code.length : Int) = d at d0 d1 ⊢
    have w1 : wrap64 a = a := w64 (by omega) (by omega)
    have w2 : wrap64 b = b := w64 (by omega) (by omega)
    have w3 : wrap64 (a * 131) = a * 131 := w64 (by omega) (by omega)
    have w4 : wrap64 (b * 1117) = b * 1117 := w64 (by omega) (by omega)
    have w5 : wrap64 (p * 29) = p * 29 := w64 (by omega) (by omega)
    have w6 : wrap64 d = d := w64 (by omega) (by omega)
    have w7 : wrap64 (d * 53) = d * 53 := w64 (by omega) (by omega)
    have w8 : wrap64 (a * 131 + b * 1117) = a * 131 + b * 1117 := w64 (by omega) (by omega)
    have w9 : wrap64 (a * 131 + b * 1117 + p * 29) = a * 131 + b * 1117 + p * 29 := w64 (by omega) (by omega)
    have w10 : wrap64 (a * 131 + b * 1117 + p * 29 + d * 53) = a * 131 + b * 1117 + p * 29 + d * 53 := w64 (by omega) (by omega)
    rw [w1, w2, w3, w4, w5, w6, w7, w8, w9, w10]
    have big : 0 ≤ Go.bits .xor .i64 (a * 131 + b * 1117 + p * 29 + d * 53) (wrap64 (Int.tdiv (a * 131 + b * 1117 + p * 29 + d * 53) 64)) := by
      have t : Int.tdiv (a * 131 + b * 1117 + p * 29 + d * 53) 64 = (a * 131 + b * 1117 + p * 29 + d * 53) / 64 := Int.tdiv_eq_ediv_of_nonneg (by omega)
      rw [t, w64 (by omega) (by omega)]
      exact xor_ok _ _ (by omega) (by omega) (by omega) (by omega)
    by_cases h256 : n > 256
    · rw [if_pos h256]; exact fin _ big
    · rw [if_neg h256]
      by_cases hp : p ≥ (code.length : Int)
      · rw [if_pos hp]; exact fin _ big
      · rw [if_neg hp]; exact fin _ a0
  · rw [if_neg hc, if_neg (by omega), hw]
    exact ⟨_, _, rfl, by simp, .inl (by simp; omega), by omega, by omega⟩

theorem newRnd_ok {l : List Int} (hl : l.length ≤ 1048576) (hb : ∀ x ∈ l, (Lit.int .u8 x).wf = true) :
    ∃ code, spec_newRnd.f l = some (code, 0) ∧ code.length ≤ 4000 ∧ ∀ x ∈ code, (Lit.int .u8 x).wf = true := by
  unfold spec_newRnd.f
  have h : mn (l.length : Int) 4000 = min (l.length : Int) 4000 := by unfold mn; split <;> omega
  rw [h, if_pos (by omega), if_pos (by omega)]
  refine ⟨_, rfl, ?_, fun x hx => hb x (List.mem_of_mem_take hx)⟩
  rw [List.length_take]; omega

theorem one_ok {code : List Int} (hl : code.length ≤ 4000) (hb : ∀ x ∈ code, (Lit.int .u8 x).wf = true) {p : Int} (h0 : 0 ≤ p) (h1 : p ≤ 1000000) (list : List Int) (hn : list ≠ []) :
    ∃ v q, spec_rnd_one.f code p list = some (v, q) ∧ v ∈ list ∧ p ≤ q ∧ q ≤ p + 1 := by
  have hlen : 0 < list.length := List.length_pos_iff.2 hn
  obtain ⟨i, q, e, i0, i1, q0, q1⟩ := pick_ok hl hb h0 h1 (list.length : Int)
  unfold spec_rnd_one.f
  have hi : i < (list.length : Int) := by omega
  rw [e]
  simp only [Option.bind_some]
  rw [if_pos i0, if_pos hi]
  refine ⟨_, _, rfl, ?_, q0, q1⟩
  unfold rd
  rw [List.getD_eq_getElem?_getD, List.getElem?_eq_getElem (show i.toNat < list.length by omega)]
  exact List.getElem_mem _

theorem often_ok {code : List Int} (hl : code.length ≤ 4000) (hb : ∀ x ∈ code, (Lit.int .u8 x).wf = true) {p : Int} (h0 : 0 ≤ p) (h1 : p ≤ 900000) (n : Int) (hn : -9223372036854775808 ≤ n ∧ n ≤ 9223372036854775807) :
    ∃ v q, spec_rnd_often.f code p n = some (v, q) ∧ (-9223372036854775808 ≤ v ∧ v ≤ 9223372036854775807) ∧ p ≤ q ∧ q ≤ p + 2 := by
  obtain ⟨i, q, e, i0, i1, q0, q1⟩ := pick_ok hl hb h0 (by omega) 16
  unfold spec_rnd_often.f
  rw [e]
  simp only [Option.bind_some]
  by_cases hi : i = 0
  · rw [if_pos hi]
    unfold spec_rnd_odd.f
    obtain ⟨v, q', e', hv, q0', q1'⟩ := one_ok hl hb (p := q) (by omega) (by omega) [(-1), 4611686018427387904, (-4611686018427387904), 1001, 7, 1000001, (-9223372036854775808), 9223372036854775807] (by simp)
    rw [e']
    simp only [Option.bind_some]
    refine ⟨_, _, rfl, ?_, by omega, by omega⟩
    simp only [List.mem_cons, List.not_mem_nil, or_false] at hv
    omega
  · rw [if_neg hi]
    exact ⟨_, _, rfl, hn, by omega, by omega⟩

theorem of_ok {code : List Int} (hl : code.length ≤ 4000) (hb : ∀ x ∈ code, (Lit.int .u8 x).wf = true) {p : Int} (h0 : 0 ≤ p) (h1 : p ≤ 1000000) (list : List ByteArray) (hn : list ≠ []) :
    ∃ v q, spec_rnd_of.f code p list = some (v, q) ∧ v ∈ list ∧ p ≤ q ∧ q ≤ p + 1 := by
  have hlen : 0 < list.length := List.length_pos_iff.2 hn
  obtain ⟨i, q, e, i0, i1, q0, q1⟩ := pick_ok hl hb h0 h1 (list.length : Int)
  unfold spec_rnd_of.f
  have hi : i < (list.length : Int) := by omega
  rw [e]
  simp only [Option.bind_some]
  rw [if_pos i0, if_pos hi]
  refine ⟨_, _, rfl, ?_, q0, q1⟩
  unfold rdOf
  rw [List.getD_eq_getElem?_getD, List.getElem?_eq_getElem (show i.toNat < list.length by omega)]
  exact List.getElem_mem _

/-! ### Reading a list -/
theorem rd_at (l : List Int) (i : Nat) (h : i < l.length) : rd l (i : Int) = l[i] := by
  unfold rd
  simp [List.getD_eq_getElem?_getD, h]
theorem next_i (i : Nat) (h : i ≤ 4611686018427387904) : wrap64 ((i : Int) + 1) = ((i + 1 : Nat) : Int) := by rw [w64 (by omega) (by omega)]; omega

theorem toList_size (s : ByteArray) : s.toList.length = s.size := by
  rw [ByteArray.toList_eq]; rfl
theorem bytes_ext {a b : ByteArray} (h : a.toList = b.toList) : a = b := by
  rw [ByteArray.toList_eq, ByteArray.toList_eq] at h
  cases a; cases b
  simp only [Array.toList_inj] at h
  rw [h]
theorem bt_append_left (a b : ByteArray) (i : Nat) (h : i < a.size) : bt (a ++ b) (i : Int) = bt a (i : Int) := by
  unfold bt
  rw [dif_pos (by rw [ByteArray.size_append]; simp; omega), dif_pos (by simpa using h)]
  simp only [Int.toNat_natCast]
  rw [ByteArray.getElem_append_left h]
theorem bt_append_right (a b : ByteArray) (i : Nat) (h : a.size ≤ i) (h' : i < a.size + b.size) : bt (a ++ b) (i : Int) = bt b ((i - a.size : Nat) : Int) := by
  unfold bt
  rw [dif_pos (by rw [ByteArray.size_append]; simpa using h'), dif_pos (by simp; omega)]
  simp only [Int.toNat_natCast]
  rw [ByteArray.getElem_append_right h]

theorem text_pad (code : List Int) (p : Int) (d : Nat) : ∀ x : ByteArray, x.size ≤ 1000 → 400 - x.size ≤ d → ∃ s, Ev (fun k => spec_rnd_text.l1 k x code p) (s, p) ∧ s.size ≤ 1000 := by
  induction d with
  | zero =>
    intro x hx hd
    refine ⟨x, ev_succ ?_, hx⟩
    simp only [spec_rnd_text.l1]
    exact ev_neg (by omega) (ev_some rfl)
  | succ d ih =>
    intro x hx hd
    by_cases h : (x.size : Int) < 399
    · have hz : (x ++ (⟨#[97, 98]⟩ : ByteArray)).size = x.size + 2 := by rw [ByteArray.size_append]; rfl
      obtain ⟨s, hs, hz'⟩ := ih (x ++ (⟨#[97, 98]⟩ : ByteArray)) (by omega) (by omega)
      refine ⟨s, ev_succ ?_, hz'⟩
      simp only [spec_rnd_text.l1]
      exact ev_pos h (ev_pos (by omega) hs)
    · refine ⟨x, ev_succ ?_, hx⟩
      simp only [spec_rnd_text.l1]
      exact ev_neg h (ev_some rfl)

theorem text_from {code : List Int} (hl : code.length ≤ 4000) (hb : ∀ x ∈ code, (Lit.int .u8 x).wf = true) (d : Nat) : ∀ (x : ByteArray) (n p : Int), 0 ≤ n → n ≤ d → d ≤ 8 → x.size ≤ 3 * (8 - d) → 0 ≤ p → p ≤ 900008 - d →
    ∃ s q, Ev (fun k => spec_rnd_text.l0 k x n code p) (s, q) ∧ s.size ≤ 1000 ∧ p ≤ q ∧ q ≤ p + d + 1 := by
  induction d with
  | zero =>
    intro x n p n0 n1 _ hx p0 p1
    obtain ⟨v, q, e, v0, _, q0, q1⟩ := pick_ok hl hb p0 (by omega) 40
    by_cases hv : v = 0
    · obtain ⟨s, hs, hz⟩ := text_pad code q 400 x (by omega) (by omega)
      refine ⟨s, q, ev_succ ?_, hz, q0, by omega⟩
      simp only [spec_rnd_text.l0]
      exact ev_neg (by omega) (ev_bind1 e (ev_pos hv hs))
    · refine ⟨x, q, ev_succ ?_, by omega, q0, by omega⟩
      simp only [spec_rnd_text.l0]
      exact ev_neg (by omega) (ev_bind1 e (ev_neg hv (ev_some rfl)))
  | succ d ih =>
    intro x n p n0 n1 hd hx p0 p1
    by_cases hn : n > 0
    · have hw : wrap64 (n - 1) = n - 1 := w64 (by omega) (by omega)
      obtain ⟨v, q, e, hv, q0, q1⟩ := of_ok hl hb p0 (by omega) (([(⟨#[97]⟩ : ByteArray), (⟨#[98]⟩ : ByteArray), (⟨#[97, 98]⟩ : ByteArray), (⟨#[32]⟩ : ByteArray), (⟨#[97, 98, 97]⟩ : ByteArray), (⟨#[10]⟩ : ByteArray), (⟨#[39]⟩ : ByteArray), strOfNums (([92] : List Int)), (⟨#[0]⟩ : ByteArray), (⟨#[255]⟩ : ByteArray), (⟨#[195, 169]⟩ : ByteArray), (⟨#[44]⟩ : ByteArray)] : List ByteArray)) (by simp)
      have hz : v.size ≤ 3 := by
        have all : ∀ u ∈ (([(⟨#[97]⟩ : ByteArray), (⟨#[98]⟩ : ByteArray), (⟨#[97, 98]⟩ : ByteArray), (⟨#[32]⟩ : ByteArray), (⟨#[97, 98, 97]⟩ : ByteArray), (⟨#[10]⟩ : ByteArray), (⟨#[39]⟩ : ByteArray), strOfNums (([92] : List Int)), (⟨#[0]⟩ : ByteArray), (⟨#[255]⟩ : ByteArray), (⟨#[195, 169]⟩ : ByteArray), (⟨#[44]⟩ : ByteArray)] : List ByteArray)), u.size ≤ 3 := by decide +kernel
        exact all v hv
      obtain ⟨s, q', hs, hz', q0', q1'⟩ := ih (x ++ v) (n - 1) q (by omega) (by omega) (by omega) (by rw [ByteArray.size_append]; omega) (by omega) (by omega)
      refine ⟨s, q', ev_succ ?_, hz', by omega, by omega⟩
      simp only [spec_rnd_text.l0]
      refine ev_pos hn (ev_bind1 e (ev_pos (by show x.size + v.size ≤ 9223372036854775807; omega) ?_))
      rw [hw]
      exact hs
    · obtain ⟨s, q', hs, hz', q0', q1'⟩ := ih x n p n0 (by omega) (by omega) (by omega) p0 (by omega)
      exact ⟨s, q', hs, hz', q0', by omega⟩

theorem text_ok {code : List Int} (hl : code.length ≤ 4000) (hb : ∀ x ∈ code, (Lit.int .u8 x).wf = true) {p : Int} (h0 : 0 ≤ p) (h1 : p ≤ 800000) :
    ∃ s q, Ev (fun k => spec_rnd_text.f k code p) (s, q) ∧ s.size ≤ 1000 ∧ p ≤ q ∧ q ≤ p + 10 := by
  obtain ⟨n, q, e, n0, n1, q0, q1⟩ := pick_ok hl hb h0 (by omega) 9
  obtain ⟨s, q', hs, hz, q0', q1'⟩ := text_from hl hb 8 ⟨#[]⟩ n q n0 (by omega) (by omega) (by simp [ByteArray.size]) (by omega) (by omega)
  refine ⟨s, q', ?_, hz, by omega, by omega⟩
  unfold spec_rnd_text.f
  exact ev_bind1 e hs

/-! ### TextAt -/
/-- What TextAt answers. -/
def atR (s : ByteArray) (i : Int) : ByteArray × Bool :=
  if s.size ≤ 400 ∧ -(s.size : Int) ≤ i ∧ i < s.size then (if i < 0 then (s.extract (i + s.size).toNat (i + s.size + 1).toNat, true) else (s.extract i.toNat (i + 1).toNat, true)) else (⟨#[]⟩, false)

theorem impl_at_tail (s : ByteArray) (i : Int) (hs : s.size ≤ 1048576) (b : Bool) (h : b = false → s.size ≤ 400 ∧ -(s.size : Int) ≤ i ∧ i < s.size) (h' : b = true → ¬ (s.size ≤ 400 ∧ -(s.size : Int) ≤ i ∧ i < s.size)) :
    Ev (fun k => impl_TextAt.j0 k s i b) (atR s i) := by
  refine ev_succ ?_
  simp only [impl_TextAt.j0]
  cases b with
  | true => exact ev_pos rfl (ev_some (by rw [atR, if_neg (h' rfl)]))
  | false =>
    have hh := h rfl
    refine ev_neg (by simp) ?_
    by_cases hn : i < 0
    · have hw : wrap64 (i + (s.size : Int)) = i + s.size := w64 (by omega) (by omega)
      have hw1 : wrap64 (i + (s.size : Int) + 1) = i + s.size + 1 := w64 (by omega) (by omega)
      rw [hw, hw1]
      exact ev_pos hn (ev_pos (by omega) (ev_pos (by omega) (ev_pos (by omega) (ev_some (by rw [atR, if_pos hh, if_pos hn])))))
    · have hw1 : wrap64 (i + 1) = i + 1 := w64 (by omega) (by omega)
      rw [hw1]
      exact ev_neg hn (ev_pos (by omega) (ev_pos (by omega) (ev_pos (by omega) (ev_some (by rw [atR, if_pos hh, if_neg hn])))))

theorem impl_at (s : ByteArray) (i : Int) (hs : s.size ≤ 1048576) : Ev (fun k => impl_TextAt.f k s i) (atR s i) := by
  unfold impl_TextAt.f
  by_cases h1 : s.size ≤ 400
  · have hw : wrap64 (-(s.size : Int)) = -(s.size : Int) := w64 (by omega) (by omega)
    rw [hw]
    refine ev_neg (by omega) ?_
    by_cases h2 : i < -(s.size : Int)
    · exact ev_pos h2 (impl_at_tail s i hs _ (by simp) (by simp; omega))
    · exact ev_neg h2 (impl_at_tail s i hs _ (by simp; omega) (by simp; omega))
  · exact ev_pos (by omega) (impl_at_tail s i hs _ (by simp) (by simp; omega))

theorem spec_at_tail (s : ByteArray) (i : Int) (hs : s.size ≤ 1048576) (b : Bool) (h : b = false → s.size ≤ 400 ∧ -(s.size : Int) ≤ i ∧ i < s.size) (h' : b = true → ¬ (s.size ≤ 400 ∧ -(s.size : Int) ≤ i ∧ i < s.size)) :
    Ev (fun k => spec_TextAt.j0 k s i b) (atR s i) := by
  refine ev_succ ?_
  simp only [spec_TextAt.j0]
  cases b with
  | true => exact ev_pos rfl (ev_some (by rw [atR, if_neg (h' rfl)]))
  | false =>
    have hh := h rfl
    refine ev_neg (by simp) ?_
    by_cases hn : i < 0
    · have hw : wrap64 (i + (s.size : Int)) = i + s.size := w64 (by omega) (by omega)
      have hw1 : wrap64 (i + (s.size : Int) + 1) = i + s.size + 1 := w64 (by omega) (by omega)
      rw [hw, hw1]
      exact ev_pos hn (ev_pos (by omega) (ev_pos (by omega) (ev_pos (by omega) (ev_some (by rw [atR, if_pos hh, if_pos hn])))))
    · have hw1 : wrap64 (i + 1) = i + 1 := w64 (by omega) (by omega)
      rw [hw1]
      exact ev_neg hn (ev_pos (by omega) (ev_pos (by omega) (ev_pos (by omega) (ev_some (by rw [atR, if_pos hh, if_neg hn])))))

theorem spec_at (s : ByteArray) (i : Int) (hs : s.size ≤ 1048576) : Ev (fun k => spec_TextAt.f k s i) (atR s i) := by
  unfold spec_TextAt.f spec_validText.f spec_inRange.f
  refine ev_bind1 rfl ?_
  by_cases h1 : s.size ≤ 400
  · have hw : wrap64 (-(s.size : Int)) = -(s.size : Int) := w64 (by omega) (by omega)
    have hw1 : wrap64 ((s.size : Int) - 1) = (s.size : Int) - 1 := w64 (by omega) (by omega)
    rw [hw, hw1]
    refine ev_pos (by simp; omega) ?_
    by_cases h2 : i ≥ -(s.size : Int)
    · refine ev_bind1 (if_pos h2) (spec_at_tail s i hs _ ?_ ?_)
      · simp; omega
      · simp; omega
    · refine ev_bind1 (if_neg h2) (spec_at_tail s i hs _ (by simp) (by simp; omega))
  · exact ev_neg (by simp; omega) (spec_at_tail s i hs _ (by simp) (by simp; omega))

/-! ### Slices: which are valid -/
/-- Are these arguments valid? -/
def cutB (f t s : Int) (hf ht : Bool) : Bool := decide (-1000000 ≤ f ∧ f ≤ 1000000 ∧ -1000000 ≤ t ∧ t ≤ 1000000 ∧ -1000000 ≤ s ∧ s ≤ 1000000 ∧ s ≠ 0 ∧ (hf = true ∨ f = 0) ∧ (ht = true ∨ t = 0))
theorem cutB_iff {f t s : Int} {hf ht : Bool} (h : cutB f t s hf ht = true) : -1000000 ≤ f ∧ f ≤ 1000000 ∧ -1000000 ≤ t ∧ t ≤ 1000000 ∧ -1000000 ≤ s ∧ s ≤ 1000000 ∧ s ≠ 0 ∧ (hf = true ∨ f = 0) ∧ (ht = true ∨ t = 0) := of_decide_eq_true h
theorem inRange_some (a b c : Int) : spec_inRange.f a b c = some (decide (b ≤ a ∧ a ≤ c)) := by
  unfold spec_inRange.f
  by_cases h1 : a ≥ b
  · rw [if_pos h1]; congr 1; simp; omega
  · rw [if_neg h1, decide_eq_false (by omega)]
/-- What CutRange answers. -/
def cutRR (n f t s : Int) (hf ht : Bool) : Int × Int := if (0 ≤ n ∧ n ≤ 1000000) ∧ cutB f t s hf ht = true then cutR n f t s hf ht else (0, 0)
theorem implCut_some (n f t s : Int) (hf ht : Bool) : impl_CutRange.f n f t s hf ht = some (cutRR n f t s hf ht) := by
  unfold impl_CutRange.f cutRR
  rw [within_some, cutOk_some]
  simp only [Option.bind_some]
  by_cases h : 0 ≤ n ∧ n ≤ 1000000
  · rw [if_pos (decide_eq_true h)]
    by_cases h2 : cutB f t s hf ht = true
    · rw [if_pos (by exact h2), if_pos ⟨h, h2⟩]
    · rw [if_neg (by exact h2), if_neg (fun z => h2 z.2)]
  · rw [if_neg (by simpa using h), if_neg (fun z => h z.1)]

/-! ### Slices: what is selected is there -/
theorem cutCount_in {n p q s : Int} (s0 : s ≠ 0) (hp : cutLo s ≤ p ∧ p ≤ cutHi n s) (hq : cutLo s ≤ q ∧ q ≤ cutHi n s) (i : Int) (i0 : 0 ≤ i) (i1 : i < cutCount s p q) :
    0 ≤ p + i * s ∧ p + i * s < n ∧ (0 < s → p + i * s < q) ∧ (s < 0 → q < p + i * s) := by
  unfold cutCount at i1
  by_cases hs : 0 < s
  · rw [if_pos hs] at i1
    have e1 : cutLo s = 0 := by rw [cutLo, if_neg (by omega)]
    have e2 : cutHi n s = n := by rw [cutHi, if_neg (by omega)]
    by_cases h : p < q
    · rw [if_pos h] at i1
      have m1 : (q - p - 1) / s * s ≤ q - p - 1 := Int.ediv_mul_le _ (by omega)
      have m2 : i * s ≤ (q - p - 1) / s * s := Int.mul_le_mul_of_nonneg_right (by omega) (by omega)
      have m3 : 0 ≤ i * s := Int.mul_nonneg i0 (by omega)
      omega
    · rw [if_neg h] at i1; omega
  · rw [if_neg hs] at i1
    have e1 : cutLo s = -1 := by rw [cutLo, if_pos (by omega)]
    have e2 : cutHi n s = n - 1 := by rw [cutHi, if_pos (by omega)]
    by_cases h : q < p
    · rw [if_pos h] at i1
      have m1 : (p - q - 1) / (-s) * (-s) ≤ p - q - 1 := Int.ediv_mul_le _ (by omega)
      have m2 : i * (-s) ≤ (p - q - 1) / (-s) * (-s) := Int.mul_le_mul_of_nonneg_right (by omega) (by omega)
      have m3 : 0 ≤ i * (-s) := Int.mul_nonneg i0 (by omega)
      have m4 : i * (-s) = -(i * s) := Int.mul_neg _ _
      omega
    · rw [if_neg h] at i1; omega
theorem cutCount_le {n p q s : Int} (s0 : s ≠ 0) (n0 : 0 ≤ n) (hp : cutLo s ≤ p ∧ p ≤ cutHi n s) (hq : cutLo s ≤ q ∧ q ≤ cutHi n s) : 0 ≤ cutCount s p q ∧ cutCount s p q ≤ n := by
  unfold cutCount
  by_cases hs : 0 < s
  · rw [if_pos hs]
    have e1 : cutLo s = 0 := by rw [cutLo, if_neg (by omega)]
    have e2 : cutHi n s = n := by rw [cutHi, if_neg (by omega)]
    by_cases h : p < q
    · rw [if_pos h]; have := cut_div_le (q - p - 1) s (by omega) hs; omega
    · rw [if_neg h]; omega
  · rw [if_neg hs]
    have e1 : cutLo s = -1 := by rw [cutLo, if_pos (by omega)]
    have e2 : cutHi n s = n - 1 := by rw [cutHi, if_pos (by omega)]
    by_cases h : q < p
    · rw [if_pos h]; have := cut_div_le (p - q - 1) (-s) (by omega) (by omega); omega
    · rw [if_neg h]; omega
/-- What CutRange answers at valid arguments: the first place and how many; all of them are there. -/
theorem cutR_in {n f t s : Int} {hf ht : Bool} (n0 : 0 ≤ n) (h : cutB f t s hf ht = true) :
    0 ≤ (cutR n f t s hf ht).2 ∧ (cutR n f t s hf ht).2 ≤ n ∧ ∀ i, 0 ≤ i → i < (cutR n f t s hf ht).2 → 0 ≤ (cutR n f t s hf ht).1 + i * s ∧ (cutR n f t s hf ht).1 + i * s < n := by
  obtain ⟨-, -, -, -, -, -, s0, -, -⟩ := cutB_iff h
  have P := cutP_bd (n := n) (f := f) (s := s) hf n0
  have Q := cutQ_bd (n := n) (t := t) (s := s) ht n0
  have L := cutCount_le s0 n0 P Q
  exact ⟨L.1, L.2, fun i i0 i1 => ⟨(cutCount_in s0 P Q i i0 i1).1, (cutCount_in s0 P Q i i0 i1).2.1⟩⟩
theorem cutRR_in {n f t s : Int} {hf ht : Bool} (hm : (cutRR n f t s hf ht).2 ≠ 0) :
    0 ≤ n ∧ n ≤ 1000000 ∧ cutB f t s hf ht = true ∧ cutRR n f t s hf ht = cutR n f t s hf ht := by
  unfold cutRR at hm ⊢
  by_cases h : (0 ≤ n ∧ n ≤ 1000000) ∧ cutB f t s hf ht = true
  · rw [if_pos h]; exact ⟨h.1.1, h.1.2, h.2, rfl⟩
  · rw [if_neg h] at hm; exact absurd rfl hm

/-! ### The places that a slice selects -/
def placeL (p s : Int) (m : Nat) : List Int := (List.range m).map fun (i : Nat) => p + (i : Int) * s
theorem placeL_length (p s : Int) (m : Nat) : (placeL p s m).length = m := by simp [placeL]
theorem placeL_cons (p s : Int) (m : Nat) : placeL p s (m + 1) = p :: placeL (p + s) s m := by
  unfold placeL
  rw [List.range_succ_eq_map, List.map_cons, List.map_map]
  congr 1
  · simp
  · apply List.map_congr_left
    intro i _
    show p + ((i + 1 : Nat) : Int) * s = p + s + (i : Int) * s
    rw [show ((i + 1 : Nat) : Int) = (i : Int) + 1 by omega, Int.add_mul]; omega
theorem placesW_eq (s : Int) (hs : -1000000 ≤ s ∧ s ≤ 1000000) : ∀ (k : Nat) (p : Int), (∀ i : Nat, i < k → -2000000 ≤ p + (i : Int) * s ∧ p + (i : Int) * s ≤ 2000000) → placesW s p k = placeL p s k
  | 0, _, _ => rfl
  | 1, p, _ => by simp [placesW, placeL]
  | k + 2, p, h => by
    have h0 := h 0 (by omega)
    have hw : wrap64 (p + s) = p + s := w64 (by omega) (by omega)
    rw [placesW, hw, placeL_cons, placesW_eq s hs (k + 1) (p + s)]
    intro i hi
    have := h (i + 1) (by omega)
    rw [show ((i + 1 : Nat) : Int) = (i : Int) + 1 by omega, Int.add_mul] at this
    omega
theorem places_some {n f t s : Int} {hf ht : Bool} (n0 : 0 ≤ n) (n1 : n ≤ 1000000) (h : cutB f t s hf ht = true) :
    impl_places.f n f t s hf ht = some (placeL (cutR n f t s hf ht).1 s (cutR n f t s hf ht).2.toNat) := by
  have S := cutB_iff h
  obtain ⟨m0, m1, hin⟩ := cutR_in (n := n) n0 h
  unfold impl_places.f
  rw [implCut_some, cutRR, if_pos ⟨⟨n0, n1⟩, h⟩]
  simp only [Option.bind_some]
  rw [placesW_eq s (by omega)]
  intro i hi
  have := hin i (by omega) (by omega)
  omega
theorem place_mem {n f t s : Int} {hf ht : Bool} (n0 : 0 ≤ n) (h : cutB f t s hf ht = true) : ∀ x ∈ placeL (cutR n f t s hf ht).1 s (cutR n f t s hf ht).2.toNat, 0 ≤ x ∧ x < n := by
  obtain ⟨m0, m1, hin⟩ := cutR_in (n := n) n0 h
  intro x hx
  unfold placeL at hx
  obtain ⟨i, hi, rfl⟩ := List.mem_map.1 hx
  have := List.mem_range.1 hi
  exact hin i (by omega) (by omega)

/-! ### Texts that are cut -/
def byteL (s : ByteArray) (i : Int) : UInt8 := s.data.toList.getD i.toNat 0
theorem byteL_at (s : ByteArray) (i : Nat) (h : i < s.size) : byteL s (i : Int) = s.data.toList[i]'(by simpa using h) := by
  unfold byteL
  rw [List.getD_eq_getElem?_getD, Int.toNat_natCast, List.getElem?_eq_getElem (by simpa using h)]; rfl
theorem bt_byteL (s : ByteArray) (i : Int) (h : i.toNat < s.size) : UInt8.ofNat (bt s i).toNat = byteL s i := by
  unfold bt byteL
  rw [dif_pos h, List.getD_eq_getElem?_getD, List.getElem?_eq_getElem (by simpa using h)]
  simp
  rfl
/-- What TextCut answers. -/
def textR (s : ByteArray) (f t st : Int) (hf ht : Bool) : ByteArray :=
  if s.size ≤ 400 ∧ cutB f t st hf ht = true then ⟨((placeL (cutR s.size f t st hf ht).1 st (cutR s.size f t st hf ht).2.toNat).map (byteL s)).toArray⟩ else ⟨#[]⟩
theorem bytesAt_some (s : ByteArray) : ∀ (ps : List Int), (∀ x ∈ ps, 0 ≤ x ∧ x < s.size) → bytesAt s ps = some (ps.map (byteL s))
  | [], _ => rfl
  | i :: ps, h => by
    have hi := h i List.mem_cons_self
    unfold bytesAt
    rw [dif_pos ⟨hi.1, by omega⟩, bytesAt_some s ps (fun x hx => h x (List.mem_cons_of_mem _ hx)), Option.map_some, List.map_cons]
    congr 2
    unfold byteL
    rw [List.getD_eq_getElem?_getD, List.getElem?_eq_getElem (by simp; omega)]
    rfl
theorem implText_some (s : ByteArray) (f t st : Int) (hf ht : Bool) : impl_TextCut.f s f t st hf ht = some (textR s f t st hf ht) := by
  unfold impl_TextCut.f textR
  by_cases hs : s.size > 400
  · rw [if_pos hs, if_neg (by omega)]
  rw [if_neg hs, cutOk_some]
  simp only [Option.bind_some]
  by_cases hB : cutB f t st hf ht = true
  · rw [if_pos (by exact hB), if_pos ⟨by omega, hB⟩, places_some (by omega) (by omega) hB]
    simp only [Option.bind_some]
    rw [bytesAt_some s _ (place_mem (by omega) hB)]
    rfl
  · rw [if_neg (by exact hB), if_neg (fun z => hB z.2)]

theorem textR_list (s : ByteArray) (f t st : Int) (hf ht : Bool) (h : s.size ≤ 400 ∧ cutB f t st hf ht = true) : (textR s f t st hf ht).data.toList = (placeL (cutR s.size f t st hf ht).1 st (cutR s.size f t st hf ht).2.toNat).map (byteL s) := by rw [textR, if_pos h]
theorem ba_ext {a b : ByteArray} (h : a.data.toList = b.data.toList) : a = b := by
  cases a; cases b
  simp only [Array.toList_inj] at h
  rw [h]

theorem placeL_one (p : Int) (p0 : 0 ≤ p) (m : Nat) (s : ByteArray) (h : p + m ≤ s.size) : (placeL p 1 m).map (byteL s) = (s.data.toList.drop p.toNat).take m := by
  have hsz : s.data.toList.length = s.size := by simp
  apply List.ext_getElem
  · rw [List.length_map, placeL_length, List.length_take, List.length_drop]; omega
  · intro i h1 h2
    simp only [List.length_map, placeL_length] at h1
    rw [List.getElem_map, List.getElem_take, List.getElem_drop]
    have e : (placeL p 1 m)[i]'(by rw [placeL_length]; exact h1) = ((p.toNat + i : Nat) : Int) := by
      simp [placeL]; omega
    rw [e, byteL_at _ _ (by omega)]
def clampI (n i : Int) : Int := boundI n 0 n true i 0
theorem clampI_bd (n i : Int) (h : 0 ≤ n) : 0 ≤ clampI n i ∧ clampI n i ≤ n := boundI_bd h true (Int.le_refl _) h
theorem parts (s : ByteArray) (i : Int) (hs : s.size ≤ 400) (h1 : -1000000 ≤ i) (h2 : i ≤ 1000000) : textR s 0 i 1 false true ++ textR s i 0 1 true false = s := by
  have c := clampI_bd s.size i (by omega)
  have B1 : cutB 0 i 1 false true = true := by unfold cutB; exact decide_eq_true ⟨by omega, by omega, h1, h2, by omega, by omega, by omega, .inr rfl, .inl rfl⟩
  have B2 : cutB i 0 1 true false = true := by unfold cutB; exact decide_eq_true ⟨h1, h2, by omega, by omega, by omega, by omega, by omega, .inl rfl, .inr rfl⟩
  have e1 : cutR s.size 0 i 1 false true = (0, clampI s.size i) := by
    have a : cutP s.size 0 1 false = 0 := by unfold cutP boundI; simp
    have b : cutQ s.size i 1 true = clampI s.size i := by unfold cutQ clampI boundI cutLo cutHi; simp
    unfold cutR
    rw [a, b, cutCount, if_pos (by omega)]
    by_cases h : 0 < clampI s.size i
    · rw [if_pos h, Int.ediv_one]; congr 1; omega
    · rw [if_neg h]; congr 1; omega
  have e2 : cutR s.size i 0 1 true false = (clampI s.size i, (s.size : Int) - clampI s.size i) := by
    have a : cutP s.size i 1 true = clampI s.size i := by unfold cutP clampI boundI cutLo cutHi; simp
    have b : cutQ s.size 0 1 false = s.size := by unfold cutQ boundI; simp
    unfold cutR
    rw [a, b, cutCount, if_pos (by omega)]
    by_cases h : clampI s.size i < s.size
    · rw [if_pos h, Int.ediv_one]; congr 1; omega
    · rw [if_neg h]; congr 1; omega
  have l1 := textR_list s 0 i 1 false true ⟨hs, B1⟩
  have l2 := textR_list s i 0 1 true false ⟨hs, B2⟩
  rw [e1] at l1
  rw [e2] at l2
  rw [placeL_one _ (by omega) _ s (by omega)] at l1 l2
  have hsz : s.data.toList.length = s.size := by simp
  apply ba_ext
  rw [ByteArray.data_append, Array.toList_append, l1, l2, Int.toNat_zero, List.drop_zero, List.take_of_length_le (l := s.data.toList.drop _) (by rw [List.length_drop]; omega), List.take_append_drop]
theorem FnTextParts : laws_FnTextParts.Pure := by
  intro l hm _ hb
  refine Ev.rounds ?_
  unfold laws_FnTextParts.f
  by_cases hl : (l.length : Int) > 1048576
  · exact ev_pos hl (ev_some rfl)
  refine ev_neg hl ?_
  obtain ⟨code, e, hc, hbc⟩ := newRnd_ok (l := l) (by omega) hb
  obtain ⟨s, q, e1, hs, q0, q1⟩ := text_ok hc hbc (p := 0) (by omega) (by omega)
  obtain ⟨v, q2, e2, v0, v1, a2, b2⟩ := pick_ok hc hbc (p := q) (by omega) (by omega) 20
  have hw : wrap64 (v - 10) = v - 10 := w64 (by omega) (by omega)
  obtain ⟨i, q3, e3, hi, a3, b3⟩ := often_ok hc hbc (p := q2) (by omega) (by omega) (v - 10) (by omega)
  have hd : Ev (fun k => spec_DrawTextAt.f k l) (s, i) := by
    unfold spec_DrawTextAt.f
    refine ev_bind1 e (Ev.bind e1 (ev_bind1 e2 ?_))
    simp only []
    rw [hw]
    exact ev_bind1 e3 (ev_some rfl)
  refine Ev.bind hd (Ev.bind (impl_at s i (by omega)) (Ev.bind (spec_at s i (by omega)) (ev_pos rfl (ev_neg (by simp) ?_))))
  have no : Ev (fun k => laws_FnTextParts.j0 k s i (atR s i).1 (atR s i).2 (atR s i).1 (atR s i).2 true) true := by
    refine ev_succ ?_
    simp only [laws_FnTextParts.j0]
    exact ev_pos trivial (ev_pos trivial (ev_some (by simp)))
  by_cases h1 : i < -1000000
  · exact ev_pos h1 no
  refine ev_neg h1 ?_
  by_cases h2 : i > 1000000
  · exact ev_pos h2 no
  refine ev_neg h2 ?_
  by_cases h3 : (s.size : Int) > 400
  · have : decide ((s.size : Int) > 400) = true := decide_eq_true h3
    simp only [this]
    exact no
  · have : decide ((s.size : Int) > 400) = false := decide_eq_false h3
    simp only [this]
    refine ev_succ ?_
    simp only [laws_FnTextParts.j0]
    have hp := parts s i (by omega) (by omega) (by omega)
    have hz : (textR s 0 i 1 false true).size + (textR s i 0 1 true false).size = s.size := by rw [← ByteArray.size_append, hp]
    refine ev_neg (by simp) (ev_bind1 (implText_some _ _ _ _ _ _) (ev_bind1 (implText_some _ _ _ _ _ _) (ev_pos (by omega) (ev_some ?_))))
    rw [hp]; simp

end Go.Proofs.Yteippijocmpncaa.Pure
