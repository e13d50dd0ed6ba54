/- FnTextAt: for every code, indices from the end of a text find the same as those from its begin. -/
import Derived.Test.YtppbnfoagbipaaaXFnTextAtx2
namespace Go.Proofs.Ytppbnfoagbipaaa.Pure
open Go.RowKit Go.Proofs.Ytppbnfoagbipaaa.XFnTextAt Go.Proofs.YtppbnfoagbipaaaW.PrintWords Go.Proofs.YtppbnfoagbipaaaW.PrintLast Go.Proofs.YtppbnfoagbipaaaW.PrintMore
set_option linter.unusedVariables false
set_option linter.unusedSimpArgs false

/-! ### Rounds, and words of 64 bits -/
theorem ev_succ {α : Type} {g : Nat → Option α} {r : α} (h : Ev (fun k => g (k + 1)) r) : Ev g r := Ev.step (fun _ => rfl) h
theorem ev_some {α : Type} {o : Option α} {r : α} (h : o = some r) : Ev (fun _ => o) r := ⟨0, fun _ _ => h⟩
theorem ev_pos {α : Type} {c : Prop} [Decidable c] {A B : Nat → Option α} {r : α} (h : c) (k : Ev A r) : Ev (fun n => if c then A n else B n) r :=
  Ev.congr (fun _ => if_pos h) k
theorem ev_neg {α : Type} {c : Prop} [Decidable c] {A B : Nat → Option α} {r : α} (h : ¬ c) (k : Ev B r) : Ev (fun n => if c then A n else B n) r :=
  Ev.congr (fun _ => if_neg h) k
theorem ev_eq {α : Type} {g : Nat → Option α} {r s : α} (h : Ev g r) (e : r = s) : Ev g s := e ▸ h
theorem ev_bind1 {α β : Type} {o : Option α} {f : Nat → α → Option β} {a : α} {r : β} (h : o = some a) (k : Ev (fun n => f n a) r) : Ev (fun n => o.bind (f n)) r :=
  Ev.bind (ev_some h) k
theorem ev_det {α : Type} {g : Nat → Option α} {r s : α} (h : Ev g r) (k : Ev g s) : r = s := by
  obtain ⟨K, h⟩ := h
  obtain ⟨L, k⟩ := k
  have h1 := h (max K L) (by omega)
  have h2 := k (max K L) (by omega)
  rw [h1] at h2
  exact Option.some.inj h2
theorem w64 {n : Int} (h : -9223372036854775808 ≤ n) (h' : n ≤ 9223372036854775807) : wrap64 n = n := by unfold wrap64; omega
theorem byte_of {l : List Int} (h : ∀ x ∈ l, (Lit.int .u8 x).wf = true) (i : Int) : 0 ≤ rd l i ∧ rd l i ≤ 255 := by
  unfold rd
  by_cases hi : i.toNat < l.length
  · have hm : l.getD i.toNat 0 ∈ l := by
      rw [List.getD_eq_getElem?_getD, List.getElem?_eq_getElem hi]
      exact List.getElem_mem hi
    have := h _ hm
    have m0 : IntKind.u8.min = 0 := by decide
    have m1 : IntKind.u8.max = 255 := by decide
    simp only [Lit.wf, m0, m1, Bool.and_eq_true, decide_eq_true_eq] at this
    exact this
  · rw [List.getD_eq_getElem?_getD, List.getElem?_eq_none (by omega)]
    simp

/-! ### Draws: what they pick, and that they never panic -/
theorem xor_ok (v u : Int) (h0 : 0 ≤ v) (h1 : v < 4611686018427387904) (u0 : 0 ≤ u) (u1 : u < 4611686018427387904) : 0 ≤ Go.bits .xor .i64 v u := by
  obtain ⟨a, rfl⟩ := Int.eq_ofNat_of_zero_le h0
  obtain ⟨b, rfl⟩ := Int.eq_ofNat_of_zero_le u0
  have ofInt : ∀ a : Nat, a < 9223372036854775808 → (BitVec.ofInt 64 (a : Int)).toNat = a := fun a ha => by
    rw [BitVec.ofInt_natCast, BitVec.toNat_ofNat]; exact Nat.mod_eq_of_lt (by omega)
  have hx : a ^^^ b < 2 ^ 63 := Nat.xor_lt_two_pow (by omega) (by omega)
  show 0 ≤ IntKind.i64.wrap ((BitVec.ofInt 64 (a : Int) ^^^ BitVec.ofInt 64 (b : Int)).toNat : Int)
  rw [BitVec.toNat_xor, ofInt a (by omega), ofInt b (by omega), IntKind.wrap_i64]
  omega

theorem pick_ok {code : List Int} (hl : code.length ≤ 4000) (hb : ∀ x ∈ code, (Lit.int .u8 x).wf = true) {p : Int} (h0 : 0 ≤ p) (h1 : p ≤ 1000000) (n : Int) :
    ∃ v q, spec_rnd_pick.f code p n = some (v, q) ∧ 0 ≤ v ∧ (v < n ∨ (n < 2 ∧ v = 0)) ∧ p ≤ q ∧ q ≤ p + 1 := by
  unfold spec_rnd_pick.f
  by_cases hn : n < 2
  · rw [if_pos hn]; exact ⟨0, p, rfl, by omega, .inr ⟨hn, rfl⟩, by omega, by omega⟩
  rw [if_neg hn]
  have hw : wrap64 (p + 1) = p + 1 := w64 (by omega) (by omega)
  have fin : ∀ v : Int, 0 ≤ v → ∃ v' q, (if n = 0 then none else some (Int.tmod v n, wrap64 (p + 1))) = some (v', q) ∧ 0 ≤ v' ∧ (v' < n ∨ (n < 2 ∧ v' = 0)) ∧ p ≤ q ∧ q ≤ p + 1 := by
    intro v hv
    rw [if_neg (by omega), hw, Int.tmod_eq_emod_of_nonneg hv]
    exact ⟨_, _, rfl, Int.emod_nonneg _ (by omega), .inl (Int.emod_lt_of_pos _ (by omega)), by omega, by omega⟩
  by_cases hc : (code.length : Int) > 0
  · rw [if_pos hc, if_neg (by omega)]
    have e1 : Int.tmod p (code.length : Int) = p % code.length := Int.tmod_eq_emod_of_nonneg h0
    have e2 : wrap64 (wrap64 (p * 7) + 3) = p * 7 + 3 := by rw [w64 (n := p * 7) (by omega) (by omega)]; exact w64 (by omega) (by omega)
    have e3 : Int.tmod (p * 7 + 3) (code.length : Int) = (p * 7 + 3) % code.length := Int.tmod_eq_emod_of_nonneg (by omega)
    have m0 := Int.emod_nonneg p (show (code.length : Int) ≠ 0 by omega)
    have m1 := Int.emod_lt_of_pos p hc
    have m2 := Int.emod_nonneg (p * 7 + 3) (show (code.length : Int) ≠ 0 by omega)
    have m3 := Int.emod_lt_of_pos (p * 7 + 3) hc
    have e4 : Int.tdiv p (code.length : Int) = p / code.length := Int.tdiv_eq_ediv_of_nonneg h0
    have d0 : 0 ≤ p / (code.length : Int) := Int.ediv_nonneg h0 (by omega)
    have d1 : p / (code.length : Int) ≤ p := Int.ediv_le_self _ h0
    rw [e1, if_pos m0, if_pos m1, e2, e3, if_pos m2, if_pos m3, e4]
    obtain ⟨a0, a1⟩ := byte_of hb (p % code.length)
    obtain ⟨b0, b1⟩ := byte_of hb ((p * 7 + 3) % code.length)
    generalize rd code (p % code.length) = a at a0 a1 ⊢
    generalize rd code ((p * 7 + 3) % code.length) = b at b0 b1 ⊢
    generalize p / (code.length : Int) = d at d0 d1 ⊢
    have w1 : wrap64 a = a := w64 (by omega) (by omega)
    have w2 : wrap64 b = b := w64 (by omega) (by omega)
    have w3 : wrap64 (a * 131) = a * 131 := w64 (by omega) (by omega)
    have w4 : wrap64 (b * 1117) = b * 1117 := w64 (by omega) (by omega)
    have w5 : wrap64 (p * 29) = p * 29 := w64 (by omega) (by omega)
    have w6 : wrap64 d = d := w64 (by omega) (by omega)
    have w7 : wrap64 (d * 53) = d * 53 := w64 (by omega) (by omega)
    have w8 : wrap64 (a * 131 + b * 1117) = a * 131 + b * 1117 := w64 (by omega) (by omega)
    have w9 : wrap64 (a * 131 + b * 1117 + p * 29) = a * 131 + b * 1117 + p * 29 := w64 (by omega) (by omega)
    have w10 : wrap64 (a * 131 + b * 1117 + p * 29 + d * 53) = a * 131 + b * 1117 + p * 29 + d * 53 := w64 (by omega) (by omega)
    rw [w1, w2, w3, w4, w5, w6, w7, w8, w9, w10]
    have big : 0 ≤ Go.bits .xor .i64 (a * 131 + b * 1117 + p * 29 + d * 53) (wrap64 (Int.tdiv (a * 131 + b * 1117 + p * 29 + d * 53) 64)) := by
      have t : Int.tdiv (a * 131 + b * 1117 + p * 29 + d * 53) 64 = (a * 131 + b * 1117 + p * 29 + d * 53) / 64 := Int.tdiv_eq_ediv_of_nonneg (by omega)
      rw [t, w64 (by omega) (by omega)]
      exact xor_ok _ _ (by omega) (by omega) (by omega) (by omega)
    by_cases h256 : n > 256
    · rw [if_pos h256]; exact fin _ big
    · rw [if_neg h256]
      by_cases hp : p ≥ (code.length : Int)
      · rw [if_pos hp]; exact fin _ big
      · rw [if_neg hp]; exact fin _ a0
  · rw [if_neg hc, if_neg (by omega), hw]
    exact ⟨_, _, rfl, by simp, .inl (by simp; omega), by omega, by omega⟩

theorem newRnd_ok {l : List Int} (hl : l.length ≤ 1048576) (hb : ∀ x ∈ l, (Lit.int .u8 x).wf = true) :
    ∃ code, spec_newRnd.f l = some (code, 0) ∧ code.length ≤ 4000 ∧ ∀ x ∈ code, (Lit.int .u8 x).wf = true := by
  unfold spec_newRnd.f
  have h : mn (l.length : Int) 4000 = min (l.length : Int) 4000 := by unfold mn; split <;> omega
  rw [h, if_pos (by omega), if_pos (by omega)]
  refine ⟨_, rfl, ?_, fun x hx => hb x (List.mem_of_mem_take hx)⟩
  rw [List.length_take]; omega

theorem one_ok {code : List Int} (hl : code.length ≤ 4000) (hb : ∀ x ∈ code, (Lit.int .u8 x).wf = true) {p : Int} (h0 : 0 ≤ p) (h1 : p ≤ 1000000) (list : List Int) (hn : list ≠ []) :
    ∃ v q, spec_rnd_one.f code p list = some (v, q) ∧ v ∈ list ∧ p ≤ q ∧ q ≤ p + 1 := by
  have hlen : 0 < list.length := List.length_pos_iff.2 hn
  obtain ⟨i, q, e, i0, i1, q0, q1⟩ := pick_ok hl hb h0 h1 (list.length : Int)
  unfold spec_rnd_one.f
  have hi : i < (list.length : Int) := by omega
  rw [e]
  simp only [Option.bind_some]
  rw [if_pos i0, if_pos hi]
  refine ⟨_, _, rfl, ?_, q0, q1⟩
  unfold rd
  rw [List.getD_eq_getElem?_getD, List.getElem?_eq_getElem (show i.toNat < list.length by omega)]
  exact List.getElem_mem _

theorem often_ok {code : List Int} (hl : code.length ≤ 4000) (hb : ∀ x ∈ code, (Lit.int .u8 x).wf = true) {p : Int} (h0 : 0 ≤ p) (h1 : p ≤ 900000) (n : Int) (hn : -9223372036854775808 ≤ n ∧ n ≤ 9223372036854775807) :
    ∃ v q, spec_rnd_often.f code p n = some (v, q) ∧ (-9223372036854775808 ≤ v ∧ v ≤ 9223372036854775807) ∧ p ≤ q ∧ q ≤ p + 2 := by
  obtain ⟨i, q, e, i0, i1, q0, q1⟩ := pick_ok hl hb h0 (by omega) 16
  unfold spec_rnd_often.f
  rw [e]
  simp only [Option.bind_some]
  by_cases hi : i = 0
  · rw [if_pos hi]
    unfold spec_rnd_odd.f
    obtain ⟨v, q', e', hv, q0', q1'⟩ := one_ok hl hb (p := q) (by omega) (by omega) [(-1), 4611686018427387904, (-4611686018427387904), 1001, 7, 1000001, (-9223372036854775808), 9223372036854775807] (by simp)
    rw [e']
    simp only [Option.bind_some]
    refine ⟨_, _, rfl, ?_, by omega, by omega⟩
    simp only [List.mem_cons, List.not_mem_nil, or_false] at hv
    omega
  · rw [if_neg hi]
    exact ⟨_, _, rfl, hn, by omega, by omega⟩

theorem of_ok {code : List Int} (hl : code.length ≤ 4000) (hb : ∀ x ∈ code, (Lit.int .u8 x).wf = true) {p : Int} (h0 : 0 ≤ p) (h1 : p ≤ 1000000) (list : List ByteArray) (hn : list ≠ []) :
    ∃ v q, spec_rnd_of.f code p list = some (v, q) ∧ v ∈ list ∧ p ≤ q ∧ q ≤ p + 1 := by
  have hlen : 0 < list.length := List.length_pos_iff.2 hn
  obtain ⟨i, q, e, i0, i1, q0, q1⟩ := pick_ok hl hb h0 h1 (list.length : Int)
  unfold spec_rnd_of.f
  have hi : i < (list.length : Int) := by omega
  rw [e]
  simp only [Option.bind_some]
  rw [if_pos i0, if_pos hi]
  refine ⟨_, _, rfl, ?_, q0, q1⟩
  unfold rdOf
  rw [List.getD_eq_getElem?_getD, List.getElem?_eq_getElem (show i.toNat < list.length by omega)]
  exact List.getElem_mem _

theorem text_pad (code : List Int) (p : Int) (d : Nat) : ∀ x : ByteArray, x.size ≤ 1000 → 400 - x.size ≤ d → ∃ s, Ev (fun k => spec_rnd_text.l1 k x code p) (s, p) ∧ s.size ≤ 1000 := by
  induction d with
  | zero =>
    intro x hx hd
    refine ⟨x, ev_succ ?_, hx⟩
    simp only [spec_rnd_text.l1]
    exact ev_neg (by omega) (ev_some rfl)
  | succ d ih =>
    intro x hx hd
    by_cases h : (x.size : Int) < 399
    · have hz : (x ++ (⟨#[97, 98]⟩ : ByteArray)).size = x.size + 2 := by rw [ByteArray.size_append]; rfl
      obtain ⟨s, hs, hz'⟩ := ih (x ++ (⟨#[97, 98]⟩ : ByteArray)) (by omega) (by omega)
      refine ⟨s, ev_succ ?_, hz'⟩
      simp only [spec_rnd_text.l1]
      exact ev_pos h (ev_pos (by omega) hs)
    · refine ⟨x, ev_succ ?_, hx⟩
      simp only [spec_rnd_text.l1]
      exact ev_neg h (ev_some rfl)

theorem text_from {code : List Int} (hl : code.length ≤ 4000) (hb : ∀ x ∈ code, (Lit.int .u8 x).wf = true) (d : Nat) : ∀ (x : ByteArray) (n p : Int), 0 ≤ n → n ≤ d → d ≤ 8 → x.size ≤ 3 * (8 - d) → 0 ≤ p → p ≤ 900008 - d →
    ∃ s q, Ev (fun k => spec_rnd_text.l0 k x n code p) (s, q) ∧ s.size ≤ 1000 ∧ p ≤ q ∧ q ≤ p + d + 1 := by
  induction d with
  | zero =>
    intro x n p n0 n1 _ hx p0 p1
    obtain ⟨v, q, e, v0, _, q0, q1⟩ := pick_ok hl hb p0 (by omega) 40
    by_cases hv : v = 0
    · obtain ⟨s, hs, hz⟩ := text_pad code q 400 x (by omega) (by omega)
      refine ⟨s, q, ev_succ ?_, hz, q0, by omega⟩
      simp only [spec_rnd_text.l0]
      exact ev_neg (by omega) (ev_bind1 e (ev_pos hv hs))
    · refine ⟨x, q, ev_succ ?_, by omega, q0, by omega⟩
      simp only [spec_rnd_text.l0]
      exact ev_neg (by omega) (ev_bind1 e (ev_neg hv (ev_some rfl)))
  | succ d ih =>
    intro x n p n0 n1 hd hx p0 p1
    by_cases hn : n > 0
    · have hw : wrap64 (n - 1) = n - 1 := w64 (by omega) (by omega)
      obtain ⟨v, q, e, hv, q0, q1⟩ := of_ok hl hb p0 (by omega) (([(⟨#[97]⟩ : ByteArray), (⟨#[98]⟩ : ByteArray), (⟨#[97, 98]⟩ : ByteArray), (⟨#[32]⟩ : ByteArray), (⟨#[97, 98, 97]⟩ : ByteArray), (⟨#[10]⟩ : ByteArray), (⟨#[39]⟩ : ByteArray), strOfNums (([92] : List Int)), (⟨#[0]⟩ : ByteArray), (⟨#[255]⟩ : ByteArray), (⟨#[195, 169]⟩ : ByteArray), (⟨#[44]⟩ : ByteArray)] : List ByteArray)) (by simp)
      have hz : v.size ≤ 3 := by
        have all : ∀ u ∈ (([(⟨#[97]⟩ : ByteArray), (⟨#[98]⟩ : ByteArray), (⟨#[97, 98]⟩ : ByteArray), (⟨#[32]⟩ : ByteArray), (⟨#[97, 98, 97]⟩ : ByteArray), (⟨#[10]⟩ : ByteArray), (⟨#[39]⟩ : ByteArray), strOfNums (([92] : List Int)), (⟨#[0]⟩ : ByteArray), (⟨#[255]⟩ : ByteArray), (⟨#[195, 169]⟩ : ByteArray), (⟨#[44]⟩ : ByteArray)] : List ByteArray)), u.size ≤ 3 := by decide +kernel
        exact all v hv
      obtain ⟨s, q', hs, hz', q0', q1'⟩ := ih (x ++ v) (n - 1) q (by omega) (by omega) (by omega) (by rw [ByteArray.size_append]; omega) (by omega) (by omega)
      refine ⟨s, q', ev_succ ?_, hz', by omega, by omega⟩
      simp only [spec_rnd_text.l0]
      refine ev_pos hn (ev_bind1 e (ev_pos (by show x.size + v.size ≤ 9223372036854775807; omega) ?_))
      rw [hw]
      exact hs
    · obtain ⟨s, q', hs, hz', q0', q1'⟩ := ih x n p n0 (by omega) (by omega) (by omega) p0 (by omega)
      exact ⟨s, q', hs, hz', q0', by omega⟩

theorem text_ok {code : List Int} (hl : code.length ≤ 4000) (hb : ∀ x ∈ code, (Lit.int .u8 x).wf = true) {p : Int} (h0 : 0 ≤ p) (h1 : p ≤ 800000) :
    ∃ s q, Ev (fun k => spec_rnd_text.f k code p) (s, q) ∧ s.size ≤ 1000 ∧ p ≤ q ∧ q ≤ p + 10 := by
  obtain ⟨n, q, e, n0, n1, q0, q1⟩ := pick_ok hl hb h0 (by omega) 9
  obtain ⟨s, q', hs, hz, q0', q1'⟩ := text_from hl hb 8 ⟨#[]⟩ n q n0 (by omega) (by omega) (by simp [ByteArray.size]) (by omega) (by omega)
  refine ⟨s, q', ?_, hz, by omega, by omega⟩
  unfold spec_rnd_text.f
  exact ev_bind1 e hs

/-! ### TextAt -/
/-- What TextAt answers. -/
def atR (s : ByteArray) (i : Int) : ByteArray × Bool :=
  if s.size ≤ 400 ∧ -(s.size : Int) ≤ i ∧ i < s.size then (if i < 0 then (s.extract (i + s.size).toNat (i + s.size + 1).toNat, true) else (s.extract i.toNat (i + 1).toNat, true)) else (⟨#[]⟩, false)

theorem spec_at_tail (s : ByteArray) (i : Int) (hs : s.size ≤ 1048576) (b : Bool) (h : b = false → s.size ≤ 400 ∧ -(s.size : Int) ≤ i ∧ i < s.size) (h' : b = true → ¬ (s.size ≤ 400 ∧ -(s.size : Int) ≤ i ∧ i < s.size)) :
    Ev (fun k => spec_TextAt.j0 k s i b) (atR s i) := by
  refine ev_succ ?_
  simp only [spec_TextAt.j0]
  cases b with
  | true => exact ev_pos rfl (ev_some (by rw [atR, if_neg (h' rfl)]))
  | false =>
    have hh := h rfl
    refine ev_neg (by simp) ?_
    by_cases hn : i < 0
    · have hw : wrap64 (i + (s.size : Int)) = i + s.size := w64 (by omega) (by omega)
      have hw1 : wrap64 (i + (s.size : Int) + 1) = i + s.size + 1 := w64 (by omega) (by omega)
      rw [hw, hw1]
      exact ev_pos hn (ev_pos (by omega) (ev_pos (by omega) (ev_pos (by omega) (ev_some (by rw [atR, if_pos hh, if_pos hn])))))
    · have hw1 : wrap64 (i + 1) = i + 1 := w64 (by omega) (by omega)
      rw [hw1]
      exact ev_neg hn (ev_pos (by omega) (ev_pos (by omega) (ev_pos (by omega) (ev_some (by rw [atR, if_pos hh, if_neg hn])))))

theorem impl_at_tail (s : ByteArray) (i : Int) (hs : s.size ≤ 1048576) (b : Bool) (h : b = false → s.size ≤ 400 ∧ -(s.size : Int) ≤ i ∧ i < s.size) (h' : b = true → ¬ (s.size ≤ 400 ∧ -(s.size : Int) ≤ i ∧ i < s.size)) :
    Ev (fun k => impl_TextAt.j0 k s i b) (atR s i) := by
  refine ev_succ ?_
  simp only [impl_TextAt.j0]
  cases b with
  | true => exact ev_pos rfl (ev_some (by rw [atR, if_neg (h' rfl)]))
  | false =>
    have hh := h rfl
    refine ev_neg (by simp) ?_
    by_cases hn : i < 0
    · have hw : wrap64 (i + (s.size : Int)) = i + s.size := w64 (by omega) (by omega)
      have hw1 : wrap64 (i + (s.size : Int) + 1) = i + s.size + 1 := w64 (by omega) (by omega)
      rw [hw, hw1]
      exact ev_pos hn (ev_pos (by omega) (ev_pos (by omega) (ev_pos (by omega) (ev_some (by rw [atR, if_pos hh, if_pos hn])))))
    · have hw1 : wrap64 (i + 1) = i + 1 := w64 (by omega) (by omega)
      rw [hw1]
      exact ev_neg hn (ev_pos (by omega) (ev_pos (by omega) (ev_pos (by omega) (ev_some (by rw [atR, if_pos hh, if_neg hn])))))

theorem spec_at (s : ByteArray) (i : Int) (hs : s.size ≤ 1048576) : Ev (fun k => spec_TextAt.f k s i) (atR s i) := by
  unfold spec_TextAt.f spec_validText.f spec_inRange.f
  refine ev_bind1 rfl ?_
  by_cases h1 : s.size ≤ 400
  · have hw : wrap64 (-(s.size : Int)) = -(s.size : Int) := w64 (by omega) (by omega)
    have hw1 : wrap64 ((s.size : Int) - 1) = (s.size : Int) - 1 := w64 (by omega) (by omega)
    rw [hw, hw1]
    refine ev_pos (by simp; omega) ?_
    by_cases h2 : i ≥ -(s.size : Int)
    · refine ev_bind1 (if_pos h2) (spec_at_tail s i hs _ ?_ ?_)
      · simp; omega
      · simp; omega
    · refine ev_bind1 (if_neg h2) (spec_at_tail s i hs _ (by simp) (by simp; omega))
  · exact ev_neg (by simp; omega) (spec_at_tail s i hs _ (by simp) (by simp; omega))

theorem impl_at (s : ByteArray) (i : Int) (hs : s.size ≤ 1048576) : Ev (fun k => impl_TextAt.f k s i) (atR s i) := by
  unfold impl_TextAt.f
  by_cases h1 : s.size ≤ 400
  · have hw : wrap64 (-(s.size : Int)) = -(s.size : Int) := w64 (by omega) (by omega)
    rw [hw]
    refine ev_neg (by omega) ?_
    by_cases h2 : i < -(s.size : Int)
    · exact ev_pos h2 (impl_at_tail s i hs _ (by simp) (by simp; omega))
    · exact ev_neg h2 (impl_at_tail s i hs _ (by simp; omega) (by simp; omega))
  · exact ev_pos (by omega) (impl_at_tail s i hs _ (by simp) (by simp; omega))

theorem law_tail (s : ByteArray) (i : Int) (hs : s.size ≤ 1048576) (hi : -9223372036854775808 ≤ i ∧ i ≤ 9223372036854775807) : Ev (fun k => laws_FnTextAt.j1 k s i (atR s i).1 true (!(atR s i).2)) true := by
  refine ev_succ ?_
  simp only [laws_FnTextAt.j1]
  by_cases h : s.size ≤ 400 ∧ -(s.size : Int) ≤ i ∧ i < s.size
  · by_cases hn : i < 0
    · have e : atR s i = (s.extract (i + s.size).toNat (i + s.size + 1).toNat, true) := by rw [atR, if_pos h, if_pos hn]
      have e2 : atR s (i + s.size) = (s.extract (i + s.size).toNat (i + s.size + 1).toNat, true) := by rw [atR, if_pos (by omega), if_neg (by omega)]
      have hw : wrap64 (i + (s.size : Int)) = i + s.size := w64 (by omega) (by omega)
      rw [e, hw]
      refine ev_neg (by simp) (ev_pos hn (Ev.bind (impl_at s (i + s.size) hs) ?_))
      rw [e2]
      refine ev_pos rfl (ev_pos rfl (ev_some ?_))
      have : (s.extract (i + s.size).toNat (i + s.size + 1).toNat).size = 1 := by rw [ByteArray.size_extract]; omega
      simp [this]
    · have e : atR s i = (s.extract i.toNat (i + 1).toNat, true) := by rw [atR, if_pos h, if_neg hn]
      have e2 : atR s (i - s.size) = (s.extract i.toNat (i + 1).toNat, true) := by
        rw [atR, if_pos (by omega), if_pos (by omega), show i - (s.size : Int) + s.size = i by omega]
      have hw : wrap64 (i - (s.size : Int)) = i - s.size := w64 (by omega) (by omega)
      rw [e, hw]
      refine ev_neg (by simp) (ev_neg hn (Ev.bind (impl_at s (i - s.size) hs) ?_))
      rw [e2]
      refine ev_pos rfl (ev_pos rfl (ev_some ?_))
      have : (s.extract i.toNat (i + 1).toNat).size = 1 := by rw [ByteArray.size_extract]; omega
      simp [this]
  · have e : atR s i = (⟨#[]⟩, false) := by rw [atR, if_neg h]
    rw [e]
    exact ev_pos rfl (ev_some rfl)

theorem FnTextAt : laws_FnTextAt.Pure := by
  intro l hm _ hb
  refine Ev.rounds ?_
  unfold laws_FnTextAt.f
  by_cases hl : (l.length : Int) > 1048576
  · exact ev_pos hl (ev_some rfl)
  refine ev_neg hl ?_
  obtain ⟨code, e, hc, hbc⟩ := newRnd_ok (l := l) (by omega) hb
  obtain ⟨s, q, hs, hz, q0, q1⟩ := text_ok hc hbc (p := 0) (by omega) (by omega)
  obtain ⟨v, q', e1, v0, v1, q0', q1'⟩ := pick_ok hc hbc (p := q) (by omega) (by omega) 20
  have hw : wrap64 (v - 10) = v - 10 := w64 (by omega) (by omega)
  obtain ⟨n, q'', e2, hn, _, _⟩ := often_ok hc hbc (p := q') (by omega) (by omega) (v - 10) (by omega)
  have D : Ev (fun k => spec_DrawTextAt.f k l) (s, n) := by
    unfold spec_DrawTextAt.f
    refine ev_bind1 e (Ev.bind hs (ev_bind1 e1 ?_))
    rw [hw]
    exact ev_bind1 e2 (ev_some rfl)
  refine Ev.bind D (Ev.bind (impl_at s n (by omega)) (Ev.bind (spec_at s n (by omega)) (ev_pos rfl ?_)))
  refine ev_succ ?_
  simp only [laws_FnTextAt.j0]
  refine ev_pos (by simp) ?_
  have e3 : ((atR s n).2 == (atR s n).2) = true := by simp
  rw [e3]
  exact law_tail s n (by omega) hn

end Go.Proofs.Ytppbnfoagbipaaa.Pure
