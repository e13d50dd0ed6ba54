/- FnTextOdd: for every code, every second byte and the others are all. -/
import Derived.Test.YtdloehnjofpbmaaXFnTextOddx5
namespace Go.Proofs.Ytdloehnjofpbmaa.Pure
open Go.RowKit Go.Proofs.Ytdloehnjofpbmaa.XFnTextOdd Go.Proofs.YtdloehnjofpbmaaW.PrintWords Go.Proofs.YtdloehnjofpbmaaW.PrintLast Go.Proofs.YtdloehnjofpbmaaW.PrintMore
set_option linter.unusedVariables false
set_option linter.unusedSimpArgs false

/-! ### Rounds, and words of 64 bits -/
theorem ev_succ {α : Type} {g : Nat → Option α} {r : α} (h : Ev (fun k => g (k + 1)) r) : Ev g r := Ev.step (fun _ => rfl) h
theorem ev_some {α : Type} {o : Option α} {r : α} (h : o = some r) : Ev (fun _ => o) r := ⟨0, fun _ _ => h⟩
theorem ev_pos {α : Type} {c : Prop} [Decidable c] {A B : Nat → Option α} {r : α} (h : c) (k : Ev A r) : Ev (fun n => if c then A n else B n) r :=
  Ev.congr (fun _ => if_pos h) k
theorem ev_neg {α : Type} {c : Prop} [Decidable c] {A B : Nat → Option α} {r : α} (h : ¬ c) (k : Ev B r) : Ev (fun n => if c then A n else B n) r :=
  Ev.congr (fun _ => if_neg h) k
theorem ev_eq {α : Type} {g : Nat → Option α} {r s : α} (h : Ev g r) (e : r = s) : Ev g s := e ▸ h
theorem ev_bind1 {α β : Type} {o : Option α} {f : Nat → α → Option β} {a : α} {r : β} (h : o = some a) (k : Ev (fun n => f n a) r) : Ev (fun n => o.bind (f n)) r :=
  Ev.bind (ev_some h) k
theorem ev_det {α : Type} {g : Nat → Option α} {r s : α} (h : Ev g r) (k : Ev g s) : r = s := by
  obtain ⟨K, h⟩ := h
  obtain ⟨L, k⟩ := k
  have h1 := h (max K L) (by omega)
  have h2 := k (max K L) (by omega)
  rw [h1] at h2
  exact Option.some.inj h2
theorem w64 {n : Int} (h : -9223372036854775808 ≤ n) (h' : n ≤ 9223372036854775807) : wrap64 n = n := by unfold wrap64; omega
theorem byte_of {l : List Int} (h : ∀ x ∈ l, (Lit.int .u8 x).wf = true) (i : Int) : 0 ≤ rd l i ∧ rd l i ≤ 255 := by
  unfold rd
  by_cases hi : i.toNat < l.length
  · have hm : l.getD i.toNat 0 ∈ l := by
      rw [List.getD_eq_getElem?_getD, List.getElem?_eq_getElem hi]
      exact List.getElem_mem hi
    have := h _ hm
    have m0 : IntKind.u8.min = 0 := by decide
    have m1 : IntKind.u8.max = 255 := by decide
    simp only [Lit.wf, m0, m1, Bool.and_eq_true, decide_eq_true_eq] at this
    exact this
  · rw [List.getD_eq_getElem?_getD, List.getElem?_eq_none (by omega)]
    simp

/-! ### Draws: what they pick, and that they never panic -/
theorem xor_ok (v u : Int) (h0 : 0 ≤ v) (h1 : v < 4611686018427387904) (u0 : 0 ≤ u) (u1 : u < 4611686018427387904) : 0 ≤ Go.bits .xor .i64 v u := by
  obtain ⟨a, rfl⟩ := Int.eq_ofNat_of_zero_le h0
  obtain ⟨b, rfl⟩ := Int.eq_ofNat_of_zero_le u0
  have ofInt : ∀ a : Nat, a < 9223372036854775808 → (BitVec.ofInt 64 (a : Int)).toNat = a := fun a ha => by
    rw [BitVec.ofInt_natCast, BitVec.toNat_ofNat]; exact Nat.mod_eq_of_lt (by omega)
  have hx : a ^^^ b < 2 ^ 63 := Nat.xor_lt_two_pow (by omega) (by omega)
  show 0 ≤ IntKind.i64.wrap ((BitVec.ofInt 64 (a : Int) ^^^ BitVec.ofInt 64 (b : Int)).toNat : Int)
  rw [BitVec.toNat_xor, ofInt a (by omega), ofInt b (by omega), IntKind.wrap_i64]
  omega

theorem pick_ok {code : List Int} (hl : code.length ≤ 4000) (hb : ∀ x ∈ code, (Lit.int .u8 x).wf = true) {p : Int} (h0 : 0 ≤ p) (h1 : p ≤ 1000000) (n : Int) :
    ∃ v q, spec_rnd_pick.f code p n = some (v, q) ∧ 0 ≤ v ∧ (v < n ∨ (n < 2 ∧ v = 0)) ∧ p ≤ q ∧ q ≤ p + 1 := by
  unfold spec_rnd_pick.f
  by_cases hn : n < 2
  · rw [if_pos hn]; exact ⟨0, p, rfl, by omega, .inr ⟨hn, rfl⟩, by omega, by omega⟩
  rw [if_neg hn]
  have hw : wrap64 (p + 1) = p + 1 := w64 (by omega) (by omega)
  have fin : ∀ v : Int, 0 ≤ v → ∃ v' q, (if n = 0 then none else some (Int.tmod v n, wrap64 (p + 1))) = some (v', q) ∧ 0 ≤ v' ∧ (v' < n ∨ (n < 2 ∧ v' = 0)) ∧ p ≤ q ∧ q ≤ p + 1 := by
    intro v hv
    rw [if_neg (by omega), hw, Int.tmod_eq_emod_of_nonneg hv]
    exact ⟨_, _, rfl, Int.emod_nonneg _ (by omega), .inl (Int.emod_lt_of_pos _ (by omega)), by omega, by omega⟩
  by_cases hc : (code.length : Int) > 0
  · rw [if_pos hc, if_neg (by omega)]
    have e1 : Int.tmod p (code.length : Int) = p % code.length := Int.tmod_eq_emod_of_nonneg h0
    have e2 : wrap64 (wrap64 (p * 7) + 3) = p * 7 + 3 := by rw [w64 (n := p * 7) (by omega) (by omega)]; exact w64 (by omega) (by omega)
    have e3 : Int.tmod (p * 7 + 3) (code.length : Int) = (p * 7 + 3) % code.length := Int.tmod_eq_emod_of_nonneg (by omega)
    have m0 := Int.emod_nonneg p (show (code.length : Int) ≠ 0 by omega)
    have m1 := Int.emod_lt_of_pos p hc
    have m2 := Int.emod_nonneg (p * 7 + 3) (show (code.length : Int) ≠ 0 by omega)
    have m3 := Int.emod_lt_of_pos (p * 7 + 3) hc
    have e4 : Int.tdiv p (code.length : Int) = p / code.length := Int.tdiv_eq_ediv_of_nonneg h0
    have d0 : 0 ≤ p / (code.length : Int) := Int.ediv_nonneg h0 (by omega)
    have d1 : p / (code.length : Int) ≤ p := Int.ediv_le_self _ h0
    rw [e1, if_pos m0, if_pos m1, e2, e3, if_pos m2, if_pos m3, e4]
    obtain ⟨a0, a1⟩ := byte_of hb (p % code.length)
    obtain ⟨b0, b1⟩ := byte_of hb ((p * 7 + 3) % code.length)
    generalize rd code (p % code.length) = a at a0 a1 ⊢
    generalize rd code ((p * 7 + 3) % code.length) = b at b0 b1 ⊢
    generalize p / (code.length : Int) = d at d0 d1 ⊢
    have w1 : wrap64 a = a := w64 (by omega) (by omega)
    have w2 : wrap64 b = b := w64 (by omega) (by omega)
    have w3 : wrap64 (a * 131) = a * 131 := w64 (by omega) (by omega)
    have w4 : wrap64 (b * 1117) = b * 1117 := w64 (by omega) (by omega)
    have w5 : wrap64 (p * 29) = p * 29 := w64 (by omega) (by omega)
    have w6 : wrap64 d = d := w64 (by omega) (by omega)
    have w7 : wrap64 (d * 53) = d * 53 := w64 (by omega) (by omega)
    have w8 : wrap64 (a * 131 + b * 1117) = a * 131 + b * 1117 := w64 (by omega) (by omega)
    have w9 : wrap64 (a * 131 + b * 1117 + p * 29) = a * 131 + b * 1117 + p * 29 := w64 (by omega) (by omega)
    have w10 : wrap64 (a * 131 + b * 1117 + p * 29 + d * 53) = a * 131 + b * 1117 + p * 29 + d * 53 := w64 (by omega) (by omega)
    rw [w1, w2, w3, w4, w5, w6, w7, w8, w9, w10]
    have big : 0 ≤ Go.bits .xor .i64 (a * 131 + b * 1117 + p * 29 + d * 53) (wrap64 (Int.tdiv (a * 131 + b * 1117 + p * 29 + d * 53) 64)) := by
      have t : Int.tdiv (a * 131 + b * 1117 + p * 29 + d * 53) 64 = (a * 131 + b * 1117 + p * 29 + d * 53) / 64 := Int.tdiv_eq_ediv_of_nonneg (by omega)
      rw [t, w64 (by omega) (by omega)]
      exact xor_ok _ _ (by omega) (by omega) (by omega) (by omega)
    by_cases h256 : n > 256
    · rw [if_pos h256]; exact fin _ big
    · rw [if_neg h256]
      by_cases hp : p ≥ (code.length : Int)
      · rw [if_pos hp]; exact fin _ big
      · rw [if_neg hp]; exact fin _ a0
  · rw [if_neg hc, if_neg (by omega), hw]
    exact ⟨_, _, rfl, by simp, .inl (by simp; omega), by omega, by omega⟩

theorem newRnd_ok {l : List Int} (hl : l.length ≤ 1048576) (hb : ∀ x ∈ l, (Lit.int .u8 x).wf = true) :
    ∃ code, spec_newRnd.f l = some (code, 0) ∧ code.length ≤ 4000 ∧ ∀ x ∈ code, (Lit.int .u8 x).wf = true := by
  unfold spec_newRnd.f
  have h : mn (l.length : Int) 4000 = min (l.length : Int) 4000 := by unfold mn; split <;> omega
  rw [h, if_pos (by omega), if_pos (by omega)]
  refine ⟨_, rfl, ?_, fun x hx => hb x (List.mem_of_mem_take hx)⟩
  rw [List.length_take]; omega

theorem of_ok {code : List Int} (hl : code.length ≤ 4000) (hb : ∀ x ∈ code, (Lit.int .u8 x).wf = true) {p : Int} (h0 : 0 ≤ p) (h1 : p ≤ 1000000) (list : List ByteArray) (hn : list ≠ []) :
    ∃ v q, spec_rnd_of.f code p list = some (v, q) ∧ v ∈ list ∧ p ≤ q ∧ q ≤ p + 1 := by
  have hlen : 0 < list.length := List.length_pos_iff.2 hn
  obtain ⟨i, q, e, i0, i1, q0, q1⟩ := pick_ok hl hb h0 h1 (list.length : Int)
  unfold spec_rnd_of.f
  have hi : i < (list.length : Int) := by omega
  rw [e]
  simp only [Option.bind_some]
  rw [if_pos i0, if_pos hi]
  refine ⟨_, _, rfl, ?_, q0, q1⟩
  unfold rdOf
  rw [List.getD_eq_getElem?_getD, List.getElem?_eq_getElem (show i.toNat < list.length by omega)]
  exact List.getElem_mem _

/-! ### Reading a list -/
theorem rd_at (l : List Int) (i : Nat) (h : i < l.length) : rd l (i : Int) = l[i] := by
  unfold rd
  simp [List.getD_eq_getElem?_getD, h]
theorem next_i (i : Nat) (h : i ≤ 4611686018427387904) : wrap64 ((i : Int) + 1) = ((i + 1 : Nat) : Int) := by rw [w64 (by omega) (by omega)]; omega

theorem text_pad (code : List Int) (p : Int) (d : Nat) : ∀ x : ByteArray, x.size ≤ 1000 → 400 - x.size ≤ d → ∃ s, Ev (fun k => spec_rnd_text.l1 k x code p) (s, p) ∧ s.size ≤ 1000 := by
  induction d with
  | zero =>
    intro x hx hd
    refine ⟨x, ev_succ ?_, hx⟩
    simp only [spec_rnd_text.l1]
    exact ev_neg (by omega) (ev_some rfl)
  | succ d ih =>
    intro x hx hd
    by_cases h : (x.size : Int) < 399
    · have hz : (x ++ (⟨#[97, 98]⟩ : ByteArray)).size = x.size + 2 := by rw [ByteArray.size_append]; rfl
      obtain ⟨s, hs, hz'⟩ := ih (x ++ (⟨#[97, 98]⟩ : ByteArray)) (by omega) (by omega)
      refine ⟨s, ev_succ ?_, hz'⟩
      simp only [spec_rnd_text.l1]
      exact ev_pos h (ev_pos (by omega) hs)
    · refine ⟨x, ev_succ ?_, hx⟩
      simp only [spec_rnd_text.l1]
      exact ev_neg h (ev_some rfl)

theorem text_from {code : List Int} (hl : code.length ≤ 4000) (hb : ∀ x ∈ code, (Lit.int .u8 x).wf = true) (d : Nat) : ∀ (x : ByteArray) (n p : Int), 0 ≤ n → n ≤ d → d ≤ 8 → x.size ≤ 3 * (8 - d) → 0 ≤ p → p ≤ 900008 - d →
    ∃ s q, Ev (fun k => spec_rnd_text.l0 k x n code p) (s, q) ∧ s.size ≤ 1000 ∧ p ≤ q ∧ q ≤ p + d + 1 := by
  induction d with
  | zero =>
    intro x n p n0 n1 _ hx p0 p1
    obtain ⟨v, q, e, v0, _, q0, q1⟩ := pick_ok hl hb p0 (by omega) 40
    by_cases hv : v = 0
    · obtain ⟨s, hs, hz⟩ := text_pad code q 400 x (by omega) (by omega)
      refine ⟨s, q, ev_succ ?_, hz, q0, by omega⟩
      simp only [spec_rnd_text.l0]
      exact ev_neg (by omega) (ev_bind1 e (ev_pos hv hs))
    · refine ⟨x, q, ev_succ ?_, by omega, q0, by omega⟩
      simp only [spec_rnd_text.l0]
      exact ev_neg (by omega) (ev_bind1 e (ev_neg hv (ev_some rfl)))
  | succ d ih =>
    intro x n p n0 n1 hd hx p0 p1
    by_cases hn : n > 0
    · have hw : wrap64 (n - 1) = n - 1 := w64 (by omega) (by omega)
      obtain ⟨v, q, e, hv, q0, q1⟩ := of_ok hl hb p0 (by omega) (([(⟨#[97]⟩ : ByteArray), (⟨#[98]⟩ : ByteArray), (⟨#[97, 98]⟩ : ByteArray), (⟨#[32]⟩ : ByteArray), (⟨#[97, 98, 97]⟩ : ByteArray), (⟨#[10]⟩ : ByteArray), (⟨#[39]⟩ : ByteArray), strOfNums (([92] : List Int)), (⟨#[0]⟩ : ByteArray), (⟨#[255]⟩ : ByteArray), (⟨#[195, 169]⟩ : ByteArray), (⟨#[44]⟩ : ByteArray)] : List ByteArray)) (by simp)
      have hz : v.size ≤ 3 := by
        have all : ∀ u ∈ (([(⟨#[97]⟩ : ByteArray), (⟨#[98]⟩ : ByteArray), (⟨#[97, 98]⟩ : ByteArray), (⟨#[32]⟩ : ByteArray), (⟨#[97, 98, 97]⟩ : ByteArray), (⟨#[10]⟩ : ByteArray), (⟨#[39]⟩ : ByteArray), strOfNums (([92] : List Int)), (⟨#[0]⟩ : ByteArray), (⟨#[255]⟩ : ByteArray), (⟨#[195, 169]⟩ : ByteArray), (⟨#[44]⟩ : ByteArray)] : List ByteArray)), u.size ≤ 3 := by decide +kernel
        exact all v hv
      obtain ⟨s, q', hs, hz', q0', q1'⟩ := ih (x ++ v) (n - 1) q (by omega) (by omega) (by omega) (by rw [ByteArray.size_append]; omega) (by omega) (by omega)
      refine ⟨s, q', ev_succ ?_, hz', by omega, by omega⟩
      simp only [spec_rnd_text.l0]
      refine ev_pos hn (ev_bind1 e (ev_pos (by show x.size + v.size ≤ 9223372036854775807; omega) ?_))
      rw [hw]
      exact hs
    · obtain ⟨s, q', hs, hz', q0', q1'⟩ := ih x n p n0 (by omega) (by omega) (by omega) p0 (by omega)
      exact ⟨s, q', hs, hz', q0', by omega⟩

theorem text_ok {code : List Int} (hl : code.length ≤ 4000) (hb : ∀ x ∈ code, (Lit.int .u8 x).wf = true) {p : Int} (h0 : 0 ≤ p) (h1 : p ≤ 800000) :
    ∃ s q, Ev (fun k => spec_rnd_text.f k code p) (s, q) ∧ s.size ≤ 1000 ∧ p ≤ q ∧ q ≤ p + 10 := by
  obtain ⟨n, q, e, n0, n1, q0, q1⟩ := pick_ok hl hb h0 (by omega) 9
  obtain ⟨s, q', hs, hz, q0', q1'⟩ := text_from hl hb 8 ⟨#[]⟩ n q n0 (by omega) (by omega) (by simp [ByteArray.size]) (by omega) (by omega)
  refine ⟨s, q', ?_, hz, by omega, by omega⟩
  unfold spec_rnd_text.f
  exact ev_bind1 e hs

/-! ### Short texts -/
theorem rdS_at (l : List ByteArray) (i : Nat) (h : i < l.length) : rdOf ByteArray.empty l (i : Int) = l[i] := by
  unfold rdOf
  simp [List.getD_eq_getElem?_getD, h]
theorem short_from (l : List ByteArray) (hl : l.length ≤ 4611686018427387904) (d : Nat) : ∀ i : Nat, i + d = l.length → Ev (fun k => impl_shortTexts.l0 k l (l.length : Int) (i : Int)) ((l.drop i).all fun s => decide (s.size ≤ 400)) := by
  induction d with
  | zero =>
    intro i hi
    refine ev_succ ?_
    simp only [impl_shortTexts.l0]
    refine ev_neg (by omega) (ev_some ?_)
    rw [List.drop_of_length_le (by omega)]; rfl
  | succ d ih =>
    intro i hi
    have hlt : i < l.length := by omega
    refine ev_succ ?_
    simp only [impl_shortTexts.l0]
    rw [rdS_at l i hlt, next_i i (by omega), List.drop_eq_getElem_cons hlt, List.all_cons]
    refine ev_pos (by omega) (ev_pos (by omega) (ev_pos (by omega) ?_))
    by_cases h : (l[i].size : Int) > 400
    · refine ev_pos h (ev_some ?_)
      rw [decide_eq_false (by omega)]; rfl
    · refine ev_neg h (ev_eq (ih (i + 1) (by omega)) ?_)
      rw [decide_eq_true (by omega), Bool.true_and]
theorem short_ev (l : List ByteArray) (hl : l.length ≤ 4611686018427387904) : Ev (fun k => impl_shortTexts.f k l) (l.all fun s => decide (s.size ≤ 400)) := by
  unfold impl_shortTexts.f
  exact short_from l hl l.length 0 (by omega)
theorem short1_ev (a : ByteArray) : Ev (fun k => impl_shortTexts.f k [a]) (decide (a.size ≤ 400)) := by
  have := short_ev [a] (by simp)
  simpa using this

theorem ba_ext {a b : ByteArray} (h : a.data.toList = b.data.toList) : a = b := by
  cases a; cases b
  simp only [Array.toList_inj] at h
  rw [h]
theorem ba_append (a b : ByteArray) : (a ++ b).data.toList = a.data.toList ++ b.data.toList := by
  rw [ByteArray.data_append, Array.toList_append]
theorem ba_len (a : ByteArray) : a.data.toList.length = a.size := by simp

/-! ### Quotes -/
def quoteR (s : ByteArray) : ByteArray := ⟨(quoteL s.data.toList).toArray⟩
theorem nums_list (l : List Int) : (strOfNums l).data.toList = l.map fun n => UInt8.ofNat n.toNat := rfl
theorem ofNat_byte (b : UInt8) : UInt8.ofNat ((b.toNat : Int)).toNat = b := by simp
theorem bt_nat (s : ByteArray) (i : Nat) (h : i < s.size) : bt s (i : Int) = ((s[i]'h).toNat : Int) := by simp [bt, h]
theorem ext_list (b : ByteArray) (j : Nat) (h : j < b.size) : (b.extract j (j + 1)).data.toList = [b[j]'h] := by
  rw [ByteArray.data_extract, Array.toList_extract, List.extract_eq_take_drop, List.drop_eq_getElem_cons (by simpa using h), show j + 1 - j = 0 + 1 by omega, List.take_succ_cons, List.take_zero]
  rfl
theorem hex_digit (n : Int) (h0 : 0 ≤ n) (h1 : n < 16) : ∃ t, spec_hexDigit.f n = some t ∧ t.data.toList = [hexD n.toNat] := by
  obtain ⟨m, rfl⟩ := Int.eq_ofNat_of_zero_le h0
  have hw : wrap64 ((m : Int) + 1) = ((m + 1 : Nat) : Int) := by rw [w64 (by omega) (by omega)]; omega
  unfold spec_hexDigit.f
  rw [hw, if_pos (by omega), if_pos (by omega), if_pos (by omega)]
  refine ⟨_, rfl, ?_⟩
  have := ext_list (⟨#[48, 49, 50, 51, 52, 53, 54, 55, 56, 57, 97, 98, 99, 100, 101, 102]⟩ : ByteArray) m (by show m < 16; omega)
  simp only [Int.toNat_natCast]
  rw [this, hexD_at m (by omega)]
theorem quote_from (s : ByteArray) (hs : s.size ≤ 1048576) (d : Nat) : ∀ (i : Nat) (x : ByteArray), i + d = s.size → x.data.toList = 39 :: (s.data.toList.take i).flatMap quote1 → Ev (fun k => spec_quoted.l0 k s x (i : Int)) (quoteR s) := by
  induction d with
  | zero =>
    intro i x hi hx
    have hxl : x.size ≤ 1 + 4 * i := by
      rw [← ba_len, hx, List.length_cons]
      have := flat_len (s.data.toList.take i)
      have h2 : (s.data.toList.take i).length ≤ i := List.length_take_le _ _
      omega
    refine ev_succ ?_
    simp only [spec_quoted.l0]
    refine ev_neg (by omega) (ev_pos (by omega) (ev_some (congrArg some (ba_ext ?_))))
    rw [ba_append, hx, List.take_of_length_le (by rw [ba_len]; omega)]
    rfl
  | succ d ih =>
    intro i x hi hx
    have hlt : i < s.size := by omega
    have hxl : x.size ≤ 1 + 4 * i := by
      rw [← ba_len, hx, List.length_cons]
      have := flat_len (s.data.toList.take i)
      have h2 : (s.data.toList.take i).length ≤ i := List.length_take_le _ _
      omega
    have hb := (s[i]'hlt).toNat_lt
    have go : ∀ y : ByteArray, y.data.toList = x.data.toList ++ quote1 (s[i]'hlt) → Ev (fun k => spec_quoted.l0 k s y ((i + 1 : Nat) : Int)) (quoteR s) := fun y hy =>
      ih (i + 1) y (by omega) (by rw [hy, hx, quote_take s i hlt]; simp)
    have hw : wrap64 ((s[i]'hlt).toNat : Int) = ((s[i]'hlt).toNat : Int) := w64 (by omega) (by omega)
    have J2 : ¬ ((s[i]'hlt).toNat = 39 ∨ (s[i]'hlt).toNat = 92) → ¬ (s[i]'hlt).toNat = 10 → ∀ z : Bool, (z = true ↔ (s[i]'hlt).toNat < 32 ∨ 126 < (s[i]'hlt).toNat) → Ev (fun k => spec_quoted.j2 k s x (i : Int) ((s[i]'hlt).toNat : Int) z) (quoteR s) := by
      intro n1 n2 z hz
      refine ev_succ ?_
      simp only [spec_quoted.j2]
      rw [next_i i (by omega), hw]
      by_cases c : (s[i]'hlt).toNat < 32 ∨ 126 < (s[i]'hlt).toNat
      · have e1 : Int.tdiv ((s[i]'hlt).toNat : Int) 16 = (((s[i]'hlt).toNat / 16 : Nat) : Int) := by rw [Int.tdiv_eq_ediv_of_nonneg (by omega)]; omega
        have e2 : Int.tmod ((s[i]'hlt).toNat : Int) 16 = (((s[i]'hlt).toNat % 16 : Nat) : Int) := by rw [Int.tmod_eq_emod_of_nonneg (by omega)]; omega
        have e3 : wrap64 (((s[i]'hlt).toNat / 16 : Nat) : Int) = (((s[i]'hlt).toNat / 16 : Nat) : Int) := w64 (by omega) (by omega)
        obtain ⟨t1, h1, l1⟩ := hex_digit (((s[i]'hlt).toNat / 16 : Nat) : Int) (by omega) (by omega)
        obtain ⟨t2, h2, l2⟩ := hex_digit (((s[i]'hlt).toNat % 16 : Nat) : Int) (by omega) (by omega)
        have z1 : t1.size = 1 := by rw [← ba_len, l1]; rfl
        have z2 : t2.size = 1 := by rw [← ba_len, l2]; rfl
        have zs : (strOfNums [92, 120]).size = 2 := by rw [strOfNums_size]; rfl
        rw [e1, e2, e3]
        refine ev_pos (hz.2 c) (ev_bind1 rfl (ev_pos (by omega) (ev_bind1 h1 (ev_pos (by rw [ByteArray.size_append]; omega) (ev_bind1 h2 (ev_pos (by rw [ByteArray.size_append, ByteArray.size_append]; omega) (go _ ?_)))))))
        rw [ba_append, ba_append, ba_append, l1, l2, nums_list, quote1, if_neg n1, if_neg n2, if_pos c, Int.toNat_natCast, Int.toNat_natCast]
        simp only [List.append_assoc]
        rfl
      · have zz : (s.extract i (i + 1)).size = 1 := by rw [← ba_len, ext_list s i hlt]; rfl
        refine ev_neg (fun h => c (hz.1 h)) (ev_pos (by omega) (ev_pos (by omega) (ev_pos (by omega) ?_)))
        simp only [Int.toNat_natCast]
        refine ev_pos (by omega) (go _ ?_)
        rw [ba_append, ext_list s i hlt, quote1, if_neg n1, if_neg n2, if_neg c]
    have J1 : ∀ z : Bool, (z = true ↔ (s[i]'hlt).toNat = 39 ∨ (s[i]'hlt).toNat = 92) → Ev (fun k => spec_quoted.j1 k s x (i : Int) ((s[i]'hlt).toNat : Int) z) (quoteR s) := by
      intro z hz
      refine ev_succ ?_
      simp only [spec_quoted.j1]
      rw [next_i i (by omega)]
      by_cases c : (s[i]'hlt).toNat = 39 ∨ (s[i]'hlt).toNat = 92
      · refine ev_pos (hz.2 c) (ev_bind1 rfl (ev_pos (by rw [strOfNums_size]; simp; omega) (go _ ?_)))
        rw [ba_append, nums_list, quote1, if_pos c]
        simp
      · refine ev_neg (fun h => c (hz.1 h)) ?_
        by_cases c2 : ((s[i]'hlt).toNat : Int) = 10
        · refine ev_pos c2 (ev_bind1 rfl (ev_pos (by rw [strOfNums_size]; simp; omega) (go _ ?_)))
          rw [ba_append, nums_list, quote1, if_neg c, if_pos (by omega)]
          simp
        · refine ev_neg c2 ?_
          by_cases c3 : ((s[i]'hlt).toNat : Int) < 32
          · exact ev_pos c3 (J2 c (by omega) true (by simp; omega))
          · exact ev_neg c3 (J2 c (by omega) _ (by simp; omega))
    refine ev_succ ?_
    simp only [spec_quoted.l0]
    rw [bt_nat s i hlt]
    refine ev_pos (by omega) (ev_pos (by omega) ?_)
    by_cases c : ((s[i]'hlt).toNat : Int) = 39
    · exact ev_pos c (J1 true (by simp; omega))
    · exact ev_neg c (J1 _ (by simp; omega))
theorem specQuote_ev (s : ByteArray) (hs : s.size ≤ 1048576) : Ev (fun k => spec_quoted.f k s) (quoteR s) := by
  unfold spec_quoted.f
  exact quote_from s hs s.size 0 _ (by omega) (by simp)
/-- What TextQuote answers. -/
def textQ (s : ByteArray) : ByteArray := if s.size ≤ 400 then quoteR s else ⟨#[]⟩
theorem specTQ_ev (s : ByteArray) (hs : s.size ≤ 1048576) : Ev (fun k => spec_TextQuote.f k s) (textQ s) := by
  have hv : spec_validText.f s = some (decide ((s.size : Int) ≤ 400)) := rfl
  unfold spec_TextQuote.f textQ
  refine ev_bind1 hv ?_
  by_cases h : (s.size : Int) ≤ 400
  · rw [if_pos (by omega)]
    exact ev_pos (decide_eq_true h) (Ev.bind (specQuote_ev s hs) (ev_some rfl))
  · rw [if_neg (by omega)]
    exact ev_neg (by simpa using h) (ev_some rfl)
theorem implTQ_ev (s : ByteArray) (hs : s.size ≤ 1048576) : Ev (fun k => impl_TextQuote.f k s) (textQ s) := by
  unfold impl_TextQuote.f textQ
  refine Ev.bind (short1_ev s) ?_
  by_cases h : s.size ≤ 400
  · rw [if_pos h]
    refine ev_pos (decide_eq_true h) (ev_bind1 (a := quoteR s) ?_ (ev_some rfl))
    unfold impl_quoted.f
    rw [if_pos (by omega)]; rfl
  · rw [if_neg h]
    exact ev_neg (by simpa using h) (ev_some rfl)

/-! ### Slices: which are valid -/
/-- Are these arguments valid? -/
def cutB (f t s : Int) (hf ht : Bool) : Bool := decide (-1000000 ≤ f ∧ f ≤ 1000000 ∧ -1000000 ≤ t ∧ t ≤ 1000000 ∧ -1000000 ≤ s ∧ s ≤ 1000000 ∧ s ≠ 0 ∧ (hf = true ∨ f = 0) ∧ (ht = true ∨ t = 0))
theorem cutB_iff {f t s : Int} {hf ht : Bool} (h : cutB f t s hf ht = true) : -1000000 ≤ f ∧ f ≤ 1000000 ∧ -1000000 ≤ t ∧ t ≤ 1000000 ∧ -1000000 ≤ s ∧ s ≤ 1000000 ∧ s ≠ 0 ∧ (hf = true ∨ f = 0) ∧ (ht = true ∨ t = 0) := of_decide_eq_true h
/-- What CutRange answers. -/
def cutRR (n f t s : Int) (hf ht : Bool) : Int × Int := if (0 ≤ n ∧ n ≤ 1000000) ∧ cutB f t s hf ht = true then cutR n f t s hf ht else (0, 0)
theorem implCut_some (n f t s : Int) (hf ht : Bool) : impl_CutRange.f n f t s hf ht = some (cutRR n f t s hf ht) := by
  unfold impl_CutRange.f cutRR
  rw [within_some, cutOk_some]
  simp only [Option.bind_some]
  by_cases h : 0 ≤ n ∧ n ≤ 1000000
  · rw [if_pos (decide_eq_true h)]
    by_cases h2 : cutB f t s hf ht = true
    · rw [if_pos (by exact h2), if_pos ⟨h, h2⟩]
    · rw [if_neg (by exact h2), if_neg (fun z => h2 z.2)]
  · rw [if_neg (by simpa using h), if_neg (fun z => h z.1)]

/-! ### Slices: what is selected is there -/
theorem cutCount_in {n p q s : Int} (s0 : s ≠ 0) (hp : cutLo s ≤ p ∧ p ≤ cutHi n s) (hq : cutLo s ≤ q ∧ q ≤ cutHi n s) (i : Int) (i0 : 0 ≤ i) (i1 : i < cutCount s p q) :
    0 ≤ p + i * s ∧ p + i * s < n ∧ (0 < s → p + i * s < q) ∧ (s < 0 → q < p + i * s) := by
  unfold cutCount at i1
  by_cases hs : 0 < s
  · rw [if_pos hs] at i1
    have e1 : cutLo s = 0 := by rw [cutLo, if_neg (by omega)]
    have e2 : cutHi n s = n := by rw [cutHi, if_neg (by omega)]
    by_cases h : p < q
    · rw [if_pos h] at i1
      have m1 : (q - p - 1) / s * s ≤ q - p - 1 := Int.ediv_mul_le _ (by omega)
      have m2 : i * s ≤ (q - p - 1) / s * s := Int.mul_le_mul_of_nonneg_right (by omega) (by omega)
      have m3 : 0 ≤ i * s := Int.mul_nonneg i0 (by omega)
      omega
    · rw [if_neg h] at i1; omega
  · rw [if_neg hs] at i1
    have e1 : cutLo s = -1 := by rw [cutLo, if_pos (by omega)]
    have e2 : cutHi n s = n - 1 := by rw [cutHi, if_pos (by omega)]
    by_cases h : q < p
    · rw [if_pos h] at i1
      have m1 : (p - q - 1) / (-s) * (-s) ≤ p - q - 1 := Int.ediv_mul_le _ (by omega)
      have m2 : i * (-s) ≤ (p - q - 1) / (-s) * (-s) := Int.mul_le_mul_of_nonneg_right (by omega) (by omega)
      have m3 : 0 ≤ i * (-s) := Int.mul_nonneg i0 (by omega)
      have m4 : i * (-s) = -(i * s) := Int.mul_neg _ _
      omega
    · rw [if_neg h] at i1; omega
theorem cutCount_le {n p q s : Int} (s0 : s ≠ 0) (n0 : 0 ≤ n) (hp : cutLo s ≤ p ∧ p ≤ cutHi n s) (hq : cutLo s ≤ q ∧ q ≤ cutHi n s) : 0 ≤ cutCount s p q ∧ cutCount s p q ≤ n := by
  unfold cutCount
  by_cases hs : 0 < s
  · rw [if_pos hs]
    have e1 : cutLo s = 0 := by rw [cutLo, if_neg (by omega)]
    have e2 : cutHi n s = n := by rw [cutHi, if_neg (by omega)]
    by_cases h : p < q
    · rw [if_pos h]; have := cut_div_le (q - p - 1) s (by omega) hs; omega
    · rw [if_neg h]; omega
  · rw [if_neg hs]
    have e1 : cutLo s = -1 := by rw [cutLo, if_pos (by omega)]
    have e2 : cutHi n s = n - 1 := by rw [cutHi, if_pos (by omega)]
    by_cases h : q < p
    · rw [if_pos h]; have := cut_div_le (p - q - 1) (-s) (by omega) (by omega); omega
    · rw [if_neg h]; omega
/-- What CutRange answers at valid arguments: the first place and how many; all of them are there. -/
theorem cutR_in {n f t s : Int} {hf ht : Bool} (n0 : 0 ≤ n) (h : cutB f t s hf ht = true) :
    0 ≤ (cutR n f t s hf ht).2 ∧ (cutR n f t s hf ht).2 ≤ n ∧ ∀ i, 0 ≤ i → i < (cutR n f t s hf ht).2 → 0 ≤ (cutR n f t s hf ht).1 + i * s ∧ (cutR n f t s hf ht).1 + i * s < n := by
  obtain ⟨-, -, -, -, -, -, s0, -, -⟩ := cutB_iff h
  have P := cutP_bd (n := n) (f := f) (s := s) hf n0
  have Q := cutQ_bd (n := n) (t := t) (s := s) ht n0
  have L := cutCount_le s0 n0 P Q
  exact ⟨L.1, L.2, fun i i0 i1 => ⟨(cutCount_in s0 P Q i i0 i1).1, (cutCount_in s0 P Q i i0 i1).2.1⟩⟩
theorem cutRR_in {n f t s : Int} {hf ht : Bool} (hm : (cutRR n f t s hf ht).2 ≠ 0) :
    0 ≤ n ∧ n ≤ 1000000 ∧ cutB f t s hf ht = true ∧ cutRR n f t s hf ht = cutR n f t s hf ht := by
  unfold cutRR at hm ⊢
  by_cases h : (0 ≤ n ∧ n ≤ 1000000) ∧ cutB f t s hf ht = true
  · rw [if_pos h]; exact ⟨h.1.1, h.1.2, h.2, rfl⟩
  · rw [if_neg h] at hm; exact absurd rfl hm

/-! ### The places that a slice selects -/
def placeL (p s : Int) (m : Nat) : List Int := (List.range m).map fun (i : Nat) => p + (i : Int) * s
theorem placeL_length (p s : Int) (m : Nat) : (placeL p s m).length = m := by simp [placeL]
theorem placeL_cons (p s : Int) (m : Nat) : placeL p s (m + 1) = p :: placeL (p + s) s m := by
  unfold placeL
  rw [List.range_succ_eq_map, List.map_cons, List.map_map]
  congr 1
  · simp
  · apply List.map_congr_left
    intro i _
    show p + ((i + 1 : Nat) : Int) * s = p + s + (i : Int) * s
    rw [show ((i + 1 : Nat) : Int) = (i : Int) + 1 by omega, Int.add_mul]; omega
theorem placesW_eq (s : Int) (hs : -1000000 ≤ s ∧ s ≤ 1000000) : ∀ (k : Nat) (p : Int), (∀ i : Nat, i < k → -2000000 ≤ p + (i : Int) * s ∧ p + (i : Int) * s ≤ 2000000) → placesW s p k = placeL p s k
  | 0, _, _ => rfl
  | 1, p, _ => by simp [placesW, placeL]
  | k + 2, p, h => by
    have h0 := h 0 (by omega)
    have hw : wrap64 (p + s) = p + s := w64 (by omega) (by omega)
    rw [placesW, hw, placeL_cons, placesW_eq s hs (k + 1) (p + s)]
    intro i hi
    have := h (i + 1) (by omega)
    rw [show ((i + 1 : Nat) : Int) = (i : Int) + 1 by omega, Int.add_mul] at this
    omega
theorem places_some {n f t s : Int} {hf ht : Bool} (n0 : 0 ≤ n) (n1 : n ≤ 1000000) (h : cutB f t s hf ht = true) :
    impl_places.f n f t s hf ht = some (placeL (cutR n f t s hf ht).1 s (cutR n f t s hf ht).2.toNat) := by
  have S := cutB_iff h
  obtain ⟨m0, m1, hin⟩ := cutR_in (n := n) n0 h
  unfold impl_places.f
  rw [implCut_some, cutRR, if_pos ⟨⟨n0, n1⟩, h⟩]
  simp only [Option.bind_some]
  rw [placesW_eq s (by omega)]
  intro i hi
  have := hin i (by omega) (by omega)
  omega
theorem place_mem {n f t s : Int} {hf ht : Bool} (n0 : 0 ≤ n) (h : cutB f t s hf ht = true) : ∀ x ∈ placeL (cutR n f t s hf ht).1 s (cutR n f t s hf ht).2.toNat, 0 ≤ x ∧ x < n := by
  obtain ⟨m0, m1, hin⟩ := cutR_in (n := n) n0 h
  intro x hx
  unfold placeL at hx
  obtain ⟨i, hi, rfl⟩ := List.mem_map.1 hx
  have := List.mem_range.1 hi
  exact hin i (by omega) (by omega)

/-! ### Texts that are cut -/
def byteL (s : ByteArray) (i : Int) : UInt8 := s.data.toList.getD i.toNat 0
theorem byteL_at (s : ByteArray) (i : Nat) (h : i < s.size) : byteL s (i : Int) = s.data.toList[i]'(by simpa using h) := by
  unfold byteL
  rw [List.getD_eq_getElem?_getD, Int.toNat_natCast, List.getElem?_eq_getElem (by simpa using h)]; rfl
theorem bt_byteL (s : ByteArray) (i : Int) (h : i.toNat < s.size) : UInt8.ofNat (bt s i).toNat = byteL s i := by
  unfold bt byteL
  rw [dif_pos h, List.getD_eq_getElem?_getD, List.getElem?_eq_getElem (by simpa using h)]
  simp
  rfl
/-- What TextCut answers. -/
def textR (s : ByteArray) (f t st : Int) (hf ht : Bool) : ByteArray :=
  if s.size ≤ 400 ∧ cutB f t st hf ht = true then ⟨((placeL (cutR s.size f t st hf ht).1 st (cutR s.size f t st hf ht).2.toNat).map (byteL s)).toArray⟩ else ⟨#[]⟩
theorem bytesAt_some (s : ByteArray) : ∀ (ps : List Int), (∀ x ∈ ps, 0 ≤ x ∧ x < s.size) → bytesAt s ps = some (ps.map (byteL s))
  | [], _ => rfl
  | i :: ps, h => by
    have hi := h i List.mem_cons_self
    unfold bytesAt
    rw [dif_pos ⟨hi.1, by omega⟩, bytesAt_some s ps (fun x hx => h x (List.mem_cons_of_mem _ hx)), Option.map_some, List.map_cons]
    congr 2
    unfold byteL
    rw [List.getD_eq_getElem?_getD, List.getElem?_eq_getElem (by simp; omega)]
    rfl
theorem implText_some (s : ByteArray) (f t st : Int) (hf ht : Bool) : impl_TextCut.f s f t st hf ht = some (textR s f t st hf ht) := by
  unfold impl_TextCut.f textR
  by_cases hs : s.size > 400
  · rw [if_pos hs, if_neg (by omega)]
  rw [if_neg hs, cutOk_some]
  simp only [Option.bind_some]
  by_cases hB : cutB f t st hf ht = true
  · rw [if_pos (by exact hB), if_pos ⟨by omega, hB⟩, places_some (by omega) (by omega) hB]
    simp only [Option.bind_some]
    rw [bytesAt_some s _ (place_mem (by omega) hB)]
    rfl
  · rw [if_neg (by exact hB), if_neg (fun z => hB z.2)]

theorem ext_byte (b : ByteArray) (j : Nat) (h : j < b.size) : (b.extract j (j + 1)).toList = [byteL b j] := by
  rw [ByteArray.toList_eq, ByteArray.data_extract, Array.toList_extract, byteL_at b j h]
  have hl : j < b.data.toList.length := by simpa using h
  rw [List.extract_eq_take_drop]
  rw [List.drop_eq_getElem_cons hl, show j + 1 - j = 0 + 1 by omega, List.take_succ_cons, List.take_zero]
theorem odd_bytes (s o : ByteArray) (p st : Int) (m : Nat) (h : o.data.toList = (placeL p st m).map (byteL s)) : o.size = m ∧ ∀ j : Nat, j < m → byteL o j = byteL s (p + (j : Int) * st) := by
  have e1 : o.size = m := by rw [← ba_len, h, List.length_map, placeL_length]
  refine ⟨e1, fun j hj => ?_⟩
  rw [byteL_at o j (by omega)]
  simp only [h, List.getElem_map]
  congr 1
  simp only [placeL, List.getElem_map, List.getElem_range]
theorem textR_list (s : ByteArray) (f t st : Int) (hf ht : Bool) (h : s.size ≤ 400 ∧ cutB f t st hf ht = true) : (textR s f t st hf ht).data.toList = (placeL (cutR s.size f t st hf ht).1 st (cutR s.size f t st hf ht).2.toNat).map (byteL s) := by rw [textR, if_pos h]
theorem even_cut (s : ByteArray) (hs : s.size ≤ 400) : (textR s 0 0 2 false false).size = (s.size + 1) / 2 ∧ ∀ j : Nat, j < (s.size + 1) / 2 → byteL (textR s 0 0 2 false false) j = byteL s ((2 * j : Nat) : Int) := by
  have B1 : cutB 0 0 2 false false = true := by decide
  have e1 : cutR s.size 0 0 2 false false = (0, (((s.size + 1) / 2 : Nat) : Int)) := by
    have a : cutP s.size 0 2 false = 0 := by unfold cutP boundI; simp
    have b : cutQ s.size 0 2 false = s.size := by unfold cutQ boundI; simp
    unfold cutR
    rw [a, b, cutCount, if_pos (by omega)]
    by_cases h : (0 : Int) < s.size
    · rw [if_pos h]; congr 1; omega
    · rw [if_neg h]; congr 1; omega
  have l1 := textR_list s 0 0 2 false false ⟨hs, B1⟩
  rw [e1] at l1
  obtain ⟨z, y⟩ := odd_bytes s _ _ _ _ l1
  refine ⟨by rw [z]; simp only []; omega, fun j hj => ?_⟩
  rw [y j (by simp only []; omega)]
  congr 1
  simp only []
  omega
theorem odd_cut (s : ByteArray) (hs : s.size ≤ 400) : (textR s 1 0 2 true false).size = s.size / 2 ∧ ∀ j : Nat, j < s.size / 2 → byteL (textR s 1 0 2 true false) j = byteL s ((2 * j + 1 : Nat) : Int) := by
  have B1 : cutB 1 0 2 true false = true := by decide
  have e1 : (cutR s.size 1 0 2 true false).2 = ((s.size / 2 : Nat) : Int) ∧ (0 < s.size → (cutR s.size 1 0 2 true false).1 = 1) := by
    have a : cutP s.size 1 2 true = min 1 (s.size : Int) := by unfold cutP boundI cutLo cutHi; simp; omega
    have b : cutQ s.size 0 2 false = s.size := by unfold cutQ boundI; simp
    unfold cutR
    rw [a, b, cutCount, if_pos (by omega)]
    refine ⟨?_, fun h => by simp only []; omega⟩
    by_cases h : min 1 (s.size : Int) < s.size
    · rw [if_pos h]; simp only []; omega
    · rw [if_neg h]; simp only []; omega
  have l1 := textR_list s 1 0 2 true false ⟨hs, B1⟩
  obtain ⟨z, y⟩ := odd_bytes s _ _ _ _ l1
  rw [e1.1] at z y
  refine ⟨by rw [z]; omega, fun j hj => ?_⟩
  rw [y j (by omega), e1.2 (by omega)]
  congr 1
  omega
theorem odd_from (s a b : ByteArray) (hs : s.size ≤ 400) (ha : a.size = (s.size + 1) / 2) (hb : b.size = s.size / 2) (ya : ∀ j : Nat, j < (s.size + 1) / 2 → byteL a j = byteL s ((2 * j : Nat) : Int)) (yb : ∀ j : Nat, j < s.size / 2 → byteL b j = byteL s ((2 * j + 1 : Nat) : Int)) (d : Nat) : ∀ i : Nat, i + d = s.size → Ev (fun k => laws_FnTextOdd.l0 k s a b (i : Int)) true := by
  induction d with
  | zero =>
    intro i hi
    refine ev_succ ?_
    simp only [laws_FnTextOdd.l0]
    refine ev_neg (by omega) (ev_some (congrArg some ?_))
    rw [w64 (by omega) (by omega), ha, hb]
    simp
    omega
  | succ d ih =>
    intro i hi
    have hlt : i < s.size := by omega
    obtain ⟨c, hc⟩ : ∃ c, c = i / 2 := ⟨_, rfl⟩
    have hi4 : i ≤ 400 := by omega
    have hc4 : c ≤ 400 := by omega
    have e1 : Int.tdiv (i : Int) 2 = (c : Int) := by rw [Int.tdiv_eq_ediv_of_nonneg (by omega)]; omega
    have e2 : Int.tmod (i : Int) 2 = ((i % 2 : Nat) : Int) := by rw [Int.tmod_eq_emod_of_nonneg (by omega)]; omega
    have e3 : wrap64 (c : Int) = (c : Int) := w64 (by omega) (by omega)
    refine ev_succ ?_
    have e4 : wrap64 ((c : Int) + 1) = ((c + 1 : Nat) : Int) := next_i c (Nat.le_trans hc4 (by decide))
    have e5 : wrap64 ((i : Int) + 1) = ((i + 1 : Nat) : Int) := next_i i (Nat.le_trans hi4 (by decide))
    have e6 := ext_byte s i hlt
    simp only [laws_FnTextOdd.l0, e1, e2, e3, e4, e5, Int.toNat_natCast, e6]
    clear e1 e2 e3 e4 e5 e6
    refine ev_pos (by omega) ?_
    by_cases hp : i % 2 = 0
    · have hx : (a.extract c (c + 1)).toList = [byteL s i] := by
        rw [ext_byte a _ (by omega), ya _ (by omega), show 2 * c = i by omega]
      rw [hx]
      refine ev_pos (by omega) (ev_pos (by omega) (ev_pos (by omega) (ev_pos (by omega) (ev_pos (by omega) (ev_pos (by omega) (ev_pos (by omega) ?_))))))
      exact ev_pos rfl (ev_neg (by omega) (ih (i + 1) (by omega)))
    · have hx : (b.extract c (c + 1)).toList = [byteL s i] := by
        rw [ext_byte b _ (by omega), yb _ (by omega), show 2 * c + 1 = i by omega]
      rw [hx]
      refine ev_neg (by omega) (ev_pos (by omega) (ev_pos (by omega) (ev_pos (by omega) (ev_pos (by omega) (ev_pos (by omega) (ev_pos (by omega) (ev_pos (by omega) ?_)))))))
      exact ev_pos rfl (ih (i + 1) (by omega))
theorem FnTextOdd : laws_FnTextOdd.Pure := by
  intro l hm _ hb
  refine Ev.rounds ?_
  unfold laws_FnTextOdd.f
  by_cases hl : (l.length : Int) > 1048576
  · exact ev_pos hl (ev_some rfl)
  refine ev_neg hl ?_
  obtain ⟨code, e, hc, hbc⟩ := newRnd_ok (l := l) (by omega) hb
  obtain ⟨s, q, e1, hs, q0, q1⟩ := text_ok hc hbc (p := 0) (by omega) (by omega)
  have hd : Ev (fun k => spec_DrawTextQuote.f k l) s := by
    unfold spec_DrawTextQuote.f
    exact ev_bind1 e (Ev.bind e1 (ev_some rfl))
  refine Ev.bind hd (Ev.bind (implTQ_ev s (by omega)) (Ev.bind (specTQ_ev s (by omega)) (ev_pos rfl (ev_bind1 (implText_some _ _ _ _ _ _) (ev_bind1 (implText_some _ _ _ _ _ _) ?_)))))
  by_cases hz : s.size ≤ 400
  · obtain ⟨a1, a2⟩ := even_cut s hz
    obtain ⟨b1, b2⟩ := odd_cut s hz
    exact ev_neg (by omega) (odd_from s _ _ hz a1 b1 a2 b2 s.size 0 (by omega))
  · have t1 : textR s 0 0 2 false false = ⟨#[]⟩ := if_neg (fun z => hz z.1)
    have t2 : textR s 1 0 2 true false = ⟨#[]⟩ := if_neg (fun z => hz z.1)
    rw [t1, t2]
    exact ev_pos (by omega) (ev_pos (by simp [ByteArray.toList_eq]) (ev_some (by simp [ByteArray.toList_eq])))

end Go.Proofs.Ytdloehnjofpbmaa.Pure
