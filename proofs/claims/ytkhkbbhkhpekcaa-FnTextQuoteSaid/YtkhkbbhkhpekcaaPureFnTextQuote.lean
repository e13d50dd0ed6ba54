/- FnTextQuote: for every code, quoted texts read back. -/
import Derived.Test.YtkhkbbhkhpekcaaXFnTextQuotex4
namespace Go.Proofs.Ytkhkbbhkhpekcaa.Pure
open Go.RowKit Go.Proofs.Ytkhkbbhkhpekcaa.XFnTextQuote Go.Proofs.YtkhkbbhkhpekcaaW.PrintWords Go.Proofs.YtkhkbbhkhpekcaaW.PrintLast Go.Proofs.YtkhkbbhkhpekcaaW.PrintMore
set_option linter.unusedVariables false
set_option linter.unusedSimpArgs false

/-! ### Rounds, and words of 64 bits -/
theorem ev_succ {α : Type} {g : Nat → Option α} {r : α} (h : Ev (fun k => g (k + 1)) r) : Ev g r := Ev.step (fun _ => rfl) h
theorem ev_some {α : Type} {o : Option α} {r : α} (h : o = some r) : Ev (fun _ => o) r := ⟨0, fun _ _ => h⟩
theorem ev_pos {α : Type} {c : Prop} [Decidable c] {A B : Nat → Option α} {r : α} (h : c) (k : Ev A r) : Ev (fun n => if c then A n else B n) r :=
  Ev.congr (fun _ => if_pos h) k
theorem ev_neg {α : Type} {c : Prop} [Decidable c] {A B : Nat → Option α} {r : α} (h : ¬ c) (k : Ev B r) : Ev (fun n => if c then A n else B n) r :=
  Ev.congr (fun _ => if_neg h) k
theorem ev_eq {α : Type} {g : Nat → Option α} {r s : α} (h : Ev g r) (e : r = s) : Ev g s := e ▸ h
theorem ev_bind1 {α β : Type} {o : Option α} {f : Nat → α → Option β} {a : α} {r : β} (h : o = some a) (k : Ev (fun n => f n a) r) : Ev (fun n => o.bind (f n)) r :=
  Ev.bind (ev_some h) k
theorem ev_det {α : Type} {g : Nat → Option α} {r s : α} (h : Ev g r) (k : Ev g s) : r = s := by
  obtain ⟨K, h⟩ := h
  obtain ⟨L, k⟩ := k
  have h1 := h (max K L) (by omega)
  have h2 := k (max K L) (by omega)
  rw [h1] at h2
  exact Option.some.inj h2
theorem w64 {n : Int} (h : -9223372036854775808 ≤ n) (h' : n ≤ 9223372036854775807) : wrap64 n = n := by unfold wrap64; omega
theorem byte_of {l : List Int} (h : ∀ x ∈ l, (Lit.int .u8 x).wf = true) (i : Int) : 0 ≤ rd l i ∧ rd l i ≤ 255 := by
  unfold rd
  by_cases hi : i.toNat < l.length
  · have hm : l.getD i.toNat 0 ∈ l := by
      rw [List.getD_eq_getElem?_getD, List.getElem?_eq_getElem hi]
      exact List.getElem_mem hi
    have := h _ hm
    have m0 : IntKind.u8.min = 0 := by decide
    have m1 : IntKind.u8.max = 255 := by decide
    simp only [Lit.wf, m0, m1, Bool.and_eq_true, decide_eq_true_eq] at this
    exact this
  · rw [List.getD_eq_getElem?_getD, List.getElem?_eq_none (by omega)]
    simp

/-! ### Draws: what they pick, and that they never panic -/
theorem xor_ok (v u : Int) (h0 : 0 ≤ v) (h1 : v < 4611686018427387904) (u0 : 0 ≤ u) (u1 : u < 4611686018427387904) : 0 ≤ Go.bits .xor .i64 v u := by
  obtain ⟨a, rfl⟩ := Int.eq_ofNat_of_zero_le h0
  obtain ⟨b, rfl⟩ := Int.eq_ofNat_of_zero_le u0
  have ofInt : ∀ a : Nat, a < 9223372036854775808 → (BitVec.ofInt 64 (a : Int)).toNat = a := fun a ha => by
    rw [BitVec.ofInt_natCast, BitVec.toNat_ofNat]; exact Nat.mod_eq_of_lt (by omega)
  have hx : a ^^^ b < 2 ^ 63 := Nat.xor_lt_two_pow (by omega) (by omega)
  show 0 ≤ IntKind.i64.wrap ((BitVec.ofInt 64 (a : Int) ^^^ BitVec.ofInt 64 (b : Int)).toNat : Int)
  rw [BitVec.toNat_xor, ofInt a (by omega), ofInt b (by omega), IntKind.wrap_i64]
  omega

theorem pick_ok {code : List Int} (hl : code.length ≤ 4000) (hb : ∀ x ∈ code, (Lit.int .u8 x).wf = true) {p : Int} (h0 : 0 ≤ p) (h1 : p ≤ 1000000) (n : Int) :
    ∃ v q, spec_rnd_pick.f code p n = some (v, q) ∧ 0 ≤ v ∧ (v < n ∨ (n < 2 ∧ v = 0)) ∧ p ≤ q ∧ q ≤ p + 1 := by
  unfold spec_rnd_pick.f
  by_cases hn : n < 2
  · rw [if_pos hn]; exact ⟨0, p, rfl, by omega, .inr ⟨hn, rfl⟩, by omega, by omega⟩
  rw [if_neg hn]
  have hw : wrap64 (p + 1) = p + 1 := w64 (by omega) (by omega)
  have fin : ∀ v : Int, 0 ≤ v → ∃ v' q, (if n = 0 then none else some (Int.tmod v n, wrap64 (p + 1))) = some (v', q) ∧ 0 ≤ v' ∧ (v' < n ∨ (n < 2 ∧ v' = 0)) ∧ p ≤ q ∧ q ≤ p + 1 := by
    intro v hv
    rw [if_neg (by omega), hw, Int.tmod_eq_emod_of_nonneg hv]
    exact ⟨_, _, rfl, Int.emod_nonneg _ (by omega), .inl (Int.emod_lt_of_pos _ (by omega)), by omega, by omega⟩
  by_cases hc : (code.length : Int) > 0
  · rw [if_pos hc, if_neg (by omega)]
    have e1 : Int.tmod p (code.length : Int) = p % code.length := Int.tmod_eq_emod_of_nonneg h0
    have e2 : wrap64 (wrap64 (p * 7) + 3) = p * 7 + 3 := by rw [w64 (n := p * 7) (by omega) (by omega)]; exact w64 (by omega) (by omega)
    have e3 : Int.tmod (p * 7 + 3) (code.length : Int) = (p * 7 + 3) % code.length := Int.tmod_eq_emod_of_nonneg (by omega)
    have m0 := Int.emod_nonneg p (show (code.length : Int) ≠ 0 by omega)
    have m1 := Int.emod_lt_of_pos p hc
    have m2 := Int.emod_nonneg (p * 7 + 3) (show (code.length : Int) ≠ 0 by omega)
    have m3 := Int.emod_lt_of_pos (p * 7 + 3) hc
    have e4 : Int.tdiv p (code.length : Int) = p / code.length := Int.tdiv_eq_ediv_of_nonneg h0
    have d0 : 0 ≤ p / (code.length : Int) := Int.ediv_nonneg h0 (by omega)
    have d1 : p / (code.length : Int) ≤ p := Int.ediv_le_self _ h0
    rw [e1, if_pos m0, if_pos m1, e2, e3, if_pos m2, if_pos m3, e4]
    obtain ⟨a0, a1⟩ := byte_of hb (p % code.length)
    obtain ⟨b0, b1⟩ := byte_of hb ((p * 7 + 3) % code.length)
    generalize rd code (p % code.length) = a at a0 a1 ⊢
    generalize rd code ((p * 7 + 3) % code.length) = b at b0 b1 ⊢
    generalize p / (code.length : Int) = d at d0 d1 ⊢
    have w1 : wrap64 a = a := w64 (by omega) (by omega)
    have w2 : wrap64 b = b := w64 (by omega) (by omega)
    have w3 : wrap64 (a * 131) = a * 131 := w64 (by omega) (by omega)
    have w4 : wrap64 (b * 1117) = b * 1117 := w64 (by omega) (by omega)
    have w5 : wrap64 (p * 29) = p * 29 := w64 (by omega) (by omega)
    have w6 : wrap64 d = d := w64 (by omega) (by omega)
    have w7 : wrap64 (d * 53) = d * 53 := w64 (by omega) (by omega)
    have w8 : wrap64 (a * 131 + b * 1117) = a * 131 + b * 1117 := w64 (by omega) (by omega)
    have w9 : wrap64 (a * 131 + b * 1117 + p * 29) = a * 131 + b * 1117 + p * 29 := w64 (by omega) (by omega)
    have w10 : wrap64 (a * 131 + b * 1117 + p * 29 + d * 53) = a * 131 + b * 1117 + p * 29 + d * 53 := w64 (by omega) (by omega)
    rw [w1, w2, w3, w4, w5, w6, w7, w8, w9, w10]
    have big : 0 ≤ Go.bits .xor .i64 (a * 131 + b * 1117 + p * 29 + d * 53) (wrap64 (Int.tdiv (a * 131 + b * 1117 + p * 29 + d * 53) 64)) := by
      have t : Int.tdiv (a * 131 + b * 1117 + p * 29 + d * 53) 64 = (a * 131 + b * 1117 + p * 29 + d * 53) / 64 := Int.tdiv_eq_ediv_of_nonneg (by omega)
      rw [t, w64 (by omega) (by omega)]
      exact xor_ok _ _ (by omega) (by omega) (by omega) (by omega)
    by_cases h256 : n > 256
    · rw [if_pos h256]; exact fin _ big
    · rw [if_neg h256]
      by_cases hp : p ≥ (code.length : Int)
      · rw [if_pos hp]; exact fin _ big
      · rw [if_neg hp]; exact fin _ a0
  · rw [if_neg hc, if_neg (by omega), hw]
    exact ⟨_, _, rfl, by simp, .inl (by simp; omega), by omega, by omega⟩

theorem newRnd_ok {l : List Int} (hl : l.length ≤ 1048576) (hb : ∀ x ∈ l, (Lit.int .u8 x).wf = true) :
    ∃ code, spec_newRnd.f l = some (code, 0) ∧ code.length ≤ 4000 ∧ ∀ x ∈ code, (Lit.int .u8 x).wf = true := by
  unfold spec_newRnd.f
  have h : mn (l.length : Int) 4000 = min (l.length : Int) 4000 := by unfold mn; split <;> omega
  rw [h, if_pos (by omega), if_pos (by omega)]
  refine ⟨_, rfl, ?_, fun x hx => hb x (List.mem_of_mem_take hx)⟩
  rw [List.length_take]; omega

theorem of_ok {code : List Int} (hl : code.length ≤ 4000) (hb : ∀ x ∈ code, (Lit.int .u8 x).wf = true) {p : Int} (h0 : 0 ≤ p) (h1 : p ≤ 1000000) (list : List ByteArray) (hn : list ≠ []) :
    ∃ v q, spec_rnd_of.f code p list = some (v, q) ∧ v ∈ list ∧ p ≤ q ∧ q ≤ p + 1 := by
  have hlen : 0 < list.length := List.length_pos_iff.2 hn
  obtain ⟨i, q, e, i0, i1, q0, q1⟩ := pick_ok hl hb h0 h1 (list.length : Int)
  unfold spec_rnd_of.f
  have hi : i < (list.length : Int) := by omega
  rw [e]
  simp only [Option.bind_some]
  rw [if_pos i0, if_pos hi]
  refine ⟨_, _, rfl, ?_, q0, q1⟩
  unfold rdOf
  rw [List.getD_eq_getElem?_getD, List.getElem?_eq_getElem (show i.toNat < list.length by omega)]
  exact List.getElem_mem _

/-! ### Reading a list -/
theorem rd_at (l : List Int) (i : Nat) (h : i < l.length) : rd l (i : Int) = l[i] := by
  unfold rd
  simp [List.getD_eq_getElem?_getD, h]
theorem next_i (i : Nat) (h : i ≤ 4611686018427387904) : wrap64 ((i : Int) + 1) = ((i + 1 : Nat) : Int) := by rw [w64 (by omega) (by omega)]; omega

theorem text_pad (code : List Int) (p : Int) (d : Nat) : ∀ x : ByteArray, x.size ≤ 1000 → 400 - x.size ≤ d → ∃ s, Ev (fun k => spec_rnd_text.l1 k x code p) (s, p) ∧ s.size ≤ 1000 := by
  induction d with
  | zero =>
    intro x hx hd
    refine ⟨x, ev_succ ?_, hx⟩
    simp only [spec_rnd_text.l1]
    exact ev_neg (by omega) (ev_some rfl)
  | succ d ih =>
    intro x hx hd
    by_cases h : (x.size : Int) < 399
    · have hz : (x ++ (⟨#[97, 98]⟩ : ByteArray)).size = x.size + 2 := by rw [ByteArray.size_append]; rfl
      obtain ⟨s, hs, hz'⟩ := ih (x ++ (⟨#[97, 98]⟩ : ByteArray)) (by omega) (by omega)
      refine ⟨s, ev_succ ?_, hz'⟩
      simp only [spec_rnd_text.l1]
      exact ev_pos h (ev_pos (by omega) hs)
    · refine ⟨x, ev_succ ?_, hx⟩
      simp only [spec_rnd_text.l1]
      exact ev_neg h (ev_some rfl)

theorem text_from {code : List Int} (hl : code.length ≤ 4000) (hb : ∀ x ∈ code, (Lit.int .u8 x).wf = true) (d : Nat) : ∀ (x : ByteArray) (n p : Int), 0 ≤ n → n ≤ d → d ≤ 8 → x.size ≤ 3 * (8 - d) → 0 ≤ p → p ≤ 900008 - d →
    ∃ s q, Ev (fun k => spec_rnd_text.l0 k x n code p) (s, q) ∧ s.size ≤ 1000 ∧ p ≤ q ∧ q ≤ p + d + 1 := by
  induction d with
  | zero =>
    intro x n p n0 n1 _ hx p0 p1
    obtain ⟨v, q, e, v0, _, q0, q1⟩ := pick_ok hl hb p0 (by omega) 40
    by_cases hv : v = 0
    · obtain ⟨s, hs, hz⟩ := text_pad code q 400 x (by omega) (by omega)
      refine ⟨s, q, ev_succ ?_, hz, q0, by omega⟩
      simp only [spec_rnd_text.l0]
      exact ev_neg (by omega) (ev_bind1 e (ev_pos hv hs))
    · refine ⟨x, q, ev_succ ?_, by omega, q0, by omega⟩
      simp only [spec_rnd_text.l0]
      exact ev_neg (by omega) (ev_bind1 e (ev_neg hv (ev_some rfl)))
  | succ d ih =>
    intro x n p n0 n1 hd hx p0 p1
    by_cases hn : n > 0
    · have hw : wrap64 (n - 1) = n - 1 := w64 (by omega) (by omega)
      obtain ⟨v, q, e, hv, q0, q1⟩ := of_ok hl hb p0 (by omega) (([(⟨#[97]⟩ : ByteArray), (⟨#[98]⟩ : ByteArray), (⟨#[97, 98]⟩ : ByteArray), (⟨#[32]⟩ : ByteArray), (⟨#[97, 98, 97]⟩ : ByteArray), (⟨#[10]⟩ : ByteArray), (⟨#[39]⟩ : ByteArray), strOfNums (([92] : List Int)), (⟨#[0]⟩ : ByteArray), (⟨#[255]⟩ : ByteArray), (⟨#[195, 169]⟩ : ByteArray), (⟨#[44]⟩ : ByteArray)] : List ByteArray)) (by simp)
      have hz : v.size ≤ 3 := by
        have all : ∀ u ∈ (([(⟨#[97]⟩ : ByteArray), (⟨#[98]⟩ : ByteArray), (⟨#[97, 98]⟩ : ByteArray), (⟨#[32]⟩ : ByteArray), (⟨#[97, 98, 97]⟩ : ByteArray), (⟨#[10]⟩ : ByteArray), (⟨#[39]⟩ : ByteArray), strOfNums (([92] : List Int)), (⟨#[0]⟩ : ByteArray), (⟨#[255]⟩ : ByteArray), (⟨#[195, 169]⟩ : ByteArray), (⟨#[44]⟩ : ByteArray)] : List ByteArray)), u.size ≤ 3 := by decide +kernel
        exact all v hv
      obtain ⟨s, q', hs, hz', q0', q1'⟩ := ih (x ++ v) (n - 1) q (by omega) (by omega) (by omega) (by rw [ByteArray.size_append]; omega) (by omega) (by omega)
      refine ⟨s, q', ev_succ ?_, hz', by omega, by omega⟩
      simp only [spec_rnd_text.l0]
      refine ev_pos hn (ev_bind1 e (ev_pos (by show x.size + v.size ≤ 9223372036854775807; omega) ?_))
      rw [hw]
      exact hs
    · obtain ⟨s, q', hs, hz', q0', q1'⟩ := ih x n p n0 (by omega) (by omega) (by omega) p0 (by omega)
      exact ⟨s, q', hs, hz', q0', by omega⟩

theorem text_ok {code : List Int} (hl : code.length ≤ 4000) (hb : ∀ x ∈ code, (Lit.int .u8 x).wf = true) {p : Int} (h0 : 0 ≤ p) (h1 : p ≤ 800000) :
    ∃ s q, Ev (fun k => spec_rnd_text.f k code p) (s, q) ∧ s.size ≤ 1000 ∧ p ≤ q ∧ q ≤ p + 10 := by
  obtain ⟨n, q, e, n0, n1, q0, q1⟩ := pick_ok hl hb h0 (by omega) 9
  obtain ⟨s, q', hs, hz, q0', q1'⟩ := text_from hl hb 8 ⟨#[]⟩ n q n0 (by omega) (by omega) (by simp [ByteArray.size]) (by omega) (by omega)
  refine ⟨s, q', ?_, hz, by omega, by omega⟩
  unfold spec_rnd_text.f
  exact ev_bind1 e hs

/-! ### Short texts -/
theorem rdS_at (l : List ByteArray) (i : Nat) (h : i < l.length) : rdOf ByteArray.empty l (i : Int) = l[i] := by
  unfold rdOf
  simp [List.getD_eq_getElem?_getD, h]
theorem short_from (l : List ByteArray) (hl : l.length ≤ 4611686018427387904) (d : Nat) : ∀ i : Nat, i + d = l.length → Ev (fun k => impl_shortTexts.l0 k l (l.length : Int) (i : Int)) ((l.drop i).all fun s => decide (s.size ≤ 400)) := by
  induction d with
  | zero =>
    intro i hi
    refine ev_succ ?_
    simp only [impl_shortTexts.l0]
    refine ev_neg (by omega) (ev_some ?_)
    rw [List.drop_of_length_le (by omega)]; rfl
  | succ d ih =>
    intro i hi
    have hlt : i < l.length := by omega
    refine ev_succ ?_
    simp only [impl_shortTexts.l0]
    rw [rdS_at l i hlt, next_i i (by omega), List.drop_eq_getElem_cons hlt, List.all_cons]
    refine ev_pos (by omega) (ev_pos (by omega) (ev_pos (by omega) ?_))
    by_cases h : (l[i].size : Int) > 400
    · refine ev_pos h (ev_some ?_)
      rw [decide_eq_false (by omega)]; rfl
    · refine ev_neg h (ev_eq (ih (i + 1) (by omega)) ?_)
      rw [decide_eq_true (by omega), Bool.true_and]
theorem short_ev (l : List ByteArray) (hl : l.length ≤ 4611686018427387904) : Ev (fun k => impl_shortTexts.f k l) (l.all fun s => decide (s.size ≤ 400)) := by
  unfold impl_shortTexts.f
  exact short_from l hl l.length 0 (by omega)
theorem short1_ev (a : ByteArray) : Ev (fun k => impl_shortTexts.f k [a]) (decide (a.size ≤ 400)) := by
  have := short_ev [a] (by simp)
  simpa using this

theorem ba_ext {a b : ByteArray} (h : a.data.toList = b.data.toList) : a = b := by
  cases a; cases b
  simp only [Array.toList_inj] at h
  rw [h]
theorem ba_append (a b : ByteArray) : (a ++ b).data.toList = a.data.toList ++ b.data.toList := by
  rw [ByteArray.data_append, Array.toList_append]
theorem ba_len (a : ByteArray) : a.data.toList.length = a.size := by simp

/-! ### Quotes -/
def quoteR (s : ByteArray) : ByteArray := ⟨(quoteL s.data.toList).toArray⟩
theorem nums_list (l : List Int) : (strOfNums l).data.toList = l.map fun n => UInt8.ofNat n.toNat := rfl
theorem ofNat_byte (b : UInt8) : UInt8.ofNat ((b.toNat : Int)).toNat = b := by simp
theorem bt_nat (s : ByteArray) (i : Nat) (h : i < s.size) : bt s (i : Int) = ((s[i]'h).toNat : Int) := by simp [bt, h]
theorem ext_list (b : ByteArray) (j : Nat) (h : j < b.size) : (b.extract j (j + 1)).data.toList = [b[j]'h] := by
  rw [ByteArray.data_extract, Array.toList_extract, List.extract_eq_take_drop, List.drop_eq_getElem_cons (by simpa using h), show j + 1 - j = 0 + 1 by omega, List.take_succ_cons, List.take_zero]
  rfl
theorem hex_digit (n : Int) (h0 : 0 ≤ n) (h1 : n < 16) : ∃ t, spec_hexDigit.f n = some t ∧ t.data.toList = [hexD n.toNat] := by
  obtain ⟨m, rfl⟩ := Int.eq_ofNat_of_zero_le h0
  have hw : wrap64 ((m : Int) + 1) = ((m + 1 : Nat) : Int) := by rw [w64 (by omega) (by omega)]; omega
  unfold spec_hexDigit.f
  rw [hw, if_pos (by omega), if_pos (by omega), if_pos (by omega)]
  refine ⟨_, rfl, ?_⟩
  have := ext_list (⟨#[48, 49, 50, 51, 52, 53, 54, 55, 56, 57, 97, 98, 99, 100, 101, 102]⟩ : ByteArray) m (by show m < 16; omega)
  simp only [Int.toNat_natCast]
  rw [this, hexD_at m (by omega)]
theorem quote_from (s : ByteArray) (hs : s.size ≤ 1048576) (d : Nat) : ∀ (i : Nat) (x : ByteArray), i + d = s.size → x.data.toList = 39 :: (s.data.toList.take i).flatMap quote1 → Ev (fun k => spec_quoted.l0 k s x (i : Int)) (quoteR s) := by
  induction d with
  | zero =>
    intro i x hi hx
    have hxl : x.size ≤ 1 + 4 * i := by
      rw [← ba_len, hx, List.length_cons]
      have := flat_len (s.data.toList.take i)
      have h2 : (s.data.toList.take i).length ≤ i := List.length_take_le _ _
      omega
    refine ev_succ ?_
    simp only [spec_quoted.l0]
    refine ev_neg (by omega) (ev_pos (by omega) (ev_some (congrArg some (ba_ext ?_))))
    rw [ba_append, hx, List.take_of_length_le (by rw [ba_len]; omega)]
    rfl
  | succ d ih =>
    intro i x hi hx
    have hlt : i < s.size := by omega
    have hxl : x.size ≤ 1 + 4 * i := by
      rw [← ba_len, hx, List.length_cons]
      have := flat_len (s.data.toList.take i)
      have h2 : (s.data.toList.take i).length ≤ i := List.length_take_le _ _
      omega
    have hb := (s[i]'hlt).toNat_lt
    have go : ∀ y : ByteArray, y.data.toList = x.data.toList ++ quote1 (s[i]'hlt) → Ev (fun k => spec_quoted.l0 k s y ((i + 1 : Nat) : Int)) (quoteR s) := fun y hy =>
      ih (i + 1) y (by omega) (by rw [hy, hx, quote_take s i hlt]; simp)
    have hw : wrap64 ((s[i]'hlt).toNat : Int) = ((s[i]'hlt).toNat : Int) := w64 (by omega) (by omega)
    have J2 : ¬ ((s[i]'hlt).toNat = 39 ∨ (s[i]'hlt).toNat = 92) → ¬ (s[i]'hlt).toNat = 10 → ∀ z : Bool, (z = true ↔ (s[i]'hlt).toNat < 32 ∨ 126 < (s[i]'hlt).toNat) → Ev (fun k => spec_quoted.j2 k s x (i : Int) ((s[i]'hlt).toNat : Int) z) (quoteR s) := by
      intro n1 n2 z hz
      refine ev_succ ?_
      simp only [spec_quoted.j2]
      rw [next_i i (by omega), hw]
      by_cases c : (s[i]'hlt).toNat < 32 ∨ 126 < (s[i]'hlt).toNat
      · have e1 : Int.tdiv ((s[i]'hlt).toNat : Int) 16 = (((s[i]'hlt).toNat / 16 : Nat) : Int) := by rw [Int.tdiv_eq_ediv_of_nonneg (by omega)]; omega
        have e2 : Int.tmod ((s[i]'hlt).toNat : Int) 16 = (((s[i]'hlt).toNat % 16 : Nat) : Int) := by rw [Int.tmod_eq_emod_of_nonneg (by omega)]; omega
        have e3 : wrap64 (((s[i]'hlt).toNat / 16 : Nat) : Int) = (((s[i]'hlt).toNat / 16 : Nat) : Int) := w64 (by omega) (by omega)
        obtain ⟨t1, h1, l1⟩ := hex_digit (((s[i]'hlt).toNat / 16 : Nat) : Int) (by omega) (by omega)
        obtain ⟨t2, h2, l2⟩ := hex_digit (((s[i]'hlt).toNat % 16 : Nat) : Int) (by omega) (by omega)
        have z1 : t1.size = 1 := by rw [← ba_len, l1]; rfl
        have z2 : t2.size = 1 := by rw [← ba_len, l2]; rfl
        have zs : (strOfNums [92, 120]).size = 2 := by rw [strOfNums_size]; rfl
        rw [e1, e2, e3]
        refine ev_pos (hz.2 c) (ev_bind1 rfl (ev_pos (by omega) (ev_bind1 h1 (ev_pos (by rw [ByteArray.size_append]; omega) (ev_bind1 h2 (ev_pos (by rw [ByteArray.size_append, ByteArray.size_append]; omega) (go _ ?_)))))))
        rw [ba_append, ba_append, ba_append, l1, l2, nums_list, quote1, if_neg n1, if_neg n2, if_pos c, Int.toNat_natCast, Int.toNat_natCast]
        simp only [List.append_assoc]
        rfl
      · have zz : (s.extract i (i + 1)).size = 1 := by rw [← ba_len, ext_list s i hlt]; rfl
        refine ev_neg (fun h => c (hz.1 h)) (ev_pos (by omega) (ev_pos (by omega) (ev_pos (by omega) ?_)))
        simp only [Int.toNat_natCast]
        refine ev_pos (by omega) (go _ ?_)
        rw [ba_append, ext_list s i hlt, quote1, if_neg n1, if_neg n2, if_neg c]
    have J1 : ∀ z : Bool, (z = true ↔ (s[i]'hlt).toNat = 39 ∨ (s[i]'hlt).toNat = 92) → Ev (fun k => spec_quoted.j1 k s x (i : Int) ((s[i]'hlt).toNat : Int) z) (quoteR s) := by
      intro z hz
      refine ev_succ ?_
      simp only [spec_quoted.j1]
      rw [next_i i (by omega)]
      by_cases c : (s[i]'hlt).toNat = 39 ∨ (s[i]'hlt).toNat = 92
      · refine ev_pos (hz.2 c) (ev_bind1 rfl (ev_pos (by rw [strOfNums_size]; simp; omega) (go _ ?_)))
        rw [ba_append, nums_list, quote1, if_pos c]
        simp
      · refine ev_neg (fun h => c (hz.1 h)) ?_
        by_cases c2 : ((s[i]'hlt).toNat : Int) = 10
        · refine ev_pos c2 (ev_bind1 rfl (ev_pos (by rw [strOfNums_size]; simp; omega) (go _ ?_)))
          rw [ba_append, nums_list, quote1, if_neg c, if_pos (by omega)]
          simp
        · refine ev_neg c2 ?_
          by_cases c3 : ((s[i]'hlt).toNat : Int) < 32
          · exact ev_pos c3 (J2 c (by omega) true (by simp; omega))
          · exact ev_neg c3 (J2 c (by omega) _ (by simp; omega))
    refine ev_succ ?_
    simp only [spec_quoted.l0]
    rw [bt_nat s i hlt]
    refine ev_pos (by omega) (ev_pos (by omega) ?_)
    by_cases c : ((s[i]'hlt).toNat : Int) = 39
    · exact ev_pos c (J1 true (by simp; omega))
    · exact ev_neg c (J1 _ (by simp; omega))
theorem specQuote_ev (s : ByteArray) (hs : s.size ≤ 1048576) : Ev (fun k => spec_quoted.f k s) (quoteR s) := by
  unfold spec_quoted.f
  exact quote_from s hs s.size 0 _ (by omega) (by simp)
/-- What TextQuote answers. -/
def textQ (s : ByteArray) : ByteArray := if s.size ≤ 400 then quoteR s else ⟨#[]⟩
theorem specTQ_ev (s : ByteArray) (hs : s.size ≤ 1048576) : Ev (fun k => spec_TextQuote.f k s) (textQ s) := by
  have hv : spec_validText.f s = some (decide ((s.size : Int) ≤ 400)) := rfl
  unfold spec_TextQuote.f textQ
  refine ev_bind1 hv ?_
  by_cases h : (s.size : Int) ≤ 400
  · rw [if_pos (by omega)]
    exact ev_pos (decide_eq_true h) (Ev.bind (specQuote_ev s hs) (ev_some rfl))
  · rw [if_neg (by omega)]
    exact ev_neg (by simpa using h) (ev_some rfl)
theorem implTQ_ev (s : ByteArray) (hs : s.size ≤ 1048576) : Ev (fun k => impl_TextQuote.f k s) (textQ s) := by
  unfold impl_TextQuote.f textQ
  refine Ev.bind (short1_ev s) ?_
  by_cases h : s.size ≤ 400
  · rw [if_pos h]
    refine ev_pos (decide_eq_true h) (ev_bind1 (a := quoteR s) ?_ (ev_some rfl))
    unfold impl_quoted.f
    rw [if_pos (by omega)]; rfl
  · rw [if_neg h]
    exact ev_neg (by simpa using h) (ev_some rfl)

/-! ### Texts out of quotes -/
theorem ofNat_eq (b : UInt8) (n : Nat) (h : b.toNat = n) : UInt8.ofNat n = b := by subst h; simp
theorem hexV_hexD : ∀ n : Nat, n < 16 → hexV (hexD n) = n := by decide
/-- What is quoted is read back. -/
theorem scan_quoted (rest : List UInt8) : ∀ (l : List UInt8) (k : Nat) (acc : List UInt8), l.length < k → scanL k (l.flatMap quote1 ++ 39 :: rest) acc = some (acc ++ l, rest.length) := by
  intro l
  induction l with
  | nil =>
    intro k acc hk
    obtain ⟨k, rfl⟩ : ∃ m, k = m + 1 := ⟨k - 1, by simp at hk; omega⟩
    simp only [List.flatMap_nil, List.nil_append, List.append_nil]
    exact scan_close (by decide)
  | cons b l ih =>
    intro k acc hk
    obtain ⟨k, rfl⟩ : ∃ m, k = m + 1 := ⟨k - 1, by simp at hk; omega⟩
    have hk' : l.length < k := by simp at hk; omega
    have hb := b.toNat_lt
    have fin : ∀ c, c = b → scanL k (l.flatMap quote1 ++ 39 :: rest) (acc ++ [c]) = some (acc ++ b :: l, rest.length) := fun c hc => by
      rw [ih k _ hk', hc]; simp
    rw [List.flatMap_cons, List.append_assoc]
    by_cases c1 : b.toNat = 39 ∨ b.toNat = 92
    · have e : quote1 b = [92, b] := by rw [quote1, if_pos c1]
      rw [e]
      show scanL (k + 1) (92 :: b :: _) acc = _
      rw [scan_other (by decide) (by omega) (by omega)]
      exact fin b rfl
    · by_cases c2 : b.toNat = 10
      · have e : quote1 b = [92, 110] := by rw [quote1, if_neg c1, if_pos c2]
        rw [e]
        show scanL (k + 1) (92 :: 110 :: _) acc = _
        rw [scan_n (by decide) (by decide)]
        exact fin 10 (ofNat_eq b 10 c2)
      · by_cases c3 : b.toNat < 32 ∨ 126 < b.toNat
        · have e : quote1 b = [92, 120, hexD (b.toNat / 16), hexD (b.toNat % 16)] := by rw [quote1, if_neg c1, if_neg c2, if_pos c3]
          rw [e]
          show scanL (k + 1) (92 :: 120 :: hexD (b.toNat / 16) :: hexD (b.toNat % 16) :: _) acc = _
          rw [scan_hex (by decide) (by decide), hexV_hexD _ (by omega), hexV_hexD _ (by omega), if_neg (by omega)]
          exact fin _ (ofNat_eq b _ (by omega))
        · have e : quote1 b = [b] := by rw [quote1, if_neg c1, if_neg c2, if_neg c3]
          rw [e]
          show scanL (k + 1) (b :: _) acc = _
          rw [scan_plain (by omega) (by omega)]
          exact fin b rfl
theorem quoteL_inj {a b : List UInt8} (h : quoteL a = quoteL b) : a = b := by
  have h1 := scan_quoted [] a (a.length + b.length + 1) [] (by omega)
  have h2 := scan_quoted [] b (a.length + b.length + 1) [] (by omega)
  have h3 : a.flatMap quote1 ++ [39] = b.flatMap quote1 ++ [39] := (List.cons.inj h).2
  rw [h3, h2] at h1
  simpa using h1.symm
theorem quoteL_len (l : List UInt8) : l.length + 2 ≤ (quoteL l).length ∧ (quoteL l).length ≤ 4 * l.length + 2 := by
  have h := flat_len l
  have h2 : l.length ≤ (l.flatMap quote1).length := by
    clear h
    induction l with
    | nil => simp
    | cons b l ih =>
      have := quote1_len b
      rw [List.flatMap_cons, List.length_append, List.length_cons]; omega
  unfold quoteL
  simp only [List.length_cons, List.length_append, List.length_nil]
  omega
theorem quoteE_of (s : ByteArray) (l : List UInt8) (h : s.data.toList = quoteL l) : quoteE s = (⟨l.toArray⟩, (s.size : Int), decide (l.length ≤ 400)) := by
  have hz : s.size = (quoteL l).length := by rw [← h]; simp
  have hl := quoteL_len l
  have e : scanL (s.size + 1) (s.data.toList.drop 1) [] = some (l, 0) := by
    rw [h]
    have := scan_quoted [] l (s.size + 1) [] (by omega)
    simpa [quoteL] using this
  unfold quoteE
  rw [e]
  simp only [Nat.sub_zero, Int.sub_zero, Int.ofNat_zero, Int.natCast_zero]
  have hx : (s.extract 0 s.size).toList = quoteL l := by rw [ByteArray.extract_zero_size, ByteArray.toList_eq, h]
  rw [hx]
  simp
theorem scanL_left : ∀ (k : Nat) (l acc out : List UInt8) (left : Nat), scanL k l acc = some (out, left) → left < l.length := by
  intro k
  induction k with
  | zero => intro l acc out left h; simp [scanL] at h
  | succ k ih =>
    intro l acc out left h
    match l with
    | [] => simp [scanL] at h
    | b :: l =>
      by_cases c1 : b.toNat = 39
      · rw [scan_close c1] at h
        obtain ⟨-, rfl⟩ := Prod.mk.inj (Option.some.inj h)
        simp
      · by_cases c2 : b.toNat = 92
        · match l with
          | [] => rw [scan_last c2] at h; cases h
          | c :: l =>
            by_cases c3 : c.toNat = 110
            · rw [scan_n c2 c3] at h; have := ih _ _ _ _ h; simp; omega
            · by_cases c4 : c.toNat = 120
              · match l with
                | [] => rw [scan_x c2 c4 (by simp)] at h; cases h
                | [_] => rw [scan_x c2 c4 (by simp)] at h; cases h
                | x :: o :: l =>
                  rw [scan_hex c2 c4] at h
                  split at h
                  · cases h
                  · have := ih _ _ _ _ h; simp; omega
              · rw [scan_other c2 c3 c4] at h; have := ih _ _ _ _ h; simp; omega
        · rw [scan_plain c1 c2] at h; have := ih _ _ _ _ h; simp; omega
/-- What quoteEnd takes for a text in quotes is one. -/
theorem quoteE_yes (s o : ByteArray) (h : quoteE s = (o, (s.size : Int), true)) : o.size ≤ 400 ∧ s.data.toList = quoteL o.data.toList := by
  unfold quoteE at h
  split at h
  · cases (Prod.mk.inj (Prod.mk.inj h).2).2
  · rename_i out left e
    obtain ⟨rfl, h2⟩ := Prod.mk.inj h
    obtain ⟨h3, h4⟩ := Prod.mk.inj h2
    have hl : left = 0 := by omega
    subst hl
    rw [Bool.and_eq_true] at h4
    have h5 : out.length ≤ 400 := of_decide_eq_true h4.1
    have h6 := beq_iff_eq.1 h4.2
    rw [Nat.sub_zero, ByteArray.extract_zero_size, ByteArray.toList_eq] at h6
    exact ⟨by simpa [ByteArray.size] using h5, by rw [← h6]⟩

/-! ### TextUnquote, both -/
/-- The text whose quoted form this is, if there is one. -/
def tunq (q : ByteArray) (r : ByteArray × Bool) : Prop := (r.2 = true ∧ r.1.size ≤ 400 ∧ q.data.toList = quoteL r.1.data.toList) ∨ (r = (⟨#[]⟩, false) ∧ ∀ l : List UInt8, l.length ≤ 400 → q.data.toList ≠ quoteL l)
theorem tunq_det {q : ByteArray} {r t : ByteArray × Bool} (h : tunq q r) (k : tunq q t) : r = t := by
  rcases h with ⟨a, b, c⟩ | ⟨a, b⟩ <;> rcases k with ⟨d, e, f⟩ | ⟨d, e⟩
  · exact Prod.ext (ba_ext (quoteL_inj (c.symm.trans f))) (a.trans d.symm)
  · exact absurd c (e _ (by rw [ba_len]; exact b))
  · exact absurd f (b _ (by rw [ba_len]; exact e))
  · exact a.trans d.symm
theorem quote_size {q : ByteArray} {l : List UInt8} (h : q.data.toList = quoteL l) : q.size = (quoteL l).length := by rw [← ba_len, h]
theorem quoteE_size (q : ByteArray) (hq : 0 < q.size) : ∃ o n b, quoteE q = (o, n, b) := ⟨_, _, _, rfl⟩
theorem implTU_ev (q : ByteArray) (hq : q.size ≤ 1048576) : ∃ r, Ev (fun k => impl_TextUnquote.f k q) r ∧ tunq q r := by
  have first : ∀ {l : List UInt8}, q.data.toList = quoteL l → 0 < q.size ∧ bt q 0 = 39 := by
    intro l h
    have hz := quote_size h
    have hl := quoteL_len l
    have h0 : 0 < q.size := by omega
    refine ⟨h0, ?_⟩
    have e2 : q[0]'h0 = 39 := by
      have : q.data.toList.drop 0 = q[0]'h0 :: q.data.toList.drop 1 := drop_at q 0 h0
      rw [List.drop_zero, h] at this
      exact (List.cons.inj this).1.symm
    have e := bt_nat q 0 h0
    rw [e2] at e
    exact e
  unfold impl_TextUnquote.f
  by_cases h0 : q.toList = ([] : List UInt8)
  · refine ⟨(⟨#[]⟩, false), ev_pos h0 (ev_succ ?_), .inr ⟨rfl, fun l hl e => ?_⟩⟩
    · simp only [impl_TextUnquote.j0]
      exact ev_pos trivial (ev_some rfl)
    · rw [ByteArray.toList_eq, e] at h0
      cases h0
  · have hz : 0 < q.size := by
      apply Nat.pos_of_ne_zero
      intro hz
      apply h0
      rw [ByteArray.toList_eq]
      exact List.eq_nil_of_length_eq_zero (by rw [ba_len]; exact hz)
    by_cases h1 : bt q 0 = 39
    · have hf : impl_quoteEnd.f q 0 = some (quoteE q) := by unfold impl_quoteEnd.f; rw [if_pos ⟨rfl, by omega⟩]
      by_cases h2 : (quoteE q).2.2 = true
      · by_cases h3 : (quoteE q).2.1 = (q.size : Int)
        · have e : quoteE q = ((quoteE q).1, (q.size : Int), true) := by rw [← h3, ← h2]
          obtain ⟨z1, z2⟩ := quoteE_yes q _ e
          refine ⟨((quoteE q).1, true), ev_neg h0 (ev_pos (by omega) (ev_succ ?_)), .inl ⟨rfl, z1, z2⟩⟩
          simp only [impl_TextUnquote.j0]
          exact ev_neg (by simp [h1]) (ev_bind1 hf (ev_pos h2 (ev_pos h3 (ev_some rfl))))
        · refine ⟨(⟨#[]⟩, false), ev_neg h0 (ev_pos (by omega) (ev_succ ?_)), .inr ⟨rfl, fun l hl e => h3 ?_⟩⟩
          · simp only [impl_TextUnquote.j0]
            exact ev_neg (by simp [h1]) (ev_bind1 hf (ev_pos h2 (ev_neg h3 (ev_some rfl))))
          · rw [quoteE_of q l e]
      · refine ⟨(⟨#[]⟩, false), ev_neg h0 (ev_pos (by omega) (ev_succ ?_)), .inr ⟨rfl, fun l hl e => h2 ?_⟩⟩
        · simp only [impl_TextUnquote.j0]
          exact ev_neg (by simp [h1]) (ev_bind1 hf (ev_neg h2 (ev_some rfl)))
        · rw [quoteE_of q l e]
          exact decide_eq_true hl
    · refine ⟨(⟨#[]⟩, false), ev_neg h0 (ev_pos (by omega) (ev_succ ?_)), .inr ⟨rfl, fun l hl e => h1 (first e).2⟩⟩
      simp only [impl_TextUnquote.j0]
      exact ev_pos (by simp [h1]) (ev_some rfl)

theorem FnTextQuote : laws_FnTextQuote.Pure := by
  intro l hm _ hb
  refine Ev.rounds ?_
  unfold laws_FnTextQuote.f
  by_cases hl : (l.length : Int) > 1048576
  · exact ev_pos hl (ev_some rfl)
  refine ev_neg hl ?_
  obtain ⟨code, e, hc, hbc⟩ := newRnd_ok (l := l) (by omega) hb
  obtain ⟨s, q, e1, hs, q0, q1⟩ := text_ok hc hbc (p := 0) (by omega) (by omega)
  have hd : Ev (fun k => spec_DrawTextQuote.f k l) s := by
    unfold spec_DrawTextQuote.f
    exact ev_bind1 e (Ev.bind e1 (ev_some rfl))
  refine Ev.bind hd (Ev.bind (implTQ_ev s (by omega)) (Ev.bind (specTQ_ev s (by omega)) (ev_pos rfl ?_)))
  by_cases h0 : (textQ s).toList = ([] : List UInt8)
  · exact ev_pos h0 (ev_some (by simp))
  · by_cases h4 : s.size ≤ 400
    · have hT : textQ s = quoteR s := if_pos h4
      have hq := quoteL_len s.data.toList
      have hz : (quoteR s).size = (quoteL s.data.toList).length := by rw [← ba_len]; rfl
      have hls : s.data.toList.length = s.size := ba_len s
      obtain ⟨r, h1, p1⟩ := implTU_ev (textQ s) (by rw [hT]; omega)
      have p2 : tunq (textQ s) (s, true) := .inl ⟨rfl, h4, by rw [hT]; rfl⟩
      obtain rfl := tunq_det p1 p2
      refine ev_neg h0 (Ev.bind h1 (ev_pos rfl (ev_pos rfl (ev_some (congrArg some ?_)))))
      rw [hT, w64 (by omega) (by omega), decide_eq_true (by omega)]
    · exfalso
      apply h0
      rw [textQ, if_neg h4, ByteArray.toList_eq]

end Go.Proofs.Ytkhkbbhkhpekcaa.Pure
