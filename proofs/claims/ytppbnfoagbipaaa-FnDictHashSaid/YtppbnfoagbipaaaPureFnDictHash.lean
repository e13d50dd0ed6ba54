/- FnDictHash: for every code, hashes are of the bytes. -/
import Derived.Test.YtppbnfoagbipaaaXFnDictHashx2
namespace Go.Proofs.Ytppbnfoagbipaaa.Pure
open Go.RowKit Go.Proofs.Ytppbnfoagbipaaa.XFnDictHash Go.Proofs.YtppbnfoagbipaaaW.PrintWords Go.Proofs.YtppbnfoagbipaaaW.PrintLast Go.Proofs.YtppbnfoagbipaaaW.PrintMore
set_option linter.unusedVariables false
set_option linter.unusedSimpArgs false

/-! ### Rounds, and words of 64 bits -/
theorem ev_succ {α : Type} {g : Nat → Option α} {r : α} (h : Ev (fun k => g (k + 1)) r) : Ev g r := Ev.step (fun _ => rfl) h
theorem ev_some {α : Type} {o : Option α} {r : α} (h : o = some r) : Ev (fun _ => o) r := ⟨0, fun _ _ => h⟩
theorem ev_pos {α : Type} {c : Prop} [Decidable c] {A B : Nat → Option α} {r : α} (h : c) (k : Ev A r) : Ev (fun n => if c then A n else B n) r :=
  Ev.congr (fun _ => if_pos h) k
theorem ev_neg {α : Type} {c : Prop} [Decidable c] {A B : Nat → Option α} {r : α} (h : ¬ c) (k : Ev B r) : Ev (fun n => if c then A n else B n) r :=
  Ev.congr (fun _ => if_neg h) k
theorem ev_eq {α : Type} {g : Nat → Option α} {r s : α} (h : Ev g r) (e : r = s) : Ev g s := e ▸ h
theorem ev_bind1 {α β : Type} {o : Option α} {f : Nat → α → Option β} {a : α} {r : β} (h : o = some a) (k : Ev (fun n => f n a) r) : Ev (fun n => o.bind (f n)) r :=
  Ev.bind (ev_some h) k
theorem ev_det {α : Type} {g : Nat → Option α} {r s : α} (h : Ev g r) (k : Ev g s) : r = s := by
  obtain ⟨K, h⟩ := h
  obtain ⟨L, k⟩ := k
  have h1 := h (max K L) (by omega)
  have h2 := k (max K L) (by omega)
  rw [h1] at h2
  exact Option.some.inj h2
theorem w64 {n : Int} (h : -9223372036854775808 ≤ n) (h' : n ≤ 9223372036854775807) : wrap64 n = n := by unfold wrap64; omega
theorem byte_of {l : List Int} (h : ∀ x ∈ l, (Lit.int .u8 x).wf = true) (i : Int) : 0 ≤ rd l i ∧ rd l i ≤ 255 := by
  unfold rd
  by_cases hi : i.toNat < l.length
  · have hm : l.getD i.toNat 0 ∈ l := by
      rw [List.getD_eq_getElem?_getD, List.getElem?_eq_getElem hi]
      exact List.getElem_mem hi
    have := h _ hm
    have m0 : IntKind.u8.min = 0 := by decide
    have m1 : IntKind.u8.max = 255 := by decide
    simp only [Lit.wf, m0, m1, Bool.and_eq_true, decide_eq_true_eq] at this
    exact this
  · rw [List.getD_eq_getElem?_getD, List.getElem?_eq_none (by omega)]
    simp

/-! ### Draws: what they pick, and that they never panic -/
theorem xor_ok (v u : Int) (h0 : 0 ≤ v) (h1 : v < 4611686018427387904) (u0 : 0 ≤ u) (u1 : u < 4611686018427387904) : 0 ≤ Go.bits .xor .i64 v u := by
  obtain ⟨a, rfl⟩ := Int.eq_ofNat_of_zero_le h0
  obtain ⟨b, rfl⟩ := Int.eq_ofNat_of_zero_le u0
  have ofInt : ∀ a : Nat, a < 9223372036854775808 → (BitVec.ofInt 64 (a : Int)).toNat = a := fun a ha => by
    rw [BitVec.ofInt_natCast, BitVec.toNat_ofNat]; exact Nat.mod_eq_of_lt (by omega)
  have hx : a ^^^ b < 2 ^ 63 := Nat.xor_lt_two_pow (by omega) (by omega)
  show 0 ≤ IntKind.i64.wrap ((BitVec.ofInt 64 (a : Int) ^^^ BitVec.ofInt 64 (b : Int)).toNat : Int)
  rw [BitVec.toNat_xor, ofInt a (by omega), ofInt b (by omega), IntKind.wrap_i64]
  omega

theorem pick_ok {code : List Int} (hl : code.length ≤ 4000) (hb : ∀ x ∈ code, (Lit.int .u8 x).wf = true) {p : Int} (h0 : 0 ≤ p) (h1 : p ≤ 1000000) (n : Int) :
    ∃ v q, spec_rnd_pick.f code p n = some (v, q) ∧ 0 ≤ v ∧ (v < n ∨ (n < 2 ∧ v = 0)) ∧ p ≤ q ∧ q ≤ p + 1 := by
  unfold spec_rnd_pick.f
  by_cases hn : n < 2
  · rw [if_pos hn]; exact ⟨0, p, rfl, by omega, .inr ⟨hn, rfl⟩, by omega, by omega⟩
  rw [if_neg hn]
  have hw : wrap64 (p + 1) = p + 1 := w64 (by omega) (by omega)
  have fin : ∀ v : Int, 0 ≤ v → ∃ v' q, (if n = 0 then none else some (Int.tmod v n, wrap64 (p + 1))) = some (v', q) ∧ 0 ≤ v' ∧ (v' < n ∨ (n < 2 ∧ v' = 0)) ∧ p ≤ q ∧ q ≤ p + 1 := by
    intro v hv
    rw [if_neg (by omega), hw, Int.tmod_eq_emod_of_nonneg hv]
    exact ⟨_, _, rfl, Int.emod_nonneg _ (by omega), .inl (Int.emod_lt_of_pos _ (by omega)), by omega, by omega⟩
  by_cases hc : (code.length : Int) > 0
  · rw [if_pos hc, if_neg (by omega)]
    have e1 : Int.tmod p (code.length : Int) = p % code.length := Int.tmod_eq_emod_of_nonneg h0
    have e2 : wrap64 (wrap64 (p * 7) + 3) = p * 7 + 3 := by rw [w64 (n := p * 7) (by omega) (by omega)]; exact w64 (by omega) (by omega)
    have e3 : Int.tmod (p * 7 + 3) (code.length : Int) = (p * 7 + 3) % code.length := Int.tmod_eq_emod_of_nonneg (by omega)
    have m0 := Int.emod_nonneg p (show (code.length : Int) ≠ 0 by omega)
    have m1 := Int.emod_lt_of_pos p hc
    have m2 := Int.emod_nonneg (p * 7 + 3) (show (code.length : Int) ≠ 0 by omega)
    have m3 := Int.emod_lt_of_pos (p * 7 + 3) hc
    have e4 : Int.tdiv p (code.length : Int) = p / code.length := Int.tdiv_eq_ediv_of_nonneg h0
    have d0 : 0 ≤ p / (code.length : Int) := Int.ediv_nonneg h0 (by omega)
    have d1 : p / (code.length : Int) ≤ p := Int.ediv_le_self _ h0
    rw [e1, if_pos m0, if_pos m1, e2, e3, if_pos m2, if_pos m3, e4]
    obtain ⟨a0, a1⟩ := byte_of hb (p % code.length)
    obtain ⟨b0, b1⟩ := byte_of hb ((p * 7 + 3) % code.length)
    generalize rd code (p % code.length) = a at a0 a1 ⊢
    generalize rd code ((p * 7 + 3) % code.length) = b at b0 b1 ⊢
    generalize p / (code.length : Int) = d at d0 d1 ⊢
    have w1 : wrap64 a = a := w64 (by omega) (by omega)
    have w2 : wrap64 b = b := w64 (by omega) (by omega)
    have w3 : wrap64 (a * 131) = a * 131 := w64 (by omega) (by omega)
    have w4 : wrap64 (b * 1117) = b * 1117 := w64 (by omega) (by omega)
    have w5 : wrap64 (p * 29) = p * 29 := w64 (by omega) (by omega)
    have w6 : wrap64 d = d := w64 (by omega) (by omega)
    have w7 : wrap64 (d * 53) = d * 53 := w64 (by omega) (by omega)
    have w8 : wrap64 (a * 131 + b * 1117) = a * 131 + b * 1117 := w64 (by omega) (by omega)
    have w9 : wrap64 (a * 131 + b * 1117 + p * 29) = a * 131 + b * 1117 + p * 29 := w64 (by omega) (by omega)
    have w10 : wrap64 (a * 131 + b * 1117 + p * 29 + d * 53) = a * 131 + b * 1117 + p * 29 + d * 53 := w64 (by omega) (by omega)
    rw [w1, w2, w3, w4, w5, w6, w7, w8, w9, w10]
    have big : 0 ≤ Go.bits .xor .i64 (a * 131 + b * 1117 + p * 29 + d * 53) (wrap64 (Int.tdiv (a * 131 + b * 1117 + p * 29 + d * 53) 64)) := by
      have t : Int.tdiv (a * 131 + b * 1117 + p * 29 + d * 53) 64 = (a * 131 + b * 1117 + p * 29 + d * 53) / 64 := Int.tdiv_eq_ediv_of_nonneg (by omega)
      rw [t, w64 (by omega) (by omega)]
      exact xor_ok _ _ (by omega) (by omega) (by omega) (by omega)
    by_cases h256 : n > 256
    · rw [if_pos h256]; exact fin _ big
    · rw [if_neg h256]
      by_cases hp : p ≥ (code.length : Int)
      · rw [if_pos hp]; exact fin _ big
      · rw [if_neg hp]; exact fin _ a0
  · rw [if_neg hc, if_neg (by omega), hw]
    exact ⟨_, _, rfl, by simp, .inl (by simp; omega), by omega, by omega⟩

theorem newRnd_ok {l : List Int} (hl : l.length ≤ 1048576) (hb : ∀ x ∈ l, (Lit.int .u8 x).wf = true) :
    ∃ code, spec_newRnd.f l = some (code, 0) ∧ code.length ≤ 4000 ∧ ∀ x ∈ code, (Lit.int .u8 x).wf = true := by
  unfold spec_newRnd.f
  have h : mn (l.length : Int) 4000 = min (l.length : Int) 4000 := by unfold mn; split <;> omega
  rw [h, if_pos (by omega), if_pos (by omega)]
  refine ⟨_, rfl, ?_, fun x hx => hb x (List.mem_of_mem_take hx)⟩
  rw [List.length_take]; omega

theorem of_ok {code : List Int} (hl : code.length ≤ 4000) (hb : ∀ x ∈ code, (Lit.int .u8 x).wf = true) {p : Int} (h0 : 0 ≤ p) (h1 : p ≤ 1000000) (list : List ByteArray) (hn : list ≠ []) :
    ∃ v q, spec_rnd_of.f code p list = some (v, q) ∧ v ∈ list ∧ p ≤ q ∧ q ≤ p + 1 := by
  have hlen : 0 < list.length := List.length_pos_iff.2 hn
  obtain ⟨i, q, e, i0, i1, q0, q1⟩ := pick_ok hl hb h0 h1 (list.length : Int)
  unfold spec_rnd_of.f
  have hi : i < (list.length : Int) := by omega
  rw [e]
  simp only [Option.bind_some]
  rw [if_pos i0, if_pos hi]
  refine ⟨_, _, rfl, ?_, q0, q1⟩
  unfold rdOf
  rw [List.getD_eq_getElem?_getD, List.getElem?_eq_getElem (show i.toNat < list.length by omega)]
  exact List.getElem_mem _

theorem toList_size (s : ByteArray) : s.toList.length = s.size := by
  rw [ByteArray.toList_eq]; rfl
theorem bytes_ext {a b : ByteArray} (h : a.toList = b.toList) : a = b := by
  rw [ByteArray.toList_eq, ByteArray.toList_eq] at h
  cases a; cases b
  simp only [Array.toList_inj] at h
  rw [h]
theorem bt_append_left (a b : ByteArray) (i : Nat) (h : i < a.size) : bt (a ++ b) (i : Int) = bt a (i : Int) := by
  unfold bt
  rw [dif_pos (by rw [ByteArray.size_append]; simp; omega), dif_pos (by simpa using h)]
  simp only [Int.toNat_natCast]
  rw [ByteArray.getElem_append_left h]
theorem bt_append_right (a b : ByteArray) (i : Nat) (h : a.size ≤ i) (h' : i < a.size + b.size) : bt (a ++ b) (i : Int) = bt b ((i - a.size : Nat) : Int) := by
  unfold bt
  rw [dif_pos (by rw [ByteArray.size_append]; simpa using h'), dif_pos (by simp; omega)]
  simp only [Int.toNat_natCast]
  rw [ByteArray.getElem_append_right h]

theorem pos_ok (d : Nat) : ∀ (n : Int) (x : ByteArray), 0 ≤ n → n ≤ d → d ≤ 100000 → x.size + d ≤ 1000000 → ∃ r, Ev (fun k => spec_positive.l0 k n x) r ∧ r.size ≤ x.size + d + 1 := by
  induction d with
  | zero =>
    intro n x n0 n1 _ hx
    have hm : Int.tmod n 10 = n % 10 := Int.tmod_eq_emod_of_nonneg n0
    have hq : wrap64 (Int.tdiv n 10) = n / 10 := by rw [Int.tdiv_eq_ediv_of_nonneg n0]; exact w64 (by omega) (by omega)
    refine ⟨strOfNums [(wrap64 (48 + n % 10)) % 256] ++ x, ev_succ ?_, by rw [ByteArray.size_append, strOfNums_size]; simp; omega⟩
    simp only [spec_positive.l0, hm, hq]
    refine ev_neg (by omega) (ev_bind1 rfl (ev_pos (by rw [strOfNums_size]; simp; omega) (ev_pos (by omega) (ev_some rfl))))
  | succ d ih =>
    intro n x n0 n1 hd hx
    have hm : Int.tmod n 10 = n % 10 := Int.tmod_eq_emod_of_nonneg n0
    have hq : wrap64 (Int.tdiv n 10) = n / 10 := by rw [Int.tdiv_eq_ediv_of_nonneg n0]; exact w64 (by omega) (by omega)
    by_cases hz : n / 10 = 0
    · refine ⟨strOfNums [(wrap64 (48 + n % 10)) % 256] ++ x, ev_succ ?_, by rw [ByteArray.size_append, strOfNums_size]; simp; omega⟩
      simp only [spec_positive.l0, hm, hq]
      refine ev_neg (by omega) (ev_bind1 rfl (ev_pos (by rw [strOfNums_size]; simp; omega) (ev_pos hz (ev_some rfl))))
    · have hsz : (strOfNums [(wrap64 (48 + n % 10)) % 256] ++ x).size = x.size + 1 := by rw [ByteArray.size_append, strOfNums_size]; simp; omega
      obtain ⟨r, hr, hrs⟩ := ih (n / 10) (strOfNums [(wrap64 (48 + n % 10)) % 256] ++ x) (by omega) (by omega) (by omega) (by omega)
      refine ⟨r, ev_succ ?_, by omega⟩
      simp only [spec_positive.l0, hm, hq]
      refine ev_neg (by omega) (ev_bind1 rfl (ev_pos (by rw [strOfNums_size]; simp; omega) (ev_neg hz hr)))
theorem decimal_ok (n : Int) (n0 : 0 ≤ n) (n1 : n ≤ 100000) : ∃ r, Ev (fun k => spec_decimal.f k n) r ∧ r.size ≤ 100001 := by
  have e0 : (⟨#[]⟩ : ByteArray).size = 0 := rfl
  obtain ⟨r, hr, hrs⟩ := pos_ok n.toNat n ⟨#[]⟩ n0 (by omega) (by omega) (by omega)
  refine ⟨r, ?_, by omega⟩
  unfold spec_decimal.f
  exact ev_neg (by omega) (Ev.bind hr (ev_some rfl))
theorem key_ok {code : List Int} (hl : code.length ≤ 4000) (hb : ∀ x ∈ code, (Lit.int .u8 x).wf = true) {p : Int} (h0 : 0 ≤ p) (h1 : p ≤ 900000) :
    ∃ v q, Ev (fun k => spec_rnd_key.f k code p) (v, q) ∧ v.size ≤ 1000000 ∧ p ≤ q ∧ q ≤ p + 3 := by
  obtain ⟨v1, q1, e1, a0, a1, b0, b1⟩ := pick_ok hl hb h0 (by omega) 30
  obtain ⟨s1, hs1, hz1⟩ := decimal_ok v1 a0 (by omega)
  obtain ⟨v2, q2, e2, c0, c1, d0, d1⟩ := pick_ok hl hb (p := q1) (by omega) (by omega) 30
  obtain ⟨s2, hs2, hz2⟩ := decimal_ok v2 c0 (by omega)
  obtain ⟨v, q, e3, hv, f0, f1⟩ := of_ok hl hb (p := q2) (by omega) (by omega) (([(⟨#[97]⟩ : ByteArray), (⟨#[98]⟩ : ByteArray), (⟨#[99]⟩ : ByteArray), (⟨#[97, 97]⟩ : ByteArray), (⟨#[97, 98]⟩ : ByteArray), (⟨#[107, 101, 121]⟩ : ByteArray), (⟨#[]⟩ : ByteArray), (⟨#[122]⟩ : ByteArray), (⟨#[113, 49]⟩ : ByteArray), (⟨#[113, 50]⟩ : ByteArray) ++ s1, (⟨#[97]⟩ : ByteArray) ++ s2, (⟨#[97, 97, 97, 97, 97, 97, 97, 97, 97, 97, 97, 97, 97, 97, 97, 97, 97, 97, 97, 97, 97]⟩ : ByteArray)] : List ByteArray)) (by simp)
  refine ⟨v, q, ?_, ?_, by omega, by omega⟩
  · unfold spec_rnd_key.f
    refine ev_bind1 e1 (Ev.bind hs1 (ev_pos (by omega) (ev_bind1 e2 (Ev.bind hs2 (ev_pos (by omega) (ev_bind1 e3 (ev_some rfl)))))))
  · have hz3 : ((⟨#[113, 50]⟩ : ByteArray) ++ s1).size = 2 + s1.size := by rw [ByteArray.size_append]; rfl
    have hz4 : ((⟨#[97]⟩ : ByteArray) ++ s2).size = 1 + s2.size := by rw [ByteArray.size_append]; rfl
    simp only [List.mem_cons, List.not_mem_nil, or_false] at hv
    rcases hv with rfl | rfl | rfl | rfl | rfl | rfl | rfl | rfl | rfl | rfl | rfl | rfl <;> first | (rw [hz3]; omega) | (rw [hz4]; omega) | decide

/-! ### Hashes -/
def hashF (s : ByteArray) (h : Int) (l : List Nat) : Int := l.foldl (fun h (j : Nat) => (h * 31 + bt s (j : Int)) % 65536) h
theorem hashF_bd (s : ByteArray) : ∀ (l : List Nat) (h : Int), 0 ≤ h ∧ h < 65536 → 0 ≤ hashF s h l ∧ hashF s h l < 65536
  | [], h, hb => hb
  | j :: l, h, hb => hashF_bd s l _ ⟨Int.emod_nonneg _ (by omega), Int.emod_lt_of_pos _ (by omega)⟩
theorem hash_step (s : ByteArray) (h : Int) (j : Nat) (hb : 0 ≤ h ∧ h < 65536) : Int.tmod (wrap64 ((wrap64 (h * 31)) + (wrap64 (bt s (j : Int))))) 65536 = (h * 31 + bt s (j : Int)) % 65536 := by
  have hr := bt_range s (j : Int)
  rw [w64 (n := h * 31) (by omega) (by omega), w64 (n := bt s (j : Int)) (by omega) (by omega), w64 (by omega) (by omega)]
  exact Int.tmod_eq_emod_of_nonneg (by omega)
theorem impl_hash_from (s : ByteArray) (hs : s.size ≤ 1048576) (d : Nat) : ∀ (i : Nat) (h : Int), i + d = s.size → 0 ≤ h ∧ h < 65536 → Ev (fun k => impl_DictHash.l0 k s h (s.size : Int) (i : Int)) (hashF s h (List.range' i d)) := by
  induction d with
  | zero =>
    intro i h hi hb
    refine ev_succ ?_
    simp only [impl_DictHash.l0]
    exact ev_neg (by omega) (ev_some rfl)
  | succ d ih =>
    intro i h hi hb
    have hw : wrap64 ((i : Int) + 1) = ((i + 1 : Nat) : Int) := by rw [w64 (by omega) (by omega)]; omega
    refine ev_succ ?_
    simp only [impl_DictHash.l0]
    rw [hash_step s h i hb, hw, List.range'_succ]
    exact ev_pos (by omega) (ev_pos (by omega) (ev_pos (by omega) (ih (i + 1) _ (by omega) ⟨Int.emod_nonneg _ (by omega), Int.emod_lt_of_pos _ (by omega)⟩)))
theorem spec_hash_from (s : ByteArray) (hs : s.size ≤ 1048576) (d : Nat) : ∀ (i : Nat) (h : Int), i + d = s.size → 0 ≤ h ∧ h < 65536 → Ev (fun k => spec_hashOf.l0 k s h (i : Int)) (hashF s h (List.range' i d)) := by
  induction d with
  | zero =>
    intro i h hi hb
    refine ev_succ ?_
    simp only [spec_hashOf.l0]
    exact ev_neg (by omega) (ev_some rfl)
  | succ d ih =>
    intro i h hi hb
    have hw : wrap64 ((i : Int) + 1) = ((i + 1 : Nat) : Int) := by rw [w64 (by omega) (by omega)]; omega
    refine ev_succ ?_
    simp only [spec_hashOf.l0]
    rw [hash_step s h i hb, hw, List.range'_succ]
    exact ev_pos (by omega) (ev_pos (by omega) (ih (i + 1) _ (by omega) ⟨Int.emod_nonneg _ (by omega), Int.emod_lt_of_pos _ (by omega)⟩))
/-- What DictHash answers. -/
def hashR (s : ByteArray) : Int := if s.size ≤ 20 then hashF s 7 (List.range s.size) else -1
theorem impl_hash_ev (s : ByteArray) (hs : s.size ≤ 1048576) : Ev (fun k => impl_DictHash.f k s) (hashR s) := by
  unfold impl_DictHash.f hashR
  by_cases h : s.size ≤ 20
  · rw [if_pos h, List.range_eq_range']
    exact ev_neg (by omega) (impl_hash_from s hs s.size 0 7 (by omega) (by omega))
  · rw [if_neg h]; exact ev_pos (by omega) (ev_some rfl)
theorem spec_hash_ev (s : ByteArray) (hs : s.size ≤ 1048576) : Ev (fun k => spec_DictHash.f k s) (hashR s) := by
  unfold spec_DictHash.f spec_validKey.f spec_hashOf.f hashR
  by_cases h : s.size ≤ 20
  · rw [if_pos h, List.range_eq_range']
    exact ev_bind1 rfl (ev_pos (by simp; omega) (Ev.bind (spec_hash_from s hs s.size 0 7 (by omega) (by omega)) (ev_some rfl)))
  · rw [if_neg h]; exact ev_bind1 rfl (ev_neg (by simp; omega) (ev_some rfl))

theorem hashF_more (s : ByteArray) : ∀ (l : List Nat) (h : Int), (∀ j ∈ l, j < s.size) → hashF (s ++ (⟨#[97]⟩ : ByteArray)) h l = hashF s h l
  | [], _, _ => rfl
  | j :: l, h, hl => by
    have e : bt (s ++ (⟨#[97]⟩ : ByteArray)) (j : Int) = bt s (j : Int) := bt_append_left s _ j (hl j (by simp))
    have := hashF_more s l ((h * 31 + bt s (j : Int)) % 65536) (fun i hi => hl i (by simp [hi]))
    simp only [hashF, List.foldl_cons, e] at this ⊢
    exact this
theorem hash_more (s : ByteArray) (h : s.size + 1 ≤ 20) : hashR (s ++ (⟨#[97]⟩ : ByteArray)) = (hashR s * 31 + 97) % 65536 := by
  have hz : (s ++ (⟨#[97]⟩ : ByteArray)).size = s.size + 1 := by rw [ByteArray.size_append]; rfl
  have hlast : bt (s ++ (⟨#[97]⟩ : ByteArray)) (s.size : Int) = 97 := by
    rw [bt_append_right s _ s.size (Nat.le_refl _) (by show _ < s.size + 1; omega), Nat.sub_self]; rfl
  unfold hashR
  rw [hz, if_pos h, if_pos (by omega), List.range_succ]
  have := hashF_more s (List.range s.size) 7 (fun j hj => List.mem_range.1 hj)
  simp only [hashF, List.foldl_append, List.foldl_cons, List.foldl_nil, hlast] at this ⊢
  rw [this]

theorem FnDictHash : laws_FnDictHash.Pure := by
  intro l hm _ hb
  refine Ev.rounds ?_
  unfold laws_FnDictHash.f
  by_cases hl : (l.length : Int) > 1048576
  · exact ev_pos hl (ev_some rfl)
  refine ev_neg hl ?_
  obtain ⟨code, e, hc, hbc⟩ := newRnd_ok (l := l) (by omega) hb
  obtain ⟨s, q, hs, hz, q0, q1⟩ := key_ok hc hbc (p := 0) (by omega) (by omega)
  have D : Ev (fun k => spec_DrawDictHash.f k l) s := by
    unfold spec_DrawDictHash.f
    exact ev_bind1 e (Ev.bind hs (ev_some rfl))
  have hz1 : (s ++ (⟨#[97]⟩ : ByteArray)).size = s.size + 1 := by rw [ByteArray.size_append]; rfl
  refine Ev.bind D (Ev.bind (impl_hash_ev s (by omega)) (Ev.bind (spec_hash_ev s (by omega)) (ev_pos rfl ?_)))
  by_cases h20 : s.size ≤ 20
  · have hb := hashF_bd s (List.range s.size) 7 (by omega)
    have e1 : hashR s = hashF s 7 (List.range s.size) := by rw [hashR, if_pos h20]
    rw [← e1] at hb
    refine ev_neg (by omega) (ev_pos (by omega) (Ev.bind (impl_hash_ev _ (by omega)) (ev_pos (by omega) ?_)))
    have hw : Int.tmod (wrap64 ((wrap64 (hashR s * 31)) + 97)) 65536 = (hashR s * 31 + 97) % 65536 := by
      rw [w64 (n := hashR s * 31) (by omega) (by omega), w64 (by omega) (by omega)]
      exact Int.tmod_eq_emod_of_nonneg (by omega)
    rw [hw]
    by_cases h19 : s.size + 1 ≤ 20
    · rw [hash_more s h19]
      have hn : 0 ≤ (hashR s * 31 + 97) % 65536 := Int.emod_nonneg _ (by omega)
      exact ev_neg (by omega) (ev_some (by simp))
    · have e2 : hashR (s ++ (⟨#[97]⟩ : ByteArray)) = -1 := by rw [hashR, hz1, if_neg h19]
      rw [e2]
      exact ev_pos (by omega) (ev_some rfl)
  · have e1 : hashR s = -1 := by rw [hashR, if_neg h20]
    rw [e1]
    exact ev_pos (by omega) (ev_some rfl)

end Go.Proofs.Ytppbnfoagbipaaa.Pure
