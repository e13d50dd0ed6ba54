/- FnTextFind: for every code, what is found is there first. -/
import Derived.Test.YtkhkbbhkhpekcaaXFnTextFindx2
namespace Go.Proofs.Ytkhkbbhkhpekcaa.Pure
open Go.RowKit Go.Proofs.Ytkhkbbhkhpekcaa.XFnTextFind Go.Proofs.YtkhkbbhkhpekcaaW.PrintWords Go.Proofs.YtkhkbbhkhpekcaaW.PrintLast Go.Proofs.YtkhkbbhkhpekcaaW.PrintMore
set_option linter.unusedVariables false
set_option linter.unusedSimpArgs false

/-! ### Rounds, and words of 64 bits -/
theorem ev_succ {α : Type} {g : Nat → Option α} {r : α} (h : Ev (fun k => g (k + 1)) r) : Ev g r := Ev.step (fun _ => rfl) h
theorem ev_some {α : Type} {o : Option α} {r : α} (h : o = some r) : Ev (fun _ => o) r := ⟨0, fun _ _ => h⟩
theorem ev_pos {α : Type} {c : Prop} [Decidable c] {A B : Nat → Option α} {r : α} (h : c) (k : Ev A r) : Ev (fun n => if c then A n else B n) r :=
  Ev.congr (fun _ => if_pos h) k
theorem ev_neg {α : Type} {c : Prop} [Decidable c] {A B : Nat → Option α} {r : α} (h : ¬ c) (k : Ev B r) : Ev (fun n => if c then A n else B n) r :=
  Ev.congr (fun _ => if_neg h) k
theorem ev_eq {α : Type} {g : Nat → Option α} {r s : α} (h : Ev g r) (e : r = s) : Ev g s := e ▸ h
theorem ev_bind1 {α β : Type} {o : Option α} {f : Nat → α → Option β} {a : α} {r : β} (h : o = some a) (k : Ev (fun n => f n a) r) : Ev (fun n => o.bind (f n)) r :=
  Ev.bind (ev_some h) k
theorem ev_det {α : Type} {g : Nat → Option α} {r s : α} (h : Ev g r) (k : Ev g s) : r = s := by
  obtain ⟨K, h⟩ := h
  obtain ⟨L, k⟩ := k
  have h1 := h (max K L) (by omega)
  have h2 := k (max K L) (by omega)
  rw [h1] at h2
  exact Option.some.inj h2
theorem w64 {n : Int} (h : -9223372036854775808 ≤ n) (h' : n ≤ 9223372036854775807) : wrap64 n = n := by unfold wrap64; omega
theorem byte_of {l : List Int} (h : ∀ x ∈ l, (Lit.int .u8 x).wf = true) (i : Int) : 0 ≤ rd l i ∧ rd l i ≤ 255 := by
  unfold rd
  by_cases hi : i.toNat < l.length
  · have hm : l.getD i.toNat 0 ∈ l := by
      rw [List.getD_eq_getElem?_getD, List.getElem?_eq_getElem hi]
      exact List.getElem_mem hi
    have := h _ hm
    have m0 : IntKind.u8.min = 0 := by decide
    have m1 : IntKind.u8.max = 255 := by decide
    simp only [Lit.wf, m0, m1, Bool.and_eq_true, decide_eq_true_eq] at this
    exact this
  · rw [List.getD_eq_getElem?_getD, List.getElem?_eq_none (by omega)]
    simp

/-! ### Draws: what they pick, and that they never panic -/
theorem xor_ok (v u : Int) (h0 : 0 ≤ v) (h1 : v < 4611686018427387904) (u0 : 0 ≤ u) (u1 : u < 4611686018427387904) : 0 ≤ Go.bits .xor .i64 v u := by
  obtain ⟨a, rfl⟩ := Int.eq_ofNat_of_zero_le h0
  obtain ⟨b, rfl⟩ := Int.eq_ofNat_of_zero_le u0
  have ofInt : ∀ a : Nat, a < 9223372036854775808 → (BitVec.ofInt 64 (a : Int)).toNat = a := fun a ha => by
    rw [BitVec.ofInt_natCast, BitVec.toNat_ofNat]; exact Nat.mod_eq_of_lt (by omega)
  have hx : a ^^^ b < 2 ^ 63 := Nat.xor_lt_two_pow (by omega) (by omega)
  show 0 ≤ IntKind.i64.wrap ((BitVec.ofInt 64 (a : Int) ^^^ BitVec.ofInt 64 (b : Int)).toNat : Int)
  rw [BitVec.toNat_xor, ofInt a (by omega), ofInt b (by omega), IntKind.wrap_i64]
  omega

theorem pick_ok {code : List Int} (hl : code.length ≤ 4000) (hb : ∀ x ∈ code, (Lit.int .u8 x).wf = true) {p : Int} (h0 : 0 ≤ p) (h1 : p ≤ 1000000) (n : Int) :
    ∃ v q, spec_rnd_pick.f code p n = some (v, q) ∧ 0 ≤ v ∧ (v < n ∨ (n < 2 ∧ v = 0)) ∧ p ≤ q ∧ q ≤ p + 1 := by
  unfold spec_rnd_pick.f
  by_cases hn : n < 2
  · rw [if_pos hn]; exact ⟨0, p, rfl, by omega, .inr ⟨hn, rfl⟩, by omega, by omega⟩
  rw [if_neg hn]
  have hw : wrap64 (p + 1) = p + 1 := w64 (by omega) (by omega)
  have fin : ∀ v : Int, 0 ≤ v → ∃ v' q, (if n = 0 then none else some (Int.tmod v n, wrap64 (p + 1))) = some (v', q) ∧ 0 ≤ v' ∧ (v' < n ∨ (n < 2 ∧ v' = 0)) ∧ p ≤ q ∧ q ≤ p + 1 := by
    intro v hv
    rw [if_neg (by omega), hw, Int.tmod_eq_emod_of_nonneg hv]
    exact ⟨_, _, rfl, Int.emod_nonneg _ (by omega), .inl (Int.emod_lt_of_pos _ (by omega)), by omega, by omega⟩
  by_cases hc : (code.length : Int) > 0
  · rw [if_pos hc, if_neg (by omega)]
    have e1 : Int.tmod p (code.length : Int) = p % code.length := Int.tmod_eq_emod_of_nonneg h0
    have e2 : wrap64 (wrap64 (p * 7) + 3) = p * 7 + 3 := by rw [w64 (n := p * 7) (by omega) (by omega)]; exact w64 (by omega) (by omega)
    have e3 : Int.tmod (p * 7 + 3) (code.length : Int) = (p * 7 + 3) % code.length := Int.tmod_eq_emod_of_nonneg (by omega)
    have m0 := Int.emod_nonneg p (show (code.length : Int) ≠ 0 by omega)
    have m1 := Int.emod_lt_of_pos p hc
    have m2 := Int.emod_nonneg (p * 7 + 3) (show (code.length : Int) ≠ 0 by omega)
    have m3 := Int.emod_lt_of_pos (p * 7 + 3) hc
    have e4 : Int.tdiv p (code.length : Int) = p / code.length := Int.tdiv_eq_ediv_of_nonneg h0
    have d0 : 0 ≤ p / (code.length : Int) := Int.ediv_nonneg h0 (by omega)
    have d1 : p / (code.length : Int) ≤ p := Int.ediv_le_self _ h0
    rw [e1, if_pos m0, if_pos m1, e2, e3, if_pos m2, if_pos m3, e4]
    obtain ⟨a0, a1⟩ := byte_of hb (p % code.length)
    obtain ⟨b0, b1⟩ := byte_of hb ((p * 7 + 3) % code.length)
    generalize rd code (p % code.length) = a at a0 a1 ⊢
    generalize rd code ((p * 7 + 3) % code.length) = b at b0 b1 ⊢
    generalize p / (code.length : Int) = d at d0 d1 ⊢
    have w1 : wrap64 a = a := w64 (by omega) (by omega)
    have w2 : wrap64 b = b := w64 (by omega) (by omega)
    have w3 : wrap64 (a * 131) = a * 131 := w64 (by omega) (by omega)
    have w4 : wrap64 (b * 1117) = b * 1117 := w64 (by omega) (by omega)
    have w5 : wrap64 (p * 29) = p * 29 := w64 (by omega) (by omega)
    have w6 : wrap64 d = d := w64 (by omega) (by omega)
    have w7 : wrap64 (d * 53) = d * 53 := w64 (by omega) (by omega)
    have w8 : wrap64 (a * 131 + b * 1117) = a * 131 + b * 1117 := w64 (by omega) (by omega)
    have w9 : wrap64 (a * 131 + b * 1117 + p * 29) = a * 131 + b * 1117 + p * 29 := w64 (by omega) (by omega)
    have w10 : wrap64 (a * 131 + b * 1117 + p * 29 + d * 53) = a * 131 + b * 1117 + p * 29 + d * 53 := w64 (by omega) (by omega)
    rw [w1, w2, w3, w4, w5, w6, w7, w8, w9, w10]
    have big : 0 ≤ Go.bits .xor .i64 (a * 131 + b * 1117 + p * 29 + d * 53) (wrap64 (Int.tdiv (a * 131 + b * 1117 + p * 29 + d * 53) 64)) := by
      have t : Int.tdiv (a * 131 + b * 1117 + p * 29 + d * 53) 64 = (a * 131 + b * 1117 + p * 29 + d * 53) / 64 := Int.tdiv_eq_ediv_of_nonneg (by omega)
      rw [t, w64 (by omega) (by omega)]
      exact xor_ok _ _ (by omega) (by omega) (by omega) (by omega)
    by_cases h256 : n > 256
    · rw [if_pos h256]; exact fin _ big
    · rw [if_neg h256]
      by_cases hp : p ≥ (code.length : Int)
      · rw [if_pos hp]; exact fin _ big
      · rw [if_neg hp]; exact fin _ a0
  · rw [if_neg hc, if_neg (by omega), hw]
    exact ⟨_, _, rfl, by simp, .inl (by simp; omega), by omega, by omega⟩

theorem newRnd_ok {l : List Int} (hl : l.length ≤ 1048576) (hb : ∀ x ∈ l, (Lit.int .u8 x).wf = true) :
    ∃ code, spec_newRnd.f l = some (code, 0) ∧ code.length ≤ 4000 ∧ ∀ x ∈ code, (Lit.int .u8 x).wf = true := by
  unfold spec_newRnd.f
  have h : mn (l.length : Int) 4000 = min (l.length : Int) 4000 := by unfold mn; split <;> omega
  rw [h, if_pos (by omega), if_pos (by omega)]
  refine ⟨_, rfl, ?_, fun x hx => hb x (List.mem_of_mem_take hx)⟩
  rw [List.length_take]; omega

theorem of_ok {code : List Int} (hl : code.length ≤ 4000) (hb : ∀ x ∈ code, (Lit.int .u8 x).wf = true) {p : Int} (h0 : 0 ≤ p) (h1 : p ≤ 1000000) (list : List ByteArray) (hn : list ≠ []) :
    ∃ v q, spec_rnd_of.f code p list = some (v, q) ∧ v ∈ list ∧ p ≤ q ∧ q ≤ p + 1 := by
  have hlen : 0 < list.length := List.length_pos_iff.2 hn
  obtain ⟨i, q, e, i0, i1, q0, q1⟩ := pick_ok hl hb h0 h1 (list.length : Int)
  unfold spec_rnd_of.f
  have hi : i < (list.length : Int) := by omega
  rw [e]
  simp only [Option.bind_some]
  rw [if_pos i0, if_pos hi]
  refine ⟨_, _, rfl, ?_, q0, q1⟩
  unfold rdOf
  rw [List.getD_eq_getElem?_getD, List.getElem?_eq_getElem (show i.toNat < list.length by omega)]
  exact List.getElem_mem _

/-! ### Reading a list -/
theorem rd_at (l : List Int) (i : Nat) (h : i < l.length) : rd l (i : Int) = l[i] := by
  unfold rd
  simp [List.getD_eq_getElem?_getD, h]
theorem next_i (i : Nat) (h : i ≤ 4611686018427387904) : wrap64 ((i : Int) + 1) = ((i + 1 : Nat) : Int) := by rw [w64 (by omega) (by omega)]; omega

theorem text_pad (code : List Int) (p : Int) (d : Nat) : ∀ x : ByteArray, x.size ≤ 1000 → 400 - x.size ≤ d → ∃ s, Ev (fun k => spec_rnd_text.l1 k x code p) (s, p) ∧ s.size ≤ 1000 := by
  induction d with
  | zero =>
    intro x hx hd
    refine ⟨x, ev_succ ?_, hx⟩
    simp only [spec_rnd_text.l1]
    exact ev_neg (by omega) (ev_some rfl)
  | succ d ih =>
    intro x hx hd
    by_cases h : (x.size : Int) < 399
    · have hz : (x ++ (⟨#[97, 98]⟩ : ByteArray)).size = x.size + 2 := by rw [ByteArray.size_append]; rfl
      obtain ⟨s, hs, hz'⟩ := ih (x ++ (⟨#[97, 98]⟩ : ByteArray)) (by omega) (by omega)
      refine ⟨s, ev_succ ?_, hz'⟩
      simp only [spec_rnd_text.l1]
      exact ev_pos h (ev_pos (by omega) hs)
    · refine ⟨x, ev_succ ?_, hx⟩
      simp only [spec_rnd_text.l1]
      exact ev_neg h (ev_some rfl)

theorem text_from {code : List Int} (hl : code.length ≤ 4000) (hb : ∀ x ∈ code, (Lit.int .u8 x).wf = true) (d : Nat) : ∀ (x : ByteArray) (n p : Int), 0 ≤ n → n ≤ d → d ≤ 8 → x.size ≤ 3 * (8 - d) → 0 ≤ p → p ≤ 900008 - d →
    ∃ s q, Ev (fun k => spec_rnd_text.l0 k x n code p) (s, q) ∧ s.size ≤ 1000 ∧ p ≤ q ∧ q ≤ p + d + 1 := by
  induction d with
  | zero =>
    intro x n p n0 n1 _ hx p0 p1
    obtain ⟨v, q, e, v0, _, q0, q1⟩ := pick_ok hl hb p0 (by omega) 40
    by_cases hv : v = 0
    · obtain ⟨s, hs, hz⟩ := text_pad code q 400 x (by omega) (by omega)
      refine ⟨s, q, ev_succ ?_, hz, q0, by omega⟩
      simp only [spec_rnd_text.l0]
      exact ev_neg (by omega) (ev_bind1 e (ev_pos hv hs))
    · refine ⟨x, q, ev_succ ?_, by omega, q0, by omega⟩
      simp only [spec_rnd_text.l0]
      exact ev_neg (by omega) (ev_bind1 e (ev_neg hv (ev_some rfl)))
  | succ d ih =>
    intro x n p n0 n1 hd hx p0 p1
    by_cases hn : n > 0
    · have hw : wrap64 (n - 1) = n - 1 := w64 (by omega) (by omega)
      obtain ⟨v, q, e, hv, q0, q1⟩ := of_ok hl hb p0 (by omega) (([(⟨#[97]⟩ : ByteArray), (⟨#[98]⟩ : ByteArray), (⟨#[97, 98]⟩ : ByteArray), (⟨#[32]⟩ : ByteArray), (⟨#[97, 98, 97]⟩ : ByteArray), (⟨#[10]⟩ : ByteArray), (⟨#[39]⟩ : ByteArray), strOfNums (([92] : List Int)), (⟨#[0]⟩ : ByteArray), (⟨#[255]⟩ : ByteArray), (⟨#[195, 169]⟩ : ByteArray), (⟨#[44]⟩ : ByteArray)] : List ByteArray)) (by simp)
      have hz : v.size ≤ 3 := by
        have all : ∀ u ∈ (([(⟨#[97]⟩ : ByteArray), (⟨#[98]⟩ : ByteArray), (⟨#[97, 98]⟩ : ByteArray), (⟨#[32]⟩ : ByteArray), (⟨#[97, 98, 97]⟩ : ByteArray), (⟨#[10]⟩ : ByteArray), (⟨#[39]⟩ : ByteArray), strOfNums (([92] : List Int)), (⟨#[0]⟩ : ByteArray), (⟨#[255]⟩ : ByteArray), (⟨#[195, 169]⟩ : ByteArray), (⟨#[44]⟩ : ByteArray)] : List ByteArray)), u.size ≤ 3 := by decide +kernel
        exact all v hv
      obtain ⟨s, q', hs, hz', q0', q1'⟩ := ih (x ++ v) (n - 1) q (by omega) (by omega) (by omega) (by rw [ByteArray.size_append]; omega) (by omega) (by omega)
      refine ⟨s, q', ev_succ ?_, hz', by omega, by omega⟩
      simp only [spec_rnd_text.l0]
      refine ev_pos hn (ev_bind1 e (ev_pos (by show x.size + v.size ≤ 9223372036854775807; omega) ?_))
      rw [hw]
      exact hs
    · obtain ⟨s, q', hs, hz', q0', q1'⟩ := ih x n p n0 (by omega) (by omega) (by omega) p0 (by omega)
      exact ⟨s, q', hs, hz', q0', by omega⟩

theorem text_ok {code : List Int} (hl : code.length ≤ 4000) (hb : ∀ x ∈ code, (Lit.int .u8 x).wf = true) {p : Int} (h0 : 0 ≤ p) (h1 : p ≤ 800000) :
    ∃ s q, Ev (fun k => spec_rnd_text.f k code p) (s, q) ∧ s.size ≤ 1000 ∧ p ≤ q ∧ q ≤ p + 10 := by
  obtain ⟨n, q, e, n0, n1, q0, q1⟩ := pick_ok hl hb h0 (by omega) 9
  obtain ⟨s, q', hs, hz, q0', q1'⟩ := text_from hl hb 8 ⟨#[]⟩ n q n0 (by omega) (by omega) (by simp [ByteArray.size]) (by omega) (by omega)
  refine ⟨s, q', ?_, hz, by omega, by omega⟩
  unfold spec_rnd_text.f
  exact ev_bind1 e hs

/-! ### Short texts -/
theorem rdS_at (l : List ByteArray) (i : Nat) (h : i < l.length) : rdOf ByteArray.empty l (i : Int) = l[i] := by
  unfold rdOf
  simp [List.getD_eq_getElem?_getD, h]
theorem short_from (l : List ByteArray) (hl : l.length ≤ 4611686018427387904) (d : Nat) : ∀ i : Nat, i + d = l.length → Ev (fun k => impl_shortTexts.l0 k l (l.length : Int) (i : Int)) ((l.drop i).all fun s => decide (s.size ≤ 400)) := by
  induction d with
  | zero =>
    intro i hi
    refine ev_succ ?_
    simp only [impl_shortTexts.l0]
    refine ev_neg (by omega) (ev_some ?_)
    rw [List.drop_of_length_le (by omega)]; rfl
  | succ d ih =>
    intro i hi
    have hlt : i < l.length := by omega
    refine ev_succ ?_
    simp only [impl_shortTexts.l0]
    rw [rdS_at l i hlt, next_i i (by omega), List.drop_eq_getElem_cons hlt, List.all_cons]
    refine ev_pos (by omega) (ev_pos (by omega) (ev_pos (by omega) ?_))
    by_cases h : (l[i].size : Int) > 400
    · refine ev_pos h (ev_some ?_)
      rw [decide_eq_false (by omega)]; rfl
    · refine ev_neg h (ev_eq (ih (i + 1) (by omega)) ?_)
      rw [decide_eq_true (by omega), Bool.true_and]
theorem short_ev (l : List ByteArray) (hl : l.length ≤ 4611686018427387904) : Ev (fun k => impl_shortTexts.f k l) (l.all fun s => decide (s.size ≤ 400)) := by
  unfold impl_shortTexts.f
  exact short_from l hl l.length 0 (by omega)
theorem short1_ev (a : ByteArray) : Ev (fun k => impl_shortTexts.f k [a]) (decide (a.size ≤ 400)) := by
  have := short_ev [a] (by simp)
  simpa using this

/-! ### The first place of a text in another -/
theorem toL (s : ByteArray) : s.toList = s.data.toList := ByteArray.toList_eq s
theorem ext_occ (s p : ByteArray) (i : Nat) (h : i + p.size ≤ s.size) : (s.extract i (i + p.size)).toList = p.toList ↔ Lib.occAt s.data.toList p.data.toList i = true := by
  rw [toL, toL, ByteArray.data_extract, Array.toList_extract, List.extract_eq_take_drop, Nat.add_sub_cancel_left]
  unfold Lib.occAt
  rw [List.isPrefixOf_iff_prefix, List.prefix_iff_eq_take]
  have : p.data.toList.length = p.size := by simp
  rw [this]
  exact ⟨fun h => h.symm, fun h => h.symm⟩
theorem occ_room (s p : ByteArray) (i : Nat) (hi : i ≤ s.size) (h : Lib.occAt s.data.toList p.data.toList i = true) : i + p.size ≤ s.size := by
  unfold Lib.occAt at h
  rw [List.isPrefixOf_iff_prefix] at h
  have := h.length_le
  rw [List.length_drop] at this
  have e1 : p.data.toList.length = p.size := by simp
  have e2 : s.data.toList.length = s.size := by simp
  omega
def findR (s p : ByteArray) : Int := if s.size ≤ 400 ∧ p.size ≤ 400 then Lib.index s.data.toList p.data.toList else -1
theorem find_from (s p : ByteArray) (hs : s.size ≤ 400) (hp : p.size ≤ 400) (d : Nat) : ∀ i : Nat, i + d = s.size + 1 → Lib.NoOcc s.data.toList p.data.toList i → Ev (fun k => spec_textFind.l0 k s p (i : Int)) (Lib.index s.data.toList p.data.toList) := by
  have hl : s.data.toList.length = s.size := by simp
  have none : ∀ i : Nat, s.size < i + p.size → Lib.NoOcc s.data.toList p.data.toList i → Lib.index s.data.toList p.data.toList = -1 := fun i hi hn => by
    refine Lib.index_none (fun j hj => ?_)
    by_cases hji : j < i
    · exact hn j hji
    · cases hc : Lib.occAt s.data.toList p.data.toList j with
      | false => rfl
      | true => have := occ_room s p j (by omega) hc; omega
  induction d with
  | zero =>
    intro i hi hn
    refine ev_succ ?_
    simp only [spec_textFind.l0]
    have hw : wrap64 ((i : Int) + (p.size : Int)) = ((i + p.size : Nat) : Int) := by rw [w64 (by omega) (by omega)]; omega
    rw [hw, none i (by omega) hn]
    exact ev_neg (by omega) (ev_some rfl)
  | succ d ih =>
    intro i hi hn
    have hw : wrap64 ((i : Int) + (p.size : Int)) = ((i + p.size : Nat) : Int) := by rw [w64 (by omega) (by omega)]; omega
    refine ev_succ ?_
    simp only [spec_textFind.l0]
    rw [hw, next_i i (by omega), Int.toNat_natCast, Int.toNat_natCast]
    by_cases h : i + p.size ≤ s.size
    · refine ev_pos (by omega) (ev_pos (by omega) (ev_pos (by omega) ?_))
      by_cases ho : (s.extract i (i + p.size)).toList = p.toList
      · refine ev_pos ho (ev_some (congrArg some ?_))
        rw [Lib.index_hit hn (by omega) ((ext_occ s p i h).1 ho)]
      · refine ev_neg ho (ih (i + 1) (by omega) (hn.succ ?_))
        cases hc : Lib.occAt s.data.toList p.data.toList i with
        | false => rfl
        | true => exact absurd ((ext_occ s p i h).2 hc) ho
    · rw [none i (by omega) hn]
      exact ev_neg (by omega) (ev_some rfl)
theorem specTF_ev (s p : ByteArray) : Ev (fun k => spec_TextFind.f k s p) (findR s p) := by
  have hv : ∀ s : ByteArray, spec_validText.f s = some (decide ((s.size : Int) ≤ 400)) := fun _ => rfl
  unfold spec_TextFind.f
  refine ev_bind1 (hv _) ?_
  by_cases h1 : s.size ≤ 400
  · refine ev_pos (decide_eq_true (by omega)) (ev_bind1 (hv _) ?_)
    by_cases h2 : p.size ≤ 400
    · rw [findR, if_pos ⟨h1, h2⟩]
      exact ev_pos (decide_eq_true (by omega)) (Ev.bind (find_from s p h1 h2 (s.size + 1) 0 (by omega) (Lib.NoOcc.zero _ _)) (ev_some rfl))
    · rw [findR, if_neg (fun z => h2 z.2)]
      exact ev_neg (by simp; omega) (ev_some rfl)
  · rw [findR, if_neg (fun z => h1 z.1)]
    exact ev_neg (by simp; omega) (ev_some rfl)
theorem implTF_ev (s p : ByteArray) : Ev (fun k => impl_TextFind.f k s p) (findR s p) := by
  have h := short_ev [s, p] (by simp)
  unfold impl_TextFind.f
  refine Ev.bind h ?_
  by_cases h1 : s.size ≤ 400 ∧ p.size ≤ 400
  · rw [findR, if_pos h1]
    refine ev_pos (by simp [h1]) (ev_bind1 (a := Lib.index s.data.toList p.data.toList) ?_ (ev_some rfl))
    unfold strings_Index.f
    rw [if_pos (by omega)]
  · rw [findR, if_neg h1]
    refine ev_neg ?_ (ev_some rfl)
    simp only [List.all_cons, List.all_nil, Bool.and_true, Bool.and_eq_true, decide_eq_true_eq]
    exact h1

theorem FnTextFind : laws_FnTextFind.Pure := by
  intro l hm _ hb
  refine Ev.rounds ?_
  unfold laws_FnTextFind.f
  by_cases hl : (l.length : Int) > 1048576
  · exact ev_pos hl (ev_some rfl)
  refine ev_neg hl ?_
  obtain ⟨code, e, hc, hbc⟩ := newRnd_ok (l := l) (by omega) hb
  obtain ⟨s, q, e1, hs, q0, q1⟩ := text_ok hc hbc (p := 0) (by omega) (by omega)
  obtain ⟨t, q2, e2, ht, q3, q4⟩ := text_ok hc hbc (p := q) (by omega) (by omega)
  obtain ⟨p, q5, e3, hp, q6, q7⟩ := of_ok hc hbc (p := q2) (by omega) (by omega) [(⟨#[97]⟩ : ByteArray), (⟨#[98]⟩ : ByteArray), (⟨#[97, 98]⟩ : ByteArray), (⟨#[98, 97]⟩ : ByteArray), (⟨#[]⟩ : ByteArray), (⟨#[32]⟩ : ByteArray), t] (by simp)
  have hd : Ev (fun k => spec_DrawTextFind.f k l) (s, p) := by
    unfold spec_DrawTextFind.f
    exact ev_bind1 e (Ev.bind e1 (Ev.bind e2 (ev_bind1 e3 (ev_some rfl))))
  refine Ev.bind hd ?_
  dsimp only
  refine Ev.bind (implTF_ev s p) (Ev.bind (specTF_ev s p) (ev_pos rfl ?_))
  by_cases h0 : findR s p < 0
  · exact ev_pos h0 (ev_some (by simp))
  · refine ev_neg h0 ?_
    have hz : s.size ≤ 400 ∧ p.size ≤ 400 := Classical.byContradiction (fun h => h0 (by rw [findR, if_neg h]; omega))
    have hr : findR s p = Lib.index s.data.toList p.data.toList := by rw [findR, if_pos hz]
    have hls : s.data.toList.length = s.size := by simp
    rcases Lib.index_spec s.data.toList p.data.toList with ⟨h1, _⟩ | ⟨i, h1, h2, h3, h4⟩
    · omega
    · have hir := occ_room s p i (by omega) h3
      rw [hr, h1]
      clear h0 hr h1
      have w1 : wrap64 ((i : Int) + (p.size : Int)) = ((i + p.size : Nat) : Int) := by rw [w64 (by omega) (by omega)]; omega
      simp only [w1, Int.toNat_natCast]
      have hi2 : i ≤ s.size := by omega
      clear w1 h2 hls hd e3 hp e
      have hx := (ext_occ s p i hir).2 h3
      refine ev_pos (by omega) ?_
      refine ev_pos (by omega) ?_
      refine ev_pos (by omega) ?_
      refine ev_pos hx ?_
      by_cases hi0 : (i : Int) = 0
      · exact ev_pos hi0 (ev_some rfl)
      · have w2 : wrap64 (((i + p.size : Nat) : Int) - 1) = ((i + p.size - 1 : Nat) : Int) := by rw [w64 (by omega) (by omega)]; omega
        rw [w2, Int.toNat_natCast]
        clear w2
        refine ev_neg hi0 (ev_pos (by omega) (ev_pos (by omega) (Ev.bind (implTF_ev _ p) (ev_some (congrArg some (decide_eq_true ?_))))))
        unfold findR
        split
        · have hxs : (s.extract 0 (i + p.size - 1)).data.toList = s.data.toList.take (i + p.size - 1) := by
            rw [ByteArray.data_extract, Array.toList_extract, List.extract_eq_take_drop, List.drop_zero, Nat.sub_zero]
          rw [hxs, Lib.index_none (fun j hj => ?_)]
          · omega
          · cases hc2 : Lib.occAt (s.data.toList.take (i + p.size - 1)) p.data.toList j with
            | false => rfl
            | true =>
              exfalso
              have hj2 : j ≤ i + p.size - 1 := by rw [List.length_take] at hj; omega
              unfold Lib.occAt at hc2
              rw [List.isPrefixOf_iff_prefix] at hc2
              have hlen := hc2.length_le
              rw [List.length_drop, List.length_take] at hlen
              have e1 : p.data.toList.length = p.size := by simp
              have hji : j < i := by omega
              have := h4 j hji
              unfold Lib.occAt at this
              have hpre : p.data.toList <+: s.data.toList.drop j := by
                refine hc2.trans ?_
                rw [List.drop_take]
                exact List.take_prefix _ _
              rw [← List.isPrefixOf_iff_prefix] at hpre
              rw [this] at hpre
              cases hpre
        · omega

end Go.Proofs.Ytkhkbbhkhpekcaa.Pure
