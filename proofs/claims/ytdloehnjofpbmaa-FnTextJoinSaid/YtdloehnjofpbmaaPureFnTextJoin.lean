/- FnTextJoin: for every code, joined texts are as long as all. -/
import Derived.Test.YtdloehnjofpbmaaXFnTextJoinx3
namespace Go.Proofs.Ytdloehnjofpbmaa.Pure
open Go.RowKit Go.Proofs.Ytdloehnjofpbmaa.XFnTextJoin Go.Proofs.YtdloehnjofpbmaaW.PrintWords Go.Proofs.YtdloehnjofpbmaaW.PrintLast Go.Proofs.YtdloehnjofpbmaaW.PrintMore
set_option linter.unusedVariables false
set_option linter.unusedSimpArgs false

/-! ### Rounds, and words of 64 bits -/
theorem ev_succ {α : Type} {g : Nat → Option α} {r : α} (h : Ev (fun k => g (k + 1)) r) : Ev g r := Ev.step (fun _ => rfl) h
theorem ev_some {α : Type} {o : Option α} {r : α} (h : o = some r) : Ev (fun _ => o) r := ⟨0, fun _ _ => h⟩
theorem ev_pos {α : Type} {c : Prop} [Decidable c] {A B : Nat → Option α} {r : α} (h : c) (k : Ev A r) : Ev (fun n => if c then A n else B n) r :=
  Ev.congr (fun _ => if_pos h) k
theorem ev_neg {α : Type} {c : Prop} [Decidable c] {A B : Nat → Option α} {r : α} (h : ¬ c) (k : Ev B r) : Ev (fun n => if c then A n else B n) r :=
  Ev.congr (fun _ => if_neg h) k
theorem ev_eq {α : Type} {g : Nat → Option α} {r s : α} (h : Ev g r) (e : r = s) : Ev g s := e ▸ h
theorem ev_bind1 {α β : Type} {o : Option α} {f : Nat → α → Option β} {a : α} {r : β} (h : o = some a) (k : Ev (fun n => f n a) r) : Ev (fun n => o.bind (f n)) r :=
  Ev.bind (ev_some h) k
theorem ev_det {α : Type} {g : Nat → Option α} {r s : α} (h : Ev g r) (k : Ev g s) : r = s := by
  obtain ⟨K, h⟩ := h
  obtain ⟨L, k⟩ := k
  have h1 := h (max K L) (by omega)
  have h2 := k (max K L) (by omega)
  rw [h1] at h2
  exact Option.some.inj h2
theorem w64 {n : Int} (h : -9223372036854775808 ≤ n) (h' : n ≤ 9223372036854775807) : wrap64 n = n := by unfold wrap64; omega
theorem byte_of {l : List Int} (h : ∀ x ∈ l, (Lit.int .u8 x).wf = true) (i : Int) : 0 ≤ rd l i ∧ rd l i ≤ 255 := by
  unfold rd
  by_cases hi : i.toNat < l.length
  · have hm : l.getD i.toNat 0 ∈ l := by
      rw [List.getD_eq_getElem?_getD, List.getElem?_eq_getElem hi]
      exact List.getElem_mem hi
    have := h _ hm
    have m0 : IntKind.u8.min = 0 := by decide
    have m1 : IntKind.u8.max = 255 := by decide
    simp only [Lit.wf, m0, m1, Bool.and_eq_true, decide_eq_true_eq] at this
    exact this
  · rw [List.getD_eq_getElem?_getD, List.getElem?_eq_none (by omega)]
    simp

/-! ### Draws: what they pick, and that they never panic -/
theorem xor_ok (v u : Int) (h0 : 0 ≤ v) (h1 : v < 4611686018427387904) (u0 : 0 ≤ u) (u1 : u < 4611686018427387904) : 0 ≤ Go.bits .xor .i64 v u := by
  obtain ⟨a, rfl⟩ := Int.eq_ofNat_of_zero_le h0
  obtain ⟨b, rfl⟩ := Int.eq_ofNat_of_zero_le u0
  have ofInt : ∀ a : Nat, a < 9223372036854775808 → (BitVec.ofInt 64 (a : Int)).toNat = a := fun a ha => by
    rw [BitVec.ofInt_natCast, BitVec.toNat_ofNat]; exact Nat.mod_eq_of_lt (by omega)
  have hx : a ^^^ b < 2 ^ 63 := Nat.xor_lt_two_pow (by omega) (by omega)
  show 0 ≤ IntKind.i64.wrap ((BitVec.ofInt 64 (a : Int) ^^^ BitVec.ofInt 64 (b : Int)).toNat : Int)
  rw [BitVec.toNat_xor, ofInt a (by omega), ofInt b (by omega), IntKind.wrap_i64]
  omega

theorem pick_ok {code : List Int} (hl : code.length ≤ 4000) (hb : ∀ x ∈ code, (Lit.int .u8 x).wf = true) {p : Int} (h0 : 0 ≤ p) (h1 : p ≤ 1000000) (n : Int) :
    ∃ v q, spec_rnd_pick.f code p n = some (v, q) ∧ 0 ≤ v ∧ (v < n ∨ (n < 2 ∧ v = 0)) ∧ p ≤ q ∧ q ≤ p + 1 := by
  unfold spec_rnd_pick.f
  by_cases hn : n < 2
  · rw [if_pos hn]; exact ⟨0, p, rfl, by omega, .inr ⟨hn, rfl⟩, by omega, by omega⟩
  rw [if_neg hn]
  have hw : wrap64 (p + 1) = p + 1 := w64 (by omega) (by omega)
  have fin : ∀ v : Int, 0 ≤ v → ∃ v' q, (if n = 0 then none else some (Int.tmod v n, wrap64 (p + 1))) = some (v', q) ∧ 0 ≤ v' ∧ (v' < n ∨ (n < 2 ∧ v' = 0)) ∧ p ≤ q ∧ q ≤ p + 1 := by
    intro v hv
    rw [if_neg (by omega), hw, Int.tmod_eq_emod_of_nonneg hv]
    exact ⟨_, _, rfl, Int.emod_nonneg _ (by omega), .inl (Int.emod_lt_of_pos _ (by omega)), by omega, by omega⟩
  by_cases hc : (code.length : Int) > 0
  · rw [if_pos hc, if_neg (by omega)]
    have e1 : Int.tmod p (code.length : Int) = p % code.length := Int.tmod_eq_emod_of_nonneg h0
    have e2 : wrap64 (wrap64 (p * 7) + 3) = p * 7 + 3 := by rw [w64 (n := p * 7) (by omega) (by omega)]; exact w64 (by omega) (by omega)
    have e3 : Int.tmod (p * 7 + 3) (code.length : Int) = (p * 7 + 3) % code.length := Int.tmod_eq_emod_of_nonneg (by omega)
    have m0 := Int.emod_nonneg p (show (code.length : Int) ≠ 0 by omega)
    have m1 := Int.emod_lt_of_pos p hc
    have m2 := Int.emod_nonneg (p * 7 + 3) (show (code.length : Int) ≠ 0 by omega)
    have m3 := Int.emod_lt_of_pos (p * 7 + 3) hc
    have e4 : Int.tdiv p (code.length : Int) = p / code.length := Int.tdiv_eq_ediv_of_nonneg h0
    have d0 : 0 ≤ p / (code.length : Int) := Int.ediv_nonneg h0 (by omega)
    have d1 : p / (code.length : Int) ≤ p := Int.ediv_le_self _ h0
    rw [e1, if_pos m0, if_pos m1, e2, e3, if_pos m2, if_pos m3, e4]
    obtain ⟨a0, a1⟩ := byte_of hb (p % code.length)
    obtain ⟨b0, b1⟩ := byte_of hb ((p * 7 + 3) % code.length)
    generalize rd code (p % code.length) = a at a0 a1 ⊢
    generalize rd code ((p * 7 + 3) % code.length) = b at b0 b1 ⊢
    generalize p / (code.length : Int) = d at d0 d1 ⊢
    have w1 : wrap64 a = a := w64 (by omega) (by omega)
    have w2 : wrap64 b = b := w64 (by omega) (by omega)
    have w3 : wrap64 (a * 131) = a * 131 := w64 (by omega) (by omega)
    have w4 : wrap64 (b * 1117) = b * 1117 := w64 (by omega) (by omega)
    have w5 : wrap64 (p * 29) = p * 29 := w64 (by omega) (by omega)
    have w6 : wrap64 d = d := w64 (by omega) (by omega)
    have w7 : wrap64 (d * 53) = d * 53 := w64 (by omega) (by omega)
    have w8 : wrap64 (a * 131 + b * 1117) = a * 131 + b * 1117 := w64 (by omega) (by omega)
    have w9 : wrap64 (a * 131 + b * 1117 + p * 29) = a * 131 + b * 1117 + p * 29 := w64 (by omega) (by omega)
    have w10 : wrap64 (a * 131 + b * 1117 + p * 29 + d * 53) = a * 131 + b * 1117 + p * 29 + d * 53 := w64 (by omega) (by omega)
    rw [w1, w2, w3, w4, w5, w6, w7, w8, w9, w10]
    have big : 0 ≤ Go.bits .xor .i64 (a * 131 + b * 1117 + p * 29 + d * 53) (wrap64 (Int.tdiv (a * 131 + b * 1117 + p * 29 + d * 53) 64)) := by
      have t : Int.tdiv (a * 131 + b * 1117 + p * 29 + d * 53) 64 = (a * 131 + b * 1117 + p * 29 + d * 53) / 64 := Int.tdiv_eq_ediv_of_nonneg (by omega)
      rw [t, w64 (by omega) (by omega)]
      exact xor_ok _ _ (by omega) (by omega) (by omega) (by omega)
    by_cases h256 : n > 256
    · rw [if_pos h256]; exact fin _ big
    · rw [if_neg h256]
      by_cases hp : p ≥ (code.length : Int)
      · rw [if_pos hp]; exact fin _ big
      · rw [if_neg hp]; exact fin _ a0
  · rw [if_neg hc, if_neg (by omega), hw]
    exact ⟨_, _, rfl, by simp, .inl (by simp; omega), by omega, by omega⟩

theorem newRnd_ok {l : List Int} (hl : l.length ≤ 1048576) (hb : ∀ x ∈ l, (Lit.int .u8 x).wf = true) :
    ∃ code, spec_newRnd.f l = some (code, 0) ∧ code.length ≤ 4000 ∧ ∀ x ∈ code, (Lit.int .u8 x).wf = true := by
  unfold spec_newRnd.f
  have h : mn (l.length : Int) 4000 = min (l.length : Int) 4000 := by unfold mn; split <;> omega
  rw [h, if_pos (by omega), if_pos (by omega)]
  refine ⟨_, rfl, ?_, fun x hx => hb x (List.mem_of_mem_take hx)⟩
  rw [List.length_take]; omega

theorem of_ok {code : List Int} (hl : code.length ≤ 4000) (hb : ∀ x ∈ code, (Lit.int .u8 x).wf = true) {p : Int} (h0 : 0 ≤ p) (h1 : p ≤ 1000000) (list : List ByteArray) (hn : list ≠ []) :
    ∃ v q, spec_rnd_of.f code p list = some (v, q) ∧ v ∈ list ∧ p ≤ q ∧ q ≤ p + 1 := by
  have hlen : 0 < list.length := List.length_pos_iff.2 hn
  obtain ⟨i, q, e, i0, i1, q0, q1⟩ := pick_ok hl hb h0 h1 (list.length : Int)
  unfold spec_rnd_of.f
  have hi : i < (list.length : Int) := by omega
  rw [e]
  simp only [Option.bind_some]
  rw [if_pos i0, if_pos hi]
  refine ⟨_, _, rfl, ?_, q0, q1⟩
  unfold rdOf
  rw [List.getD_eq_getElem?_getD, List.getElem?_eq_getElem (show i.toNat < list.length by omega)]
  exact List.getElem_mem _

/-! ### Reading a list -/
theorem rd_at (l : List Int) (i : Nat) (h : i < l.length) : rd l (i : Int) = l[i] := by
  unfold rd
  simp [List.getD_eq_getElem?_getD, h]
theorem next_i (i : Nat) (h : i ≤ 4611686018427387904) : wrap64 ((i : Int) + 1) = ((i + 1 : Nat) : Int) := by rw [w64 (by omega) (by omega)]; omega

theorem text_pad (code : List Int) (p : Int) (d : Nat) : ∀ x : ByteArray, x.size ≤ 1000 → 400 - x.size ≤ d → ∃ s, Ev (fun k => spec_rnd_text.l1 k x code p) (s, p) ∧ s.size ≤ 1000 := by
  induction d with
  | zero =>
    intro x hx hd
    refine ⟨x, ev_succ ?_, hx⟩
    simp only [spec_rnd_text.l1]
    exact ev_neg (by omega) (ev_some rfl)
  | succ d ih =>
    intro x hx hd
    by_cases h : (x.size : Int) < 399
    · have hz : (x ++ (⟨#[97, 98]⟩ : ByteArray)).size = x.size + 2 := by rw [ByteArray.size_append]; rfl
      obtain ⟨s, hs, hz'⟩ := ih (x ++ (⟨#[97, 98]⟩ : ByteArray)) (by omega) (by omega)
      refine ⟨s, ev_succ ?_, hz'⟩
      simp only [spec_rnd_text.l1]
      exact ev_pos h (ev_pos (by omega) hs)
    · refine ⟨x, ev_succ ?_, hx⟩
      simp only [spec_rnd_text.l1]
      exact ev_neg h (ev_some rfl)

theorem text_from {code : List Int} (hl : code.length ≤ 4000) (hb : ∀ x ∈ code, (Lit.int .u8 x).wf = true) (d : Nat) : ∀ (x : ByteArray) (n p : Int), 0 ≤ n → n ≤ d → d ≤ 8 → x.size ≤ 3 * (8 - d) → 0 ≤ p → p ≤ 900008 - d →
    ∃ s q, Ev (fun k => spec_rnd_text.l0 k x n code p) (s, q) ∧ s.size ≤ 1000 ∧ p ≤ q ∧ q ≤ p + d + 1 := by
  induction d with
  | zero =>
    intro x n p n0 n1 _ hx p0 p1
    obtain ⟨v, q, e, v0, _, q0, q1⟩ := pick_ok hl hb p0 (by omega) 40
    by_cases hv : v = 0
    · obtain ⟨s, hs, hz⟩ := text_pad code q 400 x (by omega) (by omega)
      refine ⟨s, q, ev_succ ?_, hz, q0, by omega⟩
      simp only [spec_rnd_text.l0]
      exact ev_neg (by omega) (ev_bind1 e (ev_pos hv hs))
    · refine ⟨x, q, ev_succ ?_, by omega, q0, by omega⟩
      simp only [spec_rnd_text.l0]
      exact ev_neg (by omega) (ev_bind1 e (ev_neg hv (ev_some rfl)))
  | succ d ih =>
    intro x n p n0 n1 hd hx p0 p1
    by_cases hn : n > 0
    · have hw : wrap64 (n - 1) = n - 1 := w64 (by omega) (by omega)
      obtain ⟨v, q, e, hv, q0, q1⟩ := of_ok hl hb p0 (by omega) (([(⟨#[97]⟩ : ByteArray), (⟨#[98]⟩ : ByteArray), (⟨#[97, 98]⟩ : ByteArray), (⟨#[32]⟩ : ByteArray), (⟨#[97, 98, 97]⟩ : ByteArray), (⟨#[10]⟩ : ByteArray), (⟨#[39]⟩ : ByteArray), strOfNums (([92] : List Int)), (⟨#[0]⟩ : ByteArray), (⟨#[255]⟩ : ByteArray), (⟨#[195, 169]⟩ : ByteArray), (⟨#[44]⟩ : ByteArray)] : List ByteArray)) (by simp)
      have hz : v.size ≤ 3 := by
        have all : ∀ u ∈ (([(⟨#[97]⟩ : ByteArray), (⟨#[98]⟩ : ByteArray), (⟨#[97, 98]⟩ : ByteArray), (⟨#[32]⟩ : ByteArray), (⟨#[97, 98, 97]⟩ : ByteArray), (⟨#[10]⟩ : ByteArray), (⟨#[39]⟩ : ByteArray), strOfNums (([92] : List Int)), (⟨#[0]⟩ : ByteArray), (⟨#[255]⟩ : ByteArray), (⟨#[195, 169]⟩ : ByteArray), (⟨#[44]⟩ : ByteArray)] : List ByteArray)), u.size ≤ 3 := by decide +kernel
        exact all v hv
      obtain ⟨s, q', hs, hz', q0', q1'⟩ := ih (x ++ v) (n - 1) q (by omega) (by omega) (by omega) (by rw [ByteArray.size_append]; omega) (by omega) (by omega)
      refine ⟨s, q', ev_succ ?_, hz', by omega, by omega⟩
      simp only [spec_rnd_text.l0]
      refine ev_pos hn (ev_bind1 e (ev_pos (by show x.size + v.size ≤ 9223372036854775807; omega) ?_))
      rw [hw]
      exact hs
    · obtain ⟨s, q', hs, hz', q0', q1'⟩ := ih x n p n0 (by omega) (by omega) (by omega) p0 (by omega)
      exact ⟨s, q', hs, hz', q0', by omega⟩

theorem text_ok {code : List Int} (hl : code.length ≤ 4000) (hb : ∀ x ∈ code, (Lit.int .u8 x).wf = true) {p : Int} (h0 : 0 ≤ p) (h1 : p ≤ 800000) :
    ∃ s q, Ev (fun k => spec_rnd_text.f k code p) (s, q) ∧ s.size ≤ 1000 ∧ p ≤ q ∧ q ≤ p + 10 := by
  obtain ⟨n, q, e, n0, n1, q0, q1⟩ := pick_ok hl hb h0 (by omega) 9
  obtain ⟨s, q', hs, hz, q0', q1'⟩ := text_from hl hb 8 ⟨#[]⟩ n q n0 (by omega) (by omega) (by simp [ByteArray.size]) (by omega) (by omega)
  refine ⟨s, q', ?_, hz, by omega, by omega⟩
  unfold spec_rnd_text.f
  exact ev_bind1 e hs

/-! ### Short texts -/
theorem rdS_at (l : List ByteArray) (i : Nat) (h : i < l.length) : rdOf ByteArray.empty l (i : Int) = l[i] := by
  unfold rdOf
  simp [List.getD_eq_getElem?_getD, h]
theorem short_from (l : List ByteArray) (hl : l.length ≤ 4611686018427387904) (d : Nat) : ∀ i : Nat, i + d = l.length → Ev (fun k => impl_shortTexts.l0 k l (l.length : Int) (i : Int)) ((l.drop i).all fun s => decide (s.size ≤ 400)) := by
  induction d with
  | zero =>
    intro i hi
    refine ev_succ ?_
    simp only [impl_shortTexts.l0]
    refine ev_neg (by omega) (ev_some ?_)
    rw [List.drop_of_length_le (by omega)]; rfl
  | succ d ih =>
    intro i hi
    have hlt : i < l.length := by omega
    refine ev_succ ?_
    simp only [impl_shortTexts.l0]
    rw [rdS_at l i hlt, next_i i (by omega), List.drop_eq_getElem_cons hlt, List.all_cons]
    refine ev_pos (by omega) (ev_pos (by omega) (ev_pos (by omega) ?_))
    by_cases h : (l[i].size : Int) > 400
    · refine ev_pos h (ev_some ?_)
      rw [decide_eq_false (by omega)]; rfl
    · refine ev_neg h (ev_eq (ih (i + 1) (by omega)) ?_)
      rw [decide_eq_true (by omega), Bool.true_and]
theorem short_ev (l : List ByteArray) (hl : l.length ≤ 4611686018427387904) : Ev (fun k => impl_shortTexts.f k l) (l.all fun s => decide (s.size ≤ 400)) := by
  unfold impl_shortTexts.f
  exact short_from l hl l.length 0 (by omega)
theorem short1_ev (a : ByteArray) : Ev (fun k => impl_shortTexts.f k [a]) (decide (a.size ≤ 400)) := by
  have := short_ev [a] (by simp)
  simpa using this

theorem ba_ext {a b : ByteArray} (h : a.data.toList = b.data.toList) : a = b := by
  cases a; cases b
  simp only [Array.toList_inj] at h
  rw [h]
theorem ba_append (a b : ByteArray) : (a ++ b).data.toList = a.data.toList ++ b.data.toList := by
  rw [ByteArray.data_append, Array.toList_append]
theorem ba_len (a : ByteArray) : a.data.toList.length = a.size := by simp

theorem rdOf_at (l : List ByteArray) (i : Nat) (h : i < l.length) : rdOf ByteArray.empty l (i : Int) = l[i] := rdS_at l i h

/-! ### Joined texts -/
def joinB (l : List ByteArray) (p : ByteArray) : List UInt8 := Lib.join (l.map (·.data.toList)) p.data.toList
theorem joinB_nil (p : ByteArray) : joinB [] p = [] := rfl
theorem joinB_step (l : List ByteArray) (p : ByteArray) (i : Nat) (h : i < l.length) : joinB (l.take (i + 1)) p = (if i = 0 then [] else joinB (l.take i) p ++ p.data.toList) ++ l[i].data.toList := by
  cases l with
  | nil => simp at h
  | cons x r =>
    cases i with
    | zero => simp [joinB, Lib.join_cons, Lib.joinTail]
    | succ j =>
      have hj : j < r.length := by simpa using h
      have hg : (r.map (·.data.toList))[j]? = some r[j].data.toList := by simp [hj]
      unfold joinB
      rw [if_neg (by omega), List.take_succ_cons, List.take_succ_cons, List.map_cons, List.map_cons, Lib.join_cons, Lib.join_cons, List.map_take, List.map_take, Lib.joinTail_take_succ _ _ _ _ hg]
      simp [List.append_assoc]
theorem joinB_le (l : List ByteArray) (p : ByteArray) (hp : p.size ≤ 400) (hl : ∀ s ∈ l, s.size ≤ 400) : ∀ i, i ≤ l.length → (joinB (l.take i) p).length ≤ 800 * i
  | 0, _ => by simp [joinB_nil]
  | i + 1, h => by
    have ih := joinB_le l p hp hl i (by omega)
    have h1 := hl l[i] (List.getElem_mem (by omega))
    rw [joinB_step l p i (by omega), List.length_append, ba_len]
    split
    · simp only [List.length_nil]; omega
    · rw [List.length_append, ba_len]; omega
theorem joinB_le' (l : List ByteArray) (p : ByteArray) (hp : p.size ≤ 400) (hl : ∀ s ∈ l, s.size ≤ 400) : (joinB l p).length ≤ 800 * l.length := by
  have := joinB_le l p hp hl l.length (Nat.le_refl _)
  rwa [List.take_length] at this
theorem sjoin_from (l : List ByteArray) (p : ByteArray) (hl : l.length ≤ 1048576) (hp : p.size ≤ 400) (hs : ∀ s ∈ l, s.size ≤ 400) (d : Nat) : ∀ (i : Nat) (x : ByteArray), i + d = l.length → x.data.toList = joinB (l.take i) p → Ev (fun k => spec_textJoin.l0 k l p x (i : Int)) ⟨(joinB l p).toArray⟩ := by
  induction d with
  | zero =>
    intro i x hi hx
    refine ev_succ ?_
    simp only [spec_textJoin.l0]
    refine ev_neg (by omega) (ev_some (congrArg some (ba_ext ?_)))
    rw [hx, List.take_of_length_le (by omega)]
  | succ d ih =>
    intro i x hi hx
    have hlt : i < l.length := by omega
    have hxs : x.size ≤ 800 * i := by rw [← ba_len, hx]; exact joinB_le l p hp hs i (by omega)
    have h1 := hs l[i] (List.getElem_mem hlt)
    have st := joinB_step l p i hlt
    refine ev_succ ?_
    simp only [spec_textJoin.l0]
    rw [rdS_at l i hlt, next_i i (by omega)]
    refine ev_pos (by omega) ?_
    by_cases h0 : i = 0
    · rw [if_pos h0] at st
      refine ev_neg (by omega) (ev_pos (by omega) (ev_pos (by omega) (ih (i + 1) _ (by omega) ?_)))
      have e0 : joinB (l.take i) p = [] := by simp [h0, joinB_nil]
      rw [ba_append, hx, st, e0]
    · rw [if_neg h0] at st
      refine ev_pos (by omega) (ev_pos (by omega) (ev_pos (by omega) (ev_pos (by rw [ByteArray.size_append]; omega) (ih (i + 1) _ (by omega) ?_))))
      rw [ba_append, ba_append, hx, st]
/-- What TextJoin answers. -/
def joinT (l : List ByteArray) (p : ByteArray) : ByteArray × Bool :=
  if l.length ≤ 401 ∧ p.size ≤ 400 ∧ (∀ s ∈ l, s.size ≤ 400) ∧ (joinB l p).length ≤ 400 then (⟨(joinB l p).toArray⟩, true) else (⟨#[]⟩, false)
theorem sTJ_from (l : List ByteArray) (p : ByteArray) (hl : l.length ≤ 401) (hp : p.size ≤ 400) (d : Nat) : ∀ (i : Nat), i + d = l.length → (∀ s ∈ l.take i, s.size ≤ 400) → Ev (fun k => spec_TextJoin.l0 k l p ((joinB (l.take i) p).length : Int) (i : Int)) (joinT l p) := by
  induction d with
  | zero =>
    intro i hi hs
    rw [List.take_of_length_le (by omega)] at hs ⊢
    refine ev_succ ?_
    simp only [spec_TextJoin.l0]
    refine ev_neg (by omega) ?_
    by_cases h : (joinB l p).length ≤ 400
    · refine ev_neg (by omega) (Ev.bind (a := ⟨(joinB l p).toArray⟩) ?_ (ev_some (congrArg some ?_)))
      · unfold spec_textJoin.f
        exact sjoin_from l p (by omega) hp hs l.length 0 _ (by omega) rfl
      · unfold joinT
        rw [if_pos ⟨hl, hp, hs, h⟩]
    · refine ev_pos (by omega) (ev_some (congrArg some ?_))
      unfold joinT
      rw [if_neg (fun z => h z.2.2.2)]
  | succ d ih =>
    intro i hi hs
    have hlt : i < l.length := by omega
    have hv : spec_validText.f l[i] = some (decide ((l[i].size : Int) ≤ 400)) := rfl
    have hxs : (joinB (l.take i) p).length ≤ 800 * i := by
      have := joinB_le (l.take i) p hp hs i (by simp; omega)
      rwa [List.take_take, Nat.min_self] at this
    have st := joinB_step l p i hlt
    refine ev_succ ?_
    simp only [spec_TextJoin.l0]
    rw [rdS_at l i hlt, next_i i (by omega)]
    refine ev_pos (by omega) (ev_pos (by omega) (ev_bind1 hv ?_))
    by_cases hc : l[i].size ≤ 400
    · refine ev_pos (decide_eq_true (by omega)) ?_
      have hs' : ∀ s ∈ l.take (i + 1), s.size ≤ 400 := by
        intro s hm
        rw [List.take_succ_eq_append_getElem hlt] at hm
        rcases List.mem_append.1 hm with hm | hm
        · exact hs s hm
        · rw [List.mem_singleton.1 hm]; exact hc
      have next := ih (i + 1) (by omega) hs'
      rw [st, List.length_append, ba_len] at next
      by_cases h0 : i = 0
      · rw [if_pos h0] at next
        refine ev_neg (by omega) ?_
        rw [show wrap64 (((joinB (l.take i) p).length : Int) + (l[i].size : Int)) = (((([] : List UInt8).length + l[i].size : Nat)) : Int) by
          have e0 : joinB (l.take i) p = [] := by simp [h0, joinB_nil]
          rw [w64 (by omega) (by omega), e0]; simp]
        exact next
      · rw [if_neg h0, List.length_append, ba_len] at next
        refine ev_pos (by omega) ?_
        rw [show wrap64 (wrap64 (((joinB (l.take i) p).length : Int) + (l[i].size : Int)) + (p.size : Int)) = (((joinB (l.take i) p).length + p.size + l[i].size : Nat) : Int) by
          rw [w64 (n := ((joinB (l.take i) p).length : Int) + (l[i].size : Int)) (by omega) (by omega), w64 (by omega) (by omega)]; omega]
        exact next
    · refine ev_neg (by simp; omega) (ev_some (congrArg some ?_))
      unfold joinT
      rw [if_neg (fun z => hc (z.2.2.1 _ (List.getElem_mem hlt)))]
theorem specTJ_ev (l : List ByteArray) (p : ByteArray) : Ev (fun k => spec_TextJoin.f k l p) (joinT l p) := by
  have hv : spec_validText.f p = some (decide ((p.size : Int) ≤ 400)) := rfl
  unfold spec_TextJoin.f
  by_cases hl : l.length ≤ 401
  · refine ev_neg (by omega) (ev_bind1 hv (ev_succ ?_))
    simp only [spec_TextJoin.j0]
    by_cases hp : p.size ≤ 400
    · rw [decide_eq_true (show (p.size : Int) ≤ 400 by omega)]
      refine ev_neg (by simp) ?_
      exact sTJ_from l p hl hp l.length 0 (by omega) (by simp)
    · rw [decide_eq_false (show ¬ (p.size : Int) ≤ 400 by omega)]
      refine ev_pos (by simp) (ev_some (congrArg some ?_))
      unfold joinT
      rw [if_neg (fun z => hp z.2.1)]
  · refine ev_pos (by omega) (ev_succ ?_)
    simp only [spec_TextJoin.j0]
    refine ev_pos trivial (ev_some (congrArg some ?_))
    unfold joinT
    rw [if_neg (fun z => hl z.1)]
theorem implTJ_ev (l : List ByteArray) (p : ByteArray) (hn : l.length ≤ 4611686018427387904) : Ev (fun k => impl_TextJoin.f k l p) (joinT l p) := by
  unfold impl_TextJoin.f
  refine Ev.bind (short_ev l hn) ?_
  by_cases hs : ∀ s ∈ l, s.size ≤ 400
  · refine ev_pos (by simpa using hs) (Ev.bind (short1_ev p) ?_)
    by_cases hp : p.size ≤ 400
    · refine ev_pos (decide_eq_true hp) (ev_succ ?_)
      simp only [impl_TextJoin.j0]
      by_cases hl : l.length ≤ 401
      · have hle := joinB_le' l p hp hs
        refine ev_neg (by simp; omega) (ev_bind1 (a := ⟨(joinB l p).toArray⟩) ?_ (Ev.bind (short1_ev _) ?_))
        · unfold strings_Join.f
          rw [if_pos ⟨by omega, by unfold joinB at hle; omega⟩]; rfl
        · have hz : (⟨(joinB l p).toArray⟩ : ByteArray).size = (joinB l p).length := by rw [← ba_len]
          rw [hz]
          by_cases h : (joinB l p).length ≤ 400
          · refine ev_pos (decide_eq_true h) (ev_some (congrArg some ?_))
            unfold joinT
            rw [if_pos ⟨hl, hp, hs, h⟩]
          · refine ev_neg (by simpa using h) (ev_some (congrArg some ?_))
            unfold joinT
            rw [if_neg (fun z => h z.2.2.2)]
      · refine ev_pos (by simp; omega) (ev_some (congrArg some ?_))
        unfold joinT
        rw [if_neg (fun z => hl z.1)]
    · refine ev_neg (by simpa using hp) (ev_succ ?_)
      simp only [impl_TextJoin.j0]
      refine ev_pos trivial (ev_some (congrArg some ?_))
      unfold joinT
      rw [if_neg (fun z => hp z.2.1)]
  · refine ev_neg (by simpa using hs) (ev_succ ?_)
    simp only [impl_TextJoin.j0]
    refine ev_pos trivial (ev_some (congrArg some ?_))
    unfold joinT
    rw [if_neg (fun z => hs z.2.2.1)]

theorem lens_sum (l : List ByteArray) : Lib.lens (l.map (·.data.toList)) = (l.map ByteArray.size).sum := by
  induction l with
  | nil => rfl
  | cons x r ih =>
    unfold Lib.lens at ih ⊢
    simp only [List.map_cons, ih, List.sum_cons, ba_len]
theorem joinB_size (l : List ByteArray) (p : ByteArray) : (joinB l p).length = (l.map ByteArray.size).sum + p.size * (l.length - 1) := by
  cases l with
  | nil => simp [joinB_nil]
  | cons x r =>
    rw [← lens_sum]
    show (Lib.join (x.data.toList :: r.map _) _).length = _
    rw [Lib.join_length, ba_len, List.length_map]
    simp only [List.map_cons, List.length_cons, Nat.add_sub_cancel]
    omega
theorem draw_from {code : List Int} (hc : code.length ≤ 4000) (hb : ∀ x ∈ code, (Lit.int .u8 x).wf = true) (d : Nat) : ∀ (out : List ByteArray) (n p : Int), out.length + d ≤ 8 → 0 ≤ n → n ≤ d → 0 ≤ p → p + 10 * d ≤ 700000 →
    ∃ l s, Ev (fun k => spec_DrawTextJoin.l0 k out n code p) (l, s) ∧ l.length ≤ 8 := by
  induction d with
  | zero =>
    intro out n p ho h0 h1 p0 p1
    obtain ⟨t, q, ht, hz, q0, q1⟩ := text_ok hc hb (p := p) (by omega) (by omega)
    obtain ⟨v, q2, e, -, -, -⟩ := of_ok hc hb (p := q) (by omega) (by omega) [(⟨#[]⟩ : ByteArray), (⟨#[44]⟩ : ByteArray), (⟨#[97, 98]⟩ : ByteArray), t] (by simp)
    refine ⟨out, v, ev_succ ?_, by omega⟩
    simp only [spec_DrawTextJoin.l0]
    exact ev_neg (by omega) (Ev.bind ht (ev_bind1 e (ev_some rfl)))
  | succ d ih =>
    intro out n p ho h0 h1 p0 p1
    obtain ⟨t, q, ht, hz, q0, q1⟩ := text_ok hc hb (p := p) (by omega) (by omega)
    by_cases hn : n > 0
    · obtain ⟨l, s, e, hl⟩ := ih (out ++ [t]) (n - 1) q (by simp; omega) (by omega) (by omega) (by omega) (by omega)
      refine ⟨l, s, ev_succ ?_, hl⟩
      simp only [spec_DrawTextJoin.l0]
      refine ev_pos hn (Ev.bind ht (ev_pos (by omega) ?_))
      rw [w64 (by omega) (by omega)]
      exact e
    · obtain ⟨v, q2, e, -, -, -⟩ := of_ok hc hb (p := q) (by omega) (by omega) [(⟨#[]⟩ : ByteArray), (⟨#[44]⟩ : ByteArray), (⟨#[97, 98]⟩ : ByteArray), t] (by simp)
      refine ⟨out, v, ev_succ ?_, by omega⟩
      simp only [spec_DrawTextJoin.l0]
      exact ev_neg hn (Ev.bind ht (ev_bind1 e (ev_some rfl)))
theorem drawTJ_ok (l : List Int) (hm : l.length ≤ 1048576) (hb : ∀ x ∈ l, (Lit.int .u8 x).wf = true) :
    ∃ t s, Ev (fun k => spec_DrawTextJoin.f k l) (t, s) ∧ t.length ≤ 8 := by
  obtain ⟨code, e, hc, hbc⟩ := newRnd_ok (l := l) (by omega) hb
  obtain ⟨n, q, e1, n0, n1, q0, q1⟩ := pick_ok hc hbc (p := 0) (by omega) (by omega) 6
  obtain ⟨t, s, h, ht⟩ := draw_from hc hbc 6 [] n q (by simp) n0 (by omega) (by omega) (by omega)
  refine ⟨t, s, ?_, ht⟩
  unfold spec_DrawTextJoin.f
  exact ev_bind1 e (ev_bind1 e1 h)
theorem sum_from (l : List ByteArray) (p o : ByteArray) (hl : l.length ≤ 8) (hp : p.size ≤ 400) (hs : ∀ s ∈ l, s.size ≤ 400) (ho : o.size = (l.map ByteArray.size).sum + p.size * (l.length - 1)) (d : Nat) : ∀ i : Nat, i + d = l.length → ((l.take i).map ByteArray.size).sum ≤ 400 * i → Ev (fun k => laws_FnTextJoin.l0 k l p o (((l.take i).map ByteArray.size).sum : Nat) (i : Int)) true := by
  induction d with
  | zero =>
    intro i hi hz
    rw [List.take_of_length_le (by omega)] at hz ⊢
    refine ev_succ ?_
    simp only [laws_FnTextJoin.l0]
    refine ev_neg (by omega) (ev_some (congrArg some ?_))
    have hp7 : p.size * (l.length - 1) ≤ 400 * 7 := Nat.mul_le_mul hp (by omega)
    have e1 : mx 0 (wrap64 ((l.length : Int) - 1)) = ((l.length - 1 : Nat) : Int) := by
      rw [w64 (by omega) (by omega)]
      unfold mx
      split <;> omega
    have e2 : (p.size : Int) * ((l.length - 1 : Nat) : Int) = ((p.size * (l.length - 1) : Nat) : Int) := by rw [Int.natCast_mul]
    rw [e1, e2, w64 (n := ((p.size * (l.length - 1) : Nat) : Int)) (by omega) (by omega), w64 (by omega) (by omega), ho]
    simp
  | succ d ih =>
    intro i hi hz
    have hlt : i < l.length := by omega
    have h1 := hs l[i] (List.getElem_mem hlt)
    have e : ((l.take (i + 1)).map ByteArray.size).sum = ((l.take i).map ByteArray.size).sum + l[i].size := by
      rw [List.take_succ_eq_append_getElem hlt, List.map_append, List.sum_append]
      simp
    refine ev_succ ?_
    simp only [laws_FnTextJoin.l0]
    rw [rdS_at l i hlt, next_i i (by omega), w64 (by omega) (by omega)]
    refine ev_pos (by omega) (ev_pos (by omega) ?_)
    have next := ih (i + 1) (by omega) (by rw [e]; omega)
    rw [e, Int.natCast_add] at next
    exact next
theorem FnTextJoin : laws_FnTextJoin.Pure := by
  intro c hm _ hb
  refine Ev.rounds ?_
  unfold laws_FnTextJoin.f
  by_cases hl : (c.length : Int) > 1048576
  · exact ev_pos hl (ev_some rfl)
  refine ev_neg hl ?_
  obtain ⟨l, p, hd, hn⟩ := drawTJ_ok c (by omega) hb
  refine Ev.bind hd (Ev.bind (implTJ_ev l p (by omega)) (Ev.bind (specTJ_ev l p) (ev_pos rfl (ev_succ ?_))))
  simp only [laws_FnTextJoin.j0]
  refine ev_pos (by simp) (ev_succ ?_)
  simp only [laws_FnTextJoin.j1]
  by_cases h : l.length ≤ 401 ∧ p.size ≤ 400 ∧ (∀ s ∈ l, s.size ≤ 400) ∧ (joinB l p).length ≤ 400
  · have e : joinT l p = (⟨(joinB l p).toArray⟩, true) := if_pos h
    rw [e]
    refine ev_neg (by simp) ?_
    exact sum_from l p _ hn h.2.1 h.2.2.1 (by rw [← ba_len, ← joinB_size]) l.length 0 (by omega) (by simp)
  · have e : joinT l p = (⟨#[]⟩, false) := if_neg h
    rw [e]
    exact ev_pos (by simp) (ev_some (by simp))

end Go.Proofs.Ytdloehnjofpbmaa.Pure
