/- FnNameOk: for every code, a name is no keyword and stays a name with a digit behind it. -/
import Derived.Test.YtppbnfoagbipaabXFnNameOkx3
namespace Go.Proofs.Ytppbnfoagbipaab.Pure
open Go.RowKit Go.Proofs.Ytppbnfoagbipaab.XFnNameOk Go.Proofs.YtppbnfoagbipaabW.PrintWords Go.Proofs.YtppbnfoagbipaabW.PrintLast Go.Proofs.YtppbnfoagbipaabW.PrintMore
set_option linter.unusedVariables false
set_option linter.unusedSimpArgs false

/-! ### Rounds, and words of 64 bits -/
theorem ev_succ {α : Type} {g : Nat → Option α} {r : α} (h : Ev (fun k => g (k + 1)) r) : Ev g r := Ev.step (fun _ => rfl) h
theorem ev_some {α : Type} {o : Option α} {r : α} (h : o = some r) : Ev (fun _ => o) r := ⟨0, fun _ _ => h⟩
theorem ev_pos {α : Type} {c : Prop} [Decidable c] {A B : Nat → Option α} {r : α} (h : c) (k : Ev A r) : Ev (fun n => if c then A n else B n) r :=
  Ev.congr (fun _ => if_pos h) k
theorem ev_neg {α : Type} {c : Prop} [Decidable c] {A B : Nat → Option α} {r : α} (h : ¬ c) (k : Ev B r) : Ev (fun n => if c then A n else B n) r :=
  Ev.congr (fun _ => if_neg h) k
theorem ev_eq {α : Type} {g : Nat → Option α} {r s : α} (h : Ev g r) (e : r = s) : Ev g s := e ▸ h
theorem ev_bind1 {α β : Type} {o : Option α} {f : Nat → α → Option β} {a : α} {r : β} (h : o = some a) (k : Ev (fun n => f n a) r) : Ev (fun n => o.bind (f n)) r :=
  Ev.bind (ev_some h) k
theorem ev_det {α : Type} {g : Nat → Option α} {r s : α} (h : Ev g r) (k : Ev g s) : r = s := by
  obtain ⟨K, h⟩ := h
  obtain ⟨L, k⟩ := k
  have h1 := h (max K L) (by omega)
  have h2 := k (max K L) (by omega)
  rw [h1] at h2
  exact Option.some.inj h2
theorem w64 {n : Int} (h : -9223372036854775808 ≤ n) (h' : n ≤ 9223372036854775807) : wrap64 n = n := by unfold wrap64; omega
theorem byte_of {l : List Int} (h : ∀ x ∈ l, (Lit.int .u8 x).wf = true) (i : Int) : 0 ≤ rd l i ∧ rd l i ≤ 255 := by
  unfold rd
  by_cases hi : i.toNat < l.length
  · have hm : l.getD i.toNat 0 ∈ l := by
      rw [List.getD_eq_getElem?_getD, List.getElem?_eq_getElem hi]
      exact List.getElem_mem hi
    have := h _ hm
    have m0 : IntKind.u8.min = 0 := by decide
    have m1 : IntKind.u8.max = 255 := by decide
    simp only [Lit.wf, m0, m1, Bool.and_eq_true, decide_eq_true_eq] at this
    exact this
  · rw [List.getD_eq_getElem?_getD, List.getElem?_eq_none (by omega)]
    simp

/-! ### Draws: what they pick, and that they never panic -/
theorem xor_ok (v u : Int) (h0 : 0 ≤ v) (h1 : v < 4611686018427387904) (u0 : 0 ≤ u) (u1 : u < 4611686018427387904) : 0 ≤ Go.bits .xor .i64 v u := by
  obtain ⟨a, rfl⟩ := Int.eq_ofNat_of_zero_le h0
  obtain ⟨b, rfl⟩ := Int.eq_ofNat_of_zero_le u0
  have ofInt : ∀ a : Nat, a < 9223372036854775808 → (BitVec.ofInt 64 (a : Int)).toNat = a := fun a ha => by
    rw [BitVec.ofInt_natCast, BitVec.toNat_ofNat]; exact Nat.mod_eq_of_lt (by omega)
  have hx : a ^^^ b < 2 ^ 63 := Nat.xor_lt_two_pow (by omega) (by omega)
  show 0 ≤ IntKind.i64.wrap ((BitVec.ofInt 64 (a : Int) ^^^ BitVec.ofInt 64 (b : Int)).toNat : Int)
  rw [BitVec.toNat_xor, ofInt a (by omega), ofInt b (by omega), IntKind.wrap_i64]
  omega

theorem pick_ok {code : List Int} (hl : code.length ≤ 4000) (hb : ∀ x ∈ code, (Lit.int .u8 x).wf = true) {p : Int} (h0 : 0 ≤ p) (h1 : p ≤ 1000000) (n : Int) :
    ∃ v q, spec_rnd_pick.f code p n = some (v, q) ∧ 0 ≤ v ∧ (v < n ∨ (n < 2 ∧ v = 0)) ∧ p ≤ q ∧ q ≤ p + 1 := by
  unfold spec_rnd_pick.f
  by_cases hn : n < 2
  · rw [if_pos hn]; exact ⟨0, p, rfl, by omega, .inr ⟨hn, rfl⟩, by omega, by omega⟩
  rw [if_neg hn]
  have hw : wrap64 (p + 1) = p + 1 := w64 (by omega) (by omega)
  have fin : ∀ v : Int, 0 ≤ v → ∃ v' q, (if n = 0 then none else some (Int.tmod v n, wrap64 (p + 1))) = some (v', q) ∧ 0 ≤ v' ∧ (v' < n ∨ (n < 2 ∧ v' = 0)) ∧ p ≤ q ∧ q ≤ p + 1 := by
    intro v hv
    rw [if_neg (by omega), hw, Int.tmod_eq_emod_of_nonneg hv]
    exact ⟨_, _, rfl, Int.emod_nonneg _ (by omega), .inl (Int.emod_lt_of_pos _ (by omega)), by omega, by omega⟩
  by_cases hc : (code.length : Int) > 0
  · rw [if_pos hc, if_neg (by omega)]
    have e1 : Int.tmod p (code.length : Int) = p % code.length := Int.tmod_eq_emod_of_nonneg h0
    have e2 : wrap64 (wrap64 (p * 7) + 3) = p * 7 + 3 := by rw [w64 (n := p * 7) (by omega) (by omega)]; exact w64 (by omega) (by omega)
    have e3 : Int.tmod (p * 7 + 3) (code.length : Int) = (p * 7 + 3) % code.length := Int.tmod_eq_emod_of_nonneg (by omega)
    have m0 := Int.emod_nonneg p (show (code.length : Int) ≠ 0 by omega)
    have m1 := Int.emod_lt_of_pos p hc
    have m2 := Int.emod_nonneg (p * 7 + 3) (show (code.length : Int) ≠ 0 by omega)
    have m3 := Int.emod_lt_of_pos (p * 7 + 3) hc
    have e4 : Int.tdiv p (code.length : Int) = p / code.length := Int.tdiv_eq_ediv_of_nonneg h0
    have d0 : 0 ≤ p / (code.length : Int) := Int.ediv_nonneg h0 (by omega)
    have d1 : p / (code.length : Int) ≤ p := Int.ediv_le_self _ h0
    rw [e1, if_pos m0, if_pos m1, e2, e3, if_pos m2, if_pos m3, e4]
    obtain ⟨a0, a1⟩ := byte_of hb (p % code.length)
    obtain ⟨b0, b1⟩ := byte_of hb ((p * 7 + 3) % code.length)
    generalize rd code (p % code.length) = a at a0 a1 ⊢
    generalize rd code ((p * 7 + 3) % code.length) = b at b0 b1 ⊢
    generalize p / (code.length : Int) = d at d0 d1 ⊢
    have w1 : wrap64 a = a := w64 (by omega) (by omega)
    have w2 : wrap64 b = b := w64 (by omega) (by omega)
    have w3 : wrap64 (a * 131) = a * 131 := w64 (by omega) (by omega)
    have w4 : wrap64 (b * 1117) = b * 1117 := w64 (by omega) (by omega)
    have w5 : wrap64 (p * 29) = p * 29 := w64 (by omega) (by omega)
    have w6 : wrap64 d = d := w64 (by omega) (by omega)
    have w7 : wrap64 (d * 53) = d * 53 := w64 (by omega) (by omega)
    have w8 : wrap64 (a * 131 + b * 1117) = a * 131 + b * 1117 := w64 (by omega) (by omega)
    have w9 : wrap64 (a * 131 + b * 1117 + p * 29) = a * 131 + b * 1117 + p * 29 := w64 (by omega) (by omega)
    have w10 : wrap64 (a * 131 + b * 1117 + p * 29 + d * 53) = a * 131 + b * 1117 + p * 29 + d * 53 := w64 (by omega) (by omega)
    rw [w1, w2, w3, w4, w5, w6, w7, w8, w9, w10]
    have big : 0 ≤ Go.bits .xor .i64 (a * 131 + b * 1117 + p * 29 + d * 53) (wrap64 (Int.tdiv (a * 131 + b * 1117 + p * 29 + d * 53) 64)) := by
      have t : Int.tdiv (a * 131 + b * 1117 + p * 29 + d * 53) 64 = (a * 131 + b * 1117 + p * 29 + d * 53) / 64 := Int.tdiv_eq_ediv_of_nonneg (by omega)
      rw [t, w64 (by omega) (by omega)]
      exact xor_ok _ _ (by omega) (by omega) (by omega) (by omega)
    by_cases h256 : n > 256
    · rw [if_pos h256]; exact fin _ big
    · rw [if_neg h256]
      by_cases hp : p ≥ (code.length : Int)
      · rw [if_pos hp]; exact fin _ big
      · rw [if_neg hp]; exact fin _ a0
  · rw [if_neg hc, if_neg (by omega), hw]
    exact ⟨_, _, rfl, by simp, .inl (by simp; omega), by omega, by omega⟩

theorem newRnd_ok {l : List Int} (hl : l.length ≤ 1048576) (hb : ∀ x ∈ l, (Lit.int .u8 x).wf = true) :
    ∃ code, spec_newRnd.f l = some (code, 0) ∧ code.length ≤ 4000 ∧ ∀ x ∈ code, (Lit.int .u8 x).wf = true := by
  unfold spec_newRnd.f
  have h : mn (l.length : Int) 4000 = min (l.length : Int) 4000 := by unfold mn; split <;> omega
  rw [h, if_pos (by omega), if_pos (by omega)]
  refine ⟨_, rfl, ?_, fun x hx => hb x (List.mem_of_mem_take hx)⟩
  rw [List.length_take]; omega

theorem of_ok {code : List Int} (hl : code.length ≤ 4000) (hb : ∀ x ∈ code, (Lit.int .u8 x).wf = true) {p : Int} (h0 : 0 ≤ p) (h1 : p ≤ 1000000) (list : List ByteArray) (hn : list ≠ []) :
    ∃ v q, spec_rnd_of.f code p list = some (v, q) ∧ v ∈ list ∧ p ≤ q ∧ q ≤ p + 1 := by
  have hlen : 0 < list.length := List.length_pos_iff.2 hn
  obtain ⟨i, q, e, i0, i1, q0, q1⟩ := pick_ok hl hb h0 h1 (list.length : Int)
  unfold spec_rnd_of.f
  have hi : i < (list.length : Int) := by omega
  rw [e]
  simp only [Option.bind_some]
  rw [if_pos i0, if_pos hi]
  refine ⟨_, _, rfl, ?_, q0, q1⟩
  unfold rdOf
  rw [List.getD_eq_getElem?_getD, List.getElem?_eq_getElem (show i.toNat < list.length by omega)]
  exact List.getElem_mem _

/-! ### Words in a list of texts; keywords -/
def has (l : List ByteArray) (s : ByteArray) : Bool := l.any fun x => x.toList == s.toList
def kwL : List ByteArray := (spec_keywords.f).getD []
def kwB (s : ByteArray) : Bool := has kwL s
theorem spec_kw : spec_keywords.f = some kwL := rfl
theorem impl_kw : impl_keywords.f = some kwL := rfl

theorem has_pos {l : List ByteArray} {x s : ByteArray} (h : x.toList = s.toList) : has (x :: l) s = true := by simp [has, h]
theorem has_neg {l : List ByteArray} {x s : ByteArray} (h : ¬ x.toList = s.toList) : has (x :: l) s = has l s := by simp [has, h]
theorem rdOf_at (l : List ByteArray) (i : Nat) (h : i < l.length) : rdOf ByteArray.empty l (i : Int) = l[i] := by
  unfold rdOf
  simp [List.getD_eq_getElem?_getD, h]

theorem isOne_from (l : List ByteArray) (s : ByteArray) (hl : l.length ≤ 1000000) (d : Nat) : ∀ i : Nat, i + d = l.length → Ev (fun k => spec_isOne.l0 k l s (i : Int)) (has (l.drop i) s) := by
  induction d with
  | zero =>
    intro i hi
    refine ev_succ ?_
    simp only [spec_isOne.l0]
    refine ev_neg (by omega) (ev_some ?_)
    rw [List.drop_of_length_le (by omega)]; rfl
  | succ d ih =>
    intro i hi
    refine ev_succ ?_
    simp only [spec_isOne.l0]
    refine ev_pos (by omega) (ev_pos (by omega) ?_)
    have hlt : i < l.length := by omega
    rw [rdOf_at l i hlt, List.drop_eq_getElem_cons hlt]
    by_cases he : l[i].toList = s.toList
    · exact ev_pos he (ev_some (by rw [has_pos he]))
    · refine ev_neg he ?_
      rw [show wrap64 ((i : Int) + 1) = ((i + 1 : Nat) : Int) by rw [w64 (by omega) (by omega)]; omega]
      rw [has_neg he]
      exact ih (i + 1) (by omega)

theorem isOne_ev (l : List ByteArray) (s : ByteArray) (hl : l.length ≤ 1000000) : Ev (fun k => spec_isOne.f k l s) (has l s) := by
  have := isOne_from l s hl l.length 0 (by omega)
  simpa [spec_isOne.f] using this

theorem index_from (l : List ByteArray) (s : ByteArray) (hl : l.length ≤ 1000000) (d : Nat) : ∀ i : Nat, i + d = l.length → ∃ r : Int, Ev (fun k => slices_Index_string_string.l0 k l s (l.length : Int) (i : Int)) r ∧ decide (r ≥ 0) = has (l.drop i) s := by
  induction d with
  | zero =>
    intro i hi
    refine ⟨-1, ev_succ ?_, ?_⟩
    · simp only [slices_Index_string_string.l0]
      exact ev_neg (by omega) (ev_some rfl)
    · rw [List.drop_of_length_le (by omega)]; rfl
  | succ d ih =>
    intro i hi
    have hlt : i < l.length := by omega
    rw [List.drop_eq_getElem_cons hlt]
    by_cases he : l[i].toList = s.toList
    · refine ⟨i, ev_succ ?_, by rw [has_pos he]; simp⟩
      simp only [slices_Index_string_string.l0]
      refine ev_pos (by omega) (ev_pos (by omega) (ev_pos (by omega) ?_))
      rw [rdOf_at l i hlt]
      exact ev_pos he.symm (ev_some rfl)
    · obtain ⟨r, hr, h⟩ := ih (i + 1) (by omega)
      refine ⟨r, ev_succ ?_, by rw [h, has_neg he]⟩
      simp only [slices_Index_string_string.l0]
      refine ev_pos (by omega) (ev_pos (by omega) (ev_pos (by omega) ?_))
      rw [rdOf_at l i hlt]
      refine ev_neg (fun e => he e.symm) ?_
      rw [show wrap64 ((i : Int) + 1) = ((i + 1 : Nat) : Int) by rw [w64 (by omega) (by omega)]; omega]
      exact hr

theorem contains_ev (l : List ByteArray) (s : ByteArray) (hl : l.length ≤ 1000000) : Ev (fun k => slices_Contains_string_string.f k l s) (has l s) := by
  obtain ⟨r, hr, h⟩ := index_from l s hl l.length 0 (by omega)
  rw [List.drop_zero] at h
  unfold slices_Contains_string_string.f slices_Index_string_string.f
  rw [← h]
  exact Ev.bind hr (ev_some rfl)

/-! ### Names -/
def isL (c : Int) : Bool := decide (97 ≤ c ∧ c ≤ 122) || (decide (65 ≤ c ∧ c ≤ 90) || decide (c = 95))
def isD (c : Int) : Bool := decide (48 ≤ c ∧ c ≤ 57)
theorem L_not_D {c : Int} (h : isL c = true) : isD c = false := by
  simp only [isL, isD, Bool.or_eq_true, decide_eq_true_eq, decide_eq_false_iff_not] at h ⊢
  omega

/-- What may stand at the places from i on. -/
def restOk (s : ByteArray) (i d : Nat) : Bool := (List.range' i d).all fun j => isL (bt s j) || isD (bt s j)
def nameB (s : ByteArray) : Bool := decide (1 ≤ s.size ∧ s.size ≤ 12) && (!kwB s && (isL (bt s 0) && restOk s 1 (s.size - 1)))

theorem restOk_succ (s : ByteArray) (i d : Nat) : restOk s i (d + 1) = ((isL (bt s i) || isD (bt s i)) && restOk s (i + 1) d) := by
  simp [restOk, List.range'_succ]

theorem spec_kwB (s : ByteArray) : Ev (fun k => spec_isKeyword.f k s) (kwB s) := by
  unfold spec_isKeyword.f
  exact ev_bind1 spec_kw (Ev.bind (isOne_ev kwL s (by decide)) (ev_some rfl))
theorem spec_L (c : Int) : spec_letter.f c = some (isL c) := by
  unfold spec_letter.f isL
  by_cases h1 : c ≥ 97 <;> by_cases h2 : c ≤ 122 <;> by_cases h3 : c ≥ 65 <;> by_cases h4 : c ≤ 90 <;> by_cases h5 : c = 95 <;> simp [h1, h2, h3, h4, h5] <;> omega
theorem spec_D (c : Int) : spec_digit.f c = some (isD c) := by
  unfold spec_digit.f isD
  by_cases h1 : c ≥ 48 <;> simp [h1] <;> omega
theorem spec_range (a b c : Int) : spec_inRange.f a b c = some (decide (b ≤ a ∧ a ≤ c)) := by
  unfold spec_inRange.f
  by_cases h : a ≥ b
  · have : b ≤ a := h
    simp [h]
  · simp [h]

theorem valid_tail (s : ByteArray) : Ev (fun k => (spec_inRange.f (s.size : Int) 1 12).bind fun t109 => (if t109 = true then ((spec_isKeyword.f k s).bind fun t110 => (some (!t110))) else (some false))) (decide (1 ≤ s.size ∧ s.size ≤ 12) && !kwB s) := by
  refine ev_bind1 (spec_range _ _ _) ?_
  by_cases h : 1 ≤ s.size ∧ s.size ≤ 12
  · refine ev_pos (by simp; omega) (Ev.bind (spec_kwB s) (ev_some (by simp [h])))
  · refine ev_neg (by simp; omega) (ev_some ?_)
    rw [decide_eq_false h]; simp

theorem valid_from (s : ByteArray) (hs : s.size ≤ 1048576) (d : Nat) : ∀ i : Nat, 0 < i → i + d = s.size →
    Ev (fun k => spec_validName.l0 k s (i : Int)) (restOk s i d && (decide (1 ≤ s.size ∧ s.size ≤ 12) && !kwB s)) := by
  induction d with
  | zero =>
    intro i h0 hi
    refine ev_succ ?_
    simp only [spec_validName.l0]
    refine ev_neg (by omega) ?_
    have e : restOk s i 0 = true := by simp [restOk]
    rw [e, Bool.true_and]
    exact valid_tail s
  | succ d ih =>
    intro i h0 hi
    have hw : wrap64 ((i : Int) + 1) = ((i + 1 : Nat) : Int) := by rw [w64 (by omega) (by omega)]; omega
    refine ev_succ ?_
    simp only [spec_validName.l0, spec_L, spec_D, Option.bind_some, hw]
    refine ev_pos (by omega) (ev_pos (by omega) ?_)
    rw [restOk_succ]
    by_cases hL : isL (bt s i) = true
    · refine ev_pos hL ?_
      rw [hL]
      simp only [Bool.true_or, Bool.true_and]
      exact ih (i + 1) (by omega) (by omega)
    · refine ev_neg hL (ev_neg (by omega) ?_)
      rw [Bool.not_eq_true] at hL
      by_cases hD : isD (bt s i) = true
      · refine ev_pos hD ?_
        rw [hL, hD]
        simp only [Bool.or_true, Bool.true_and]
        exact ih (i + 1) (by omega) (by omega)
      · refine ev_neg hD (ev_some ?_)
        rw [Bool.not_eq_true] at hD
        rw [hL, hD]; rfl

theorem spec_nameB (s : ByteArray) (hs : s.size ≤ 1048576) : Ev (fun k => spec_NameOk.f k s) (nameB s) := by
  unfold spec_NameOk.f spec_validName.f
  refine Ev.bind (a := nameB s) ?_ (ev_some rfl)
  refine ev_succ ?_
  simp only [spec_validName.l0, spec_L, spec_D, Option.bind_some]
  by_cases h : s.size = 0
  · refine ev_neg (by omega) ?_
    have e : nameB s = (decide (1 ≤ s.size ∧ s.size ≤ 12) && !kwB s) := by
      rw [nameB, decide_eq_false (by omega)]; rfl
    rw [e]
    exact valid_tail s
  · refine ev_pos (by omega) (ev_pos (by omega) ?_)
    by_cases hL : isL (bt s 0) = true
    · refine ev_pos hL ?_
      have hw : wrap64 ((0 : Int) + 1) = ((1 : Nat) : Int) := w64 (by omega) (by omega)
      rw [hw]
      have e : nameB s = (restOk s 1 (s.size - 1) && (decide (1 ≤ s.size ∧ s.size ≤ 12) && !kwB s)) := by
        rw [nameB, hL]
        cases restOk s 1 (s.size - 1) <;> cases decide (1 ≤ s.size ∧ s.size ≤ 12) <;> cases kwB s <;> rfl
      rw [e]
      exact valid_from s hs (s.size - 1) 1 (by omega) (by omega)
    · refine ev_neg hL (ev_pos trivial (ev_some ?_))
      rw [Bool.not_eq_true] at hL
      rw [nameB, hL]
      simp

theorem impl_L (c : Int) : impl_isLetter.f c = some (isL c) := by
  unfold impl_isLetter.f isL
  by_cases h1 : c ≥ 97 <;> by_cases h2 : c ≤ 122 <;> by_cases h3 : c ≥ 65 <;> by_cases h4 : c ≤ 90 <;> by_cases h5 : c = 95 <;> simp [h1, h2, h3, h4, h5] <;> omega
theorem impl_D (c : Int) : impl_isDigit.f c = some (isD c) := by
  unfold impl_isDigit.f isD
  by_cases h1 : c ≥ 48 <;> simp [h1] <;> omega

theorem impl_kwB (s : ByteArray) : Ev (fun k => impl_IsKeyword.f k s) (kwB s) := by
  unfold impl_IsKeyword.f
  exact ev_bind1 impl_kw (Ev.bind (contains_ev kwL s (by decide)) (ev_some rfl))

theorem name_from (s : ByteArray) (hs : s.size ≤ 1048576) (d : Nat) : ∀ i : Nat, i + d = s.size → Ev (fun k => impl_NameOk.l0 k s (s.size : Int) (i : Int)) (restOk s i d) := by
  induction d with
  | zero =>
    intro i hi
    refine ev_succ ?_
    simp only [impl_NameOk.l0]
    exact ev_neg (by omega) (ev_some (by simp [restOk]))
  | succ d ih =>
    intro i hi
    have hw : wrap64 ((i : Int) + 1) = ((i + 1 : Nat) : Int) := by rw [w64 (by omega) (by omega)]; omega
    refine ev_succ ?_
    simp only [impl_NameOk.l0, impl_L, impl_D, Option.bind_some, hw]
    refine ev_pos (by omega) (ev_pos (by omega) (ev_pos (by omega) ?_))
    rw [restOk_succ]
    by_cases hL : isL (bt s i) = true
    · refine ev_pos hL ?_
      rw [hL]
      simp only [Bool.true_or, Bool.true_and]
      exact ih (i + 1) (by omega)
    · refine ev_neg hL ?_
      rw [Bool.not_eq_true] at hL
      by_cases hD : isD (bt s i) = true
      · refine ev_pos hD ?_
        rw [hL, hD]
        simp only [Bool.or_true, Bool.true_and]
        exact ih (i + 1) (by omega)
      · refine ev_neg hD (ev_some ?_)
        rw [Bool.not_eq_true] at hD
        rw [hL, hD]; rfl

theorem name_no (s : ByteArray) : Ev (fun k => impl_NameOk.j0 k s true) false := by
  refine ev_succ ?_
  simp only [impl_NameOk.j0]
  exact ev_pos trivial (ev_some rfl)

theorem impl_nameB (s : ByteArray) (hs : s.size ≤ 1048576) : Ev (fun k => impl_NameOk.f k s) (nameB s) := by
  unfold impl_NameOk.f
  by_cases h1 : s.size < 1
  · refine ev_pos (by omega) (ev_eq (name_no s) ?_)
    rw [nameB, decide_eq_false (by omega)]; rfl
  refine ev_neg (by omega) ?_
  by_cases h2 : s.size > 12
  · refine ev_pos (by omega) (ev_eq (name_no s) ?_)
    rw [nameB, decide_eq_false (by omega)]; rfl
  refine ev_neg (by omega) (ev_pos (by omega) (ev_bind1 (impl_D _) ?_))
  by_cases hD : isD (bt s 0) = true
  · refine ev_pos hD (ev_eq (name_no s) ?_)
    have hL : isL (bt s 0) = false := by
      rw [← Bool.not_eq_true]; intro h
      rw [L_not_D h] at hD; exact Bool.noConfusion hD
    rw [nameB, hL]; simp
  · refine ev_neg hD (Ev.bind (impl_kwB s) ?_)
    rw [Bool.not_eq_true] at hD
    cases hk : kwB s with
    | true => exact ev_eq (name_no s) (by rw [nameB, hk]; simp)
    | false =>
      refine ev_succ ?_
      simp only [impl_NameOk.j0]
      refine ev_neg (by simp) (ev_eq (name_from s hs s.size 0 (by omega)) ?_)
      obtain ⟨m, hm⟩ : ∃ m, s.size = m + 1 := ⟨s.size - 1, by omega⟩
      have e : restOk s 0 s.size = (isL (bt s 0) && restOk s 1 m) := by
        rw [hm, restOk_succ]
        have : isD (bt s (0 : Nat)) = false := hD
        rw [this, Bool.or_false]; rfl
      rw [e, nameB, hk, decide_eq_true (by omega), hm]
      simp

theorem toList_size (s : ByteArray) : s.toList.length = s.size := by
  rw [ByteArray.toList_eq]; rfl
theorem bytes_ext {a b : ByteArray} (h : a.toList = b.toList) : a = b := by
  rw [ByteArray.toList_eq, ByteArray.toList_eq] at h
  cases a; cases b
  simp only [Array.toList_inj] at h
  rw [h]
theorem bt_append_left (a b : ByteArray) (i : Nat) (h : i < a.size) : bt (a ++ b) (i : Int) = bt a (i : Int) := by
  unfold bt
  rw [dif_pos (by rw [ByteArray.size_append]; simp; omega), dif_pos (by simpa using h)]
  simp only [Int.toNat_natCast]
  rw [ByteArray.getElem_append_left h]
theorem bt_append_right (a b : ByteArray) (i : Nat) (h : a.size ≤ i) (h' : i < a.size + b.size) : bt (a ++ b) (i : Int) = bt b ((i - a.size : Nat) : Int) := by
  unfold bt
  rw [dif_pos (by rw [ByteArray.size_append]; simpa using h'), dif_pos (by simp; omega)]
  simp only [Int.toNat_natCast]
  rw [ByteArray.getElem_append_right h]

theorem word_ok {code : List Int} (hl : code.length ≤ 4000) (hb : ∀ x ∈ code, (Lit.int .u8 x).wf = true) {p : Int} (h0 : 0 ≤ p) (h1 : p ≤ 1000000) :
    ∃ v q, spec_rnd_word.f code p = some (v, q) ∧ v.size ≤ 13 ∧ p ≤ q ∧ q ≤ p + 1 := by
  unfold spec_rnd_word.f
  obtain ⟨v, q, e, hv, q0, q1⟩ := of_ok hl hb h0 h1 (([(⟨#[97]⟩ : ByteArray), (⟨#[98]⟩ : ByteArray), (⟨#[120]⟩ : ByteArray), (⟨#[102]⟩ : ByteArray), (⟨#[120, 115]⟩ : ByteArray), (⟨#[95, 49]⟩ : ByteArray), (⟨#[78, 97, 109, 101, 57]⟩ : ByteArray), (⟨#[105, 102]⟩ : ByteArray), (⟨#[78, 111, 110, 101]⟩ : ByteArray), (⟨#[108, 97, 109, 98, 100, 97]⟩ : ByteArray), (⟨#[49, 97]⟩ : ByteArray), (⟨#[]⟩ : ByteArray), (⟨#[97, 45, 98]⟩ : ByteArray), (⟨#[97, 98, 99, 100, 101, 102, 103, 104, 105, 106, 107, 108]⟩ : ByteArray), (⟨#[97, 98, 99, 100, 101, 102, 103, 104, 105, 106, 107, 108, 109]⟩ : ByteArray), (⟨#[105, 115]⟩ : ByteArray), (⟨#[105, 115, 97]⟩ : ByteArray)] : List ByteArray)) (by simp)
  refine ⟨v, q, ?_, ?_, q0, q1⟩
  · rw [e]; rfl
  · have all : ∀ u ∈ (([(⟨#[97]⟩ : ByteArray), (⟨#[98]⟩ : ByteArray), (⟨#[120]⟩ : ByteArray), (⟨#[102]⟩ : ByteArray), (⟨#[120, 115]⟩ : ByteArray), (⟨#[95, 49]⟩ : ByteArray), (⟨#[78, 97, 109, 101, 57]⟩ : ByteArray), (⟨#[105, 102]⟩ : ByteArray), (⟨#[78, 111, 110, 101]⟩ : ByteArray), (⟨#[108, 97, 109, 98, 100, 97]⟩ : ByteArray), (⟨#[49, 97]⟩ : ByteArray), (⟨#[]⟩ : ByteArray), (⟨#[97, 45, 98]⟩ : ByteArray), (⟨#[97, 98, 99, 100, 101, 102, 103, 104, 105, 106, 107, 108]⟩ : ByteArray), (⟨#[97, 98, 99, 100, 101, 102, 103, 104, 105, 106, 107, 108, 109]⟩ : ByteArray), (⟨#[105, 115]⟩ : ByteArray), (⟨#[105, 115, 97]⟩ : ByteArray)] : List ByteArray)), u.size ≤ 13 := by decide +kernel
    exact all v hv

theorem kw_size : ∀ u ∈ kwL, u.size ≤ 13 := by decide +kernel
theorem kw_ne : kwL ≠ [] := by decide +kernel

theorem draw_word_ok {l : List Int} (hl : l.length ≤ 1048576) (hb : ∀ x ∈ l, (Lit.int .u8 x).wf = true) : ∃ s, spec_DrawNameOk.f l = some s ∧ s.size ≤ 13 := by
  obtain ⟨code, e, hc, hbc⟩ := newRnd_ok (l := l) hl hb
  obtain ⟨v, q, e1, hv, q0, q1⟩ := word_ok hc hbc (p := 0) (by omega) (by omega)
  obtain ⟨u, q', e2, hu, q0', q1'⟩ := of_ok hc hbc (p := q) (by omega) (by omega) kwL kw_ne
  obtain ⟨s, q'', e3, hs, _, _⟩ := of_ok hc hbc (p := q') (by omega) (by omega) [v, u] (by simp)
  refine ⟨s, ?_, ?_⟩
  · unfold spec_DrawNameOk.f
    rw [e]; simp only [Option.bind_some]
    rw [e1]; simp only [Option.bind_some]
    rw [spec_kw]; simp only [Option.bind_some]
    rw [e2]; simp only [Option.bind_some]
    rw [e3]; simp only [Option.bind_some]
  · simp only [List.mem_cons, List.not_mem_nil, or_false] at hs
    rcases hs with rfl | rfl
    · exact hv
    · exact kw_size _ hu

theorem name_more {s : ByteArray} (h : nameB s = true) (hz : s.size < 12) : kwB (s ++ (⟨#[49]⟩ : ByteArray)) = false → nameB (s ++ (⟨#[49]⟩ : ByteArray)) = true := by
  intro hk
  simp only [nameB, Bool.and_eq_true, decide_eq_true_eq, Bool.not_eq_true'] at h
  obtain ⟨⟨h1, h2⟩, h3, h4, h5⟩ := h
  have hz1 : (s ++ (⟨#[49]⟩ : ByteArray)).size = s.size + 1 := by rw [ByteArray.size_append]; rfl
  have h0 : bt (s ++ (⟨#[49]⟩ : ByteArray)) 0 = bt s 0 := bt_append_left s _ 0 (by omega)
  have hlast : bt (s ++ (⟨#[49]⟩ : ByteArray)) (s.size : Int) = 49 := by
    rw [bt_append_right s _ s.size (Nat.le_refl _) (by show _ < s.size + 1; omega), Nat.sub_self]; rfl
  have key : ∀ d i : Nat, i + d = s.size → restOk s i d = true → restOk (s ++ (⟨#[49]⟩ : ByteArray)) i (d + 1) = true := by
    intro d
    induction d with
    | zero =>
      intro i hi _
      have : i = s.size := by omega
      subst this
      rw [restOk_succ, hlast]; simp [restOk, isD]
    | succ d ih =>
      intro i hi hr
      rw [restOk_succ] at hr
      simp only [Bool.and_eq_true] at hr
      rw [restOk_succ, bt_append_left s _ i (by omega), hr.1, ih (i + 1) (by omega) hr.2]; rfl
  have := key (s.size - 1) 1 (by omega) h5
  rw [nameB, hk, h0, h4, hz1, decide_eq_true (by omega), show s.size + 1 - 1 = s.size - 1 + 1 by omega, this]; rfl

theorem FnNameOk : laws_FnNameOk.Pure := by
  intro l hm _ hb
  refine Ev.rounds ?_
  unfold laws_FnNameOk.f
  by_cases hl : (l.length : Int) > 1048576
  · exact ev_pos hl (ev_some rfl)
  refine ev_neg hl ?_
  obtain ⟨s, hs, hz⟩ := draw_word_ok (l := l) (by omega) hb
  refine ev_bind1 hs (Ev.bind (impl_nameB s (by omega)) (Ev.bind (spec_nameB s (by omega)) (ev_pos (by simp) ?_)))
  refine ev_succ ?_
  simp only [laws_FnNameOk.j0]
  cases hn : nameB s with
  | false => exact ev_pos rfl (ev_some rfl)
  | true =>
    have hk : kwB s = false := by
      cases h : kwB s with
      | false => rfl
      | true => rw [nameB, h] at hn; simp at hn
    refine ev_neg (by simp) (Ev.bind (impl_kwB s) ?_)
    rw [hk]
    refine ev_neg (by simp) ?_
    by_cases h12 : (s.size : Int) ≥ 12
    · exact ev_pos h12 (ev_some rfl)
    · refine ev_neg h12 (ev_pos (by omega) (Ev.bind (impl_nameB _ (by rw [ByteArray.size_append]; show s.size + 1 ≤ _; omega)) ?_))
      cases hm : nameB (s ++ (⟨#[49]⟩ : ByteArray)) with
      | true => exact ev_pos rfl (ev_some rfl)
      | false =>
        refine ev_neg (by simp) (Ev.bind (impl_kwB _) (ev_some ?_))
        cases hk1 : kwB (s ++ (⟨#[49]⟩ : ByteArray)) with
        | true => rfl
        | false => rw [name_more hn (by omega) hk1] at hm; exact absurd hm (by simp)

end Go.Proofs.Ytppbnfoagbipaab.Pure
