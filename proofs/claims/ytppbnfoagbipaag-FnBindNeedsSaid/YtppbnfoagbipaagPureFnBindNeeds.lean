/- FnBindNeeds: for every code, fewer arguments are not enough. -/
import Derived.Test.YtppbnfoagbipaagXFnBindNeedsx6
namespace Go.Proofs.Ytppbnfoagbipaag.Pure
open Go.RowKit Go.Proofs.Ytppbnfoagbipaag.XFnBindNeeds Go.Proofs.YtppbnfoagbipaagW.PrintWords Go.Proofs.YtppbnfoagbipaagW.PrintLast Go.Proofs.YtppbnfoagbipaagW.PrintMore
set_option linter.unusedVariables false
set_option linter.unusedSimpArgs false

/-! ### Rounds, and words of 64 bits -/
theorem ev_succ {α : Type} {g : Nat → Option α} {r : α} (h : Ev (fun k => g (k + 1)) r) : Ev g r := Ev.step (fun _ => rfl) h
theorem ev_some {α : Type} {o : Option α} {r : α} (h : o = some r) : Ev (fun _ => o) r := ⟨0, fun _ _ => h⟩
theorem ev_pos {α : Type} {c : Prop} [Decidable c] {A B : Nat → Option α} {r : α} (h : c) (k : Ev A r) : Ev (fun n => if c then A n else B n) r :=
  Ev.congr (fun _ => if_pos h) k
theorem ev_neg {α : Type} {c : Prop} [Decidable c] {A B : Nat → Option α} {r : α} (h : ¬ c) (k : Ev B r) : Ev (fun n => if c then A n else B n) r :=
  Ev.congr (fun _ => if_neg h) k
theorem ev_eq {α : Type} {g : Nat → Option α} {r s : α} (h : Ev g r) (e : r = s) : Ev g s := e ▸ h
theorem ev_bind1 {α β : Type} {o : Option α} {f : Nat → α → Option β} {a : α} {r : β} (h : o = some a) (k : Ev (fun n => f n a) r) : Ev (fun n => o.bind (f n)) r :=
  Ev.bind (ev_some h) k
theorem ev_det {α : Type} {g : Nat → Option α} {r s : α} (h : Ev g r) (k : Ev g s) : r = s := by
  obtain ⟨K, h⟩ := h
  obtain ⟨L, k⟩ := k
  have h1 := h (max K L) (by omega)
  have h2 := k (max K L) (by omega)
  rw [h1] at h2
  exact Option.some.inj h2
theorem w64 {n : Int} (h : -9223372036854775808 ≤ n) (h' : n ≤ 9223372036854775807) : wrap64 n = n := by unfold wrap64; omega
theorem byte_of {l : List Int} (h : ∀ x ∈ l, (Lit.int .u8 x).wf = true) (i : Int) : 0 ≤ rd l i ∧ rd l i ≤ 255 := by
  unfold rd
  by_cases hi : i.toNat < l.length
  · have hm : l.getD i.toNat 0 ∈ l := by
      rw [List.getD_eq_getElem?_getD, List.getElem?_eq_getElem hi]
      exact List.getElem_mem hi
    have := h _ hm
    have m0 : IntKind.u8.min = 0 := by decide
    have m1 : IntKind.u8.max = 255 := by decide
    simp only [Lit.wf, m0, m1, Bool.and_eq_true, decide_eq_true_eq] at this
    exact this
  · rw [List.getD_eq_getElem?_getD, List.getElem?_eq_none (by omega)]
    simp

/-! ### Draws: what they pick, and that they never panic -/
theorem xor_ok (v u : Int) (h0 : 0 ≤ v) (h1 : v < 4611686018427387904) (u0 : 0 ≤ u) (u1 : u < 4611686018427387904) : 0 ≤ Go.bits .xor .i64 v u := by
  obtain ⟨a, rfl⟩ := Int.eq_ofNat_of_zero_le h0
  obtain ⟨b, rfl⟩ := Int.eq_ofNat_of_zero_le u0
  have ofInt : ∀ a : Nat, a < 9223372036854775808 → (BitVec.ofInt 64 (a : Int)).toNat = a := fun a ha => by
    rw [BitVec.ofInt_natCast, BitVec.toNat_ofNat]; exact Nat.mod_eq_of_lt (by omega)
  have hx : a ^^^ b < 2 ^ 63 := Nat.xor_lt_two_pow (by omega) (by omega)
  show 0 ≤ IntKind.i64.wrap ((BitVec.ofInt 64 (a : Int) ^^^ BitVec.ofInt 64 (b : Int)).toNat : Int)
  rw [BitVec.toNat_xor, ofInt a (by omega), ofInt b (by omega), IntKind.wrap_i64]
  omega

theorem pick_ok {code : List Int} (hl : code.length ≤ 4000) (hb : ∀ x ∈ code, (Lit.int .u8 x).wf = true) {p : Int} (h0 : 0 ≤ p) (h1 : p ≤ 1000000) (n : Int) :
    ∃ v q, spec_rnd_pick.f code p n = some (v, q) ∧ 0 ≤ v ∧ (v < n ∨ (n < 2 ∧ v = 0)) ∧ p ≤ q ∧ q ≤ p + 1 := by
  unfold spec_rnd_pick.f
  by_cases hn : n < 2
  · rw [if_pos hn]; exact ⟨0, p, rfl, by omega, .inr ⟨hn, rfl⟩, by omega, by omega⟩
  rw [if_neg hn]
  have hw : wrap64 (p + 1) = p + 1 := w64 (by omega) (by omega)
  have fin : ∀ v : Int, 0 ≤ v → ∃ v' q, (if n = 0 then none else some (Int.tmod v n, wrap64 (p + 1))) = some (v', q) ∧ 0 ≤ v' ∧ (v' < n ∨ (n < 2 ∧ v' = 0)) ∧ p ≤ q ∧ q ≤ p + 1 := by
    intro v hv
    rw [if_neg (by omega), hw, Int.tmod_eq_emod_of_nonneg hv]
    exact ⟨_, _, rfl, Int.emod_nonneg _ (by omega), .inl (Int.emod_lt_of_pos _ (by omega)), by omega, by omega⟩
  by_cases hc : (code.length : Int) > 0
  · rw [if_pos hc, if_neg (by omega)]
    have e1 : Int.tmod p (code.length : Int) = p % code.length := Int.tmod_eq_emod_of_nonneg h0
    have e2 : wrap64 (wrap64 (p * 7) + 3) = p * 7 + 3 := by rw [w64 (n := p * 7) (by omega) (by omega)]; exact w64 (by omega) (by omega)
    have e3 : Int.tmod (p * 7 + 3) (code.length : Int) = (p * 7 + 3) % code.length := Int.tmod_eq_emod_of_nonneg (by omega)
    have m0 := Int.emod_nonneg p (show (code.length : Int) ≠ 0 by omega)
    have m1 := Int.emod_lt_of_pos p hc
    have m2 := Int.emod_nonneg (p * 7 + 3) (show (code.length : Int) ≠ 0 by omega)
    have m3 := Int.emod_lt_of_pos (p * 7 + 3) hc
    have e4 : Int.tdiv p (code.length : Int) = p / code.length := Int.tdiv_eq_ediv_of_nonneg h0
    have d0 : 0 ≤ p / (code.length : Int) := Int.ediv_nonneg h0 (by omega)
    have d1 : p / (code.length : Int) ≤ p := Int.ediv_le_self _ h0
    rw [e1, if_pos m0, if_pos m1, e2, e3, if_pos m2, if_pos m3, e4]
    obtain ⟨a0, a1⟩ := byte_of hb (p % code.length)
    obtain ⟨b0, b1⟩ := byte_of hb ((p * 7 + 3) % code.length)
    generalize rd code (p % code.length) = a at a0 a1 ⊢
    generalize rd code ((p * 7 + 3) % code.length) = b at b0 b1 ⊢
    generalize p / (code.length : Int) = d at d0 d1 ⊢
    have w1 : wrap64 a = a := w64 (by omega) (by omega)
    have w2 : wrap64 b = b := w64 (by omega) (by omega)
    have w3 : wrap64 (a * 131) = a * 131 := w64 (by omega) (by omega)
    have w4 : wrap64 (b * 1117) = b * 1117 := w64 (by omega) (by omega)
    have w5 : wrap64 (p * 29) = p * 29 := w64 (by omega) (by omega)
    have w6 : wrap64 d = d := w64 (by omega) (by omega)
    have w7 : wrap64 (d * 53) = d * 53 := w64 (by omega) (by omega)
    have w8 : wrap64 (a * 131 + b * 1117) = a * 131 + b * 1117 := w64 (by omega) (by omega)
    have w9 : wrap64 (a * 131 + b * 1117 + p * 29) = a * 131 + b * 1117 + p * 29 := w64 (by omega) (by omega)
    have w10 : wrap64 (a * 131 + b * 1117 + p * 29 + d * 53) = a * 131 + b * 1117 + p * 29 + d * 53 := w64 (by omega) (by omega)
    rw [w1, w2, w3, w4, w5, w6, w7, w8, w9, w10]
    have big : 0 ≤ Go.bits .xor .i64 (a * 131 + b * 1117 + p * 29 + d * 53) (wrap64 (Int.tdiv (a * 131 + b * 1117 + p * 29 + d * 53) 64)) := by
      have t : Int.tdiv (a * 131 + b * 1117 + p * 29 + d * 53) 64 = (a * 131 + b * 1117 + p * 29 + d * 53) / 64 := Int.tdiv_eq_ediv_of_nonneg (by omega)
      rw [t, w64 (by omega) (by omega)]
      exact xor_ok _ _ (by omega) (by omega) (by omega) (by omega)
    by_cases h256 : n > 256
    · rw [if_pos h256]; exact fin _ big
    · rw [if_neg h256]
      by_cases hp : p ≥ (code.length : Int)
      · rw [if_pos hp]; exact fin _ big
      · rw [if_neg hp]; exact fin _ a0
  · rw [if_neg hc, if_neg (by omega), hw]
    exact ⟨_, _, rfl, by simp, .inl (by simp; omega), by omega, by omega⟩

theorem newRnd_ok {l : List Int} (hl : l.length ≤ 1048576) (hb : ∀ x ∈ l, (Lit.int .u8 x).wf = true) :
    ∃ code, spec_newRnd.f l = some (code, 0) ∧ code.length ≤ 4000 ∧ ∀ x ∈ code, (Lit.int .u8 x).wf = true := by
  unfold spec_newRnd.f
  have h : mn (l.length : Int) 4000 = min (l.length : Int) 4000 := by unfold mn; split <;> omega
  rw [h, if_pos (by omega), if_pos (by omega)]
  refine ⟨_, rfl, ?_, fun x hx => hb x (List.mem_of_mem_take hx)⟩
  rw [List.length_take]; omega

/-! ### Reading a list -/
theorem rd_at (l : List Int) (i : Nat) (h : i < l.length) : rd l (i : Int) = l[i] := by
  unfold rd
  simp [List.getD_eq_getElem?_getD, h]
theorem next_i (i : Nat) (h : i ≤ 4611686018427387904) : wrap64 ((i : Int) + 1) = ((i + 1 : Nat) : Int) := by rw [w64 (by omega) (by omega)]; omega

/-! ### Words in a list of texts; keywords -/
def has (l : List ByteArray) (s : ByteArray) : Bool := l.any fun x => x.toList == s.toList
def kwL : List ByteArray := (spec_keywords.f).getD []
def kwB (s : ByteArray) : Bool := has kwL s
theorem spec_kw : spec_keywords.f = some kwL := rfl
theorem impl_kw : impl_keywords.f = some kwL := rfl

theorem has_pos {l : List ByteArray} {x s : ByteArray} (h : x.toList = s.toList) : has (x :: l) s = true := by simp [has, h]
theorem has_neg {l : List ByteArray} {x s : ByteArray} (h : ¬ x.toList = s.toList) : has (x :: l) s = has l s := by simp [has, h]
theorem rdOf_at (l : List ByteArray) (i : Nat) (h : i < l.length) : rdOf ByteArray.empty l (i : Int) = l[i] := by
  unfold rdOf
  simp [List.getD_eq_getElem?_getD, h]

theorem isOne_from (l : List ByteArray) (s : ByteArray) (hl : l.length ≤ 1000000) (d : Nat) : ∀ i : Nat, i + d = l.length → Ev (fun k => spec_isOne.l0 k l s (i : Int)) (has (l.drop i) s) := by
  induction d with
  | zero =>
    intro i hi
    refine ev_succ ?_
    simp only [spec_isOne.l0]
    refine ev_neg (by omega) (ev_some ?_)
    rw [List.drop_of_length_le (by omega)]; rfl
  | succ d ih =>
    intro i hi
    refine ev_succ ?_
    simp only [spec_isOne.l0]
    refine ev_pos (by omega) (ev_pos (by omega) ?_)
    have hlt : i < l.length := by omega
    rw [rdOf_at l i hlt, List.drop_eq_getElem_cons hlt]
    by_cases he : l[i].toList = s.toList
    · exact ev_pos he (ev_some (by rw [has_pos he]))
    · refine ev_neg he ?_
      rw [show wrap64 ((i : Int) + 1) = ((i + 1 : Nat) : Int) by rw [w64 (by omega) (by omega)]; omega]
      rw [has_neg he]
      exact ih (i + 1) (by omega)

theorem isOne_ev (l : List ByteArray) (s : ByteArray) (hl : l.length ≤ 1000000) : Ev (fun k => spec_isOne.f k l s) (has l s) := by
  have := isOne_from l s hl l.length 0 (by omega)
  simpa [spec_isOne.f] using this

theorem index_from (l : List ByteArray) (s : ByteArray) (hl : l.length ≤ 1000000) (d : Nat) : ∀ i : Nat, i + d = l.length → ∃ r : Int, Ev (fun k => slices_Index_string_string.l0 k l s (l.length : Int) (i : Int)) r ∧ decide (r ≥ 0) = has (l.drop i) s := by
  induction d with
  | zero =>
    intro i hi
    refine ⟨-1, ev_succ ?_, ?_⟩
    · simp only [slices_Index_string_string.l0]
      exact ev_neg (by omega) (ev_some rfl)
    · rw [List.drop_of_length_le (by omega)]; rfl
  | succ d ih =>
    intro i hi
    have hlt : i < l.length := by omega
    rw [List.drop_eq_getElem_cons hlt]
    by_cases he : l[i].toList = s.toList
    · refine ⟨i, ev_succ ?_, by rw [has_pos he]; simp⟩
      simp only [slices_Index_string_string.l0]
      refine ev_pos (by omega) (ev_pos (by omega) (ev_pos (by omega) ?_))
      rw [rdOf_at l i hlt]
      exact ev_pos he.symm (ev_some rfl)
    · obtain ⟨r, hr, h⟩ := ih (i + 1) (by omega)
      refine ⟨r, ev_succ ?_, by rw [h, has_neg he]⟩
      simp only [slices_Index_string_string.l0]
      refine ev_pos (by omega) (ev_pos (by omega) (ev_pos (by omega) ?_))
      rw [rdOf_at l i hlt]
      refine ev_neg (fun e => he e.symm) ?_
      rw [show wrap64 ((i : Int) + 1) = ((i + 1 : Nat) : Int) by rw [w64 (by omega) (by omega)]; omega]
      exact hr

theorem contains_ev (l : List ByteArray) (s : ByteArray) (hl : l.length ≤ 1000000) : Ev (fun k => slices_Contains_string_string.f k l s) (has l s) := by
  obtain ⟨r, hr, h⟩ := index_from l s hl l.length 0 (by omega)
  rw [List.drop_zero] at h
  unfold slices_Contains_string_string.f slices_Index_string_string.f
  rw [← h]
  exact Ev.bind hr (ev_some rfl)

/-! ### Names -/
def isL (c : Int) : Bool := decide (97 ≤ c ∧ c ≤ 122) || (decide (65 ≤ c ∧ c ≤ 90) || decide (c = 95))
def isD (c : Int) : Bool := decide (48 ≤ c ∧ c ≤ 57)
theorem L_not_D {c : Int} (h : isL c = true) : isD c = false := by
  simp only [isL, isD, Bool.or_eq_true, decide_eq_true_eq, decide_eq_false_iff_not] at h ⊢
  omega

/-- What may stand at the places from i on. -/
def restOk (s : ByteArray) (i d : Nat) : Bool := (List.range' i d).all fun j => isL (bt s j) || isD (bt s j)
def nameB (s : ByteArray) : Bool := decide (1 ≤ s.size ∧ s.size ≤ 12) && (!kwB s && (isL (bt s 0) && restOk s 1 (s.size - 1)))

theorem restOk_succ (s : ByteArray) (i d : Nat) : restOk s i (d + 1) = ((isL (bt s i) || isD (bt s i)) && restOk s (i + 1) d) := by
  simp [restOk, List.range'_succ]

theorem spec_kwB (s : ByteArray) : Ev (fun k => spec_isKeyword.f k s) (kwB s) := by
  unfold spec_isKeyword.f
  exact ev_bind1 spec_kw (Ev.bind (isOne_ev kwL s (by decide)) (ev_some rfl))
theorem spec_L (c : Int) : spec_letter.f c = some (isL c) := by
  unfold spec_letter.f isL
  by_cases h1 : c ≥ 97 <;> by_cases h2 : c ≤ 122 <;> by_cases h3 : c ≥ 65 <;> by_cases h4 : c ≤ 90 <;> by_cases h5 : c = 95 <;> simp [h1, h2, h3, h4, h5] <;> omega
theorem spec_D (c : Int) : spec_digit.f c = some (isD c) := by
  unfold spec_digit.f isD
  by_cases h1 : c ≥ 48 <;> simp [h1] <;> omega
theorem spec_range (a b c : Int) : spec_inRange.f a b c = some (decide (b ≤ a ∧ a ≤ c)) := by
  unfold spec_inRange.f
  by_cases h : a ≥ b
  · have : b ≤ a := h
    simp [h]
  · simp [h]

theorem valid_tail (s : ByteArray) : Ev (fun k => (spec_inRange.f (s.size : Int) 1 12).bind fun t109 => (if t109 = true then ((spec_isKeyword.f k s).bind fun t110 => (some (!t110))) else (some false))) (decide (1 ≤ s.size ∧ s.size ≤ 12) && !kwB s) := by
  refine ev_bind1 (spec_range _ _ _) ?_
  by_cases h : 1 ≤ s.size ∧ s.size ≤ 12
  · refine ev_pos (by simp; omega) (Ev.bind (spec_kwB s) (ev_some (by simp [h])))
  · refine ev_neg (by simp; omega) (ev_some ?_)
    rw [decide_eq_false h]; simp

theorem valid_from (s : ByteArray) (hs : s.size ≤ 1048576) (d : Nat) : ∀ i : Nat, 0 < i → i + d = s.size →
    Ev (fun k => spec_validName.l0 k s (i : Int)) (restOk s i d && (decide (1 ≤ s.size ∧ s.size ≤ 12) && !kwB s)) := by
  induction d with
  | zero =>
    intro i h0 hi
    refine ev_succ ?_
    simp only [spec_validName.l0]
    refine ev_neg (by omega) ?_
    have e : restOk s i 0 = true := by simp [restOk]
    rw [e, Bool.true_and]
    exact valid_tail s
  | succ d ih =>
    intro i h0 hi
    have hw : wrap64 ((i : Int) + 1) = ((i + 1 : Nat) : Int) := by rw [w64 (by omega) (by omega)]; omega
    refine ev_succ ?_
    simp only [spec_validName.l0, spec_L, spec_D, Option.bind_some, hw]
    refine ev_pos (by omega) (ev_pos (by omega) ?_)
    rw [restOk_succ]
    by_cases hL : isL (bt s i) = true
    · refine ev_pos hL ?_
      rw [hL]
      simp only [Bool.true_or, Bool.true_and]
      exact ih (i + 1) (by omega) (by omega)
    · refine ev_neg hL (ev_neg (by omega) ?_)
      rw [Bool.not_eq_true] at hL
      by_cases hD : isD (bt s i) = true
      · refine ev_pos hD ?_
        rw [hL, hD]
        simp only [Bool.or_true, Bool.true_and]
        exact ih (i + 1) (by omega) (by omega)
      · refine ev_neg hD (ev_some ?_)
        rw [Bool.not_eq_true] at hD
        rw [hL, hD]; rfl

theorem valid_name (s : ByteArray) (hs : s.size ≤ 1048576) : Ev (fun k => spec_validName.f k s) (nameB s) := by
  unfold spec_validName.f
  refine ev_succ ?_
  simp only [spec_validName.l0, spec_L, spec_D, Option.bind_some]
  by_cases h : s.size = 0
  · refine ev_neg (by omega) ?_
    have e : nameB s = (decide (1 ≤ s.size ∧ s.size ≤ 12) && !kwB s) := by
      rw [nameB, decide_eq_false (by omega)]; rfl
    rw [e]
    exact valid_tail s
  · refine ev_pos (by omega) (ev_pos (by omega) ?_)
    by_cases hL : isL (bt s 0) = true
    · refine ev_pos hL ?_
      have hw : wrap64 ((0 : Int) + 1) = ((1 : Nat) : Int) := w64 (by omega) (by omega)
      rw [hw]
      have e : nameB s = (restOk s 1 (s.size - 1) && (decide (1 ≤ s.size ∧ s.size ≤ 12) && !kwB s)) := by
        rw [nameB, hL]
        cases restOk s 1 (s.size - 1) <;> cases decide (1 ≤ s.size ∧ s.size ≤ 12) <;> cases kwB s <;> rfl
      rw [e]
      exact valid_from s hs (s.size - 1) 1 (by omega) (by omega)
    · refine ev_neg hL (ev_pos trivial (ev_some ?_))
      rw [Bool.not_eq_true] at hL
      rw [nameB, hL]
      simp

theorem impl_L (c : Int) : impl_isLetter.f c = some (isL c) := by
  unfold impl_isLetter.f isL
  by_cases h1 : c ≥ 97 <;> by_cases h2 : c ≤ 122 <;> by_cases h3 : c ≥ 65 <;> by_cases h4 : c ≤ 90 <;> by_cases h5 : c = 95 <;> simp [h1, h2, h3, h4, h5] <;> omega
theorem impl_D (c : Int) : impl_isDigit.f c = some (isD c) := by
  unfold impl_isDigit.f isD
  by_cases h1 : c ≥ 48 <;> simp [h1] <;> omega

theorem impl_kwB (s : ByteArray) : Ev (fun k => impl_IsKeyword.f k s) (kwB s) := by
  unfold impl_IsKeyword.f
  exact ev_bind1 impl_kw (Ev.bind (contains_ev kwL s (by decide)) (ev_some rfl))

theorem name_from (s : ByteArray) (hs : s.size ≤ 1048576) (d : Nat) : ∀ i : Nat, i + d = s.size → Ev (fun k => impl_NameOk.l0 k s (s.size : Int) (i : Int)) (restOk s i d) := by
  induction d with
  | zero =>
    intro i hi
    refine ev_succ ?_
    simp only [impl_NameOk.l0]
    exact ev_neg (by omega) (ev_some (by simp [restOk]))
  | succ d ih =>
    intro i hi
    have hw : wrap64 ((i : Int) + 1) = ((i + 1 : Nat) : Int) := by rw [w64 (by omega) (by omega)]; omega
    refine ev_succ ?_
    simp only [impl_NameOk.l0, impl_L, impl_D, Option.bind_some, hw]
    refine ev_pos (by omega) (ev_pos (by omega) (ev_pos (by omega) ?_))
    rw [restOk_succ]
    by_cases hL : isL (bt s i) = true
    · refine ev_pos hL ?_
      rw [hL]
      simp only [Bool.true_or, Bool.true_and]
      exact ih (i + 1) (by omega)
    · refine ev_neg hL ?_
      rw [Bool.not_eq_true] at hL
      by_cases hD : isD (bt s i) = true
      · refine ev_pos hD ?_
        rw [hL, hD]
        simp only [Bool.or_true, Bool.true_and]
        exact ih (i + 1) (by omega)
      · refine ev_neg hD (ev_some ?_)
        rw [Bool.not_eq_true] at hD
        rw [hL, hD]; rfl

theorem name_no (s : ByteArray) : Ev (fun k => impl_NameOk.j0 k s true) false := by
  refine ev_succ ?_
  simp only [impl_NameOk.j0]
  exact ev_pos trivial (ev_some rfl)

theorem impl_nameB (s : ByteArray) (hs : s.size ≤ 1048576) : Ev (fun k => impl_NameOk.f k s) (nameB s) := by
  unfold impl_NameOk.f
  by_cases h1 : s.size < 1
  · refine ev_pos (by omega) (ev_eq (name_no s) ?_)
    rw [nameB, decide_eq_false (by omega)]; rfl
  refine ev_neg (by omega) ?_
  by_cases h2 : s.size > 12
  · refine ev_pos (by omega) (ev_eq (name_no s) ?_)
    rw [nameB, decide_eq_false (by omega)]; rfl
  refine ev_neg (by omega) (ev_pos (by omega) (ev_bind1 (impl_D _) ?_))
  by_cases hD : isD (bt s 0) = true
  · refine ev_pos hD (ev_eq (name_no s) ?_)
    have hL : isL (bt s 0) = false := by
      rw [← Bool.not_eq_true]; intro h
      rw [L_not_D h] at hD; exact Bool.noConfusion hD
    rw [nameB, hL]; simp
  · refine ev_neg hD (Ev.bind (impl_kwB s) ?_)
    rw [Bool.not_eq_true] at hD
    cases hk : kwB s with
    | true => exact ev_eq (name_no s) (by rw [nameB, hk]; simp)
    | false =>
      refine ev_succ ?_
      simp only [impl_NameOk.j0]
      refine ev_neg (by simp) (ev_eq (name_from s hs s.size 0 (by omega)) ?_)
      obtain ⟨m, hm⟩ : ∃ m, s.size = m + 1 := ⟨s.size - 1, by omega⟩
      have e : restOk s 0 s.size = (isL (bt s 0) && restOk s 1 m) := by
        rw [hm, restOk_succ]
        have : isD (bt s (0 : Nat)) = false := hD
        rw [this, Bool.or_false]; rfl
      rw [e, nameB, hk, decide_eq_true (by omega), hm]
      simp

theorem numbers_from {code : List Int} (hl : code.length ≤ 4000) (hb : ∀ x ∈ code, (Lit.int .u8 x).wf = true) (n : Int) (d : Nat) : ∀ (out : List Int) (p : Int), out.length + d ≤ 100 → 0 ≤ p → p + d ≤ 900000 →
    ∃ r q, Ev (fun k => spec_rnd_numbers.l0 k n out (d : Int) code p) (r, q) ∧ r.length = out.length + d ∧ (∀ x ∈ r, x ∈ out ∨ (0 ≤ x ∧ (x < n ∨ x = 0))) ∧ p ≤ q ∧ q ≤ p + d := by
  induction d with
  | zero =>
    intro out p ho p0 p1
    refine ⟨out, p, ev_succ ?_, by omega, fun x hx => .inl hx, by omega, by omega⟩
    simp only [spec_rnd_numbers.l0]
    exact ev_neg (by omega) (ev_some rfl)
  | succ d ih =>
    intro out p ho p0 p1
    obtain ⟨v, q, e, v0, v1, q0, q1⟩ := pick_ok hl hb p0 (by omega) n
    obtain ⟨r, q', hr, hrl, hx, q0', q1'⟩ := ih (out ++ [v]) q (by simp; omega) (by omega) (by omega)
    refine ⟨r, q', ev_succ ?_, by simp at hrl; omega, fun x hxr => ?_, by omega, by omega⟩
    · simp only [spec_rnd_numbers.l0]
      have hd : wrap64 (((d + 1 : Nat) : Int) - 1) = (d : Int) := by rw [w64 (by omega) (by omega)]; omega
      refine ev_pos (by omega) (ev_bind1 e (ev_pos (by omega) ?_))
      rw [hd]
      exact hr
    · rcases hx x hxr with h | h
      · simp only [List.mem_append, List.mem_singleton] at h
        rcases h with h | rfl
        · exact .inl h
        · exact .inr ⟨v0, by omega⟩
      · exact .inr h
theorem numbers_ok {code : List Int} (hl : code.length ≤ 4000) (hb : ∀ x ∈ code, (Lit.int .u8 x).wf = true) {p : Int} (h0 : 0 ≤ p) (h1 : p ≤ 800000) (most n : Int) (m0 : 1 ≤ most) (m1 : most ≤ 100) :
    ∃ r q, Ev (fun k => spec_rnd_numbers.f k code p most n) (r, q) ∧ r.length ≤ most.toNat ∧ (∀ x ∈ r, 0 ≤ x ∧ (x < n ∨ x = 0)) ∧ p ≤ q ∧ q ≤ p + 101 := by
  obtain ⟨v, q, e, v0, v1, q0, q1⟩ := pick_ok hl hb h0 (by omega) (most + 1)
  obtain ⟨m, rfl⟩ := Int.eq_ofNat_of_zero_le v0
  obtain ⟨r, q', hr, hrl, hx, q0', q1'⟩ := numbers_from hl hb n m [] q (by simp; omega) (by omega) (by omega)
  refine ⟨r, q', ?_, by simp at hrl; omega, fun x h => ?_, by omega, by omega⟩
  · unfold spec_rnd_numbers.f
    have hw : wrap64 (most + 1) = most + 1 := w64 (by omega) (by omega)
    rw [hw]
    exact ev_bind1 e hr
  · rcases hx x h with h | h
    · simp at h
    · exact h

/-! ### Names of parameters -/
def allB (l : List ByteArray) (i d : Nat) : Bool := (List.range' i d).all fun (j : Nat) => nameB (rdOf ByteArray.empty l (j : Int)) && !has (l.take j) (rdOf ByteArray.empty l (j : Int))
theorem allB_succ (l : List ByteArray) (i d : Nat) : allB l i (d + 1) = ((nameB (rdOf ByteArray.empty l (i : Int)) && !has (l.take i) (rdOf ByteArray.empty l (i : Int))) && allB l (i + 1) d) := by
  simp [allB, List.range'_succ]
theorem impl_all_from (l : List ByteArray) (hl : l.length ≤ 1000000) (hs : ∀ s ∈ l, s.size ≤ 1048576) (d : Nat) : ∀ i : Nat, i + d = l.length → Ev (fun k => impl_allNames.l0 k l l (l.length : Int) (i : Int)) (allB l i d) := by
  induction d with
  | zero =>
    intro i hi
    refine ev_succ ?_
    simp only [impl_allNames.l0]
    exact ev_neg (by omega) (ev_some rfl)
  | succ d ih =>
    intro i hi
    have hlt : i < l.length := by omega
    have hz : (rdOf ByteArray.empty l (i : Int)).size ≤ 1048576 := by rw [rdOf_at l i hlt]; exact hs _ (List.getElem_mem hlt)
    have hw : wrap64 ((i : Int) + 1) = ((i + 1 : Nat) : Int) := by rw [w64 (by omega) (by omega)]; omega
    refine ev_succ ?_
    simp only [impl_allNames.l0, hw, Int.toNat_natCast]
    rw [allB_succ]
    refine ev_pos (by omega) (ev_pos (by omega) (ev_pos (by omega) (Ev.bind (impl_nameB _ hz) ?_)))
    cases nameB (rdOf ByteArray.empty l (i : Int)) with
    | false => exact ev_neg (by simp) (ev_some rfl)
    | true =>
      refine ev_pos rfl (ev_pos (by omega) (Ev.bind (contains_ev _ _ (Nat.le_trans (List.length_take_le' _ _) hl)) ?_))
      cases has (l.take i) (rdOf ByteArray.empty l (i : Int)) with
      | true => exact ev_pos rfl (ev_some rfl)
      | false => exact ev_neg (by simp) (ev_eq (ih (i + 1) (by omega)) (by simp))
theorem spec_all_from (l : List ByteArray) (hl : l.length ≤ 1000000) (hs : ∀ s ∈ l, s.size ≤ 1048576) (d : Nat) : ∀ i : Nat, i + d = l.length → Ev (fun k => spec_onceEach.l0 k l (i : Int)) (allB l i d) := by
  induction d with
  | zero =>
    intro i hi
    refine ev_succ ?_
    simp only [spec_onceEach.l0]
    exact ev_neg (by omega) (ev_some rfl)
  | succ d ih =>
    intro i hi
    have hlt : i < l.length := by omega
    have hz : (rdOf ByteArray.empty l (i : Int)).size ≤ 1048576 := by rw [rdOf_at l i hlt]; exact hs _ (List.getElem_mem hlt)
    have hw : wrap64 ((i : Int) + 1) = ((i + 1 : Nat) : Int) := by rw [w64 (by omega) (by omega)]; omega
    refine ev_succ ?_
    simp only [spec_onceEach.l0, hw, Int.toNat_natCast]
    rw [allB_succ]
    refine ev_pos (by omega) (ev_pos (by omega) (Ev.bind (valid_name _ hz) ?_))
    cases nameB (rdOf ByteArray.empty l (i : Int)) with
    | false => exact ev_neg (by simp) (ev_some rfl)
    | true =>
      refine ev_pos rfl (ev_pos (by omega) (Ev.bind (isOne_ev _ _ (Nat.le_trans (List.length_take_le' _ _) hl)) ?_))
      cases has (l.take i) (rdOf ByteArray.empty l (i : Int)) with
      | true => exact ev_pos rfl (ev_some rfl)
      | false => exact ev_neg (by simp) (ev_eq (ih (i + 1) (by omega)) (by simp))
/-- What BindNeeds answers. -/
def needsR (p : List ByteArray) (dv : List Int) : Int := if p.length ≤ 6 ∧ allB p 0 p.length = true ∧ dv.length ≤ p.length then (p.length : Int) - dv.length else -1
theorem impl_needs_ev (p : List ByteArray) (dv : List Int) (hp : p.length ≤ 1000000) (hs : ∀ s ∈ p, s.size ≤ 1048576) (hd : dv.length ≤ 1048576) : Ev (fun k => impl_BindNeeds.f k p dv) (needsR p dv) := by
  unfold impl_BindNeeds.f needsR
  by_cases h6 : p.length ≤ 6
  · refine ev_neg (by omega) (Ev.bind (impl_all_from p hp hs p.length 0 (by omega)) ?_)
    cases ha : allB p 0 p.length with
    | false => exact ev_neg (by simp) (ev_some (by simp))
    | true =>
      refine ev_pos rfl ?_
      by_cases h : dv.length ≤ p.length
      · refine ev_neg (by omega) (ev_some ?_)
        rw [if_pos ⟨h6, rfl, h⟩, w64 (by omega) (by omega)]
      · refine ev_pos (by omega) (ev_some ?_)
        rw [if_neg (fun z => h z.2.2)]
  · refine ev_pos (by omega) (ev_some ?_)
    rw [if_neg (fun z => h6 z.1)]
theorem none_twice : Ev (fun k => spec_noneTwice.f k ([] : List ByteArray)) true := by
  unfold spec_noneTwice.f
  refine ev_succ ?_
  simp only [spec_noneTwice.l0]
  exact ev_neg (by simp) (ev_some rfl)
theorem spec_needs_ev (p : List ByteArray) (dv : List Int) (hp : p.length ≤ 1000000) (hs : ∀ s ∈ p, s.size ≤ 1048576) (hd : dv.length ≤ 1048576) : Ev (fun k => spec_BindNeeds.f k p dv) (needsR p dv) := by
  unfold spec_BindNeeds.f needsR
  have V : Ev (fun k => spec_validBind.f k p dv ([] : List Int) ([] : List ByteArray)) (decide (p.length ≤ 6 ∧ allB p 0 p.length = true ∧ dv.length ≤ p.length)) := by
    unfold spec_validBind.f spec_onceEach.f
    refine Ev.bind (spec_all_from p hp hs p.length 0 (by omega)) ?_
    cases ha : allB p 0 p.length with
    | false => exact ev_neg (by simp) (ev_some (by simp))
    | true =>
      refine ev_pos rfl ?_
      by_cases h6 : p.length ≤ 6
      · refine ev_pos (by omega) ?_
        by_cases h : dv.length ≤ p.length
        · exact ev_pos (by omega) (ev_pos (by simp) (Ev.bind none_twice (ev_pos rfl (ev_some (by simp [h6, h])))))
        · exact ev_neg (by omega) (ev_some (by simp [h]))
      · exact ev_neg (by omega) (ev_some (by simp [h6]))
  refine Ev.bind V ?_
  by_cases h : p.length ≤ 6 ∧ allB p 0 p.length = true ∧ dv.length ≤ p.length
  · refine ev_pos (by simp [h]) (ev_some ?_)
    rw [if_pos h, w64 (by omega) (by omega)]
  · refine ev_neg (by simpa using h) (ev_some ?_)
    rw [if_neg h]

theorem params_ok {code : List Int} (hl : code.length ≤ 4000) (hb : ∀ x ∈ code, (Lit.int .u8 x).wf = true) {p : Int} (h0 : 0 ≤ p) (h1 : p ≤ 900000) :
    ∃ ps q, spec_rnd_params.f code p = some (ps, q) ∧ ps.length ≤ 2 ∧ (∀ s ∈ ps, s.size ≤ 1) ∧ p ≤ q ∧ q ≤ p + 1 := by
  obtain ⟨v, q, e, v0, v1, q0, q1⟩ := pick_ok hl hb h0 (by omega) 5
  unfold spec_rnd_params.f
  simp only [Option.bind_some]
  rw [e]
  simp only [Option.bind_some]
  rw [if_pos v0, if_pos (by simp; omega)]
  refine ⟨_, _, rfl, ?_, ?_, q0, q1⟩
  all_goals
    have : v = 0 ∨ v = 1 ∨ v = 2 ∨ v = 3 ∨ v = 4 := by omega
    rcases this with rfl | rfl | rfl | rfl | rfl <;> decide +kernel

/-- The parameters that have a value already: the first m. -/
def Given (m : Nat) (g : List Bool) : Prop := ∀ j : Nat, j < g.length → rdOf false g (j : Int) = decide (j < m)

theorem fill_fine (p : List ByteArray) (dv : List Int) (n : Nat) (hp : p.length ≤ 6) (hn : n + dv.length = p.length) (d : Nat) : ∀ (i : Nat) (x : List Int) (g : List Bool), i + d = p.length → x.length = p.length → g.length = p.length → Given n g →
    ∃ out, Ev (fun k => impl_bindValues_int.l2 k p dv x g (p.length : Int) (i : Int)) (out, 0) := by
  induction d with
  | zero =>
    intro i x g hi hx hg _
    refine ⟨x, ev_succ ?_⟩
    simp only [impl_bindValues_int.l2]
    exact ev_neg (by omega) (ev_some rfl)
  | succ d ih =>
    intro i x g hi hx hg hG
    have hw : wrap64 ((i : Int) + 1) = ((i + 1 : Nat) : Int) := by rw [w64 (by omega) (by omega)]; omega
    have hw2 : wrap64 ((i : Int) - (wrap64 ((p.length : Int) - (dv.length : Int)))) = (i : Int) - n := by
      rw [w64 (n := (p.length : Int) - (dv.length : Int)) (by omega) (by omega), w64 (by omega) (by omega)]; omega
    have hgi := hG i (by omega)
    by_cases h : i < n
    · obtain ⟨out, ho⟩ := ih (i + 1) x g (by omega) hx hg hG
      refine ⟨out, ev_succ ?_⟩
      simp only [impl_bindValues_int.l2, hw, hw2]
      exact ev_pos (by omega) (ev_pos (by omega) (ev_pos (by omega) (ev_pos (by rw [hgi]; simp [h]) ho)))
    · obtain ⟨out, ho⟩ := ih (i + 1) (x.set i (rd dv ((i : Int) - n))) g (by omega) (by simp [hx]) hg hG
      refine ⟨out, ev_succ ?_⟩
      simp only [impl_bindValues_int.l2, hw, hw2, Int.toNat_natCast]
      exact ev_pos (by omega) (ev_pos (by omega) (ev_pos (by omega) (ev_neg (by rw [hgi]; simp [h]) (ev_neg (by omega) (ev_pos (by omega) (ev_pos (by omega) (ev_pos (by omega) ho)))))))

theorem fill_lack (p : List ByteArray) (dv : List Int) (n : Nat) (hp : p.length ≤ 6) (hn : n + 1 + dv.length = p.length) (d : Nat) : ∀ (i : Nat) (x : List Int) (g : List Bool), i + d = n → x.length = p.length → g.length = p.length → Given n g →
    Ev (fun k => impl_bindValues_int.l2 k p dv x g (p.length : Int) (i : Int)) ([], 4) := by
  induction d with
  | zero =>
    intro i x g hi hx hg hG
    have hw2 : wrap64 ((i : Int) - (wrap64 ((p.length : Int) - (dv.length : Int)))) = -1 := by
      rw [w64 (n := (p.length : Int) - (dv.length : Int)) (by omega) (by omega), w64 (by omega) (by omega)]; omega
    have hgi := hG i (by omega)
    refine ev_succ ?_
    simp only [impl_bindValues_int.l2, hw2]
    exact ev_pos (by omega) (ev_pos (by omega) (ev_pos (by omega) (ev_neg (by rw [hgi]; simp; omega) (ev_pos (by omega) (ev_some rfl)))))
  | succ d ih =>
    intro i x g hi hx hg hG
    have hw : wrap64 ((i : Int) + 1) = ((i + 1 : Nat) : Int) := by rw [w64 (by omega) (by omega)]; omega
    have hgi := hG i (by omega)
    refine ev_succ ?_
    simp only [impl_bindValues_int.l2, hw]
    exact ev_pos (by omega) (ev_pos (by omega) (ev_pos (by omega) (ev_pos (by rw [hgi]; simp; omega) (ih (i + 1) x g (by omega) hx hg hG))))

theorem give (p : List ByteArray) (dv args : List Int) (n : Nat) (hp : p.length ≤ 6) (hn : n ≤ p.length) (ha : args.length = n) (r : List Int × Int)
    (R : ∀ (x : List Int) (g : List Bool), x.length = p.length → g.length = p.length → Given n g → ∃ out, Ev (fun k => impl_bindValues_int.l2 k p dv x g (p.length : Int) (0 : Nat)) (out, r.2)) (d : Nat) :
    ∀ (i : Nat) (x : List Int) (g : List Bool), i + d = n → x.length = p.length → g.length = p.length → Given i g →
    ∃ out, Ev (fun k => impl_bindValues_int.l0 k p dv args [] x g (n : Int) (n : Int) (i : Int)) (out, r.2) := by
  induction d with
  | zero =>
    intro i x g hi hx hg hG
    have : i = n := by omega
    subst this
    obtain ⟨out, ho⟩ := R x g hx hg hG
    refine ⟨out, ev_succ ?_⟩
    simp only [impl_bindValues_int.l0]
    refine ev_neg (by omega) (ev_succ ?_)
    simp only [impl_bindValues_int.l1]
    exact ev_neg (by simp) ho
  | succ d ih =>
    intro i x g hi hx hg hG
    have hw : wrap64 ((i : Int) + 1) = ((i + 1 : Nat) : Int) := by rw [w64 (by omega) (by omega)]; omega
    have hG' : Given (i + 1) (g.set i true) := by
      intro j hj
      have hj' : j < g.length := by simpa using hj
      have h := hG j hj'
      unfold rdOf at h ⊢
      simp only [Int.toNat_natCast, List.getD_eq_getElem?_getD] at h ⊢
      by_cases e : i = j
      · subst e; simp [hj']
      · rw [List.getElem?_set_ne e, h]; simp; omega
    obtain ⟨out, ho⟩ := ih (i + 1) (x.set i (rd args (i : Int))) (g.set i true) (by omega) (by simp [hx]) (by simp [hg]) hG'
    refine ⟨out, ev_succ ?_⟩
    simp only [impl_bindValues_int.l0, hw, Int.toNat_natCast]
    exact ev_pos (by omega) (ev_pos (by omega) (ev_pos (by omega) (ev_pos (by omega) (ev_pos (by omega) ho))))

theorem values_ok (p : List ByteArray) (dv args : List Int) (n : Nat) (hp : p.length ≤ 6) (hn : n ≤ p.length) (ha : args.length = n) (r : List Int × Int)
    (R : ∀ (x : List Int) (g : List Bool), x.length = p.length → g.length = p.length → Given n g → ∃ out, Ev (fun k => impl_bindValues_int.l2 k p dv x g (p.length : Int) (0 : Nat)) (out, r.2)) :
    ∃ out, Ev (fun k => impl_bindValues_int.f k p dv args []) (out, r.2) := by
  have h0 : Given 0 (List.replicate p.length false) := by
    intro j hj
    unfold rdOf
    simp only [Int.toNat_natCast, List.getD_eq_getElem?_getD]
    simp at hj
    simp [hj]
  obtain ⟨out, ho⟩ := give p dv args n hp hn ha r R n 0 (List.replicate p.length 0) (List.replicate p.length false) (by omega) (by simp) (by simp) h0
  refine ⟨out, ?_⟩
  unfold impl_bindValues_int.f
  have hw : wrap64 ((args.length : Int) - (([] : List ByteArray).length : Int)) = (n : Int) := by
    have e0 : (([] : List ByteArray).length : Int) = 0 := rfl
    rw [e0, w64 (by omega) (by omega)]; omega
  have e : ((p.length : Int)).toNat = p.length := by omega
  rw [hw, e]
  exact ev_pos (by omega) (ev_pos (by omega) (ev_pos (by omega) (ev_neg (by omega) ho)))

theorem differ_nil : Ev (fun k => impl_differ.f k ([] : List ByteArray)) true := by
  unfold impl_differ.f
  refine ev_succ ?_
  simp only [impl_differ.l0]
  exact ev_neg (by simp) (ev_some rfl)

theorem args_ok (p : List ByteArray) (dv args : List Int) (hp : p.length ≤ 6) (hs : ∀ s ∈ p, s.size ≤ 1048576) (hA : allB p 0 p.length = true) (hd : dv.length ≤ p.length) (ha : args.length ≤ p.length) (out : List Int) (c : Int)
    (V : Ev (fun k => impl_bindValues_int.f k p dv args []) (out, c)) : Ev (fun k => impl_BindArgs.f k p dv args []) (out, c) := by
  unfold impl_BindArgs.f
  have hall : Ev (fun k => impl_allNames.f k p) true := by
    have := impl_all_from p (by omega) hs p.length 0 (by omega)
    rw [hA] at this; exact this
  exact ev_neg (by omega) (Ev.bind hall (ev_pos rfl (ev_neg (by omega) (ev_neg (by omega) (ev_neg (by simp) (Ev.bind differ_nil (ev_pos rfl (Ev.bind V (ev_some rfl)))))))))

theorem FnBindNeeds : laws_FnBindNeeds.Pure := by
  intro l hm _ hb
  refine Ev.rounds ?_
  unfold laws_FnBindNeeds.f
  by_cases hl : (l.length : Int) > 1048576
  · exact ev_pos hl (ev_some rfl)
  refine ev_neg hl ?_
  obtain ⟨code, e, hc, hbc⟩ := newRnd_ok (l := l) (by omega) hb
  obtain ⟨p, q, e1, hp, hsz, q0, q1⟩ := params_ok hc hbc (p := 0) (by omega) (by omega)
  obtain ⟨dv, q2, e2, hdv, _, _, _⟩ := numbers_ok hc hbc (p := q) (by omega) (by omega) 3 9 (by omega) (by omega)
  have D : Ev (fun k => spec_DrawBindNeeds.f k l) (p, dv) := by
    unfold spec_DrawBindNeeds.f
    exact ev_bind1 e (ev_bind1 e1 (Ev.bind e2 (ev_some rfl)))
  have hs : ∀ s ∈ p, s.size ≤ 1048576 := fun s h => by have := hsz s h; omega
  have hdl : dv.length ≤ 1048576 := by have : (3 : Int).toNat = 3 := rfl; omega
  refine Ev.bind D ?_
  dsimp only
  refine Ev.bind (impl_needs_ev p dv (by omega) hs hdl) (Ev.bind (spec_needs_ev p dv (by omega) hs hdl) (ev_pos rfl ?_))
  refine ev_succ ?_
  simp only [laws_FnBindNeeds.j0]
  by_cases h : p.length ≤ 6 ∧ allB p 0 p.length = true ∧ dv.length ≤ p.length
  · obtain ⟨n, hn⟩ : ∃ n : Nat, n + dv.length = p.length := ⟨p.length - dv.length, by omega⟩
    have en : needsR p dv = (n : Int) := by unfold needsR; rw [if_pos h]; omega
    rw [en]
    have et : ((n : Int)).toNat = n := by omega
    obtain ⟨o1, h1⟩ := values_ok p dv (List.replicate n 0) n h.1 (by omega) (by simp) ([], 0) (fun x g hx hg hG => fill_fine p dv n h.1 hn p.length 0 x g (by omega) hx hg hG)
    have A1 := args_ok p dv (List.replicate n 0) h.1 hs h.2.1 h.2.2 (by simp; omega) o1 0 h1
    refine ev_neg (by simp) (ev_pos (by omega) (ev_pos (by omega) (ev_bind1 rfl ?_)))
    rw [et]
    refine Ev.bind A1 ?_
    by_cases hz : (n : Int) > 0
    · have hw : wrap64 ((n : Int) - 1) = (n : Int) - 1 := w64 (by omega) (by omega)
      have et2 : ((n : Int) - 1).toNat = n - 1 := by omega
      have el : (List.replicate n (0 : Int)).take (n - 1) = List.replicate (n - 1) 0 := by rw [List.take_replicate, Nat.min_eq_left (by omega)]
      obtain ⟨o2, h2⟩ := values_ok p dv (List.replicate (n - 1) 0) (n - 1) h.1 (by omega) (by simp) ([], 4) (fun x g hx hg hG => ⟨[], fill_lack p dv (n - 1) h.1 (by omega) (n - 1) 0 x g (by omega) hx hg hG⟩)
      have A2 := args_ok p dv (List.replicate (n - 1) 0) h.1 hs h.2.1 h.2.2 (by simp; omega) o2 4 h2
      rw [hw, et2, el]
      refine ev_pos hz (ev_pos (by omega) (ev_pos (by simp; omega) (Ev.bind A2 (ev_pos rfl (ev_neg (by omega) (ev_some rfl))))))
    · exact ev_neg hz (ev_pos rfl (ev_pos (by omega) (ev_some rfl)))
  · have en : needsR p dv = -1 := by unfold needsR; rw [if_neg h]
    rw [en]
    exact ev_pos (by simp) (ev_some (by simp))

end Go.Proofs.Ytppbnfoagbipaag.Pure
