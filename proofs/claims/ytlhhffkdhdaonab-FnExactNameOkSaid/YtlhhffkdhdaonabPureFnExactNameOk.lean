/- FnExactNameOk: the program tells names as the reference does, for every text of at most 2^20 bytes. -/
import Derived.Test.YtlhhffkdhdaonabPFnExactNameOkx2
namespace Go.Proofs.Ytlhhffkdhdaonab.Pure
open Go.RowKit Go.Proofs.Ytlhhffkdhdaonab.PFnExactNameOk Go.Proofs.YtlhhffkdhdaonabW.PrintWords Go.Proofs.YtlhhffkdhdaonabW.PrintLast Go.Proofs.YtlhhffkdhdaonabW.PrintMore
set_option linter.unusedVariables false
set_option linter.unusedSimpArgs false

/-! ### Rounds, and words of 64 bits -/
theorem ev_succ {α : Type} {g : Nat → Option α} {r : α} (h : Ev (fun k => g (k + 1)) r) : Ev g r := Ev.step (fun _ => rfl) h
theorem ev_some {α : Type} {o : Option α} {r : α} (h : o = some r) : Ev (fun _ => o) r := ⟨0, fun _ _ => h⟩
theorem ev_pos {α : Type} {c : Prop} [Decidable c] {A B : Nat → Option α} {r : α} (h : c) (k : Ev A r) : Ev (fun n => if c then A n else B n) r :=
  Ev.congr (fun _ => if_pos h) k
theorem ev_neg {α : Type} {c : Prop} [Decidable c] {A B : Nat → Option α} {r : α} (h : ¬ c) (k : Ev B r) : Ev (fun n => if c then A n else B n) r :=
  Ev.congr (fun _ => if_neg h) k
theorem ev_eq {α : Type} {g : Nat → Option α} {r s : α} (h : Ev g r) (e : r = s) : Ev g s := e ▸ h
theorem ev_bind1 {α β : Type} {o : Option α} {f : Nat → α → Option β} {a : α} {r : β} (h : o = some a) (k : Ev (fun n => f n a) r) : Ev (fun n => o.bind (f n)) r :=
  Ev.bind (ev_some h) k
theorem ev_det {α : Type} {g : Nat → Option α} {r s : α} (h : Ev g r) (k : Ev g s) : r = s := by
  obtain ⟨K, h⟩ := h
  obtain ⟨L, k⟩ := k
  have h1 := h (max K L) (by omega)
  have h2 := k (max K L) (by omega)
  rw [h1] at h2
  exact Option.some.inj h2
theorem w64 {n : Int} (h : -9223372036854775808 ≤ n) (h' : n ≤ 9223372036854775807) : wrap64 n = n := by unfold wrap64; omega
theorem byte_of {l : List Int} (h : ∀ x ∈ l, (Lit.int .u8 x).wf = true) (i : Int) : 0 ≤ rd l i ∧ rd l i ≤ 255 := by
  unfold rd
  by_cases hi : i.toNat < l.length
  · have hm : l.getD i.toNat 0 ∈ l := by
      rw [List.getD_eq_getElem?_getD, List.getElem?_eq_getElem hi]
      exact List.getElem_mem hi
    have := h _ hm
    have m0 : IntKind.u8.min = 0 := by decide
    have m1 : IntKind.u8.max = 255 := by decide
    simp only [Lit.wf, m0, m1, Bool.and_eq_true, decide_eq_true_eq] at this
    exact this
  · rw [List.getD_eq_getElem?_getD, List.getElem?_eq_none (by omega)]
    simp

/-! ### Words in a list of texts; keywords -/
def has (l : List ByteArray) (s : ByteArray) : Bool := l.any fun x => x.toList == s.toList
def kwL : List ByteArray := (spec_keywords.f).getD []
def kwB (s : ByteArray) : Bool := has kwL s
theorem spec_kw : spec_keywords.f = some kwL := rfl
theorem impl_kw : impl_keywords.f = some kwL := rfl

theorem has_pos {l : List ByteArray} {x s : ByteArray} (h : x.toList = s.toList) : has (x :: l) s = true := by simp [has, h]
theorem has_neg {l : List ByteArray} {x s : ByteArray} (h : ¬ x.toList = s.toList) : has (x :: l) s = has l s := by simp [has, h]
theorem rdOf_at (l : List ByteArray) (i : Nat) (h : i < l.length) : rdOf ByteArray.empty l (i : Int) = l[i] := by
  unfold rdOf
  simp [List.getD_eq_getElem?_getD, h]

theorem isOne_from (l : List ByteArray) (s : ByteArray) (hl : l.length ≤ 1000000) (d : Nat) : ∀ i : Nat, i + d = l.length → Ev (fun k => spec_isOne.l0 k l s (i : Int)) (has (l.drop i) s) := by
  induction d with
  | zero =>
    intro i hi
    refine ev_succ ?_
    simp only [spec_isOne.l0]
    refine ev_neg (by omega) (ev_some ?_)
    rw [List.drop_of_length_le (by omega)]; rfl
  | succ d ih =>
    intro i hi
    refine ev_succ ?_
    simp only [spec_isOne.l0]
    refine ev_pos (by omega) (ev_pos (by omega) ?_)
    have hlt : i < l.length := by omega
    rw [rdOf_at l i hlt, List.drop_eq_getElem_cons hlt]
    by_cases he : l[i].toList = s.toList
    · exact ev_pos he (ev_some (by rw [has_pos he]))
    · refine ev_neg he ?_
      rw [show wrap64 ((i : Int) + 1) = ((i + 1 : Nat) : Int) by rw [w64 (by omega) (by omega)]; omega]
      rw [has_neg he]
      exact ih (i + 1) (by omega)

theorem isOne_ev (l : List ByteArray) (s : ByteArray) (hl : l.length ≤ 1000000) : Ev (fun k => spec_isOne.f k l s) (has l s) := by
  have := isOne_from l s hl l.length 0 (by omega)
  simpa [spec_isOne.f] using this

theorem index_from (l : List ByteArray) (s : ByteArray) (hl : l.length ≤ 1000000) (d : Nat) : ∀ i : Nat, i + d = l.length → ∃ r : Int, Ev (fun k => slices_Index_string_string.l0 k l s (l.length : Int) (i : Int)) r ∧ decide (r ≥ 0) = has (l.drop i) s := by
  induction d with
  | zero =>
    intro i hi
    refine ⟨-1, ev_succ ?_, ?_⟩
    · simp only [slices_Index_string_string.l0]
      exact ev_neg (by omega) (ev_some rfl)
    · rw [List.drop_of_length_le (by omega)]; rfl
  | succ d ih =>
    intro i hi
    have hlt : i < l.length := by omega
    rw [List.drop_eq_getElem_cons hlt]
    by_cases he : l[i].toList = s.toList
    · refine ⟨i, ev_succ ?_, by rw [has_pos he]; simp⟩
      simp only [slices_Index_string_string.l0]
      refine ev_pos (by omega) (ev_pos (by omega) (ev_pos (by omega) ?_))
      rw [rdOf_at l i hlt]
      exact ev_pos he.symm (ev_some rfl)
    · obtain ⟨r, hr, h⟩ := ih (i + 1) (by omega)
      refine ⟨r, ev_succ ?_, by rw [h, has_neg he]⟩
      simp only [slices_Index_string_string.l0]
      refine ev_pos (by omega) (ev_pos (by omega) (ev_pos (by omega) ?_))
      rw [rdOf_at l i hlt]
      refine ev_neg (fun e => he e.symm) ?_
      rw [show wrap64 ((i : Int) + 1) = ((i + 1 : Nat) : Int) by rw [w64 (by omega) (by omega)]; omega]
      exact hr

theorem contains_ev (l : List ByteArray) (s : ByteArray) (hl : l.length ≤ 1000000) : Ev (fun k => slices_Contains_string_string.f k l s) (has l s) := by
  obtain ⟨r, hr, h⟩ := index_from l s hl l.length 0 (by omega)
  rw [List.drop_zero] at h
  unfold slices_Contains_string_string.f slices_Index_string_string.f
  rw [← h]
  exact Ev.bind hr (ev_some rfl)

/-! ### Names -/
def isL (c : Int) : Bool := decide (97 ≤ c ∧ c ≤ 122) || (decide (65 ≤ c ∧ c ≤ 90) || decide (c = 95))
def isD (c : Int) : Bool := decide (48 ≤ c ∧ c ≤ 57)
theorem spec_L (c : Int) : spec_letter.f c = some (isL c) := by
  unfold spec_letter.f isL
  by_cases h1 : c ≥ 97 <;> by_cases h2 : c ≤ 122 <;> by_cases h3 : c ≥ 65 <;> by_cases h4 : c ≤ 90 <;> by_cases h5 : c = 95 <;> simp [h1, h2, h3, h4, h5] <;> omega
theorem impl_L (c : Int) : impl_isLetter.f c = some (isL c) := by
  unfold impl_isLetter.f isL
  by_cases h1 : c ≥ 97 <;> by_cases h2 : c ≤ 122 <;> by_cases h3 : c ≥ 65 <;> by_cases h4 : c ≤ 90 <;> by_cases h5 : c = 95 <;> simp [h1, h2, h3, h4, h5] <;> omega
theorem spec_D (c : Int) : spec_digit.f c = some (isD c) := by
  unfold spec_digit.f isD
  by_cases h1 : c ≥ 48 <;> simp [h1] <;> omega
theorem impl_D (c : Int) : impl_isDigit.f c = some (isD c) := by
  unfold impl_isDigit.f isD
  by_cases h1 : c ≥ 48 <;> simp [h1] <;> omega

theorem L_not_D {c : Int} (h : isL c = true) : isD c = false := by
  simp only [isL, isD, Bool.or_eq_true, decide_eq_true_eq, decide_eq_false_iff_not] at h ⊢
  omega

/-- What may stand at the places from i on. -/
def restOk (s : ByteArray) (i d : Nat) : Bool := (List.range' i d).all fun j => isL (bt s j) || isD (bt s j)
def nameB (s : ByteArray) : Bool := decide (1 ≤ s.size ∧ s.size ≤ 12) && (!kwB s && (isL (bt s 0) && restOk s 1 (s.size - 1)))

theorem restOk_succ (s : ByteArray) (i d : Nat) : restOk s i (d + 1) = ((isL (bt s i) || isD (bt s i)) && restOk s (i + 1) d) := by
  simp [restOk, List.range'_succ]

theorem spec_range (a b c : Int) : spec_inRange.f a b c = some (decide (b ≤ a ∧ a ≤ c)) := by
  unfold spec_inRange.f
  by_cases h : a ≥ b
  · have : b ≤ a := h
    simp [h]
  · simp [h]

theorem spec_kwB (s : ByteArray) : Ev (fun k => spec_isKeyword.f k s) (kwB s) := by
  unfold spec_isKeyword.f
  exact ev_bind1 spec_kw (Ev.bind (isOne_ev kwL s (by decide)) (ev_some rfl))
theorem impl_kwB (s : ByteArray) : Ev (fun k => impl_IsKeyword.f k s) (kwB s) := by
  unfold impl_IsKeyword.f
  exact ev_bind1 impl_kw (Ev.bind (contains_ev kwL s (by decide)) (ev_some rfl))

theorem valid_tail (s : ByteArray) : Ev (fun k => (spec_inRange.f (s.size : Int) 1 12).bind fun t109 => (if t109 = true then ((spec_isKeyword.f k s).bind fun t110 => (some (!t110))) else (some false))) (decide (1 ≤ s.size ∧ s.size ≤ 12) && !kwB s) := by
  refine ev_bind1 (spec_range _ _ _) ?_
  by_cases h : 1 ≤ s.size ∧ s.size ≤ 12
  · refine ev_pos (by simp; omega) (Ev.bind (spec_kwB s) (ev_some (by simp [h])))
  · refine ev_neg (by simp; omega) (ev_some ?_)
    rw [decide_eq_false h]; simp

theorem valid_from (s : ByteArray) (hs : s.size ≤ 1048576) (d : Nat) : ∀ i : Nat, 0 < i → i + d = s.size →
    Ev (fun k => spec_validName.l0 k s (i : Int)) (restOk s i d && (decide (1 ≤ s.size ∧ s.size ≤ 12) && !kwB s)) := by
  induction d with
  | zero =>
    intro i h0 hi
    refine ev_succ ?_
    simp only [spec_validName.l0]
    refine ev_neg (by omega) ?_
    have e : restOk s i 0 = true := by simp [restOk]
    rw [e, Bool.true_and]
    exact valid_tail s
  | succ d ih =>
    intro i h0 hi
    have hw : wrap64 ((i : Int) + 1) = ((i + 1 : Nat) : Int) := by rw [w64 (by omega) (by omega)]; omega
    refine ev_succ ?_
    simp only [spec_validName.l0, spec_L, spec_D, Option.bind_some, hw]
    refine ev_pos (by omega) (ev_pos (by omega) ?_)
    rw [restOk_succ]
    by_cases hL : isL (bt s i) = true
    · refine ev_pos hL ?_
      rw [hL]
      simp only [Bool.true_or, Bool.true_and]
      exact ih (i + 1) (by omega) (by omega)
    · refine ev_neg hL (ev_neg (by omega) ?_)
      rw [Bool.not_eq_true] at hL
      by_cases hD : isD (bt s i) = true
      · refine ev_pos hD ?_
        rw [hL, hD]
        simp only [Bool.or_true, Bool.true_and]
        exact ih (i + 1) (by omega) (by omega)
      · refine ev_neg hD (ev_some ?_)
        rw [Bool.not_eq_true] at hD
        rw [hL, hD]; rfl

theorem spec_nameB (s : ByteArray) (hs : s.size ≤ 1048576) : Ev (fun k => spec_NameOk.f k s) (nameB s) := by
  unfold spec_NameOk.f spec_validName.f
  refine Ev.bind (a := nameB s) ?_ (ev_some rfl)
  refine ev_succ ?_
  simp only [spec_validName.l0, spec_L, spec_D, Option.bind_some]
  by_cases h : s.size = 0
  · refine ev_neg (by omega) ?_
    have e : nameB s = (decide (1 ≤ s.size ∧ s.size ≤ 12) && !kwB s) := by
      rw [nameB, decide_eq_false (by omega)]; rfl
    rw [e]
    exact valid_tail s
  · refine ev_pos (by omega) (ev_pos (by omega) ?_)
    by_cases hL : isL (bt s 0) = true
    · refine ev_pos hL ?_
      have hw : wrap64 ((0 : Int) + 1) = ((1 : Nat) : Int) := w64 (by omega) (by omega)
      rw [hw]
      have e : nameB s = (restOk s 1 (s.size - 1) && (decide (1 ≤ s.size ∧ s.size ≤ 12) && !kwB s)) := by
        rw [nameB, hL]
        cases restOk s 1 (s.size - 1) <;> cases decide (1 ≤ s.size ∧ s.size ≤ 12) <;> cases kwB s <;> rfl
      rw [e]
      exact valid_from s hs (s.size - 1) 1 (by omega) (by omega)
    · refine ev_neg hL (ev_pos trivial (ev_some ?_))
      rw [Bool.not_eq_true] at hL
      rw [nameB, hL]
      simp

theorem name_from (s : ByteArray) (hs : s.size ≤ 1048576) (d : Nat) : ∀ i : Nat, i + d = s.size → Ev (fun k => impl_NameOk.l0 k s (s.size : Int) (i : Int)) (restOk s i d) := by
  induction d with
  | zero =>
    intro i hi
    refine ev_succ ?_
    simp only [impl_NameOk.l0]
    exact ev_neg (by omega) (ev_some (by simp [restOk]))
  | succ d ih =>
    intro i hi
    have hw : wrap64 ((i : Int) + 1) = ((i + 1 : Nat) : Int) := by rw [w64 (by omega) (by omega)]; omega
    refine ev_succ ?_
    simp only [impl_NameOk.l0, impl_L, impl_D, Option.bind_some, hw]
    refine ev_pos (by omega) (ev_pos (by omega) (ev_pos (by omega) ?_))
    rw [restOk_succ]
    by_cases hL : isL (bt s i) = true
    · refine ev_pos hL ?_
      rw [hL]
      simp only [Bool.true_or, Bool.true_and]
      exact ih (i + 1) (by omega)
    · refine ev_neg hL ?_
      rw [Bool.not_eq_true] at hL
      by_cases hD : isD (bt s i) = true
      · refine ev_pos hD ?_
        rw [hL, hD]
        simp only [Bool.or_true, Bool.true_and]
        exact ih (i + 1) (by omega)
      · refine ev_neg hD (ev_some ?_)
        rw [Bool.not_eq_true] at hD
        rw [hL, hD]; rfl

theorem name_no (s : ByteArray) : Ev (fun k => impl_NameOk.j0 k s true) false := by
  refine ev_succ ?_
  simp only [impl_NameOk.j0]
  exact ev_pos trivial (ev_some rfl)

theorem impl_nameB (s : ByteArray) (hs : s.size ≤ 1048576) : Ev (fun k => impl_NameOk.f k s) (nameB s) := by
  unfold impl_NameOk.f
  by_cases h1 : s.size < 1
  · refine ev_pos (by omega) (ev_eq (name_no s) ?_)
    rw [nameB, decide_eq_false (by omega)]; rfl
  refine ev_neg (by omega) ?_
  by_cases h2 : s.size > 12
  · refine ev_pos (by omega) (ev_eq (name_no s) ?_)
    rw [nameB, decide_eq_false (by omega)]; rfl
  refine ev_neg (by omega) (ev_pos (by omega) (ev_bind1 (impl_D _) ?_))
  by_cases hD : isD (bt s 0) = true
  · refine ev_pos hD (ev_eq (name_no s) ?_)
    have hL : isL (bt s 0) = false := by
      rw [← Bool.not_eq_true]; intro h
      rw [L_not_D h] at hD; exact Bool.noConfusion hD
    rw [nameB, hL]; simp
  · refine ev_neg hD (Ev.bind (impl_kwB s) ?_)
    rw [Bool.not_eq_true] at hD
    cases hk : kwB s with
    | true => exact ev_eq (name_no s) (by rw [nameB, hk]; simp)
    | false =>
      refine ev_succ ?_
      simp only [impl_NameOk.j0]
      refine ev_neg (by simp) (ev_eq (name_from s hs s.size 0 (by omega)) ?_)
      obtain ⟨m, hm⟩ : ∃ m, s.size = m + 1 := ⟨s.size - 1, by omega⟩
      have e : restOk s 0 s.size = (isL (bt s 0) && restOk s 1 m) := by
        rw [hm, restOk_succ]
        have : isD (bt s (0 : Nat)) = false := hD
        rw [this, Bool.or_false]; rfl
      rw [e, nameB, hk, decide_eq_true (by omega), hm]
      simp

theorem FnExactNameOk : laws_FnExactNameOk.Pure := by
  intro s _
  refine Ev.rounds ?_
  unfold laws_FnExactNameOk.f
  by_cases hl : (s.size : Int) > 1048576
  · exact ev_pos hl (ev_some rfl)
  exact ev_neg hl (Ev.bind (spec_nameB s (by omega)) (Ev.bind (impl_nameB s (by omega)) (ev_some (by simp))))

end Go.Proofs.Ytlhhffkdhdaonab.Pure
