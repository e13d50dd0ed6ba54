/- FnExactNameIn: the program tells what a name is in a scope as the reference does. -/
import Derived.Test.YtppbnfoagbipaahXFnExactNameInx5
namespace Go.Proofs.Ytppbnfoagbipaah.Pure
open Go.RowKit Go.Proofs.Ytppbnfoagbipaah.XFnExactNameIn Go.Proofs.YtppbnfoagbipaahW.PrintWords Go.Proofs.YtppbnfoagbipaahW.PrintLast Go.Proofs.YtppbnfoagbipaahW.PrintMore
set_option linter.unusedVariables false
set_option linter.unusedSimpArgs false

/-! ### Rounds, and words of 64 bits -/
theorem ev_succ {α : Type} {g : Nat → Option α} {r : α} (h : Ev (fun k => g (k + 1)) r) : Ev g r := Ev.step (fun _ => rfl) h
theorem ev_some {α : Type} {o : Option α} {r : α} (h : o = some r) : Ev (fun _ => o) r := ⟨0, fun _ _ => h⟩
theorem ev_pos {α : Type} {c : Prop} [Decidable c] {A B : Nat → Option α} {r : α} (h : c) (k : Ev A r) : Ev (fun n => if c then A n else B n) r :=
  Ev.congr (fun _ => if_pos h) k
theorem ev_neg {α : Type} {c : Prop} [Decidable c] {A B : Nat → Option α} {r : α} (h : ¬ c) (k : Ev B r) : Ev (fun n => if c then A n else B n) r :=
  Ev.congr (fun _ => if_neg h) k
theorem ev_eq {α : Type} {g : Nat → Option α} {r s : α} (h : Ev g r) (e : r = s) : Ev g s := e ▸ h
theorem ev_bind1 {α β : Type} {o : Option α} {f : Nat → α → Option β} {a : α} {r : β} (h : o = some a) (k : Ev (fun n => f n a) r) : Ev (fun n => o.bind (f n)) r :=
  Ev.bind (ev_some h) k
theorem ev_det {α : Type} {g : Nat → Option α} {r s : α} (h : Ev g r) (k : Ev g s) : r = s := by
  obtain ⟨K, h⟩ := h
  obtain ⟨L, k⟩ := k
  have h1 := h (max K L) (by omega)
  have h2 := k (max K L) (by omega)
  rw [h1] at h2
  exact Option.some.inj h2
theorem w64 {n : Int} (h : -9223372036854775808 ≤ n) (h' : n ≤ 9223372036854775807) : wrap64 n = n := by unfold wrap64; omega
theorem byte_of {l : List Int} (h : ∀ x ∈ l, (Lit.int .u8 x).wf = true) (i : Int) : 0 ≤ rd l i ∧ rd l i ≤ 255 := by
  unfold rd
  by_cases hi : i.toNat < l.length
  · have hm : l.getD i.toNat 0 ∈ l := by
      rw [List.getD_eq_getElem?_getD, List.getElem?_eq_getElem hi]
      exact List.getElem_mem hi
    have := h _ hm
    have m0 : IntKind.u8.min = 0 := by decide
    have m1 : IntKind.u8.max = 255 := by decide
    simp only [Lit.wf, m0, m1, Bool.and_eq_true, decide_eq_true_eq] at this
    exact this
  · rw [List.getD_eq_getElem?_getD, List.getElem?_eq_none (by omega)]
    simp

/-! ### Words in a list of texts; keywords -/
def has (l : List ByteArray) (s : ByteArray) : Bool := l.any fun x => x.toList == s.toList
def kwL : List ByteArray := (spec_keywords.f).getD []
def kwB (s : ByteArray) : Bool := has kwL s
theorem spec_kw : spec_keywords.f = some kwL := rfl
theorem impl_kw : impl_keywords.f = some kwL := rfl

theorem has_pos {l : List ByteArray} {x s : ByteArray} (h : x.toList = s.toList) : has (x :: l) s = true := by simp [has, h]
theorem has_neg {l : List ByteArray} {x s : ByteArray} (h : ¬ x.toList = s.toList) : has (x :: l) s = has l s := by simp [has, h]
theorem rdOf_at (l : List ByteArray) (i : Nat) (h : i < l.length) : rdOf ByteArray.empty l (i : Int) = l[i] := by
  unfold rdOf
  simp [List.getD_eq_getElem?_getD, h]

theorem isOne_from (l : List ByteArray) (s : ByteArray) (hl : l.length ≤ 1048576) (d : Nat) : ∀ i : Nat, i + d = l.length → Ev (fun k => spec_isOne.l0 k l s (i : Int)) (has (l.drop i) s) := by
  induction d with
  | zero =>
    intro i hi
    refine ev_succ ?_
    simp only [spec_isOne.l0]
    refine ev_neg (by omega) (ev_some ?_)
    rw [List.drop_of_length_le (by omega)]; rfl
  | succ d ih =>
    intro i hi
    refine ev_succ ?_
    simp only [spec_isOne.l0]
    refine ev_pos (by omega) (ev_pos (by omega) ?_)
    have hlt : i < l.length := by omega
    rw [rdOf_at l i hlt, List.drop_eq_getElem_cons hlt]
    by_cases he : l[i].toList = s.toList
    · exact ev_pos he (ev_some (by rw [has_pos he]))
    · refine ev_neg he ?_
      rw [show wrap64 ((i : Int) + 1) = ((i + 1 : Nat) : Int) by rw [w64 (by omega) (by omega)]; omega]
      rw [has_neg he]
      exact ih (i + 1) (by omega)

theorem isOne_ev (l : List ByteArray) (s : ByteArray) (hl : l.length ≤ 1048576) : Ev (fun k => spec_isOne.f k l s) (has l s) := by
  have := isOne_from l s hl l.length 0 (by omega)
  simpa [spec_isOne.f] using this

theorem index_from (l : List ByteArray) (s : ByteArray) (hl : l.length ≤ 1048576) (d : Nat) : ∀ i : Nat, i + d = l.length → ∃ r : Int, Ev (fun k => slices_Index_string_string.l0 k l s (l.length : Int) (i : Int)) r ∧ decide (r ≥ 0) = has (l.drop i) s := by
  induction d with
  | zero =>
    intro i hi
    refine ⟨-1, ev_succ ?_, ?_⟩
    · simp only [slices_Index_string_string.l0]
      exact ev_neg (by omega) (ev_some rfl)
    · rw [List.drop_of_length_le (by omega)]; rfl
  | succ d ih =>
    intro i hi
    have hlt : i < l.length := by omega
    rw [List.drop_eq_getElem_cons hlt]
    by_cases he : l[i].toList = s.toList
    · refine ⟨i, ev_succ ?_, by rw [has_pos he]; simp⟩
      simp only [slices_Index_string_string.l0]
      refine ev_pos (by omega) (ev_pos (by omega) (ev_pos (by omega) ?_))
      rw [rdOf_at l i hlt]
      exact ev_pos he.symm (ev_some rfl)
    · obtain ⟨r, hr, h⟩ := ih (i + 1) (by omega)
      refine ⟨r, ev_succ ?_, by rw [h, has_neg he]⟩
      simp only [slices_Index_string_string.l0]
      refine ev_pos (by omega) (ev_pos (by omega) (ev_pos (by omega) ?_))
      rw [rdOf_at l i hlt]
      refine ev_neg (fun e => he e.symm) ?_
      rw [show wrap64 ((i : Int) + 1) = ((i + 1 : Nat) : Int) by rw [w64 (by omega) (by omega)]; omega]
      exact hr

theorem contains_ev (l : List ByteArray) (s : ByteArray) (hl : l.length ≤ 1048576) : Ev (fun k => slices_Contains_string_string.f k l s) (has l s) := by
  obtain ⟨r, hr, h⟩ := index_from l s hl l.length 0 (by omega)
  rw [List.drop_zero] at h
  unfold slices_Contains_string_string.f slices_Index_string_string.f
  rw [← h]
  exact Ev.bind hr (ev_some rfl)

/-! ### Names -/
def isL (c : Int) : Bool := decide (97 ≤ c ∧ c ≤ 122) || (decide (65 ≤ c ∧ c ≤ 90) || decide (c = 95))
def isD (c : Int) : Bool := decide (48 ≤ c ∧ c ≤ 57)
theorem L_not_D {c : Int} (h : isL c = true) : isD c = false := by
  simp only [isL, isD, Bool.or_eq_true, decide_eq_true_eq, decide_eq_false_iff_not] at h ⊢
  omega

/-- What may stand at the places from i on. -/
def restOk (s : ByteArray) (i d : Nat) : Bool := (List.range' i d).all fun j => isL (bt s j) || isD (bt s j)
def nameB (s : ByteArray) : Bool := decide (1 ≤ s.size ∧ s.size ≤ 12) && (!kwB s && (isL (bt s 0) && restOk s 1 (s.size - 1)))

theorem restOk_succ (s : ByteArray) (i d : Nat) : restOk s i (d + 1) = ((isL (bt s i) || isD (bt s i)) && restOk s (i + 1) d) := by
  simp [restOk, List.range'_succ]

theorem spec_kwB (s : ByteArray) : Ev (fun k => spec_isKeyword.f k s) (kwB s) := by
  unfold spec_isKeyword.f
  exact ev_bind1 spec_kw (Ev.bind (isOne_ev kwL s (by decide)) (ev_some rfl))
theorem spec_L (c : Int) : spec_letter.f c = some (isL c) := by
  unfold spec_letter.f isL
  by_cases h1 : c ≥ 97 <;> by_cases h2 : c ≤ 122 <;> by_cases h3 : c ≥ 65 <;> by_cases h4 : c ≤ 90 <;> by_cases h5 : c = 95 <;> simp [h1, h2, h3, h4, h5] <;> omega
theorem spec_D (c : Int) : spec_digit.f c = some (isD c) := by
  unfold spec_digit.f isD
  by_cases h1 : c ≥ 48 <;> simp [h1] <;> omega
theorem spec_range (a b c : Int) : spec_inRange.f a b c = some (decide (b ≤ a ∧ a ≤ c)) := by
  unfold spec_inRange.f
  by_cases h : a ≥ b
  · have : b ≤ a := h
    simp [h]
  · simp [h]

theorem valid_tail (s : ByteArray) : Ev (fun k => (spec_inRange.f (s.size : Int) 1 12).bind fun t109 => (if t109 = true then ((spec_isKeyword.f k s).bind fun t110 => (some (!t110))) else (some false))) (decide (1 ≤ s.size ∧ s.size ≤ 12) && !kwB s) := by
  refine ev_bind1 (spec_range _ _ _) ?_
  by_cases h : 1 ≤ s.size ∧ s.size ≤ 12
  · refine ev_pos (by simp; omega) (Ev.bind (spec_kwB s) (ev_some (by simp [h])))
  · refine ev_neg (by simp; omega) (ev_some ?_)
    rw [decide_eq_false h]; simp

theorem valid_from (s : ByteArray) (hs : s.size ≤ 1048576) (d : Nat) : ∀ i : Nat, 0 < i → i + d = s.size →
    Ev (fun k => spec_validName.l0 k s (i : Int)) (restOk s i d && (decide (1 ≤ s.size ∧ s.size ≤ 12) && !kwB s)) := by
  induction d with
  | zero =>
    intro i h0 hi
    refine ev_succ ?_
    simp only [spec_validName.l0]
    refine ev_neg (by omega) ?_
    have e : restOk s i 0 = true := by simp [restOk]
    rw [e, Bool.true_and]
    exact valid_tail s
  | succ d ih =>
    intro i h0 hi
    have hw : wrap64 ((i : Int) + 1) = ((i + 1 : Nat) : Int) := by rw [w64 (by omega) (by omega)]; omega
    refine ev_succ ?_
    simp only [spec_validName.l0, spec_L, spec_D, Option.bind_some, hw]
    refine ev_pos (by omega) (ev_pos (by omega) ?_)
    rw [restOk_succ]
    by_cases hL : isL (bt s i) = true
    · refine ev_pos hL ?_
      rw [hL]
      simp only [Bool.true_or, Bool.true_and]
      exact ih (i + 1) (by omega) (by omega)
    · refine ev_neg hL (ev_neg (by omega) ?_)
      rw [Bool.not_eq_true] at hL
      by_cases hD : isD (bt s i) = true
      · refine ev_pos hD ?_
        rw [hL, hD]
        simp only [Bool.or_true, Bool.true_and]
        exact ih (i + 1) (by omega) (by omega)
      · refine ev_neg hD (ev_some ?_)
        rw [Bool.not_eq_true] at hD
        rw [hL, hD]; rfl

theorem valid_name (s : ByteArray) (hs : s.size ≤ 1048576) : Ev (fun k => spec_validName.f k s) (nameB s) := by
  unfold spec_validName.f
  refine ev_succ ?_
  simp only [spec_validName.l0, spec_L, spec_D, Option.bind_some]
  by_cases h : s.size = 0
  · refine ev_neg (by omega) ?_
    have e : nameB s = (decide (1 ≤ s.size ∧ s.size ≤ 12) && !kwB s) := by
      rw [nameB, decide_eq_false (by omega)]; rfl
    rw [e]
    exact valid_tail s
  · refine ev_pos (by omega) (ev_pos (by omega) ?_)
    by_cases hL : isL (bt s 0) = true
    · refine ev_pos hL ?_
      have hw : wrap64 ((0 : Int) + 1) = ((1 : Nat) : Int) := w64 (by omega) (by omega)
      rw [hw]
      have e : nameB s = (restOk s 1 (s.size - 1) && (decide (1 ≤ s.size ∧ s.size ≤ 12) && !kwB s)) := by
        rw [nameB, hL]
        cases restOk s 1 (s.size - 1) <;> cases decide (1 ≤ s.size ∧ s.size ≤ 12) <;> cases kwB s <;> rfl
      rw [e]
      exact valid_from s hs (s.size - 1) 1 (by omega) (by omega)
    · refine ev_neg hL (ev_pos trivial (ev_some ?_))
      rw [Bool.not_eq_true] at hL
      rw [nameB, hL]
      simp

theorem impl_L (c : Int) : impl_isLetter.f c = some (isL c) := by
  unfold impl_isLetter.f isL
  by_cases h1 : c ≥ 97 <;> by_cases h2 : c ≤ 122 <;> by_cases h3 : c ≥ 65 <;> by_cases h4 : c ≤ 90 <;> by_cases h5 : c = 95 <;> simp [h1, h2, h3, h4, h5] <;> omega
theorem impl_D (c : Int) : impl_isDigit.f c = some (isD c) := by
  unfold impl_isDigit.f isD
  by_cases h1 : c ≥ 48 <;> simp [h1] <;> omega

theorem impl_kwB (s : ByteArray) : Ev (fun k => impl_IsKeyword.f k s) (kwB s) := by
  unfold impl_IsKeyword.f
  exact ev_bind1 impl_kw (Ev.bind (contains_ev kwL s (by decide)) (ev_some rfl))

theorem name_from (s : ByteArray) (hs : s.size ≤ 1048576) (d : Nat) : ∀ i : Nat, i + d = s.size → Ev (fun k => impl_NameOk.l0 k s (s.size : Int) (i : Int)) (restOk s i d) := by
  induction d with
  | zero =>
    intro i hi
    refine ev_succ ?_
    simp only [impl_NameOk.l0]
    exact ev_neg (by omega) (ev_some (by simp [restOk]))
  | succ d ih =>
    intro i hi
    have hw : wrap64 ((i : Int) + 1) = ((i + 1 : Nat) : Int) := by rw [w64 (by omega) (by omega)]; omega
    refine ev_succ ?_
    simp only [impl_NameOk.l0, impl_L, impl_D, Option.bind_some, hw]
    refine ev_pos (by omega) (ev_pos (by omega) (ev_pos (by omega) ?_))
    rw [restOk_succ]
    by_cases hL : isL (bt s i) = true
    · refine ev_pos hL ?_
      rw [hL]
      simp only [Bool.true_or, Bool.true_and]
      exact ih (i + 1) (by omega)
    · refine ev_neg hL ?_
      rw [Bool.not_eq_true] at hL
      by_cases hD : isD (bt s i) = true
      · refine ev_pos hD ?_
        rw [hL, hD]
        simp only [Bool.or_true, Bool.true_and]
        exact ih (i + 1) (by omega)
      · refine ev_neg hD (ev_some ?_)
        rw [Bool.not_eq_true] at hD
        rw [hL, hD]; rfl

theorem name_no (s : ByteArray) : Ev (fun k => impl_NameOk.j0 k s true) false := by
  refine ev_succ ?_
  simp only [impl_NameOk.j0]
  exact ev_pos trivial (ev_some rfl)

theorem impl_nameB (s : ByteArray) (hs : s.size ≤ 1048576) : Ev (fun k => impl_NameOk.f k s) (nameB s) := by
  unfold impl_NameOk.f
  by_cases h1 : s.size < 1
  · refine ev_pos (by omega) (ev_eq (name_no s) ?_)
    rw [nameB, decide_eq_false (by omega)]; rfl
  refine ev_neg (by omega) ?_
  by_cases h2 : s.size > 12
  · refine ev_pos (by omega) (ev_eq (name_no s) ?_)
    rw [nameB, decide_eq_false (by omega)]; rfl
  refine ev_neg (by omega) (ev_pos (by omega) (ev_bind1 (impl_D _) ?_))
  by_cases hD : isD (bt s 0) = true
  · refine ev_pos hD (ev_eq (name_no s) ?_)
    have hL : isL (bt s 0) = false := by
      rw [← Bool.not_eq_true]; intro h
      rw [L_not_D h] at hD; exact Bool.noConfusion hD
    rw [nameB, hL]; simp
  · refine ev_neg hD (Ev.bind (impl_kwB s) ?_)
    rw [Bool.not_eq_true] at hD
    cases hk : kwB s with
    | true => exact ev_eq (name_no s) (by rw [nameB, hk]; simp)
    | false =>
      refine ev_succ ?_
      simp only [impl_NameOk.j0]
      refine ev_neg (by simp) (ev_eq (name_from s hs s.size 0 (by omega)) ?_)
      obtain ⟨m, hm⟩ : ∃ m, s.size = m + 1 := ⟨s.size - 1, by omega⟩
      have e : restOk s 0 s.size = (isL (bt s 0) && restOk s 1 m) := by
        rw [hm, restOk_succ]
        have : isD (bt s (0 : Nat)) = false := hD
        rw [this, Bool.or_false]; rfl
      rw [e, nameB, hk, decide_eq_true (by omega), hm]
      simp

/-! ### Lists of texts: how long, copied, compared -/
theorem szStr_from (l : List ByteArray) (hl : l.length ≤ 1048576) (hr : ∀ r ∈ l, r.size ≤ 9223372036854775807) (d : Nat) : ∀ (i : Nat) (a : Int), i + d = l.length → 0 ≤ a ∧ a ≤ 1048576 →
    ∃ r, Ev (fun k => laws_szStringS.l0 k l a (i : Int)) r ∧ r ≤ a ∧ (0 ≤ r → ∀ x ∈ l.drop i, x.size ≤ 1048576) := by
  induction d with
  | zero =>
    intro i a hi ha
    refine ⟨a, ev_succ ?_, by omega, fun _ => by rw [List.drop_of_length_le (by omega)]; simp⟩
    simp only [laws_szStringS.l0]
    exact ev_neg (by omega) (ev_some rfl)
  | succ d ih =>
    intro i a hi ha
    have hlt : i < l.length := by omega
    have hlr := hr _ (List.getElem_mem hlt)
    have hw : wrap64 (a - (l[i].size : Int)) = a - l[i].size := w64 (by omega) (by omega)
    have hn : wrap64 ((i : Int) + 1) = ((i + 1 : Nat) : Int) := by rw [w64 (by omega) (by omega)]; omega
    by_cases h : a - (l[i].size : Int) < 0
    · refine ⟨-1, ev_succ ?_, by omega, fun h0 => absurd h0 (by omega)⟩
      simp only [laws_szStringS.l0]
      rw [rdOf_at l i hlt, hw]
      exact ev_pos (by omega) (ev_pos (by omega) (ev_pos h (ev_some rfl)))
    · obtain ⟨r, hr', hra, hx⟩ := ih (i + 1) (a - l[i].size) (by omega) (by omega)
      refine ⟨r, ev_succ ?_, by omega, fun h0 => ?_⟩
      · simp only [laws_szStringS.l0]
        rw [rdOf_at l i hlt, hw, hn]
        exact ev_pos (by omega) (ev_pos (by omega) (ev_neg h hr'))
      · rw [List.drop_eq_getElem_cons hlt]
        intro x hm
        rcases List.mem_cons.1 hm with rfl | hm
        · omega
        · exact hx h0 x hm
theorem szStr_ev (l : List ByteArray) (a : Int) (ha : 0 ≤ a ∧ a ≤ 1048576) (hl : l.length ≤ 9223372036854775807) (hr : ∀ r ∈ l, r.size ≤ 9223372036854775807) :
    ∃ r, Ev (fun k => laws_szStringS.f k l a) r ∧ r ≤ a ∧ (0 ≤ r → l.length ≤ 1048576 ∧ ∀ x ∈ l, x.size ≤ 1048576) := by
  have hw : wrap64 (a - (l.length : Int)) = a - l.length := w64 (by omega) (by omega)
  by_cases h : a - (l.length : Int) < 0
  · refine ⟨-1, ?_, by omega, fun h0 => absurd h0 (by omega)⟩
    unfold laws_szStringS.f
    rw [hw]
    exact ev_pos h (ev_some rfl)
  · obtain ⟨r, e, hra, hx⟩ := szStr_from l (by omega) hr l.length 0 (a - l.length) (by omega) (by omega)
    refine ⟨r, ?_, by omega, fun h0 => ⟨by omega, hx h0⟩⟩
    unfold laws_szStringS.f
    rw [hw]
    exact ev_neg h e
theorem toStr_from (l : List ByteArray) (hl : l.length ≤ 1048576) (d : Nat) : ∀ (i : Nat) (x : List ByteArray), i + d = l.length → x.length = l.length → x.take i = l.take i → Ev (fun k => laws_toStringS.l0 k l x (i : Int)) l := by
  induction d with
  | zero =>
    intro i x hi hx ht
    refine ev_succ ?_
    simp only [laws_toStringS.l0]
    refine ev_neg (by omega) (ev_some ?_)
    rw [List.take_of_length_le (by omega), List.take_of_length_le (by omega)] at ht
    rw [ht]
  | succ d ih =>
    intro i x hi hx ht
    have hlt : i < l.length := by omega
    have hn : wrap64 ((i : Int) + 1) = ((i + 1 : Nat) : Int) := by rw [w64 (by omega) (by omega)]; omega
    refine ev_succ ?_
    simp only [laws_toStringS.l0]
    rw [rdOf_at l i hlt, hn]
    refine ev_pos (by omega) (ev_pos (by omega) (ev_pos (by omega) ?_))
    refine ih (i + 1) _ (by omega) (by simp [hx]) ?_
    have hi' : i < x.length := by omega
    rw [List.take_succ_eq_append_getElem (by simp; omega), List.take_succ_eq_append_getElem (by omega)]
    simp only [Int.toNat_natCast, List.getElem_set_self]
    rw [List.take_set_of_le (Nat.le_refl i), ht]
theorem toStr_ev (l : List ByteArray) (hl : l.length ≤ 1048576) : Ev (fun k => laws_toStringS.f k l) l := by
  unfold laws_toStringS.f
  refine ev_pos (by omega) (ev_pos (by simp; omega) ?_)
  exact toStr_from l hl l.length 0 _ (by omega) (by simp) (by simp)
theorem eqStr_from (l : List ByteArray) (hl : l.length ≤ 1048576) (d : Nat) : ∀ (i : Nat), i + d = l.length → Ev (fun k => laws_eqStringS.l0 k l l (i : Int)) true := by
  induction d with
  | zero =>
    intro i hi
    refine ev_succ ?_
    simp only [laws_eqStringS.l0]
    exact ev_neg (by omega) (ev_some rfl)
  | succ d ih =>
    intro i hi
    have hn : wrap64 ((i : Int) + 1) = ((i + 1 : Nat) : Int) := by rw [w64 (by omega) (by omega)]; omega
    refine ev_succ ?_
    simp only [laws_eqStringS.l0]
    rw [hn]
    exact ev_pos (by omega) (ev_pos (by omega) (ev_pos (by omega) (ev_pos trivial (ih (i + 1) (by omega)))))
theorem eqStr_ev (l : List ByteArray) (hl : l.length ≤ 1048576) : Ev (fun k => laws_eqStringS.f k l l) true := by
  unfold laws_eqStringS.f
  exact ev_pos rfl (eqStr_from l hl l.length 0 (by omega))

def nameInR (kind : Int) (locals cells frees : List ByteArray) (s : ByteArray) : Int :=
  if nameB s = true then (if kind = 3 ∧ has locals s = true then 5 else if has frees s = true then 3 else if has cells s = true then 2 else if has locals s = true then (if kind = 1 then 4 else 1) else 4) else 0

section
variable (kind : Int) (nm : ByteArray) (up : Int) (ps ls cs fs gs : List ByteArray) (y : Bool) (s : ByteArray)
variable (hs : s.size ≤ 1048576) (h1 : ls.length ≤ 1048576) (h2 : cs.length ≤ 1048576) (h3 : fs.length ≤ 1048576)
include hs h1 h2 h3
theorem kindIn_ev : Ev (fun k => spec_kindIn.f k kind nm up ps ls cs fs gs y s) (if has fs s = true then 3 else if has cs s = true then 2 else if has ls s = true then (if kind = 1 then 4 else if kind = 3 then 5 else 1) else 4) := by
  have _ := hs
  unfold spec_kindIn.f
  refine Ev.bind (isOne_ev fs s h3) ?_
  cases has fs s with
  | true => exact ev_pos rfl (ev_some (by simp))
  | false =>
    refine ev_neg (by simp) (Ev.bind (isOne_ev cs s h2) ?_)
    cases has cs s with
    | true => exact ev_pos rfl (ev_some (by simp))
    | false =>
      refine ev_neg (by simp) (Ev.bind (isOne_ev ls s h1) ?_)
      cases has ls s with
      | true =>
        refine ev_pos rfl (ev_succ ?_)
        simp only [spec_kindIn.j0]
        by_cases hk : kind = 1
        · exact ev_pos (by simp [hk]) (ev_some (by simp [hk]))
        · refine ev_neg (by simp [hk]) ?_
          by_cases h3 : kind = 3
          · exact ev_pos h3 (ev_some (by simp [h3]))
          · exact ev_neg h3 (ev_some (by simp [hk, h3]))
      | false =>
        refine ev_neg (by simp) (ev_succ ?_)
        simp only [spec_kindIn.j0]
        exact ev_pos trivial (ev_some (by simp))
theorem spec_nameIn_ev : Ev (fun k => spec_NameIn.f k kind nm up ps ls cs fs gs y s) (nameInR kind ls cs fs s) := by
  have K := kindIn_ev kind nm up ps ls cs fs gs y s hs h1 h2 h3
  unfold spec_NameIn.f nameInR
  refine Ev.bind (valid_name s hs) ?_
  cases nameB s with
  | false => exact ev_neg (by simp) (ev_some (by simp))
  | true =>
    refine ev_pos rfl ?_
    by_cases hk : kind = 3
    · refine ev_pos hk (Ev.bind (isOne_ev ls s h1) ?_)
      cases hh : has ls s with
      | true => exact ev_pos rfl (ev_some (by simp [hk]))
      | false =>
        rw [hh] at K
        exact ev_neg (by simp) (Ev.bind K (ev_some (by simp)))
    · exact ev_neg hk (Ev.bind K (ev_some (by simp [hk])))
theorem nameIn_rest (b : Bool) (hb : b = decide (kind = 3 ∧ has ls s = true)) : Ev (fun k => impl_NameIn.j0 k s b kind nm up ps ls cs fs gs y) (if kind = 3 ∧ has ls s = true then 5 else if has fs s = true then 3 else if has cs s = true then 2 else if has ls s = true then (if kind = 1 then 4 else 1) else 4) := by
  have _ := hs
  refine ev_succ ?_
  simp only [impl_NameIn.j0]
  by_cases h5 : kind = 3 ∧ has ls s = true
  · exact ev_pos (by rw [hb]; exact decide_eq_true h5) (ev_some (by rw [if_pos h5]))
  · rw [if_neg h5]
    refine ev_neg (by rw [hb]; simpa using h5) (Ev.bind (contains_ev fs s h3) ?_)
    cases has fs s with
    | true => exact ev_pos rfl (ev_some (by simp))
    | false =>
      refine ev_neg (by simp) (Ev.bind (contains_ev cs s h2) ?_)
      cases has cs s with
      | true => exact ev_pos rfl (ev_some (by simp))
      | false =>
        refine ev_neg (by simp) (Ev.bind (contains_ev ls s h1) ?_)
        cases has ls s with
        | true =>
          refine ev_pos rfl ?_
          by_cases hk : kind = 1
          · exact ev_pos hk (ev_some (by simp [hk]))
          · exact ev_neg hk (ev_some (by simp [hk]))
        | false => exact ev_neg (by simp) (ev_some (by simp))
theorem impl_nameIn_ev : Ev (fun k => impl_NameIn.f k kind nm up ps ls cs fs gs y s) (nameInR kind ls cs fs s) := by
  unfold impl_NameIn.f nameInR
  refine Ev.bind (impl_nameB s hs) ?_
  cases nameB s with
  | false => exact ev_neg (by simp) (ev_some (by simp))
  | true =>
    refine ev_pos rfl ?_
    rw [if_pos rfl]
    by_cases hk : kind = 3
    · exact ev_pos hk (Ev.bind (contains_ev ls s h1) (nameIn_rest kind nm up ps ls cs fs gs y s hs h1 h2 h3 _ (by simp [hk])))
    · exact ev_neg hk (nameIn_rest kind nm up ps ls cs fs gs y s hs h1 h2 h3 _ (by simp [hk]))
end

theorem FnExactNameIn (kind : Int) (nm : ByteArray) (up : Int) (ps ls cs fs gs : List ByteArray) (y : Bool) (s : ByteArray) (hn : nm.size ≤ 9223372036854775807)
    (a1 : ps.length ≤ 9223372036854775807) (b1 : ∀ x ∈ ps, x.size ≤ 9223372036854775807) (a2 : ls.length ≤ 9223372036854775807) (b2 : ∀ x ∈ ls, x.size ≤ 9223372036854775807)
    (a3 : cs.length ≤ 9223372036854775807) (b3 : ∀ x ∈ cs, x.size ≤ 9223372036854775807) (a4 : fs.length ≤ 9223372036854775807) (b4 : ∀ x ∈ fs, x.size ≤ 9223372036854775807)
    (a5 : gs.length ≤ 9223372036854775807) (b5 : ∀ x ∈ gs, x.size ≤ 9223372036854775807) : ∃ k, laws_FnExactNameIn.f k kind nm up ps ls cs fs gs y s = some true := by
  refine Ev.rounds ?_
  unfold laws_FnExactNameIn.f
  by_cases hl : (s.size : Int) > 1048576
  · exact ev_pos hl (ev_some rfl)
  refine ev_neg hl ?_
  have hw : wrap64 (1048576 - (nm.size : Int)) = 1048576 - nm.size := w64 (by omega) (by omega)
  have Z : ∃ z, Ev (fun k => laws_szScope.f k kind nm up ps ls cs fs gs y 1048576) z ∧ (0 ≤ z → ps.length ≤ 1048576 ∧ ls.length ≤ 1048576 ∧ cs.length ≤ 1048576 ∧ fs.length ≤ 1048576 ∧ gs.length ≤ 1048576) := by
    unfold laws_szScope.f
    rw [hw]
    by_cases h0 : 1048576 - (nm.size : Int) < 0
    · exact ⟨-1, ev_pos h0 (ev_some rfl), fun h => absurd h (by omega)⟩
    obtain ⟨z1, Z1, u1, v1⟩ := szStr_ev ps (1048576 - nm.size) (by omega) a1 b1
    by_cases c1 : z1 < 0
    · exact ⟨-1, ev_neg h0 (Ev.bind Z1 (ev_pos c1 (ev_some rfl))), fun h => absurd h (by omega)⟩
    obtain ⟨z2, Z2, u2, v2⟩ := szStr_ev ls z1 (by omega) a2 b2
    by_cases c2 : z2 < 0
    · exact ⟨-1, ev_neg h0 (Ev.bind Z1 (ev_neg c1 (Ev.bind Z2 (ev_pos c2 (ev_some rfl))))), fun h => absurd h (by omega)⟩
    obtain ⟨z3, Z3, u3, v3⟩ := szStr_ev cs z2 (by omega) a3 b3
    by_cases c3 : z3 < 0
    · exact ⟨-1, ev_neg h0 (Ev.bind Z1 (ev_neg c1 (Ev.bind Z2 (ev_neg c2 (Ev.bind Z3 (ev_pos c3 (ev_some rfl))))))), fun h => absurd h (by omega)⟩
    obtain ⟨z4, Z4, u4, v4⟩ := szStr_ev fs z3 (by omega) a4 b4
    by_cases c4 : z4 < 0
    · exact ⟨-1, ev_neg h0 (Ev.bind Z1 (ev_neg c1 (Ev.bind Z2 (ev_neg c2 (Ev.bind Z3 (ev_neg c3 (Ev.bind Z4 (ev_pos c4 (ev_some rfl))))))))), fun h => absurd h (by omega)⟩
    obtain ⟨z5, Z5, u5, v5⟩ := szStr_ev gs z4 (by omega) a5 b5
    by_cases c5 : z5 < 0
    · exact ⟨-1, ev_neg h0 (Ev.bind Z1 (ev_neg c1 (Ev.bind Z2 (ev_neg c2 (Ev.bind Z3 (ev_neg c3 (Ev.bind Z4 (ev_neg c4 (Ev.bind Z5 (ev_pos c5 (ev_some rfl))))))))))), fun h => absurd h (by omega)⟩
    · exact ⟨z5, ev_neg h0 (Ev.bind Z1 (ev_neg c1 (Ev.bind Z2 (ev_neg c2 (Ev.bind Z3 (ev_neg c3 (Ev.bind Z4 (ev_neg c4 (Ev.bind Z5 (ev_neg c5 (ev_some rfl))))))))))), fun _ => ⟨(v1 (by omega)).1, (v2 (by omega)).1, (v3 (by omega)).1, (v4 (by omega)).1, (v5 (by omega)).1⟩⟩
  obtain ⟨z, Z, hz⟩ := Z
  refine Ev.bind Z ?_
  by_cases h0 : z < 0
  · exact ev_pos h0 (ev_some rfl)
  refine ev_neg h0 ?_
  obtain ⟨n1, n2, n3, n4, n5⟩ := hz (by omega)
  have T : Ev (fun k => laws_toScope.f k kind nm up ps ls cs fs gs y) (kind, nm, up, ps, ls, cs, fs, gs, y) := by
    unfold laws_toScope.f
    exact Ev.bind (toStr_ev ps n1) (Ev.bind (toStr_ev ls n2) (Ev.bind (toStr_ev cs n3) (Ev.bind (toStr_ev fs n4) (Ev.bind (toStr_ev gs n5) (ev_some rfl)))))
  have E : Ev (fun k => laws_eqScope.f k kind nm up ps ls cs fs gs y kind nm up ps ls cs fs gs y) true := by
    unfold laws_eqScope.f
    exact ev_pos rfl (ev_pos rfl (ev_pos rfl (Ev.bind (eqStr_ev ps n1) (ev_pos rfl (Ev.bind (eqStr_ev ls n2) (ev_pos rfl (Ev.bind (eqStr_ev cs n3) (ev_pos rfl (Ev.bind (eqStr_ev fs n4) (ev_pos rfl (Ev.bind (eqStr_ev gs n5) (ev_pos rfl (ev_some (by simp))))))))))))))
  have hs : s.size ≤ 1048576 := by omega
  refine Ev.bind T ?_
  dsimp only
  refine Ev.bind (spec_nameIn_ev kind nm up ps ls cs fs gs y s hs n2 n3 n4) (Ev.bind T ?_)
  dsimp only
  refine Ev.bind (impl_nameIn_ev kind nm up ps ls cs fs gs y s hs n2 n3 n4) (ev_pos rfl (Ev.bind T ?_))
  dsimp only
  exact Ev.bind E (ev_pos rfl (ev_some rfl))

end Go.Proofs.Ytppbnfoagbipaah.Pure
