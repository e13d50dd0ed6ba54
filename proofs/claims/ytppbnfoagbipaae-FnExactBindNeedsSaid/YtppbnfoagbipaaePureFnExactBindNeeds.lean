/- FnExactBindNeeds: the program tells how many parameters have no default as the reference does. -/
import Derived.Test.YtppbnfoagbipaaeXFnExactBindNeedsx5
namespace Go.Proofs.Ytppbnfoagbipaae.Pure
open Go.RowKit Go.Proofs.Ytppbnfoagbipaae.XFnExactBindNeeds Go.Proofs.YtppbnfoagbipaaeW.PrintWords Go.Proofs.YtppbnfoagbipaaeW.PrintLast Go.Proofs.YtppbnfoagbipaaeW.PrintMore
set_option linter.unusedVariables false
set_option linter.unusedSimpArgs false

/-! ### Rounds, and words of 64 bits -/
theorem ev_succ {α : Type} {g : Nat → Option α} {r : α} (h : Ev (fun k => g (k + 1)) r) : Ev g r := Ev.step (fun _ => rfl) h
theorem ev_some {α : Type} {o : Option α} {r : α} (h : o = some r) : Ev (fun _ => o) r := ⟨0, fun _ _ => h⟩
theorem ev_pos {α : Type} {c : Prop} [Decidable c] {A B : Nat → Option α} {r : α} (h : c) (k : Ev A r) : Ev (fun n => if c then A n else B n) r :=
  Ev.congr (fun _ => if_pos h) k
theorem ev_neg {α : Type} {c : Prop} [Decidable c] {A B : Nat → Option α} {r : α} (h : ¬ c) (k : Ev B r) : Ev (fun n => if c then A n else B n) r :=
  Ev.congr (fun _ => if_neg h) k
theorem ev_eq {α : Type} {g : Nat → Option α} {r s : α} (h : Ev g r) (e : r = s) : Ev g s := e ▸ h
theorem ev_bind1 {α β : Type} {o : Option α} {f : Nat → α → Option β} {a : α} {r : β} (h : o = some a) (k : Ev (fun n => f n a) r) : Ev (fun n => o.bind (f n)) r :=
  Ev.bind (ev_some h) k
theorem ev_det {α : Type} {g : Nat → Option α} {r s : α} (h : Ev g r) (k : Ev g s) : r = s := by
  obtain ⟨K, h⟩ := h
  obtain ⟨L, k⟩ := k
  have h1 := h (max K L) (by omega)
  have h2 := k (max K L) (by omega)
  rw [h1] at h2
  exact Option.some.inj h2
theorem w64 {n : Int} (h : -9223372036854775808 ≤ n) (h' : n ≤ 9223372036854775807) : wrap64 n = n := by unfold wrap64; omega
theorem byte_of {l : List Int} (h : ∀ x ∈ l, (Lit.int .u8 x).wf = true) (i : Int) : 0 ≤ rd l i ∧ rd l i ≤ 255 := by
  unfold rd
  by_cases hi : i.toNat < l.length
  · have hm : l.getD i.toNat 0 ∈ l := by
      rw [List.getD_eq_getElem?_getD, List.getElem?_eq_getElem hi]
      exact List.getElem_mem hi
    have := h _ hm
    have m0 : IntKind.u8.min = 0 := by decide
    have m1 : IntKind.u8.max = 255 := by decide
    simp only [Lit.wf, m0, m1, Bool.and_eq_true, decide_eq_true_eq] at this
    exact this
  · rw [List.getD_eq_getElem?_getD, List.getElem?_eq_none (by omega)]
    simp

/-! ### Reading a list -/
theorem rd_at (l : List Int) (i : Nat) (h : i < l.length) : rd l (i : Int) = l[i] := by
  unfold rd
  simp [List.getD_eq_getElem?_getD, h]
theorem next_i (i : Nat) (h : i ≤ 4611686018427387904) : wrap64 ((i : Int) + 1) = ((i + 1 : Nat) : Int) := by rw [w64 (by omega) (by omega)]; omega

/-! ### Lists of numbers: copied, compared -/
theorem toInt_from (l : List Int) (hl : l.length ≤ 1048576) (d : Nat) : ∀ (i : Nat) (x : List Int), i + d = l.length → x.length = l.length → x.take i = l.take i → Ev (fun k => laws_toIntS.l0 k l x (i : Int)) l := by
  induction d with
  | zero =>
    intro i x hi hx ht
    refine ev_succ ?_
    simp only [laws_toIntS.l0]
    refine ev_neg (by omega) (ev_some ?_)
    rw [List.take_of_length_le (by omega), List.take_of_length_le (by omega)] at ht
    rw [ht]
  | succ d ih =>
    intro i x hi hx ht
    refine ev_succ ?_
    simp only [laws_toIntS.l0]
    refine ev_pos (by omega) (ev_pos (by omega) (ev_pos (by omega) ?_))
    rw [next_i i (by omega), rd_at l i (by omega)]
    refine ih (i + 1) _ (by omega) (by simp [hx]) ?_
    have hi' : i < x.length := by omega
    rw [List.take_succ_eq_append_getElem (by simp; omega), List.take_succ_eq_append_getElem (by omega)]
    simp only [Int.toNat_natCast, List.getElem_set_self]
    rw [List.take_set_of_le (Nat.le_refl i), ht]

theorem toInt_ev (l : List Int) (hl : l.length ≤ 1048576) : Ev (fun k => laws_toIntS.f k l) l := by
  unfold laws_toIntS.f
  refine ev_pos (by omega) (ev_pos (by simp; omega) ?_)
  exact toInt_from l hl l.length 0 _ (by omega) (by simp) (by simp)

theorem eqSelf_from (l : List Int) (hl : l.length ≤ 1048576) (d : Nat) : ∀ (i : Nat), i + d = l.length → Ev (fun k => laws_eqIntS.l0 k l l (i : Int)) true := by
  induction d with
  | zero =>
    intro i hi
    refine ev_succ ?_
    simp only [laws_eqIntS.l0]
    exact ev_neg (by omega) (ev_some rfl)
  | succ d ih =>
    intro i hi
    refine ev_succ ?_
    simp only [laws_eqIntS.l0]
    refine ev_pos (by omega) (ev_pos (by omega) (ev_pos (by omega) (ev_pos trivial ?_)))
    rw [next_i i (by omega)]
    exact ih (i + 1) (by omega)

theorem eqSelf_ev (l : List Int) (hl : l.length ≤ 1048576) : Ev (fun k => laws_eqIntS.f k l l) true := by
  unfold laws_eqIntS.f
  exact ev_pos rfl (eqSelf_from l hl l.length 0 (by omega))

/-! ### Words in a list of texts; keywords -/
def has (l : List ByteArray) (s : ByteArray) : Bool := l.any fun x => x.toList == s.toList
def kwL : List ByteArray := (spec_keywords.f).getD []
def kwB (s : ByteArray) : Bool := has kwL s
theorem spec_kw : spec_keywords.f = some kwL := rfl
theorem impl_kw : impl_keywords.f = some kwL := rfl

theorem has_pos {l : List ByteArray} {x s : ByteArray} (h : x.toList = s.toList) : has (x :: l) s = true := by simp [has, h]
theorem has_neg {l : List ByteArray} {x s : ByteArray} (h : ¬ x.toList = s.toList) : has (x :: l) s = has l s := by simp [has, h]
theorem rdOf_at (l : List ByteArray) (i : Nat) (h : i < l.length) : rdOf ByteArray.empty l (i : Int) = l[i] := by
  unfold rdOf
  simp [List.getD_eq_getElem?_getD, h]

theorem isOne_from (l : List ByteArray) (s : ByteArray) (hl : l.length ≤ 1048576) (d : Nat) : ∀ i : Nat, i + d = l.length → Ev (fun k => spec_isOne.l0 k l s (i : Int)) (has (l.drop i) s) := by
  induction d with
  | zero =>
    intro i hi
    refine ev_succ ?_
    simp only [spec_isOne.l0]
    refine ev_neg (by omega) (ev_some ?_)
    rw [List.drop_of_length_le (by omega)]; rfl
  | succ d ih =>
    intro i hi
    refine ev_succ ?_
    simp only [spec_isOne.l0]
    refine ev_pos (by omega) (ev_pos (by omega) ?_)
    have hlt : i < l.length := by omega
    rw [rdOf_at l i hlt, List.drop_eq_getElem_cons hlt]
    by_cases he : l[i].toList = s.toList
    · exact ev_pos he (ev_some (by rw [has_pos he]))
    · refine ev_neg he ?_
      rw [show wrap64 ((i : Int) + 1) = ((i + 1 : Nat) : Int) by rw [w64 (by omega) (by omega)]; omega]
      rw [has_neg he]
      exact ih (i + 1) (by omega)

theorem isOne_ev (l : List ByteArray) (s : ByteArray) (hl : l.length ≤ 1048576) : Ev (fun k => spec_isOne.f k l s) (has l s) := by
  have := isOne_from l s hl l.length 0 (by omega)
  simpa [spec_isOne.f] using this

theorem index_from (l : List ByteArray) (s : ByteArray) (hl : l.length ≤ 1048576) (d : Nat) : ∀ i : Nat, i + d = l.length → ∃ r : Int, Ev (fun k => slices_Index_string_string.l0 k l s (l.length : Int) (i : Int)) r ∧ decide (r ≥ 0) = has (l.drop i) s := by
  induction d with
  | zero =>
    intro i hi
    refine ⟨-1, ev_succ ?_, ?_⟩
    · simp only [slices_Index_string_string.l0]
      exact ev_neg (by omega) (ev_some rfl)
    · rw [List.drop_of_length_le (by omega)]; rfl
  | succ d ih =>
    intro i hi
    have hlt : i < l.length := by omega
    rw [List.drop_eq_getElem_cons hlt]
    by_cases he : l[i].toList = s.toList
    · refine ⟨i, ev_succ ?_, by rw [has_pos he]; simp⟩
      simp only [slices_Index_string_string.l0]
      refine ev_pos (by omega) (ev_pos (by omega) (ev_pos (by omega) ?_))
      rw [rdOf_at l i hlt]
      exact ev_pos he.symm (ev_some rfl)
    · obtain ⟨r, hr, h⟩ := ih (i + 1) (by omega)
      refine ⟨r, ev_succ ?_, by rw [h, has_neg he]⟩
      simp only [slices_Index_string_string.l0]
      refine ev_pos (by omega) (ev_pos (by omega) (ev_pos (by omega) ?_))
      rw [rdOf_at l i hlt]
      refine ev_neg (fun e => he e.symm) ?_
      rw [show wrap64 ((i : Int) + 1) = ((i + 1 : Nat) : Int) by rw [w64 (by omega) (by omega)]; omega]
      exact hr

theorem contains_ev (l : List ByteArray) (s : ByteArray) (hl : l.length ≤ 1048576) : Ev (fun k => slices_Contains_string_string.f k l s) (has l s) := by
  obtain ⟨r, hr, h⟩ := index_from l s hl l.length 0 (by omega)
  rw [List.drop_zero] at h
  unfold slices_Contains_string_string.f slices_Index_string_string.f
  rw [← h]
  exact Ev.bind hr (ev_some rfl)

/-! ### Names -/
def isL (c : Int) : Bool := decide (97 ≤ c ∧ c ≤ 122) || (decide (65 ≤ c ∧ c ≤ 90) || decide (c = 95))
def isD (c : Int) : Bool := decide (48 ≤ c ∧ c ≤ 57)
theorem L_not_D {c : Int} (h : isL c = true) : isD c = false := by
  simp only [isL, isD, Bool.or_eq_true, decide_eq_true_eq, decide_eq_false_iff_not] at h ⊢
  omega

/-- What may stand at the places from i on. -/
def restOk (s : ByteArray) (i d : Nat) : Bool := (List.range' i d).all fun j => isL (bt s j) || isD (bt s j)
def nameB (s : ByteArray) : Bool := decide (1 ≤ s.size ∧ s.size ≤ 12) && (!kwB s && (isL (bt s 0) && restOk s 1 (s.size - 1)))

theorem restOk_succ (s : ByteArray) (i d : Nat) : restOk s i (d + 1) = ((isL (bt s i) || isD (bt s i)) && restOk s (i + 1) d) := by
  simp [restOk, List.range'_succ]

theorem spec_kwB (s : ByteArray) : Ev (fun k => spec_isKeyword.f k s) (kwB s) := by
  unfold spec_isKeyword.f
  exact ev_bind1 spec_kw (Ev.bind (isOne_ev kwL s (by decide)) (ev_some rfl))
theorem spec_L (c : Int) : spec_letter.f c = some (isL c) := by
  unfold spec_letter.f isL
  by_cases h1 : c ≥ 97 <;> by_cases h2 : c ≤ 122 <;> by_cases h3 : c ≥ 65 <;> by_cases h4 : c ≤ 90 <;> by_cases h5 : c = 95 <;> simp [h1, h2, h3, h4, h5] <;> omega
theorem spec_D (c : Int) : spec_digit.f c = some (isD c) := by
  unfold spec_digit.f isD
  by_cases h1 : c ≥ 48 <;> simp [h1] <;> omega
theorem spec_range (a b c : Int) : spec_inRange.f a b c = some (decide (b ≤ a ∧ a ≤ c)) := by
  unfold spec_inRange.f
  by_cases h : a ≥ b
  · have : b ≤ a := h
    simp [h]
  · simp [h]

theorem valid_tail (s : ByteArray) : Ev (fun k => (spec_inRange.f (s.size : Int) 1 12).bind fun t109 => (if t109 = true then ((spec_isKeyword.f k s).bind fun t110 => (some (!t110))) else (some false))) (decide (1 ≤ s.size ∧ s.size ≤ 12) && !kwB s) := by
  refine ev_bind1 (spec_range _ _ _) ?_
  by_cases h : 1 ≤ s.size ∧ s.size ≤ 12
  · refine ev_pos (by simp; omega) (Ev.bind (spec_kwB s) (ev_some (by simp [h])))
  · refine ev_neg (by simp; omega) (ev_some ?_)
    rw [decide_eq_false h]; simp

theorem valid_from (s : ByteArray) (hs : s.size ≤ 1048576) (d : Nat) : ∀ i : Nat, 0 < i → i + d = s.size →
    Ev (fun k => spec_validName.l0 k s (i : Int)) (restOk s i d && (decide (1 ≤ s.size ∧ s.size ≤ 12) && !kwB s)) := by
  induction d with
  | zero =>
    intro i h0 hi
    refine ev_succ ?_
    simp only [spec_validName.l0]
    refine ev_neg (by omega) ?_
    have e : restOk s i 0 = true := by simp [restOk]
    rw [e, Bool.true_and]
    exact valid_tail s
  | succ d ih =>
    intro i h0 hi
    have hw : wrap64 ((i : Int) + 1) = ((i + 1 : Nat) : Int) := by rw [w64 (by omega) (by omega)]; omega
    refine ev_succ ?_
    simp only [spec_validName.l0, spec_L, spec_D, Option.bind_some, hw]
    refine ev_pos (by omega) (ev_pos (by omega) ?_)
    rw [restOk_succ]
    by_cases hL : isL (bt s i) = true
    · refine ev_pos hL ?_
      rw [hL]
      simp only [Bool.true_or, Bool.true_and]
      exact ih (i + 1) (by omega) (by omega)
    · refine ev_neg hL (ev_neg (by omega) ?_)
      rw [Bool.not_eq_true] at hL
      by_cases hD : isD (bt s i) = true
      · refine ev_pos hD ?_
        rw [hL, hD]
        simp only [Bool.or_true, Bool.true_and]
        exact ih (i + 1) (by omega) (by omega)
      · refine ev_neg hD (ev_some ?_)
        rw [Bool.not_eq_true] at hD
        rw [hL, hD]; rfl

theorem valid_name (s : ByteArray) (hs : s.size ≤ 1048576) : Ev (fun k => spec_validName.f k s) (nameB s) := by
  unfold spec_validName.f
  refine ev_succ ?_
  simp only [spec_validName.l0, spec_L, spec_D, Option.bind_some]
  by_cases h : s.size = 0
  · refine ev_neg (by omega) ?_
    have e : nameB s = (decide (1 ≤ s.size ∧ s.size ≤ 12) && !kwB s) := by
      rw [nameB, decide_eq_false (by omega)]; rfl
    rw [e]
    exact valid_tail s
  · refine ev_pos (by omega) (ev_pos (by omega) ?_)
    by_cases hL : isL (bt s 0) = true
    · refine ev_pos hL ?_
      have hw : wrap64 ((0 : Int) + 1) = ((1 : Nat) : Int) := w64 (by omega) (by omega)
      rw [hw]
      have e : nameB s = (restOk s 1 (s.size - 1) && (decide (1 ≤ s.size ∧ s.size ≤ 12) && !kwB s)) := by
        rw [nameB, hL]
        cases restOk s 1 (s.size - 1) <;> cases decide (1 ≤ s.size ∧ s.size ≤ 12) <;> cases kwB s <;> rfl
      rw [e]
      exact valid_from s hs (s.size - 1) 1 (by omega) (by omega)
    · refine ev_neg hL (ev_pos trivial (ev_some ?_))
      rw [Bool.not_eq_true] at hL
      rw [nameB, hL]
      simp

theorem impl_L (c : Int) : impl_isLetter.f c = some (isL c) := by
  unfold impl_isLetter.f isL
  by_cases h1 : c ≥ 97 <;> by_cases h2 : c ≤ 122 <;> by_cases h3 : c ≥ 65 <;> by_cases h4 : c ≤ 90 <;> by_cases h5 : c = 95 <;> simp [h1, h2, h3, h4, h5] <;> omega
theorem impl_D (c : Int) : impl_isDigit.f c = some (isD c) := by
  unfold impl_isDigit.f isD
  by_cases h1 : c ≥ 48 <;> simp [h1] <;> omega

theorem impl_kwB (s : ByteArray) : Ev (fun k => impl_IsKeyword.f k s) (kwB s) := by
  unfold impl_IsKeyword.f
  exact ev_bind1 impl_kw (Ev.bind (contains_ev kwL s (by decide)) (ev_some rfl))

theorem name_from (s : ByteArray) (hs : s.size ≤ 1048576) (d : Nat) : ∀ i : Nat, i + d = s.size → Ev (fun k => impl_NameOk.l0 k s (s.size : Int) (i : Int)) (restOk s i d) := by
  induction d with
  | zero =>
    intro i hi
    refine ev_succ ?_
    simp only [impl_NameOk.l0]
    exact ev_neg (by omega) (ev_some (by simp [restOk]))
  | succ d ih =>
    intro i hi
    have hw : wrap64 ((i : Int) + 1) = ((i + 1 : Nat) : Int) := by rw [w64 (by omega) (by omega)]; omega
    refine ev_succ ?_
    simp only [impl_NameOk.l0, impl_L, impl_D, Option.bind_some, hw]
    refine ev_pos (by omega) (ev_pos (by omega) (ev_pos (by omega) ?_))
    rw [restOk_succ]
    by_cases hL : isL (bt s i) = true
    · refine ev_pos hL ?_
      rw [hL]
      simp only [Bool.true_or, Bool.true_and]
      exact ih (i + 1) (by omega)
    · refine ev_neg hL ?_
      rw [Bool.not_eq_true] at hL
      by_cases hD : isD (bt s i) = true
      · refine ev_pos hD ?_
        rw [hL, hD]
        simp only [Bool.or_true, Bool.true_and]
        exact ih (i + 1) (by omega)
      · refine ev_neg hD (ev_some ?_)
        rw [Bool.not_eq_true] at hD
        rw [hL, hD]; rfl

theorem name_no (s : ByteArray) : Ev (fun k => impl_NameOk.j0 k s true) false := by
  refine ev_succ ?_
  simp only [impl_NameOk.j0]
  exact ev_pos trivial (ev_some rfl)

theorem impl_nameB (s : ByteArray) (hs : s.size ≤ 1048576) : Ev (fun k => impl_NameOk.f k s) (nameB s) := by
  unfold impl_NameOk.f
  by_cases h1 : s.size < 1
  · refine ev_pos (by omega) (ev_eq (name_no s) ?_)
    rw [nameB, decide_eq_false (by omega)]; rfl
  refine ev_neg (by omega) ?_
  by_cases h2 : s.size > 12
  · refine ev_pos (by omega) (ev_eq (name_no s) ?_)
    rw [nameB, decide_eq_false (by omega)]; rfl
  refine ev_neg (by omega) (ev_pos (by omega) (ev_bind1 (impl_D _) ?_))
  by_cases hD : isD (bt s 0) = true
  · refine ev_pos hD (ev_eq (name_no s) ?_)
    have hL : isL (bt s 0) = false := by
      rw [← Bool.not_eq_true]; intro h
      rw [L_not_D h] at hD; exact Bool.noConfusion hD
    rw [nameB, hL]; simp
  · refine ev_neg hD (Ev.bind (impl_kwB s) ?_)
    rw [Bool.not_eq_true] at hD
    cases hk : kwB s with
    | true => exact ev_eq (name_no s) (by rw [nameB, hk]; simp)
    | false =>
      refine ev_succ ?_
      simp only [impl_NameOk.j0]
      refine ev_neg (by simp) (ev_eq (name_from s hs s.size 0 (by omega)) ?_)
      obtain ⟨m, hm⟩ : ∃ m, s.size = m + 1 := ⟨s.size - 1, by omega⟩
      have e : restOk s 0 s.size = (isL (bt s 0) && restOk s 1 m) := by
        rw [hm, restOk_succ]
        have : isD (bt s (0 : Nat)) = false := hD
        rw [this, Bool.or_false]; rfl
      rw [e, nameB, hk, decide_eq_true (by omega), hm]
      simp

/-! ### Names of parameters -/
def allB (l : List ByteArray) (i d : Nat) : Bool := (List.range' i d).all fun (j : Nat) => nameB (rdOf ByteArray.empty l (j : Int)) && !has (l.take j) (rdOf ByteArray.empty l (j : Int))
theorem allB_succ (l : List ByteArray) (i d : Nat) : allB l i (d + 1) = ((nameB (rdOf ByteArray.empty l (i : Int)) && !has (l.take i) (rdOf ByteArray.empty l (i : Int))) && allB l (i + 1) d) := by
  simp [allB, List.range'_succ]
theorem impl_all_from (l : List ByteArray) (hl : l.length ≤ 1048576) (hs : ∀ s ∈ l, s.size ≤ 1048576) (d : Nat) : ∀ i : Nat, i + d = l.length → Ev (fun k => impl_allNames.l0 k l l (l.length : Int) (i : Int)) (allB l i d) := by
  induction d with
  | zero =>
    intro i hi
    refine ev_succ ?_
    simp only [impl_allNames.l0]
    exact ev_neg (by omega) (ev_some rfl)
  | succ d ih =>
    intro i hi
    have hlt : i < l.length := by omega
    have hz : (rdOf ByteArray.empty l (i : Int)).size ≤ 1048576 := by rw [rdOf_at l i hlt]; exact hs _ (List.getElem_mem hlt)
    have hw : wrap64 ((i : Int) + 1) = ((i + 1 : Nat) : Int) := by rw [w64 (by omega) (by omega)]; omega
    refine ev_succ ?_
    simp only [impl_allNames.l0, hw, Int.toNat_natCast]
    rw [allB_succ]
    refine ev_pos (by omega) (ev_pos (by omega) (ev_pos (by omega) (Ev.bind (impl_nameB _ hz) ?_)))
    cases nameB (rdOf ByteArray.empty l (i : Int)) with
    | false => exact ev_neg (by simp) (ev_some rfl)
    | true =>
      refine ev_pos rfl (ev_pos (by omega) (Ev.bind (contains_ev _ _ (Nat.le_trans (List.length_take_le' _ _) hl)) ?_))
      cases has (l.take i) (rdOf ByteArray.empty l (i : Int)) with
      | true => exact ev_pos rfl (ev_some rfl)
      | false => exact ev_neg (by simp) (ev_eq (ih (i + 1) (by omega)) (by simp))
theorem spec_all_from (l : List ByteArray) (hl : l.length ≤ 1048576) (hs : ∀ s ∈ l, s.size ≤ 1048576) (d : Nat) : ∀ i : Nat, i + d = l.length → Ev (fun k => spec_onceEach.l0 k l (i : Int)) (allB l i d) := by
  induction d with
  | zero =>
    intro i hi
    refine ev_succ ?_
    simp only [spec_onceEach.l0]
    exact ev_neg (by omega) (ev_some rfl)
  | succ d ih =>
    intro i hi
    have hlt : i < l.length := by omega
    have hz : (rdOf ByteArray.empty l (i : Int)).size ≤ 1048576 := by rw [rdOf_at l i hlt]; exact hs _ (List.getElem_mem hlt)
    have hw : wrap64 ((i : Int) + 1) = ((i + 1 : Nat) : Int) := by rw [w64 (by omega) (by omega)]; omega
    refine ev_succ ?_
    simp only [spec_onceEach.l0, hw, Int.toNat_natCast]
    rw [allB_succ]
    refine ev_pos (by omega) (ev_pos (by omega) (Ev.bind (valid_name _ hz) ?_))
    cases nameB (rdOf ByteArray.empty l (i : Int)) with
    | false => exact ev_neg (by simp) (ev_some rfl)
    | true =>
      refine ev_pos rfl (ev_pos (by omega) (Ev.bind (isOne_ev _ _ (Nat.le_trans (List.length_take_le' _ _) hl)) ?_))
      cases has (l.take i) (rdOf ByteArray.empty l (i : Int)) with
      | true => exact ev_pos rfl (ev_some rfl)
      | false => exact ev_neg (by simp) (ev_eq (ih (i + 1) (by omega)) (by simp))
/-- What BindNeeds answers. -/
def needsR (p : List ByteArray) (dv : List Int) : Int := if p.length ≤ 6 ∧ allB p 0 p.length = true ∧ dv.length ≤ p.length then (p.length : Int) - dv.length else -1
theorem impl_needs_ev (p : List ByteArray) (dv : List Int) (hp : p.length ≤ 1048576) (hs : ∀ s ∈ p, s.size ≤ 1048576) (hd : dv.length ≤ 1048576) : Ev (fun k => impl_BindNeeds.f k p dv) (needsR p dv) := by
  unfold impl_BindNeeds.f needsR
  by_cases h6 : p.length ≤ 6
  · refine ev_neg (by omega) (Ev.bind (impl_all_from p hp hs p.length 0 (by omega)) ?_)
    cases ha : allB p 0 p.length with
    | false => exact ev_neg (by simp) (ev_some (by simp))
    | true =>
      refine ev_pos rfl ?_
      by_cases h : dv.length ≤ p.length
      · refine ev_neg (by omega) (ev_some ?_)
        rw [if_pos ⟨h6, rfl, h⟩, w64 (by omega) (by omega)]
      · refine ev_pos (by omega) (ev_some ?_)
        rw [if_neg (fun z => h z.2.2)]
  · refine ev_pos (by omega) (ev_some ?_)
    rw [if_neg (fun z => h6 z.1)]
theorem none_twice : Ev (fun k => spec_noneTwice.f k ([] : List ByteArray)) true := by
  unfold spec_noneTwice.f
  refine ev_succ ?_
  simp only [spec_noneTwice.l0]
  exact ev_neg (by simp) (ev_some rfl)
theorem spec_needs_ev (p : List ByteArray) (dv : List Int) (hp : p.length ≤ 1048576) (hs : ∀ s ∈ p, s.size ≤ 1048576) (hd : dv.length ≤ 1048576) : Ev (fun k => spec_BindNeeds.f k p dv) (needsR p dv) := by
  unfold spec_BindNeeds.f needsR
  have V : Ev (fun k => spec_validBind.f k p dv ([] : List Int) ([] : List ByteArray)) (decide (p.length ≤ 6 ∧ allB p 0 p.length = true ∧ dv.length ≤ p.length)) := by
    unfold spec_validBind.f spec_onceEach.f
    refine Ev.bind (spec_all_from p hp hs p.length 0 (by omega)) ?_
    cases ha : allB p 0 p.length with
    | false => exact ev_neg (by simp) (ev_some (by simp))
    | true =>
      refine ev_pos rfl ?_
      by_cases h6 : p.length ≤ 6
      · refine ev_pos (by omega) ?_
        by_cases h : dv.length ≤ p.length
        · exact ev_pos (by omega) (ev_pos (by simp) (Ev.bind none_twice (ev_pos rfl (ev_some (by simp [h6, h])))))
        · exact ev_neg (by omega) (ev_some (by simp [h]))
      · exact ev_neg (by omega) (ev_some (by simp [h6]))
  refine Ev.bind V ?_
  by_cases h : p.length ≤ 6 ∧ allB p 0 p.length = true ∧ dv.length ≤ p.length
  · refine ev_pos (by simp [h]) (ev_some ?_)
    rw [if_pos h, w64 (by omega) (by omega)]
  · refine ev_neg (by simpa using h) (ev_some ?_)
    rw [if_neg h]

/-! ### Lists of texts: how long, copied, compared -/
theorem szStr_from (l : List ByteArray) (hl : l.length ≤ 1048576) (hr : ∀ r ∈ l, r.size ≤ 9223372036854775807) (d : Nat) : ∀ (i : Nat) (a : Int), i + d = l.length → 0 ≤ a ∧ a ≤ 1048576 →
    ∃ r, Ev (fun k => laws_szStringS.l0 k l a (i : Int)) r ∧ r ≤ a ∧ (0 ≤ r → ∀ x ∈ l.drop i, x.size ≤ 1048576) := by
  induction d with
  | zero =>
    intro i a hi ha
    refine ⟨a, ev_succ ?_, by omega, fun _ => by rw [List.drop_of_length_le (by omega)]; simp⟩
    simp only [laws_szStringS.l0]
    exact ev_neg (by omega) (ev_some rfl)
  | succ d ih =>
    intro i a hi ha
    have hlt : i < l.length := by omega
    have hlr := hr _ (List.getElem_mem hlt)
    have hw : wrap64 (a - (l[i].size : Int)) = a - l[i].size := w64 (by omega) (by omega)
    have hn : wrap64 ((i : Int) + 1) = ((i + 1 : Nat) : Int) := by rw [w64 (by omega) (by omega)]; omega
    by_cases h : a - (l[i].size : Int) < 0
    · refine ⟨-1, ev_succ ?_, by omega, fun h0 => absurd h0 (by omega)⟩
      simp only [laws_szStringS.l0]
      rw [rdOf_at l i hlt, hw]
      exact ev_pos (by omega) (ev_pos (by omega) (ev_pos h (ev_some rfl)))
    · obtain ⟨r, hr', hra, hx⟩ := ih (i + 1) (a - l[i].size) (by omega) (by omega)
      refine ⟨r, ev_succ ?_, by omega, fun h0 => ?_⟩
      · simp only [laws_szStringS.l0]
        rw [rdOf_at l i hlt, hw, hn]
        exact ev_pos (by omega) (ev_pos (by omega) (ev_neg h hr'))
      · rw [List.drop_eq_getElem_cons hlt]
        intro x hm
        rcases List.mem_cons.1 hm with rfl | hm
        · omega
        · exact hx h0 x hm
theorem szStr_ev (l : List ByteArray) (a : Int) (ha : 0 ≤ a ∧ a ≤ 1048576) (hl : l.length ≤ 9223372036854775807) (hr : ∀ r ∈ l, r.size ≤ 9223372036854775807) :
    ∃ r, Ev (fun k => laws_szStringS.f k l a) r ∧ r ≤ a ∧ (0 ≤ r → l.length ≤ 1048576 ∧ ∀ x ∈ l, x.size ≤ 1048576) := by
  have hw : wrap64 (a - (l.length : Int)) = a - l.length := w64 (by omega) (by omega)
  by_cases h : a - (l.length : Int) < 0
  · refine ⟨-1, ?_, by omega, fun h0 => absurd h0 (by omega)⟩
    unfold laws_szStringS.f
    rw [hw]
    exact ev_pos h (ev_some rfl)
  · obtain ⟨r, e, hra, hx⟩ := szStr_from l (by omega) hr l.length 0 (a - l.length) (by omega) (by omega)
    refine ⟨r, ?_, by omega, fun h0 => ⟨by omega, hx h0⟩⟩
    unfold laws_szStringS.f
    rw [hw]
    exact ev_neg h e
theorem toStr_from (l : List ByteArray) (hl : l.length ≤ 1048576) (d : Nat) : ∀ (i : Nat) (x : List ByteArray), i + d = l.length → x.length = l.length → x.take i = l.take i → Ev (fun k => laws_toStringS.l0 k l x (i : Int)) l := by
  induction d with
  | zero =>
    intro i x hi hx ht
    refine ev_succ ?_
    simp only [laws_toStringS.l0]
    refine ev_neg (by omega) (ev_some ?_)
    rw [List.take_of_length_le (by omega), List.take_of_length_le (by omega)] at ht
    rw [ht]
  | succ d ih =>
    intro i x hi hx ht
    have hlt : i < l.length := by omega
    have hn : wrap64 ((i : Int) + 1) = ((i + 1 : Nat) : Int) := by rw [w64 (by omega) (by omega)]; omega
    refine ev_succ ?_
    simp only [laws_toStringS.l0]
    rw [rdOf_at l i hlt, hn]
    refine ev_pos (by omega) (ev_pos (by omega) (ev_pos (by omega) ?_))
    refine ih (i + 1) _ (by omega) (by simp [hx]) ?_
    have hi' : i < x.length := by omega
    rw [List.take_succ_eq_append_getElem (by simp; omega), List.take_succ_eq_append_getElem (by omega)]
    simp only [Int.toNat_natCast, List.getElem_set_self]
    rw [List.take_set_of_le (Nat.le_refl i), ht]
theorem toStr_ev (l : List ByteArray) (hl : l.length ≤ 1048576) : Ev (fun k => laws_toStringS.f k l) l := by
  unfold laws_toStringS.f
  refine ev_pos (by omega) (ev_pos (by simp; omega) ?_)
  exact toStr_from l hl l.length 0 _ (by omega) (by simp) (by simp)
theorem eqStr_from (l : List ByteArray) (hl : l.length ≤ 1048576) (d : Nat) : ∀ (i : Nat), i + d = l.length → Ev (fun k => laws_eqStringS.l0 k l l (i : Int)) true := by
  induction d with
  | zero =>
    intro i hi
    refine ev_succ ?_
    simp only [laws_eqStringS.l0]
    exact ev_neg (by omega) (ev_some rfl)
  | succ d ih =>
    intro i hi
    have hn : wrap64 ((i : Int) + 1) = ((i + 1 : Nat) : Int) := by rw [w64 (by omega) (by omega)]; omega
    refine ev_succ ?_
    simp only [laws_eqStringS.l0]
    rw [hn]
    exact ev_pos (by omega) (ev_pos (by omega) (ev_pos (by omega) (ev_pos trivial (ih (i + 1) (by omega)))))
theorem eqStr_ev (l : List ByteArray) (hl : l.length ≤ 1048576) : Ev (fun k => laws_eqStringS.f k l l) true := by
  unfold laws_eqStringS.f
  exact ev_pos rfl (eqStr_from l hl l.length 0 (by omega))

theorem FnExactBindNeeds (p : List ByteArray) (dv : List Int) (h1 : p.length ≤ 9223372036854775807) (h2 : ∀ s ∈ p, s.size ≤ 9223372036854775807) : ∃ k, laws_FnExactBindNeeds.f k p dv = some true := by
  refine Ev.rounds ?_
  unfold laws_FnExactBindNeeds.f
  by_cases hl : (dv.length : Int) > 1048576
  · exact ev_pos hl (ev_some rfl)
  refine ev_neg hl ?_
  obtain ⟨z, Z, _, hz⟩ := szStr_ev p 1048576 (by omega) h1 h2
  refine Ev.bind Z ?_
  by_cases h0 : z < 0
  · exact ev_pos h0 (ev_some rfl)
  refine ev_neg h0 ?_
  obtain ⟨hn, hr⟩ := hz (by omega)
  have hd : dv.length ≤ 1048576 := by omega
  have T := toStr_ev p hn
  have U := toInt_ev dv hd
  have I := impl_needs_ev p dv hn hr hd
  have S := spec_needs_ev p dv hn hr hd
  exact Ev.bind T (Ev.bind U (Ev.bind S (Ev.bind T (Ev.bind U (Ev.bind I (ev_pos rfl (Ev.bind T (Ev.bind (eqStr_ev p hn) (ev_pos rfl (Ev.bind U (Ev.bind (eqSelf_ev dv hd) (ev_pos rfl (ev_some rfl)))))))))))))

end Go.Proofs.Ytppbnfoagbipaae.Pure
