/- FnExactIsKeyword: the program tells keywords as the reference does, for every text of at most 2^20 bytes. -/
import Derived.Test.YtlhhffkdhdaonabPFnExactIsKeywordx1
namespace Go.Proofs.Ytlhhffkdhdaonab.Pure
open Go.RowKit Go.Proofs.Ytlhhffkdhdaonab.PFnExactIsKeyword Go.Proofs.YtlhhffkdhdaonabW.PrintWords Go.Proofs.YtlhhffkdhdaonabW.PrintLast Go.Proofs.YtlhhffkdhdaonabW.PrintMore
set_option linter.unusedVariables false
set_option linter.unusedSimpArgs false

/-! ### Rounds, and words of 64 bits -/
theorem ev_succ {α : Type} {g : Nat → Option α} {r : α} (h : Ev (fun k => g (k + 1)) r) : Ev g r := Ev.step (fun _ => rfl) h
theorem ev_some {α : Type} {o : Option α} {r : α} (h : o = some r) : Ev (fun _ => o) r := ⟨0, fun _ _ => h⟩
theorem ev_pos {α : Type} {c : Prop} [Decidable c] {A B : Nat → Option α} {r : α} (h : c) (k : Ev A r) : Ev (fun n => if c then A n else B n) r :=
  Ev.congr (fun _ => if_pos h) k
theorem ev_neg {α : Type} {c : Prop} [Decidable c] {A B : Nat → Option α} {r : α} (h : ¬ c) (k : Ev B r) : Ev (fun n => if c then A n else B n) r :=
  Ev.congr (fun _ => if_neg h) k
theorem ev_eq {α : Type} {g : Nat → Option α} {r s : α} (h : Ev g r) (e : r = s) : Ev g s := e ▸ h
theorem ev_bind1 {α β : Type} {o : Option α} {f : Nat → α → Option β} {a : α} {r : β} (h : o = some a) (k : Ev (fun n => f n a) r) : Ev (fun n => o.bind (f n)) r :=
  Ev.bind (ev_some h) k
theorem ev_det {α : Type} {g : Nat → Option α} {r s : α} (h : Ev g r) (k : Ev g s) : r = s := by
  obtain ⟨K, h⟩ := h
  obtain ⟨L, k⟩ := k
  have h1 := h (max K L) (by omega)
  have h2 := k (max K L) (by omega)
  rw [h1] at h2
  exact Option.some.inj h2
theorem w64 {n : Int} (h : -9223372036854775808 ≤ n) (h' : n ≤ 9223372036854775807) : wrap64 n = n := by unfold wrap64; omega
theorem byte_of {l : List Int} (h : ∀ x ∈ l, (Lit.int .u8 x).wf = true) (i : Int) : 0 ≤ rd l i ∧ rd l i ≤ 255 := by
  unfold rd
  by_cases hi : i.toNat < l.length
  · have hm : l.getD i.toNat 0 ∈ l := by
      rw [List.getD_eq_getElem?_getD, List.getElem?_eq_getElem hi]
      exact List.getElem_mem hi
    have := h _ hm
    have m0 : IntKind.u8.min = 0 := by decide
    have m1 : IntKind.u8.max = 255 := by decide
    simp only [Lit.wf, m0, m1, Bool.and_eq_true, decide_eq_true_eq] at this
    exact this
  · rw [List.getD_eq_getElem?_getD, List.getElem?_eq_none (by omega)]
    simp

/-! ### Words in a list of texts; keywords -/
def has (l : List ByteArray) (s : ByteArray) : Bool := l.any fun x => x.toList == s.toList
def kwL : List ByteArray := (spec_keywords.f).getD []
def kwB (s : ByteArray) : Bool := has kwL s
theorem spec_kw : spec_keywords.f = some kwL := rfl
theorem impl_kw : impl_keywords.f = some kwL := rfl

theorem has_pos {l : List ByteArray} {x s : ByteArray} (h : x.toList = s.toList) : has (x :: l) s = true := by simp [has, h]
theorem has_neg {l : List ByteArray} {x s : ByteArray} (h : ¬ x.toList = s.toList) : has (x :: l) s = has l s := by simp [has, h]
theorem rdOf_at (l : List ByteArray) (i : Nat) (h : i < l.length) : rdOf ByteArray.empty l (i : Int) = l[i] := by
  unfold rdOf
  simp [List.getD_eq_getElem?_getD, h]

theorem isOne_from (l : List ByteArray) (s : ByteArray) (hl : l.length ≤ 1000000) (d : Nat) : ∀ i : Nat, i + d = l.length → Ev (fun k => spec_isOne.l0 k l s (i : Int)) (has (l.drop i) s) := by
  induction d with
  | zero =>
    intro i hi
    refine ev_succ ?_
    simp only [spec_isOne.l0]
    refine ev_neg (by omega) (ev_some ?_)
    rw [List.drop_of_length_le (by omega)]; rfl
  | succ d ih =>
    intro i hi
    refine ev_succ ?_
    simp only [spec_isOne.l0]
    refine ev_pos (by omega) (ev_pos (by omega) ?_)
    have hlt : i < l.length := by omega
    rw [rdOf_at l i hlt, List.drop_eq_getElem_cons hlt]
    by_cases he : l[i].toList = s.toList
    · exact ev_pos he (ev_some (by rw [has_pos he]))
    · refine ev_neg he ?_
      rw [show wrap64 ((i : Int) + 1) = ((i + 1 : Nat) : Int) by rw [w64 (by omega) (by omega)]; omega]
      rw [has_neg he]
      exact ih (i + 1) (by omega)

theorem isOne_ev (l : List ByteArray) (s : ByteArray) (hl : l.length ≤ 1000000) : Ev (fun k => spec_isOne.f k l s) (has l s) := by
  have := isOne_from l s hl l.length 0 (by omega)
  simpa [spec_isOne.f] using this

theorem index_from (l : List ByteArray) (s : ByteArray) (hl : l.length ≤ 1000000) (d : Nat) : ∀ i : Nat, i + d = l.length → ∃ r : Int, Ev (fun k => slices_Index_string_string.l0 k l s (l.length : Int) (i : Int)) r ∧ decide (r ≥ 0) = has (l.drop i) s := by
  induction d with
  | zero =>
    intro i hi
    refine ⟨-1, ev_succ ?_, ?_⟩
    · simp only [slices_Index_string_string.l0]
      exact ev_neg (by omega) (ev_some rfl)
    · rw [List.drop_of_length_le (by omega)]; rfl
  | succ d ih =>
    intro i hi
    have hlt : i < l.length := by omega
    rw [List.drop_eq_getElem_cons hlt]
    by_cases he : l[i].toList = s.toList
    · refine ⟨i, ev_succ ?_, by rw [has_pos he]; simp⟩
      simp only [slices_Index_string_string.l0]
      refine ev_pos (by omega) (ev_pos (by omega) (ev_pos (by omega) ?_))
      rw [rdOf_at l i hlt]
      exact ev_pos he.symm (ev_some rfl)
    · obtain ⟨r, hr, h⟩ := ih (i + 1) (by omega)
      refine ⟨r, ev_succ ?_, by rw [h, has_neg he]⟩
      simp only [slices_Index_string_string.l0]
      refine ev_pos (by omega) (ev_pos (by omega) (ev_pos (by omega) ?_))
      rw [rdOf_at l i hlt]
      refine ev_neg (fun e => he e.symm) ?_
      rw [show wrap64 ((i : Int) + 1) = ((i + 1 : Nat) : Int) by rw [w64 (by omega) (by omega)]; omega]
      exact hr

theorem contains_ev (l : List ByteArray) (s : ByteArray) (hl : l.length ≤ 1000000) : Ev (fun k => slices_Contains_string_string.f k l s) (has l s) := by
  obtain ⟨r, hr, h⟩ := index_from l s hl l.length 0 (by omega)
  rw [List.drop_zero] at h
  unfold slices_Contains_string_string.f slices_Index_string_string.f
  rw [← h]
  exact Ev.bind hr (ev_some rfl)

theorem FnExactIsKeyword : laws_FnExactIsKeyword.Pure := by
  intro s _
  refine Ev.rounds ?_
  unfold laws_FnExactIsKeyword.f spec_IsKeyword.f spec_isKeyword.f impl_IsKeyword.f
  by_cases hl : (s.size : Int) > 1048576
  · exact ev_pos hl (ev_some rfl)
  refine ev_neg hl ?_
  refine Ev.bind (a := kwB s) ?_ ?_
  · exact Ev.bind (ev_bind1 spec_kw (Ev.bind (isOne_ev kwL s (by decide)) (ev_some rfl))) (ev_some rfl)
  refine Ev.bind (a := kwB s) ?_ ?_
  · exact ev_bind1 impl_kw (Ev.bind (contains_ev kwL s (by decide)) (ev_some rfl))
  exact ev_some (by simp)

end Go.Proofs.Ytlhhffkdhdaonab.Pure
