/- FnExactTextFind: the program finds texts as the reference does, for all texts of at most 2^20 bytes. -/
import Derived.Test.YtkhkbbhkhpekcaaXFnExactTextFindx1
namespace Go.Proofs.Ytkhkbbhkhpekcaa.Pure
open Go.RowKit Go.Proofs.Ytkhkbbhkhpekcaa.XFnExactTextFind Go.Proofs.YtkhkbbhkhpekcaaW.PrintWords Go.Proofs.YtkhkbbhkhpekcaaW.PrintLast Go.Proofs.YtkhkbbhkhpekcaaW.PrintMore
set_option linter.unusedVariables false
set_option linter.unusedSimpArgs false

/-! ### Rounds, and words of 64 bits -/
theorem ev_succ {α : Type} {g : Nat → Option α} {r : α} (h : Ev (fun k => g (k + 1)) r) : Ev g r := Ev.step (fun _ => rfl) h
theorem ev_some {α : Type} {o : Option α} {r : α} (h : o = some r) : Ev (fun _ => o) r := ⟨0, fun _ _ => h⟩
theorem ev_pos {α : Type} {c : Prop} [Decidable c] {A B : Nat → Option α} {r : α} (h : c) (k : Ev A r) : Ev (fun n => if c then A n else B n) r :=
  Ev.congr (fun _ => if_pos h) k
theorem ev_neg {α : Type} {c : Prop} [Decidable c] {A B : Nat → Option α} {r : α} (h : ¬ c) (k : Ev B r) : Ev (fun n => if c then A n else B n) r :=
  Ev.congr (fun _ => if_neg h) k
theorem ev_eq {α : Type} {g : Nat → Option α} {r s : α} (h : Ev g r) (e : r = s) : Ev g s := e ▸ h
theorem ev_bind1 {α β : Type} {o : Option α} {f : Nat → α → Option β} {a : α} {r : β} (h : o = some a) (k : Ev (fun n => f n a) r) : Ev (fun n => o.bind (f n)) r :=
  Ev.bind (ev_some h) k
theorem ev_det {α : Type} {g : Nat → Option α} {r s : α} (h : Ev g r) (k : Ev g s) : r = s := by
  obtain ⟨K, h⟩ := h
  obtain ⟨L, k⟩ := k
  have h1 := h (max K L) (by omega)
  have h2 := k (max K L) (by omega)
  rw [h1] at h2
  exact Option.some.inj h2
theorem w64 {n : Int} (h : -9223372036854775808 ≤ n) (h' : n ≤ 9223372036854775807) : wrap64 n = n := by unfold wrap64; omega
theorem byte_of {l : List Int} (h : ∀ x ∈ l, (Lit.int .u8 x).wf = true) (i : Int) : 0 ≤ rd l i ∧ rd l i ≤ 255 := by
  unfold rd
  by_cases hi : i.toNat < l.length
  · have hm : l.getD i.toNat 0 ∈ l := by
      rw [List.getD_eq_getElem?_getD, List.getElem?_eq_getElem hi]
      exact List.getElem_mem hi
    have := h _ hm
    have m0 : IntKind.u8.min = 0 := by decide
    have m1 : IntKind.u8.max = 255 := by decide
    simp only [Lit.wf, m0, m1, Bool.and_eq_true, decide_eq_true_eq] at this
    exact this
  · rw [List.getD_eq_getElem?_getD, List.getElem?_eq_none (by omega)]
    simp

/-! ### Reading a list -/
theorem rd_at (l : List Int) (i : Nat) (h : i < l.length) : rd l (i : Int) = l[i] := by
  unfold rd
  simp [List.getD_eq_getElem?_getD, h]
theorem next_i (i : Nat) (h : i ≤ 4611686018427387904) : wrap64 ((i : Int) + 1) = ((i + 1 : Nat) : Int) := by rw [w64 (by omega) (by omega)]; omega

/-! ### Short texts -/
theorem rdS_at (l : List ByteArray) (i : Nat) (h : i < l.length) : rdOf ByteArray.empty l (i : Int) = l[i] := by
  unfold rdOf
  simp [List.getD_eq_getElem?_getD, h]
theorem short_from (l : List ByteArray) (hl : l.length ≤ 4611686018427387904) (d : Nat) : ∀ i : Nat, i + d = l.length → Ev (fun k => impl_shortTexts.l0 k l (l.length : Int) (i : Int)) ((l.drop i).all fun s => decide (s.size ≤ 400)) := by
  induction d with
  | zero =>
    intro i hi
    refine ev_succ ?_
    simp only [impl_shortTexts.l0]
    refine ev_neg (by omega) (ev_some ?_)
    rw [List.drop_of_length_le (by omega)]; rfl
  | succ d ih =>
    intro i hi
    have hlt : i < l.length := by omega
    refine ev_succ ?_
    simp only [impl_shortTexts.l0]
    rw [rdS_at l i hlt, next_i i (by omega), List.drop_eq_getElem_cons hlt, List.all_cons]
    refine ev_pos (by omega) (ev_pos (by omega) (ev_pos (by omega) ?_))
    by_cases h : (l[i].size : Int) > 400
    · refine ev_pos h (ev_some ?_)
      rw [decide_eq_false (by omega)]; rfl
    · refine ev_neg h (ev_eq (ih (i + 1) (by omega)) ?_)
      rw [decide_eq_true (by omega), Bool.true_and]
theorem short_ev (l : List ByteArray) (hl : l.length ≤ 4611686018427387904) : Ev (fun k => impl_shortTexts.f k l) (l.all fun s => decide (s.size ≤ 400)) := by
  unfold impl_shortTexts.f
  exact short_from l hl l.length 0 (by omega)
theorem short1_ev (a : ByteArray) : Ev (fun k => impl_shortTexts.f k [a]) (decide (a.size ≤ 400)) := by
  have := short_ev [a] (by simp)
  simpa using this

/-! ### The first place of a text in another -/
theorem toL (s : ByteArray) : s.toList = s.data.toList := ByteArray.toList_eq s
theorem ext_occ (s p : ByteArray) (i : Nat) (h : i + p.size ≤ s.size) : (s.extract i (i + p.size)).toList = p.toList ↔ Lib.occAt s.data.toList p.data.toList i = true := by
  rw [toL, toL, ByteArray.data_extract, Array.toList_extract, List.extract_eq_take_drop, Nat.add_sub_cancel_left]
  unfold Lib.occAt
  rw [List.isPrefixOf_iff_prefix, List.prefix_iff_eq_take]
  have : p.data.toList.length = p.size := by simp
  rw [this]
  exact ⟨fun h => h.symm, fun h => h.symm⟩
theorem occ_room (s p : ByteArray) (i : Nat) (hi : i ≤ s.size) (h : Lib.occAt s.data.toList p.data.toList i = true) : i + p.size ≤ s.size := by
  unfold Lib.occAt at h
  rw [List.isPrefixOf_iff_prefix] at h
  have := h.length_le
  rw [List.length_drop] at this
  have e1 : p.data.toList.length = p.size := by simp
  have e2 : s.data.toList.length = s.size := by simp
  omega
def findR (s p : ByteArray) : Int := if s.size ≤ 400 ∧ p.size ≤ 400 then Lib.index s.data.toList p.data.toList else -1
theorem find_from (s p : ByteArray) (hs : s.size ≤ 400) (hp : p.size ≤ 400) (d : Nat) : ∀ i : Nat, i + d = s.size + 1 → Lib.NoOcc s.data.toList p.data.toList i → Ev (fun k => spec_textFind.l0 k s p (i : Int)) (Lib.index s.data.toList p.data.toList) := by
  have hl : s.data.toList.length = s.size := by simp
  have none : ∀ i : Nat, s.size < i + p.size → Lib.NoOcc s.data.toList p.data.toList i → Lib.index s.data.toList p.data.toList = -1 := fun i hi hn => by
    refine Lib.index_none (fun j hj => ?_)
    by_cases hji : j < i
    · exact hn j hji
    · cases hc : Lib.occAt s.data.toList p.data.toList j with
      | false => rfl
      | true => have := occ_room s p j (by omega) hc; omega
  induction d with
  | zero =>
    intro i hi hn
    refine ev_succ ?_
    simp only [spec_textFind.l0]
    have hw : wrap64 ((i : Int) + (p.size : Int)) = ((i + p.size : Nat) : Int) := by rw [w64 (by omega) (by omega)]; omega
    rw [hw, none i (by omega) hn]
    exact ev_neg (by omega) (ev_some rfl)
  | succ d ih =>
    intro i hi hn
    have hw : wrap64 ((i : Int) + (p.size : Int)) = ((i + p.size : Nat) : Int) := by rw [w64 (by omega) (by omega)]; omega
    refine ev_succ ?_
    simp only [spec_textFind.l0]
    rw [hw, next_i i (by omega), Int.toNat_natCast, Int.toNat_natCast]
    by_cases h : i + p.size ≤ s.size
    · refine ev_pos (by omega) (ev_pos (by omega) (ev_pos (by omega) ?_))
      by_cases ho : (s.extract i (i + p.size)).toList = p.toList
      · refine ev_pos ho (ev_some (congrArg some ?_))
        rw [Lib.index_hit hn (by omega) ((ext_occ s p i h).1 ho)]
      · refine ev_neg ho (ih (i + 1) (by omega) (hn.succ ?_))
        cases hc : Lib.occAt s.data.toList p.data.toList i with
        | false => rfl
        | true => exact absurd ((ext_occ s p i h).2 hc) ho
    · rw [none i (by omega) hn]
      exact ev_neg (by omega) (ev_some rfl)
theorem specTF_ev (s p : ByteArray) : Ev (fun k => spec_TextFind.f k s p) (findR s p) := by
  have hv : ∀ s : ByteArray, spec_validText.f s = some (decide ((s.size : Int) ≤ 400)) := fun _ => rfl
  unfold spec_TextFind.f
  refine ev_bind1 (hv _) ?_
  by_cases h1 : s.size ≤ 400
  · refine ev_pos (decide_eq_true (by omega)) (ev_bind1 (hv _) ?_)
    by_cases h2 : p.size ≤ 400
    · rw [findR, if_pos ⟨h1, h2⟩]
      exact ev_pos (decide_eq_true (by omega)) (Ev.bind (find_from s p h1 h2 (s.size + 1) 0 (by omega) (Lib.NoOcc.zero _ _)) (ev_some rfl))
    · rw [findR, if_neg (fun z => h2 z.2)]
      exact ev_neg (by simp; omega) (ev_some rfl)
  · rw [findR, if_neg (fun z => h1 z.1)]
    exact ev_neg (by simp; omega) (ev_some rfl)
theorem implTF_ev (s p : ByteArray) : Ev (fun k => impl_TextFind.f k s p) (findR s p) := by
  have h := short_ev [s, p] (by simp)
  unfold impl_TextFind.f
  refine Ev.bind h ?_
  by_cases h1 : s.size ≤ 400 ∧ p.size ≤ 400
  · rw [findR, if_pos h1]
    refine ev_pos (by simp [h1]) (ev_bind1 (a := Lib.index s.data.toList p.data.toList) ?_ (ev_some rfl))
    unfold strings_Index.f
    rw [if_pos (by omega)]
  · rw [findR, if_neg h1]
    refine ev_neg ?_ (ev_some rfl)
    simp only [List.all_cons, List.all_nil, Bool.and_true, Bool.and_eq_true, decide_eq_true_eq]
    exact h1

theorem FnExactTextFind : laws_FnExactTextFind.Pure := by
  intro s p _ _
  refine Ev.rounds ?_
  unfold laws_FnExactTextFind.f
  by_cases hl : (s.size : Int) > 1048576
  · exact ev_pos hl (ev_some rfl)
  refine ev_neg hl ?_
  by_cases hp : (p.size : Int) > 1048576
  · exact ev_pos hp (ev_some rfl)
  exact ev_neg hp (Ev.bind (specTF_ev s p) (Ev.bind (implTF_ev s p) (ev_pos rfl (ev_some rfl))))

end Go.Proofs.Ytkhkbbhkhpekcaa.Pure
