/- FnExactTextQuote: the program quotes texts as the reference does, for every text of at most 2^20 bytes. -/
import Derived.Test.YtdloehnjofpbmaaXFnExactTextQuotex3
namespace Go.Proofs.Ytdloehnjofpbmaa.Pure
open Go.RowKit Go.Proofs.Ytdloehnjofpbmaa.XFnExactTextQuote Go.Proofs.YtdloehnjofpbmaaW.PrintWords Go.Proofs.YtdloehnjofpbmaaW.PrintLast Go.Proofs.YtdloehnjofpbmaaW.PrintMore
set_option linter.unusedVariables false
set_option linter.unusedSimpArgs false

/-! ### Rounds, and words of 64 bits -/
theorem ev_succ {α : Type} {g : Nat → Option α} {r : α} (h : Ev (fun k => g (k + 1)) r) : Ev g r := Ev.step (fun _ => rfl) h
theorem ev_some {α : Type} {o : Option α} {r : α} (h : o = some r) : Ev (fun _ => o) r := ⟨0, fun _ _ => h⟩
theorem ev_pos {α : Type} {c : Prop} [Decidable c] {A B : Nat → Option α} {r : α} (h : c) (k : Ev A r) : Ev (fun n => if c then A n else B n) r :=
  Ev.congr (fun _ => if_pos h) k
theorem ev_neg {α : Type} {c : Prop} [Decidable c] {A B : Nat → Option α} {r : α} (h : ¬ c) (k : Ev B r) : Ev (fun n => if c then A n else B n) r :=
  Ev.congr (fun _ => if_neg h) k
theorem ev_eq {α : Type} {g : Nat → Option α} {r s : α} (h : Ev g r) (e : r = s) : Ev g s := e ▸ h
theorem ev_bind1 {α β : Type} {o : Option α} {f : Nat → α → Option β} {a : α} {r : β} (h : o = some a) (k : Ev (fun n => f n a) r) : Ev (fun n => o.bind (f n)) r :=
  Ev.bind (ev_some h) k
theorem ev_det {α : Type} {g : Nat → Option α} {r s : α} (h : Ev g r) (k : Ev g s) : r = s := by
  obtain ⟨K, h⟩ := h
  obtain ⟨L, k⟩ := k
  have h1 := h (max K L) (by omega)
  have h2 := k (max K L) (by omega)
  rw [h1] at h2
  exact Option.some.inj h2
theorem w64 {n : Int} (h : -9223372036854775808 ≤ n) (h' : n ≤ 9223372036854775807) : wrap64 n = n := by unfold wrap64; omega
theorem byte_of {l : List Int} (h : ∀ x ∈ l, (Lit.int .u8 x).wf = true) (i : Int) : 0 ≤ rd l i ∧ rd l i ≤ 255 := by
  unfold rd
  by_cases hi : i.toNat < l.length
  · have hm : l.getD i.toNat 0 ∈ l := by
      rw [List.getD_eq_getElem?_getD, List.getElem?_eq_getElem hi]
      exact List.getElem_mem hi
    have := h _ hm
    have m0 : IntKind.u8.min = 0 := by decide
    have m1 : IntKind.u8.max = 255 := by decide
    simp only [Lit.wf, m0, m1, Bool.and_eq_true, decide_eq_true_eq] at this
    exact this
  · rw [List.getD_eq_getElem?_getD, List.getElem?_eq_none (by omega)]
    simp

/-! ### Reading a list -/
theorem rd_at (l : List Int) (i : Nat) (h : i < l.length) : rd l (i : Int) = l[i] := by
  unfold rd
  simp [List.getD_eq_getElem?_getD, h]
theorem next_i (i : Nat) (h : i ≤ 4611686018427387904) : wrap64 ((i : Int) + 1) = ((i + 1 : Nat) : Int) := by rw [w64 (by omega) (by omega)]; omega

/-! ### Short texts -/
theorem rdS_at (l : List ByteArray) (i : Nat) (h : i < l.length) : rdOf ByteArray.empty l (i : Int) = l[i] := by
  unfold rdOf
  simp [List.getD_eq_getElem?_getD, h]
theorem short_from (l : List ByteArray) (hl : l.length ≤ 4611686018427387904) (d : Nat) : ∀ i : Nat, i + d = l.length → Ev (fun k => impl_shortTexts.l0 k l (l.length : Int) (i : Int)) ((l.drop i).all fun s => decide (s.size ≤ 400)) := by
  induction d with
  | zero =>
    intro i hi
    refine ev_succ ?_
    simp only [impl_shortTexts.l0]
    refine ev_neg (by omega) (ev_some ?_)
    rw [List.drop_of_length_le (by omega)]; rfl
  | succ d ih =>
    intro i hi
    have hlt : i < l.length := by omega
    refine ev_succ ?_
    simp only [impl_shortTexts.l0]
    rw [rdS_at l i hlt, next_i i (by omega), List.drop_eq_getElem_cons hlt, List.all_cons]
    refine ev_pos (by omega) (ev_pos (by omega) (ev_pos (by omega) ?_))
    by_cases h : (l[i].size : Int) > 400
    · refine ev_pos h (ev_some ?_)
      rw [decide_eq_false (by omega)]; rfl
    · refine ev_neg h (ev_eq (ih (i + 1) (by omega)) ?_)
      rw [decide_eq_true (by omega), Bool.true_and]
theorem short_ev (l : List ByteArray) (hl : l.length ≤ 4611686018427387904) : Ev (fun k => impl_shortTexts.f k l) (l.all fun s => decide (s.size ≤ 400)) := by
  unfold impl_shortTexts.f
  exact short_from l hl l.length 0 (by omega)
theorem short1_ev (a : ByteArray) : Ev (fun k => impl_shortTexts.f k [a]) (decide (a.size ≤ 400)) := by
  have := short_ev [a] (by simp)
  simpa using this

theorem ba_ext {a b : ByteArray} (h : a.data.toList = b.data.toList) : a = b := by
  cases a; cases b
  simp only [Array.toList_inj] at h
  rw [h]
theorem ba_append (a b : ByteArray) : (a ++ b).data.toList = a.data.toList ++ b.data.toList := by
  rw [ByteArray.data_append, Array.toList_append]
theorem ba_len (a : ByteArray) : a.data.toList.length = a.size := by simp

/-! ### Quotes -/
def quoteR (s : ByteArray) : ByteArray := ⟨(quoteL s.data.toList).toArray⟩
theorem nums_list (l : List Int) : (strOfNums l).data.toList = l.map fun n => UInt8.ofNat n.toNat := rfl
theorem ofNat_byte (b : UInt8) : UInt8.ofNat ((b.toNat : Int)).toNat = b := by simp
theorem bt_nat (s : ByteArray) (i : Nat) (h : i < s.size) : bt s (i : Int) = ((s[i]'h).toNat : Int) := by simp [bt, h]
theorem ext_list (b : ByteArray) (j : Nat) (h : j < b.size) : (b.extract j (j + 1)).data.toList = [b[j]'h] := by
  rw [ByteArray.data_extract, Array.toList_extract, List.extract_eq_take_drop, List.drop_eq_getElem_cons (by simpa using h), show j + 1 - j = 0 + 1 by omega, List.take_succ_cons, List.take_zero]
  rfl
theorem hex_digit (n : Int) (h0 : 0 ≤ n) (h1 : n < 16) : ∃ t, spec_hexDigit.f n = some t ∧ t.data.toList = [hexD n.toNat] := by
  obtain ⟨m, rfl⟩ := Int.eq_ofNat_of_zero_le h0
  have hw : wrap64 ((m : Int) + 1) = ((m + 1 : Nat) : Int) := by rw [w64 (by omega) (by omega)]; omega
  unfold spec_hexDigit.f
  rw [hw, if_pos (by omega), if_pos (by omega), if_pos (by omega)]
  refine ⟨_, rfl, ?_⟩
  have := ext_list (⟨#[48, 49, 50, 51, 52, 53, 54, 55, 56, 57, 97, 98, 99, 100, 101, 102]⟩ : ByteArray) m (by show m < 16; omega)
  simp only [Int.toNat_natCast]
  rw [this, hexD_at m (by omega)]
theorem quote_from (s : ByteArray) (hs : s.size ≤ 1048576) (d : Nat) : ∀ (i : Nat) (x : ByteArray), i + d = s.size → x.data.toList = 39 :: (s.data.toList.take i).flatMap quote1 → Ev (fun k => spec_quoted.l0 k s x (i : Int)) (quoteR s) := by
  induction d with
  | zero =>
    intro i x hi hx
    have hxl : x.size ≤ 1 + 4 * i := by
      rw [← ba_len, hx, List.length_cons]
      have := flat_len (s.data.toList.take i)
      have h2 : (s.data.toList.take i).length ≤ i := List.length_take_le _ _
      omega
    refine ev_succ ?_
    simp only [spec_quoted.l0]
    refine ev_neg (by omega) (ev_pos (by omega) (ev_some (congrArg some (ba_ext ?_))))
    rw [ba_append, hx, List.take_of_length_le (by rw [ba_len]; omega)]
    rfl
  | succ d ih =>
    intro i x hi hx
    have hlt : i < s.size := by omega
    have hxl : x.size ≤ 1 + 4 * i := by
      rw [← ba_len, hx, List.length_cons]
      have := flat_len (s.data.toList.take i)
      have h2 : (s.data.toList.take i).length ≤ i := List.length_take_le _ _
      omega
    have hb := (s[i]'hlt).toNat_lt
    have go : ∀ y : ByteArray, y.data.toList = x.data.toList ++ quote1 (s[i]'hlt) → Ev (fun k => spec_quoted.l0 k s y ((i + 1 : Nat) : Int)) (quoteR s) := fun y hy =>
      ih (i + 1) y (by omega) (by rw [hy, hx, quote_take s i hlt]; simp)
    have hw : wrap64 ((s[i]'hlt).toNat : Int) = ((s[i]'hlt).toNat : Int) := w64 (by omega) (by omega)
    have J2 : ¬ ((s[i]'hlt).toNat = 39 ∨ (s[i]'hlt).toNat = 92) → ¬ (s[i]'hlt).toNat = 10 → ∀ z : Bool, (z = true ↔ (s[i]'hlt).toNat < 32 ∨ 126 < (s[i]'hlt).toNat) → Ev (fun k => spec_quoted.j2 k s x (i : Int) ((s[i]'hlt).toNat : Int) z) (quoteR s) := by
      intro n1 n2 z hz
      refine ev_succ ?_
      simp only [spec_quoted.j2]
      rw [next_i i (by omega), hw]
      by_cases c : (s[i]'hlt).toNat < 32 ∨ 126 < (s[i]'hlt).toNat
      · have e1 : Int.tdiv ((s[i]'hlt).toNat : Int) 16 = (((s[i]'hlt).toNat / 16 : Nat) : Int) := by rw [Int.tdiv_eq_ediv_of_nonneg (by omega)]; omega
        have e2 : Int.tmod ((s[i]'hlt).toNat : Int) 16 = (((s[i]'hlt).toNat % 16 : Nat) : Int) := by rw [Int.tmod_eq_emod_of_nonneg (by omega)]; omega
        have e3 : wrap64 (((s[i]'hlt).toNat / 16 : Nat) : Int) = (((s[i]'hlt).toNat / 16 : Nat) : Int) := w64 (by omega) (by omega)
        obtain ⟨t1, h1, l1⟩ := hex_digit (((s[i]'hlt).toNat / 16 : Nat) : Int) (by omega) (by omega)
        obtain ⟨t2, h2, l2⟩ := hex_digit (((s[i]'hlt).toNat % 16 : Nat) : Int) (by omega) (by omega)
        have z1 : t1.size = 1 := by rw [← ba_len, l1]; rfl
        have z2 : t2.size = 1 := by rw [← ba_len, l2]; rfl
        have zs : (strOfNums [92, 120]).size = 2 := by rw [strOfNums_size]; rfl
        rw [e1, e2, e3]
        refine ev_pos (hz.2 c) (ev_bind1 rfl (ev_pos (by omega) (ev_bind1 h1 (ev_pos (by rw [ByteArray.size_append]; omega) (ev_bind1 h2 (ev_pos (by rw [ByteArray.size_append, ByteArray.size_append]; omega) (go _ ?_)))))))
        rw [ba_append, ba_append, ba_append, l1, l2, nums_list, quote1, if_neg n1, if_neg n2, if_pos c, Int.toNat_natCast, Int.toNat_natCast]
        simp only [List.append_assoc]
        rfl
      · have zz : (s.extract i (i + 1)).size = 1 := by rw [← ba_len, ext_list s i hlt]; rfl
        refine ev_neg (fun h => c (hz.1 h)) (ev_pos (by omega) (ev_pos (by omega) (ev_pos (by omega) ?_)))
        simp only [Int.toNat_natCast]
        refine ev_pos (by omega) (go _ ?_)
        rw [ba_append, ext_list s i hlt, quote1, if_neg n1, if_neg n2, if_neg c]
    have J1 : ∀ z : Bool, (z = true ↔ (s[i]'hlt).toNat = 39 ∨ (s[i]'hlt).toNat = 92) → Ev (fun k => spec_quoted.j1 k s x (i : Int) ((s[i]'hlt).toNat : Int) z) (quoteR s) := by
      intro z hz
      refine ev_succ ?_
      simp only [spec_quoted.j1]
      rw [next_i i (by omega)]
      by_cases c : (s[i]'hlt).toNat = 39 ∨ (s[i]'hlt).toNat = 92
      · refine ev_pos (hz.2 c) (ev_bind1 rfl (ev_pos (by rw [strOfNums_size]; simp; omega) (go _ ?_)))
        rw [ba_append, nums_list, quote1, if_pos c]
        simp
      · refine ev_neg (fun h => c (hz.1 h)) ?_
        by_cases c2 : ((s[i]'hlt).toNat : Int) = 10
        · refine ev_pos c2 (ev_bind1 rfl (ev_pos (by rw [strOfNums_size]; simp; omega) (go _ ?_)))
          rw [ba_append, nums_list, quote1, if_neg c, if_pos (by omega)]
          simp
        · refine ev_neg c2 ?_
          by_cases c3 : ((s[i]'hlt).toNat : Int) < 32
          · exact ev_pos c3 (J2 c (by omega) true (by simp; omega))
          · exact ev_neg c3 (J2 c (by omega) _ (by simp; omega))
    refine ev_succ ?_
    simp only [spec_quoted.l0]
    rw [bt_nat s i hlt]
    refine ev_pos (by omega) (ev_pos (by omega) ?_)
    by_cases c : ((s[i]'hlt).toNat : Int) = 39
    · exact ev_pos c (J1 true (by simp; omega))
    · exact ev_neg c (J1 _ (by simp; omega))
theorem specQuote_ev (s : ByteArray) (hs : s.size ≤ 1048576) : Ev (fun k => spec_quoted.f k s) (quoteR s) := by
  unfold spec_quoted.f
  exact quote_from s hs s.size 0 _ (by omega) (by simp)
/-- What TextQuote answers. -/
def textQ (s : ByteArray) : ByteArray := if s.size ≤ 400 then quoteR s else ⟨#[]⟩
theorem specTQ_ev (s : ByteArray) (hs : s.size ≤ 1048576) : Ev (fun k => spec_TextQuote.f k s) (textQ s) := by
  have hv : spec_validText.f s = some (decide ((s.size : Int) ≤ 400)) := rfl
  unfold spec_TextQuote.f textQ
  refine ev_bind1 hv ?_
  by_cases h : (s.size : Int) ≤ 400
  · rw [if_pos (by omega)]
    exact ev_pos (decide_eq_true h) (Ev.bind (specQuote_ev s hs) (ev_some rfl))
  · rw [if_neg (by omega)]
    exact ev_neg (by simpa using h) (ev_some rfl)
theorem implTQ_ev (s : ByteArray) (hs : s.size ≤ 1048576) : Ev (fun k => impl_TextQuote.f k s) (textQ s) := by
  unfold impl_TextQuote.f textQ
  refine Ev.bind (short1_ev s) ?_
  by_cases h : s.size ≤ 400
  · rw [if_pos h]
    refine ev_pos (decide_eq_true h) (ev_bind1 (a := quoteR s) ?_ (ev_some rfl))
    unfold impl_quoted.f
    rw [if_pos (by omega)]; rfl
  · rw [if_neg h]
    exact ev_neg (by simpa using h) (ev_some rfl)

theorem FnExactTextQuote : laws_FnExactTextQuote.Pure := by
  intro s _
  refine Ev.rounds ?_
  unfold laws_FnExactTextQuote.f
  by_cases hl : (s.size : Int) > 1048576
  · exact ev_pos hl (ev_some rfl)
  exact ev_neg hl (Ev.bind (specTQ_ev s (by omega)) (Ev.bind (implTQ_ev s (by omega)) (ev_pos rfl (ev_some rfl))))

end Go.Proofs.Ytdloehnjofpbmaa.Pure
