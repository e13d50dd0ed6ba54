/- FnExactTextMany: the program repeats texts as the reference does, for every text of at most 2^20 bytes and every number. -/
import Derived.Test.YtdloehnjofpbmaaXFnExactTextManyx1
namespace Go.Proofs.Ytdloehnjofpbmaa.Pure
open Go.RowKit Go.Proofs.Ytdloehnjofpbmaa.XFnExactTextMany Go.Proofs.YtdloehnjofpbmaaW.PrintWords Go.Proofs.YtdloehnjofpbmaaW.PrintLast Go.Proofs.YtdloehnjofpbmaaW.PrintMore
set_option linter.unusedVariables false
set_option linter.unusedSimpArgs false

/-! ### Rounds, and words of 64 bits -/
theorem ev_succ {α : Type} {g : Nat → Option α} {r : α} (h : Ev (fun k => g (k + 1)) r) : Ev g r := Ev.step (fun _ => rfl) h
theorem ev_some {α : Type} {o : Option α} {r : α} (h : o = some r) : Ev (fun _ => o) r := ⟨0, fun _ _ => h⟩
theorem ev_pos {α : Type} {c : Prop} [Decidable c] {A B : Nat → Option α} {r : α} (h : c) (k : Ev A r) : Ev (fun n => if c then A n else B n) r :=
  Ev.congr (fun _ => if_pos h) k
theorem ev_neg {α : Type} {c : Prop} [Decidable c] {A B : Nat → Option α} {r : α} (h : ¬ c) (k : Ev B r) : Ev (fun n => if c then A n else B n) r :=
  Ev.congr (fun _ => if_neg h) k
theorem ev_eq {α : Type} {g : Nat → Option α} {r s : α} (h : Ev g r) (e : r = s) : Ev g s := e ▸ h
theorem ev_bind1 {α β : Type} {o : Option α} {f : Nat → α → Option β} {a : α} {r : β} (h : o = some a) (k : Ev (fun n => f n a) r) : Ev (fun n => o.bind (f n)) r :=
  Ev.bind (ev_some h) k
theorem ev_det {α : Type} {g : Nat → Option α} {r s : α} (h : Ev g r) (k : Ev g s) : r = s := by
  obtain ⟨K, h⟩ := h
  obtain ⟨L, k⟩ := k
  have h1 := h (max K L) (by omega)
  have h2 := k (max K L) (by omega)
  rw [h1] at h2
  exact Option.some.inj h2
theorem w64 {n : Int} (h : -9223372036854775808 ≤ n) (h' : n ≤ 9223372036854775807) : wrap64 n = n := by unfold wrap64; omega
theorem byte_of {l : List Int} (h : ∀ x ∈ l, (Lit.int .u8 x).wf = true) (i : Int) : 0 ≤ rd l i ∧ rd l i ≤ 255 := by
  unfold rd
  by_cases hi : i.toNat < l.length
  · have hm : l.getD i.toNat 0 ∈ l := by
      rw [List.getD_eq_getElem?_getD, List.getElem?_eq_getElem hi]
      exact List.getElem_mem hi
    have := h _ hm
    have m0 : IntKind.u8.min = 0 := by decide
    have m1 : IntKind.u8.max = 255 := by decide
    simp only [Lit.wf, m0, m1, Bool.and_eq_true, decide_eq_true_eq] at this
    exact this
  · rw [List.getD_eq_getElem?_getD, List.getElem?_eq_none (by omega)]
    simp

/-! ### Reading a list -/
theorem rd_at (l : List Int) (i : Nat) (h : i < l.length) : rd l (i : Int) = l[i] := by
  unfold rd
  simp [List.getD_eq_getElem?_getD, h]
theorem next_i (i : Nat) (h : i ≤ 4611686018427387904) : wrap64 ((i : Int) + 1) = ((i + 1 : Nat) : Int) := by rw [w64 (by omega) (by omega)]; omega

/-! ### Short texts -/
theorem rdS_at (l : List ByteArray) (i : Nat) (h : i < l.length) : rdOf ByteArray.empty l (i : Int) = l[i] := by
  unfold rdOf
  simp [List.getD_eq_getElem?_getD, h]
theorem short_from (l : List ByteArray) (hl : l.length ≤ 4611686018427387904) (d : Nat) : ∀ i : Nat, i + d = l.length → Ev (fun k => impl_shortTexts.l0 k l (l.length : Int) (i : Int)) ((l.drop i).all fun s => decide (s.size ≤ 400)) := by
  induction d with
  | zero =>
    intro i hi
    refine ev_succ ?_
    simp only [impl_shortTexts.l0]
    refine ev_neg (by omega) (ev_some ?_)
    rw [List.drop_of_length_le (by omega)]; rfl
  | succ d ih =>
    intro i hi
    have hlt : i < l.length := by omega
    refine ev_succ ?_
    simp only [impl_shortTexts.l0]
    rw [rdS_at l i hlt, next_i i (by omega), List.drop_eq_getElem_cons hlt, List.all_cons]
    refine ev_pos (by omega) (ev_pos (by omega) (ev_pos (by omega) ?_))
    by_cases h : (l[i].size : Int) > 400
    · refine ev_pos h (ev_some ?_)
      rw [decide_eq_false (by omega)]; rfl
    · refine ev_neg h (ev_eq (ih (i + 1) (by omega)) ?_)
      rw [decide_eq_true (by omega), Bool.true_and]
theorem short_ev (l : List ByteArray) (hl : l.length ≤ 4611686018427387904) : Ev (fun k => impl_shortTexts.f k l) (l.all fun s => decide (s.size ≤ 400)) := by
  unfold impl_shortTexts.f
  exact short_from l hl l.length 0 (by omega)
theorem short1_ev (a : ByteArray) : Ev (fun k => impl_shortTexts.f k [a]) (decide (a.size ≤ 400)) := by
  have := short_ev [a] (by simp)
  simpa using this

theorem ba_ext {a b : ByteArray} (h : a.data.toList = b.data.toList) : a = b := by
  cases a; cases b
  simp only [Array.toList_inj] at h
  rw [h]
theorem ba_append (a b : ByteArray) : (a ++ b).data.toList = a.data.toList ++ b.data.toList := by
  rw [ByteArray.data_append, Array.toList_append]
theorem ba_len (a : ByteArray) : a.data.toList.length = a.size := by simp

def manyT (s : ByteArray) (n : Int) : ByteArray × Bool :=
  if 400 < s.size then (⟨#[]⟩, false) else if n ≤ 0 ∨ s.size = 0 then (⟨#[]⟩, true) else
  if n > (400 : Int) / (s.size : Int) then (⟨#[]⟩, false) else (⟨(Lib.repeatL s.data.toList n.toNat).toArray⟩, true)
theorem nil_size (s : ByteArray) : (s.toList == ([] : List UInt8)) = decide (s.size = 0) := by
  rw [ByteArray.toList_eq]
  have h := ba_len s
  cases e : s.data.toList with
  | nil => rw [e] at h; rw [decide_eq_true (by rw [← h]; rfl)]; rfl
  | cons x t => rw [e] at h; rw [decide_eq_false (by rw [← h]; simp)]; rfl
theorem div_bound (m : Nat) (n : Int) (hm : 0 < m) (h : ¬ n > (400 : Int) / (m : Int)) (h0 : 0 ≤ n) : n.toNat * m ≤ 400 := by
  obtain ⟨c, rfl⟩ := Int.eq_ofNat_of_zero_le h0
  have h1 : (c : Int) ≤ (400 : Int) / (m : Int) := by omega
  have h2 := (Int.le_ediv_iff_mul_le (by omega : (0 : Int) < (m : Int))).1 h1
  have h3 : ((c * m : Nat) : Int) ≤ 400 := by rw [Int.natCast_mul]; exact h2
  rw [Int.toNat_natCast]
  omega
theorem many_from (s : ByteArray) (n : Nat) (hn : n * s.size ≤ 400) (h4 : n ≤ 400) (d : Nat) : ∀ (i : Nat) (x : ByteArray), i + d = n → x.data.toList = Lib.repeatL s.data.toList i → Ev (fun k => spec_TextMany.l0 k s (n : Int) x (i : Int)) (⟨(Lib.repeatL s.data.toList n).toArray⟩, true) := by
  induction d with
  | zero =>
    intro i x hi hx
    refine ev_succ ?_
    simp only [spec_TextMany.l0]
    refine ev_neg (by omega) (ev_some (congrArg some (Prod.ext (ba_ext ?_) rfl)))
    rw [hx, show i = n by omega]
  | succ d ih =>
    intro i x hi hx
    have hxs : x.size = i * s.size := by rw [← ba_len, hx, Lib.repeatL_length, ba_len]
    have hle : i * s.size ≤ n * s.size := Nat.mul_le_mul_right _ (by omega)
    have hle1 : (i + 1) * s.size ≤ n * s.size := Nat.mul_le_mul_right _ (by omega)
    rw [Nat.add_mul, Nat.one_mul] at hle1
    refine ev_succ ?_
    simp only [spec_TextMany.l0]
    rw [next_i i (by omega)]
    refine ev_pos (by omega) (ev_pos (by omega) (ih (i + 1) _ (by omega) ?_))
    rw [ba_append, hx, Lib.repeatL_add, Lib.repeatL_one]
theorem specMany_ev (s : ByteArray) (n : Int) : Ev (fun k => spec_TextMany.f k s n) (manyT s n) := by
  have hv : spec_validText.f s = some (decide ((s.size : Int) ≤ 400)) := rfl
  unfold spec_TextMany.f manyT
  refine ev_bind1 hv ?_
  by_cases h : s.size ≤ 400
  · rw [if_neg (by omega)]
    refine ev_pos (decide_eq_true (by omega)) ?_
    by_cases h0 : n ≤ 0
    · rw [if_pos (.inl h0)]
      refine ev_pos h0 (ev_succ ?_)
      simp only [spec_TextMany.j0]
      exact ev_pos trivial (ev_some rfl)
    · refine ev_neg h0 (ev_succ ?_)
      simp only [spec_TextMany.j0]
      rw [nil_size]
      by_cases hs : s.size = 0
      · rw [if_pos (show n ≤ 0 ∨ s.size = 0 from .inr hs)]
        exact ev_pos (decide_eq_true hs) (ev_some rfl)
      · rw [if_neg (show ¬ (n ≤ 0 ∨ s.size = 0) by omega), div400]
        refine ev_neg (by simp [hs]) (ev_neg (by omega) ?_)
        by_cases hd : n > (400 : Int) / (s.size : Int)
        · rw [if_pos hd]
          exact ev_pos hd (ev_some rfl)
        · rw [if_neg hd]
          refine ev_neg hd ?_
          have hb := div_bound s.size n (by omega) hd (by omega)
          have hb2 : n.toNat * 1 ≤ n.toNat * s.size := Nat.mul_le_mul_left _ (by omega)
          have := many_from s n.toNat hb (by omega) n.toNat 0 ⟨#[]⟩ (by omega) rfl
          rw [Int.toNat_of_nonneg (by omega)] at this
          exact this
  · rw [if_pos (by omega)]
    exact ev_neg (by simp; omega) (ev_some rfl)
theorem implMany_ev (s : ByteArray) (n : Int) (hn : n ≤ 9223372036854775807) : Ev (fun k => impl_TextMany.f k s n) (manyT s n) := by
  unfold impl_TextMany.f manyT
  refine Ev.bind (short1_ev s) ?_
  by_cases h : s.size ≤ 400
  · rw [if_neg (by omega)]
    refine ev_pos (decide_eq_true h) ?_
    by_cases h0 : n ≤ 0
    · rw [if_pos (.inl h0)]
      refine ev_pos h0 (ev_succ ?_)
      simp only [impl_TextMany.j0]
      exact ev_pos trivial (ev_some rfl)
    · refine ev_neg h0 (ev_succ ?_)
      simp only [impl_TextMany.j0]
      rw [nil_size]
      by_cases hs : s.size = 0
      · rw [if_pos (show n ≤ 0 ∨ s.size = 0 from .inr hs)]
        exact ev_pos (decide_eq_true hs) (ev_some rfl)
      · rw [if_neg (show ¬ (n ≤ 0 ∨ s.size = 0) by omega), div400]
        refine ev_neg (by simp [hs]) (ev_neg (by omega) ?_)
        by_cases hd : n > (400 : Int) / (s.size : Int)
        · rw [if_pos hd, if_pos hd]
          exact ev_some rfl
        · rw [if_neg hd, if_neg hd]
          have hb := div_bound s.size n (by omega) hd (by omega)
          refine ev_bind1 (a := ⟨(Lib.repeatL s.data.toList n.toNat).toArray⟩) ?_ (ev_some rfl)
          unfold strings_Repeat.f
          rw [if_pos ⟨by omega, hn, by rw [Nat.mul_comm]; omega⟩]
  · rw [if_pos (by omega)]
    exact ev_neg (by simpa using h) (ev_some rfl)
theorem FnExactTextMany : laws_FnExactTextMany.Pure := by
  intro s n _ hn
  have hn : -9223372036854775808 ≤ n ∧ n ≤ 9223372036854775807 := by
    have m0 : IntKind.i64.min = -9223372036854775808 := by decide
    have m1 : IntKind.i64.max = 9223372036854775807 := by decide
    simp only [Lit.wf, m0, m1, Bool.and_eq_true, decide_eq_true_eq] at hn
    exact hn
  refine Ev.rounds ?_
  unfold laws_FnExactTextMany.f
  by_cases hl : (s.size : Int) > 1048576
  · exact ev_pos hl (ev_some rfl)
  exact ev_neg hl (Ev.bind (specMany_ev s n) (Ev.bind (implMany_ev s n (by omega)) (ev_pos rfl (ev_neg (by simp) (ev_some rfl)))))

end Go.Proofs.Ytdloehnjofpbmaa.Pure
