/- FnExactTextJoin: the program joins texts as the reference does. -/
import Derived.Test.YtdloehnjofpbmaaXFnExactTextJoinx2
namespace Go.Proofs.Ytdloehnjofpbmaa.Pure
open Go.RowKit Go.Proofs.Ytdloehnjofpbmaa.XFnExactTextJoin Go.Proofs.YtdloehnjofpbmaaW.PrintWords Go.Proofs.YtdloehnjofpbmaaW.PrintLast Go.Proofs.YtdloehnjofpbmaaW.PrintMore
set_option linter.unusedVariables false
set_option linter.unusedSimpArgs false

/-! ### Rounds, and words of 64 bits -/
theorem ev_succ {α : Type} {g : Nat → Option α} {r : α} (h : Ev (fun k => g (k + 1)) r) : Ev g r := Ev.step (fun _ => rfl) h
theorem ev_some {α : Type} {o : Option α} {r : α} (h : o = some r) : Ev (fun _ => o) r := ⟨0, fun _ _ => h⟩
theorem ev_pos {α : Type} {c : Prop} [Decidable c] {A B : Nat → Option α} {r : α} (h : c) (k : Ev A r) : Ev (fun n => if c then A n else B n) r :=
  Ev.congr (fun _ => if_pos h) k
theorem ev_neg {α : Type} {c : Prop} [Decidable c] {A B : Nat → Option α} {r : α} (h : ¬ c) (k : Ev B r) : Ev (fun n => if c then A n else B n) r :=
  Ev.congr (fun _ => if_neg h) k
theorem ev_eq {α : Type} {g : Nat → Option α} {r s : α} (h : Ev g r) (e : r = s) : Ev g s := e ▸ h
theorem ev_bind1 {α β : Type} {o : Option α} {f : Nat → α → Option β} {a : α} {r : β} (h : o = some a) (k : Ev (fun n => f n a) r) : Ev (fun n => o.bind (f n)) r :=
  Ev.bind (ev_some h) k
theorem ev_det {α : Type} {g : Nat → Option α} {r s : α} (h : Ev g r) (k : Ev g s) : r = s := by
  obtain ⟨K, h⟩ := h
  obtain ⟨L, k⟩ := k
  have h1 := h (max K L) (by omega)
  have h2 := k (max K L) (by omega)
  rw [h1] at h2
  exact Option.some.inj h2
theorem w64 {n : Int} (h : -9223372036854775808 ≤ n) (h' : n ≤ 9223372036854775807) : wrap64 n = n := by unfold wrap64; omega
theorem byte_of {l : List Int} (h : ∀ x ∈ l, (Lit.int .u8 x).wf = true) (i : Int) : 0 ≤ rd l i ∧ rd l i ≤ 255 := by
  unfold rd
  by_cases hi : i.toNat < l.length
  · have hm : l.getD i.toNat 0 ∈ l := by
      rw [List.getD_eq_getElem?_getD, List.getElem?_eq_getElem hi]
      exact List.getElem_mem hi
    have := h _ hm
    have m0 : IntKind.u8.min = 0 := by decide
    have m1 : IntKind.u8.max = 255 := by decide
    simp only [Lit.wf, m0, m1, Bool.and_eq_true, decide_eq_true_eq] at this
    exact this
  · rw [List.getD_eq_getElem?_getD, List.getElem?_eq_none (by omega)]
    simp

/-! ### Reading a list -/
theorem rd_at (l : List Int) (i : Nat) (h : i < l.length) : rd l (i : Int) = l[i] := by
  unfold rd
  simp [List.getD_eq_getElem?_getD, h]
theorem next_i (i : Nat) (h : i ≤ 4611686018427387904) : wrap64 ((i : Int) + 1) = ((i + 1 : Nat) : Int) := by rw [w64 (by omega) (by omega)]; omega

/-! ### Short texts -/
theorem rdS_at (l : List ByteArray) (i : Nat) (h : i < l.length) : rdOf ByteArray.empty l (i : Int) = l[i] := by
  unfold rdOf
  simp [List.getD_eq_getElem?_getD, h]
theorem short_from (l : List ByteArray) (hl : l.length ≤ 4611686018427387904) (d : Nat) : ∀ i : Nat, i + d = l.length → Ev (fun k => impl_shortTexts.l0 k l (l.length : Int) (i : Int)) ((l.drop i).all fun s => decide (s.size ≤ 400)) := by
  induction d with
  | zero =>
    intro i hi
    refine ev_succ ?_
    simp only [impl_shortTexts.l0]
    refine ev_neg (by omega) (ev_some ?_)
    rw [List.drop_of_length_le (by omega)]; rfl
  | succ d ih =>
    intro i hi
    have hlt : i < l.length := by omega
    refine ev_succ ?_
    simp only [impl_shortTexts.l0]
    rw [rdS_at l i hlt, next_i i (by omega), List.drop_eq_getElem_cons hlt, List.all_cons]
    refine ev_pos (by omega) (ev_pos (by omega) (ev_pos (by omega) ?_))
    by_cases h : (l[i].size : Int) > 400
    · refine ev_pos h (ev_some ?_)
      rw [decide_eq_false (by omega)]; rfl
    · refine ev_neg h (ev_eq (ih (i + 1) (by omega)) ?_)
      rw [decide_eq_true (by omega), Bool.true_and]
theorem short_ev (l : List ByteArray) (hl : l.length ≤ 4611686018427387904) : Ev (fun k => impl_shortTexts.f k l) (l.all fun s => decide (s.size ≤ 400)) := by
  unfold impl_shortTexts.f
  exact short_from l hl l.length 0 (by omega)
theorem short1_ev (a : ByteArray) : Ev (fun k => impl_shortTexts.f k [a]) (decide (a.size ≤ 400)) := by
  have := short_ev [a] (by simp)
  simpa using this

theorem ba_ext {a b : ByteArray} (h : a.data.toList = b.data.toList) : a = b := by
  cases a; cases b
  simp only [Array.toList_inj] at h
  rw [h]
theorem ba_append (a b : ByteArray) : (a ++ b).data.toList = a.data.toList ++ b.data.toList := by
  rw [ByteArray.data_append, Array.toList_append]
theorem ba_len (a : ByteArray) : a.data.toList.length = a.size := by simp

theorem rdOf_at (l : List ByteArray) (i : Nat) (h : i < l.length) : rdOf ByteArray.empty l (i : Int) = l[i] := rdS_at l i h

/-! ### Lists of texts: how long, copied, compared -/
theorem szStr_from (l : List ByteArray) (hl : l.length ≤ 1048576) (hr : ∀ r ∈ l, r.size ≤ 9223372036854775807) (d : Nat) : ∀ (i : Nat) (a : Int), i + d = l.length → 0 ≤ a ∧ a ≤ 1048576 →
    ∃ r, Ev (fun k => laws_szStringS.l0 k l a (i : Int)) r ∧ r ≤ a ∧ (0 ≤ r → ∀ x ∈ l.drop i, x.size ≤ 1048576) := by
  induction d with
  | zero =>
    intro i a hi ha
    refine ⟨a, ev_succ ?_, by omega, fun _ => by rw [List.drop_of_length_le (by omega)]; simp⟩
    simp only [laws_szStringS.l0]
    exact ev_neg (by omega) (ev_some rfl)
  | succ d ih =>
    intro i a hi ha
    have hlt : i < l.length := by omega
    have hlr := hr _ (List.getElem_mem hlt)
    have hw : wrap64 (a - (l[i].size : Int)) = a - l[i].size := w64 (by omega) (by omega)
    have hn : wrap64 ((i : Int) + 1) = ((i + 1 : Nat) : Int) := by rw [w64 (by omega) (by omega)]; omega
    by_cases h : a - (l[i].size : Int) < 0
    · refine ⟨-1, ev_succ ?_, by omega, fun h0 => absurd h0 (by omega)⟩
      simp only [laws_szStringS.l0]
      rw [rdOf_at l i hlt, hw]
      exact ev_pos (by omega) (ev_pos (by omega) (ev_pos h (ev_some rfl)))
    · obtain ⟨r, hr', hra, hx⟩ := ih (i + 1) (a - l[i].size) (by omega) (by omega)
      refine ⟨r, ev_succ ?_, by omega, fun h0 => ?_⟩
      · simp only [laws_szStringS.l0]
        rw [rdOf_at l i hlt, hw, hn]
        exact ev_pos (by omega) (ev_pos (by omega) (ev_neg h hr'))
      · rw [List.drop_eq_getElem_cons hlt]
        intro x hm
        rcases List.mem_cons.1 hm with rfl | hm
        · omega
        · exact hx h0 x hm
theorem szStr_ev (l : List ByteArray) (a : Int) (ha : 0 ≤ a ∧ a ≤ 1048576) (hl : l.length ≤ 9223372036854775807) (hr : ∀ r ∈ l, r.size ≤ 9223372036854775807) :
    ∃ r, Ev (fun k => laws_szStringS.f k l a) r ∧ r ≤ a ∧ (0 ≤ r → l.length ≤ 1048576 ∧ ∀ x ∈ l, x.size ≤ 1048576) := by
  have hw : wrap64 (a - (l.length : Int)) = a - l.length := w64 (by omega) (by omega)
  by_cases h : a - (l.length : Int) < 0
  · refine ⟨-1, ?_, by omega, fun h0 => absurd h0 (by omega)⟩
    unfold laws_szStringS.f
    rw [hw]
    exact ev_pos h (ev_some rfl)
  · obtain ⟨r, e, hra, hx⟩ := szStr_from l (by omega) hr l.length 0 (a - l.length) (by omega) (by omega)
    refine ⟨r, ?_, by omega, fun h0 => ⟨by omega, hx h0⟩⟩
    unfold laws_szStringS.f
    rw [hw]
    exact ev_neg h e
theorem toStr_from (l : List ByteArray) (hl : l.length ≤ 1048576) (d : Nat) : ∀ (i : Nat) (x : List ByteArray), i + d = l.length → x.length = l.length → x.take i = l.take i → Ev (fun k => laws_toStringS.l0 k l x (i : Int)) l := by
  induction d with
  | zero =>
    intro i x hi hx ht
    refine ev_succ ?_
    simp only [laws_toStringS.l0]
    refine ev_neg (by omega) (ev_some ?_)
    rw [List.take_of_length_le (by omega), List.take_of_length_le (by omega)] at ht
    rw [ht]
  | succ d ih =>
    intro i x hi hx ht
    have hlt : i < l.length := by omega
    have hn : wrap64 ((i : Int) + 1) = ((i + 1 : Nat) : Int) := by rw [w64 (by omega) (by omega)]; omega
    refine ev_succ ?_
    simp only [laws_toStringS.l0]
    rw [rdOf_at l i hlt, hn]
    refine ev_pos (by omega) (ev_pos (by omega) (ev_pos (by omega) ?_))
    refine ih (i + 1) _ (by omega) (by simp [hx]) ?_
    have hi' : i < x.length := by omega
    rw [List.take_succ_eq_append_getElem (by simp; omega), List.take_succ_eq_append_getElem (by omega)]
    simp only [Int.toNat_natCast, List.getElem_set_self]
    rw [List.take_set_of_le (Nat.le_refl i), ht]
theorem toStr_ev (l : List ByteArray) (hl : l.length ≤ 1048576) : Ev (fun k => laws_toStringS.f k l) l := by
  unfold laws_toStringS.f
  refine ev_pos (by omega) (ev_pos (by simp; omega) ?_)
  exact toStr_from l hl l.length 0 _ (by omega) (by simp) (by simp)
theorem eqStr_from (l : List ByteArray) (hl : l.length ≤ 1048576) (d : Nat) : ∀ (i : Nat), i + d = l.length → Ev (fun k => laws_eqStringS.l0 k l l (i : Int)) true := by
  induction d with
  | zero =>
    intro i hi
    refine ev_succ ?_
    simp only [laws_eqStringS.l0]
    exact ev_neg (by omega) (ev_some rfl)
  | succ d ih =>
    intro i hi
    have hn : wrap64 ((i : Int) + 1) = ((i + 1 : Nat) : Int) := by rw [w64 (by omega) (by omega)]; omega
    refine ev_succ ?_
    simp only [laws_eqStringS.l0]
    rw [hn]
    exact ev_pos (by omega) (ev_pos (by omega) (ev_pos (by omega) (ev_pos trivial (ih (i + 1) (by omega)))))
theorem eqStr_ev (l : List ByteArray) (hl : l.length ≤ 1048576) : Ev (fun k => laws_eqStringS.f k l l) true := by
  unfold laws_eqStringS.f
  exact ev_pos rfl (eqStr_from l hl l.length 0 (by omega))

/-! ### Joined texts -/
def joinB (l : List ByteArray) (p : ByteArray) : List UInt8 := Lib.join (l.map (·.data.toList)) p.data.toList
theorem joinB_nil (p : ByteArray) : joinB [] p = [] := rfl
theorem joinB_step (l : List ByteArray) (p : ByteArray) (i : Nat) (h : i < l.length) : joinB (l.take (i + 1)) p = (if i = 0 then [] else joinB (l.take i) p ++ p.data.toList) ++ l[i].data.toList := by
  cases l with
  | nil => simp at h
  | cons x r =>
    cases i with
    | zero => simp [joinB, Lib.join_cons, Lib.joinTail]
    | succ j =>
      have hj : j < r.length := by simpa using h
      have hg : (r.map (·.data.toList))[j]? = some r[j].data.toList := by simp [hj]
      unfold joinB
      rw [if_neg (by omega), List.take_succ_cons, List.take_succ_cons, List.map_cons, List.map_cons, Lib.join_cons, Lib.join_cons, List.map_take, List.map_take, Lib.joinTail_take_succ _ _ _ _ hg]
      simp [List.append_assoc]
theorem joinB_le (l : List ByteArray) (p : ByteArray) (hp : p.size ≤ 400) (hl : ∀ s ∈ l, s.size ≤ 400) : ∀ i, i ≤ l.length → (joinB (l.take i) p).length ≤ 800 * i
  | 0, _ => by simp [joinB_nil]
  | i + 1, h => by
    have ih := joinB_le l p hp hl i (by omega)
    have h1 := hl l[i] (List.getElem_mem (by omega))
    rw [joinB_step l p i (by omega), List.length_append, ba_len]
    split
    · simp only [List.length_nil]; omega
    · rw [List.length_append, ba_len]; omega
theorem joinB_le' (l : List ByteArray) (p : ByteArray) (hp : p.size ≤ 400) (hl : ∀ s ∈ l, s.size ≤ 400) : (joinB l p).length ≤ 800 * l.length := by
  have := joinB_le l p hp hl l.length (Nat.le_refl _)
  rwa [List.take_length] at this
theorem sjoin_from (l : List ByteArray) (p : ByteArray) (hl : l.length ≤ 1048576) (hp : p.size ≤ 400) (hs : ∀ s ∈ l, s.size ≤ 400) (d : Nat) : ∀ (i : Nat) (x : ByteArray), i + d = l.length → x.data.toList = joinB (l.take i) p → Ev (fun k => spec_textJoin.l0 k l p x (i : Int)) ⟨(joinB l p).toArray⟩ := by
  induction d with
  | zero =>
    intro i x hi hx
    refine ev_succ ?_
    simp only [spec_textJoin.l0]
    refine ev_neg (by omega) (ev_some (congrArg some (ba_ext ?_)))
    rw [hx, List.take_of_length_le (by omega)]
  | succ d ih =>
    intro i x hi hx
    have hlt : i < l.length := by omega
    have hxs : x.size ≤ 800 * i := by rw [← ba_len, hx]; exact joinB_le l p hp hs i (by omega)
    have h1 := hs l[i] (List.getElem_mem hlt)
    have st := joinB_step l p i hlt
    refine ev_succ ?_
    simp only [spec_textJoin.l0]
    rw [rdS_at l i hlt, next_i i (by omega)]
    refine ev_pos (by omega) ?_
    by_cases h0 : i = 0
    · rw [if_pos h0] at st
      refine ev_neg (by omega) (ev_pos (by omega) (ev_pos (by omega) (ih (i + 1) _ (by omega) ?_)))
      have e0 : joinB (l.take i) p = [] := by simp [h0, joinB_nil]
      rw [ba_append, hx, st, e0]
    · rw [if_neg h0] at st
      refine ev_pos (by omega) (ev_pos (by omega) (ev_pos (by omega) (ev_pos (by rw [ByteArray.size_append]; omega) (ih (i + 1) _ (by omega) ?_))))
      rw [ba_append, ba_append, hx, st]
/-- What TextJoin answers. -/
def joinT (l : List ByteArray) (p : ByteArray) : ByteArray × Bool :=
  if l.length ≤ 401 ∧ p.size ≤ 400 ∧ (∀ s ∈ l, s.size ≤ 400) ∧ (joinB l p).length ≤ 400 then (⟨(joinB l p).toArray⟩, true) else (⟨#[]⟩, false)
theorem sTJ_from (l : List ByteArray) (p : ByteArray) (hl : l.length ≤ 401) (hp : p.size ≤ 400) (d : Nat) : ∀ (i : Nat), i + d = l.length → (∀ s ∈ l.take i, s.size ≤ 400) → Ev (fun k => spec_TextJoin.l0 k l p ((joinB (l.take i) p).length : Int) (i : Int)) (joinT l p) := by
  induction d with
  | zero =>
    intro i hi hs
    rw [List.take_of_length_le (by omega)] at hs ⊢
    refine ev_succ ?_
    simp only [spec_TextJoin.l0]
    refine ev_neg (by omega) ?_
    by_cases h : (joinB l p).length ≤ 400
    · refine ev_neg (by omega) (Ev.bind (a := ⟨(joinB l p).toArray⟩) ?_ (ev_some (congrArg some ?_)))
      · unfold spec_textJoin.f
        exact sjoin_from l p (by omega) hp hs l.length 0 _ (by omega) rfl
      · unfold joinT
        rw [if_pos ⟨hl, hp, hs, h⟩]
    · refine ev_pos (by omega) (ev_some (congrArg some ?_))
      unfold joinT
      rw [if_neg (fun z => h z.2.2.2)]
  | succ d ih =>
    intro i hi hs
    have hlt : i < l.length := by omega
    have hv : spec_validText.f l[i] = some (decide ((l[i].size : Int) ≤ 400)) := rfl
    have hxs : (joinB (l.take i) p).length ≤ 800 * i := by
      have := joinB_le (l.take i) p hp hs i (by simp; omega)
      rwa [List.take_take, Nat.min_self] at this
    have st := joinB_step l p i hlt
    refine ev_succ ?_
    simp only [spec_TextJoin.l0]
    rw [rdS_at l i hlt, next_i i (by omega)]
    refine ev_pos (by omega) (ev_pos (by omega) (ev_bind1 hv ?_))
    by_cases hc : l[i].size ≤ 400
    · refine ev_pos (decide_eq_true (by omega)) ?_
      have hs' : ∀ s ∈ l.take (i + 1), s.size ≤ 400 := by
        intro s hm
        rw [List.take_succ_eq_append_getElem hlt] at hm
        rcases List.mem_append.1 hm with hm | hm
        · exact hs s hm
        · rw [List.mem_singleton.1 hm]; exact hc
      have next := ih (i + 1) (by omega) hs'
      rw [st, List.length_append, ba_len] at next
      by_cases h0 : i = 0
      · rw [if_pos h0] at next
        refine ev_neg (by omega) ?_
        rw [show wrap64 (((joinB (l.take i) p).length : Int) + (l[i].size : Int)) = (((([] : List UInt8).length + l[i].size : Nat)) : Int) by
          have e0 : joinB (l.take i) p = [] := by simp [h0, joinB_nil]
          rw [w64 (by omega) (by omega), e0]; simp]
        exact next
      · rw [if_neg h0, List.length_append, ba_len] at next
        refine ev_pos (by omega) ?_
        rw [show wrap64 (wrap64 (((joinB (l.take i) p).length : Int) + (l[i].size : Int)) + (p.size : Int)) = (((joinB (l.take i) p).length + p.size + l[i].size : Nat) : Int) by
          rw [w64 (n := ((joinB (l.take i) p).length : Int) + (l[i].size : Int)) (by omega) (by omega), w64 (by omega) (by omega)]; omega]
        exact next
    · refine ev_neg (by simp; omega) (ev_some (congrArg some ?_))
      unfold joinT
      rw [if_neg (fun z => hc (z.2.2.1 _ (List.getElem_mem hlt)))]
theorem specTJ_ev (l : List ByteArray) (p : ByteArray) : Ev (fun k => spec_TextJoin.f k l p) (joinT l p) := by
  have hv : spec_validText.f p = some (decide ((p.size : Int) ≤ 400)) := rfl
  unfold spec_TextJoin.f
  by_cases hl : l.length ≤ 401
  · refine ev_neg (by omega) (ev_bind1 hv (ev_succ ?_))
    simp only [spec_TextJoin.j0]
    by_cases hp : p.size ≤ 400
    · rw [decide_eq_true (show (p.size : Int) ≤ 400 by omega)]
      refine ev_neg (by simp) ?_
      exact sTJ_from l p hl hp l.length 0 (by omega) (by simp)
    · rw [decide_eq_false (show ¬ (p.size : Int) ≤ 400 by omega)]
      refine ev_pos (by simp) (ev_some (congrArg some ?_))
      unfold joinT
      rw [if_neg (fun z => hp z.2.1)]
  · refine ev_pos (by omega) (ev_succ ?_)
    simp only [spec_TextJoin.j0]
    refine ev_pos trivial (ev_some (congrArg some ?_))
    unfold joinT
    rw [if_neg (fun z => hl z.1)]
theorem implTJ_ev (l : List ByteArray) (p : ByteArray) (hn : l.length ≤ 4611686018427387904) : Ev (fun k => impl_TextJoin.f k l p) (joinT l p) := by
  unfold impl_TextJoin.f
  refine Ev.bind (short_ev l hn) ?_
  by_cases hs : ∀ s ∈ l, s.size ≤ 400
  · refine ev_pos (by simpa using hs) (Ev.bind (short1_ev p) ?_)
    by_cases hp : p.size ≤ 400
    · refine ev_pos (decide_eq_true hp) (ev_succ ?_)
      simp only [impl_TextJoin.j0]
      by_cases hl : l.length ≤ 401
      · have hle := joinB_le' l p hp hs
        refine ev_neg (by simp; omega) (ev_bind1 (a := ⟨(joinB l p).toArray⟩) ?_ (Ev.bind (short1_ev _) ?_))
        · unfold strings_Join.f
          rw [if_pos ⟨by omega, by unfold joinB at hle; omega⟩]; rfl
        · have hz : (⟨(joinB l p).toArray⟩ : ByteArray).size = (joinB l p).length := by rw [← ba_len]
          rw [hz]
          by_cases h : (joinB l p).length ≤ 400
          · refine ev_pos (decide_eq_true h) (ev_some (congrArg some ?_))
            unfold joinT
            rw [if_pos ⟨hl, hp, hs, h⟩]
          · refine ev_neg (by simpa using h) (ev_some (congrArg some ?_))
            unfold joinT
            rw [if_neg (fun z => h z.2.2.2)]
      · refine ev_pos (by simp; omega) (ev_some (congrArg some ?_))
        unfold joinT
        rw [if_neg (fun z => hl z.1)]
    · refine ev_neg (by simpa using hp) (ev_succ ?_)
      simp only [impl_TextJoin.j0]
      refine ev_pos trivial (ev_some (congrArg some ?_))
      unfold joinT
      rw [if_neg (fun z => hp z.2.1)]
  · refine ev_neg (by simpa using hs) (ev_succ ?_)
    simp only [impl_TextJoin.j0]
    refine ev_pos trivial (ev_some (congrArg some ?_))
    unfold joinT
    rw [if_neg (fun z => hs z.2.2.1)]

theorem FnExactTextJoin (l : List ByteArray) (p : ByteArray) (h1 : l.length ≤ 9223372036854775807) (h2 : ∀ s ∈ l, s.size ≤ 9223372036854775807) : ∃ k, laws_FnExactTextJoin.f k l p = some true := by
  refine Ev.rounds ?_
  unfold laws_FnExactTextJoin.f
  by_cases hl : (p.size : Int) > 1048576
  · exact ev_pos hl (ev_some rfl)
  refine ev_neg hl ?_
  obtain ⟨z, Z, _, hz⟩ := szStr_ev l 1048576 (by omega) h1 h2
  refine Ev.bind Z ?_
  by_cases h0 : z < 0
  · exact ev_pos h0 (ev_some rfl)
  refine ev_neg h0 ?_
  obtain ⟨hn, hr⟩ := hz (by omega)
  have T := toStr_ev l hn
  refine Ev.bind T (Ev.bind (specTJ_ev l p) (Ev.bind T (Ev.bind (implTJ_ev l p (by omega)) (ev_pos rfl (ev_succ ?_)))))
  simp only [laws_FnExactTextJoin.j0]
  exact ev_neg (by simp) (Ev.bind T (Ev.bind (eqStr_ev l hn) (ev_pos rfl (ev_some rfl))))

end Go.Proofs.Ytdloehnjofpbmaa.Pure
