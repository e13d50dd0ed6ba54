/- FnExactRoomsOf: the program tells the rooms of a list as the reference does, for every list of at most 2^20 lengths. -/
import Derived.Test.YtppbnfoagbipaabPFnExactRoomsOfx2
import Derived.Test.YtppbnfoagbipaabWSized
namespace Go.Proofs.Ytppbnfoagbipaab.PrintWords
open Go.ChangeShapes Go.WideShapes
/-- The printed row names this word without the seat's own name in front. -/
theorem sized_ints {H : Type} {enc : TypeId × Value → H} {P : Program} {W : World} {base : Nat} {spare : Nat → Bool} {held : Bool} {t e : TypeId} {k : IntKind} {a : Option Addr} {len cap : Nat} {d : DataW H} {ps : List MemPlace} {ts : List TypeId} {ds : List (DataW H)} {j : Nat}
    (hsz : (DataW.weightsEach P ts ds).all (· ≤ reachBytes) = true) (ht : ts[j]? = some t) (hd : ds[j]? = some d) (hu : P.underlying t = some (.slice e)) (he : P.underlying e = some (.int k)) (hc : P.cellsOf e = 1) {B : Nat} (hB : P.bytesOf e = B)
    (h : DataW.Trod enc P W base spare held t (.slice a len cap) d ps) : len * B ≤ 140737488351232 :=
  Go.Proofs.YtppbnfoagbipaabW.PrintWords.sized_ints hsz ht hd hu he hc hB h
end Go.Proofs.Ytppbnfoagbipaab.PrintWords
namespace Go.Proofs.Ytppbnfoagbipaab.Pure
open Go.RowKit Go.Proofs.Ytppbnfoagbipaab.PFnExactRoomsOf Go.Proofs.YtppbnfoagbipaabW.PrintWords Go.Proofs.YtppbnfoagbipaabW.PrintLast Go.Proofs.YtppbnfoagbipaabW.PrintMore
set_option linter.unusedVariables false
set_option linter.unusedSimpArgs false

/-! ### Rounds, and words of 64 bits -/
theorem ev_succ {α : Type} {g : Nat → Option α} {r : α} (h : Ev (fun k => g (k + 1)) r) : Ev g r := Ev.step (fun _ => rfl) h
theorem ev_some {α : Type} {o : Option α} {r : α} (h : o = some r) : Ev (fun _ => o) r := ⟨0, fun _ _ => h⟩
theorem ev_pos {α : Type} {c : Prop} [Decidable c] {A B : Nat → Option α} {r : α} (h : c) (k : Ev A r) : Ev (fun n => if c then A n else B n) r :=
  Ev.congr (fun _ => if_pos h) k
theorem ev_neg {α : Type} {c : Prop} [Decidable c] {A B : Nat → Option α} {r : α} (h : ¬ c) (k : Ev B r) : Ev (fun n => if c then A n else B n) r :=
  Ev.congr (fun _ => if_neg h) k
theorem ev_eq {α : Type} {g : Nat → Option α} {r s : α} (h : Ev g r) (e : r = s) : Ev g s := e ▸ h
theorem ev_bind1 {α β : Type} {o : Option α} {f : Nat → α → Option β} {a : α} {r : β} (h : o = some a) (k : Ev (fun n => f n a) r) : Ev (fun n => o.bind (f n)) r :=
  Ev.bind (ev_some h) k
theorem ev_det {α : Type} {g : Nat → Option α} {r s : α} (h : Ev g r) (k : Ev g s) : r = s := by
  obtain ⟨K, h⟩ := h
  obtain ⟨L, k⟩ := k
  have h1 := h (max K L) (by omega)
  have h2 := k (max K L) (by omega)
  rw [h1] at h2
  exact Option.some.inj h2
theorem w64 {n : Int} (h : -9223372036854775808 ≤ n) (h' : n ≤ 9223372036854775807) : wrap64 n = n := by unfold wrap64; omega
theorem byte_of {l : List Int} (h : ∀ x ∈ l, (Lit.int .u8 x).wf = true) (i : Int) : 0 ≤ rd l i ∧ rd l i ≤ 255 := by
  unfold rd
  by_cases hi : i.toNat < l.length
  · have hm : l.getD i.toNat 0 ∈ l := by
      rw [List.getD_eq_getElem?_getD, List.getElem?_eq_getElem hi]
      exact List.getElem_mem hi
    have := h _ hm
    have m0 : IntKind.u8.min = 0 := by decide
    have m1 : IntKind.u8.max = 255 := by decide
    simp only [Lit.wf, m0, m1, Bool.and_eq_true, decide_eq_true_eq] at this
    exact this
  · rw [List.getD_eq_getElem?_getD, List.getElem?_eq_none (by omega)]
    simp

/-! ### Lists of numbers: copied, compared, marked -/
def seqL (s : Int) (n : Nat) : List Int := (List.range n).map fun (i : Nat) => s + (i : Int)
theorem seqL_length (s : Int) (n : Nat) : (seqL s n).length = n := by simp [seqL]
theorem rd_at (l : List Int) (i : Nat) (h : i < l.length) : rd l (i : Int) = l[i] := by
  unfold rd
  simp [List.getD_eq_getElem?_getD, h]
theorem next_i (i : Nat) (h : i ≤ 4611686018427387904) : wrap64 ((i : Int) + 1) = ((i + 1 : Nat) : Int) := by rw [w64 (by omega) (by omega)]; omega

theorem toInt_from (l : List Int) (hl : l.length ≤ 1048576) (d : Nat) : ∀ (i : Nat) (x : List Int), i + d = l.length → x.length = l.length → x.take i = l.take i → Ev (fun k => laws_toIntS.l0 k l x (i : Int)) l := by
  induction d with
  | zero =>
    intro i x hi hx ht
    refine ev_succ ?_
    simp only [laws_toIntS.l0]
    refine ev_neg (by omega) (ev_some ?_)
    rw [List.take_of_length_le (by omega), List.take_of_length_le (by omega)] at ht
    rw [ht]
  | succ d ih =>
    intro i x hi hx ht
    refine ev_succ ?_
    simp only [laws_toIntS.l0]
    refine ev_pos (by omega) (ev_pos (by omega) (ev_pos (by omega) ?_))
    rw [next_i i (by omega), rd_at l i (by omega)]
    refine ih (i + 1) _ (by omega) (by simp [hx]) ?_
    have hi' : i < x.length := by omega
    rw [List.take_succ_eq_append_getElem (by simp; omega), List.take_succ_eq_append_getElem (by omega)]
    simp only [Int.toNat_natCast, List.getElem_set_self]
    rw [List.take_set_of_le (Nat.le_refl i), ht]

theorem toInt_ev (l : List Int) (hl : l.length ≤ 1048576) : Ev (fun k => laws_toIntS.f k l) l := by
  unfold laws_toIntS.f
  refine ev_pos (by omega) (ev_pos (by simp; omega) ?_)
  exact toInt_from l hl l.length 0 _ (by omega) (by simp) (by simp)

theorem eqSelf_from (l : List Int) (hl : l.length ≤ 1048576) (d : Nat) : ∀ (i : Nat), i + d = l.length → Ev (fun k => laws_eqIntS.l0 k l l (i : Int)) true := by
  induction d with
  | zero =>
    intro i hi
    refine ev_succ ?_
    simp only [laws_eqIntS.l0]
    exact ev_neg (by omega) (ev_some rfl)
  | succ d ih =>
    intro i hi
    refine ev_succ ?_
    simp only [laws_eqIntS.l0]
    refine ev_pos (by omega) (ev_pos (by omega) (ev_pos (by omega) (ev_pos trivial ?_)))
    rw [next_i i (by omega)]
    exact ih (i + 1) (by omega)

theorem eqSelf_ev (l : List Int) (hl : l.length ≤ 1048576) : Ev (fun k => laws_eqIntS.f k l l) true := by
  unfold laws_eqIntS.f
  exact ev_pos rfl (eqSelf_from l hl l.length 0 (by omega))

theorem mark_from (l : List Int) (s : Int) (hl : l.length ≤ 1048576) (h0 : 0 ≤ s) (h1 : s ≤ 1000000000000) (d : Nat) : ∀ (i : Nat) (x : List Int), i + d = l.length → x.length = l.length → x.take i = seqL s i →
    Ev (fun k => laws_markIntS.l0 k x (s + (i : Int)) (i : Int)) (s + (l.length : Int), seqL s l.length) := by
  induction d with
  | zero =>
    intro i x hi hx ht
    refine ev_succ ?_
    simp only [laws_markIntS.l0]
    refine ev_neg (by omega) (ev_some ?_)
    rw [List.take_of_length_le (by omega)] at ht
    have : i = l.length := by omega
    subst this
    rw [ht]
  | succ d ih =>
    intro i x hi hx ht
    refine ev_succ ?_
    simp only [laws_markIntS.l0]
    refine ev_pos (by omega) (ev_pos (by omega) ?_)
    rw [next_i i (by omega), show wrap64 (s + (i : Int) + 1) = s + ((i + 1 : Nat) : Int) by rw [w64 (by omega) (by omega)]; omega]
    refine ih (i + 1) _ (by omega) (by simp [hx]) ?_
    rw [List.take_succ_eq_append_getElem (by simp; omega)]
    simp only [Int.toNat_natCast, List.getElem_set_self]
    rw [List.take_set_of_le (Nat.le_refl i), ht]
    simp [seqL, List.range_succ]

theorem mark_ev (l : List Int) (s : Int) (hl : l.length ≤ 1048576) (h0 : 0 ≤ s) (h1 : s ≤ 1000000000000) : Ev (fun k => laws_markIntS.f k l s) (s + (l.length : Int), seqL s l.length) := by
  have h := mark_from l s hl h0 h1 l.length 0 l (by omega) rfl (by simp [seqL])
  have e : s + ((0 : Nat) : Int) = s := by omega
  rw [e] at h
  exact h

theorem held_from (s : Int) (n : Nat) (hl : n ≤ 1048576) (h0 : 0 ≤ s) (h1 : s ≤ 1000000000000) (d : Nat) : ∀ (i : Nat), i + d = n → Ev (fun k => laws_heldIntS.l0 k (seqL s n) (s + (i : Int)) (i : Int)) (s + (n : Int)) := by
  induction d with
  | zero =>
    intro i hi
    refine ev_succ ?_
    simp only [laws_heldIntS.l0, seqL_length]
    refine ev_neg (by omega) (ev_some ?_)
    have : i = n := by omega
    rw [this]
  | succ d ih =>
    intro i hi
    refine ev_succ ?_
    simp only [laws_heldIntS.l0, seqL_length]
    refine ev_pos (by omega) (ev_pos (by omega) (ev_pos ?_ ?_))
    · rw [rd_at _ i (by rw [seqL_length]; omega)]; simp [seqL]
    · rw [next_i i (by omega), show wrap64 (s + (i : Int) + 1) = s + ((i + 1 : Nat) : Int) by rw [w64 (by omega) (by omega)]; omega]
      exact ih (i + 1) (by omega)

theorem held_ev (s : Int) (n : Nat) (hl : n ≤ 1048576) (h0 : 0 ≤ s) (h1 : s ≤ 1000000000000) : Ev (fun k => laws_heldIntS.f k (seqL s n) s) (s + (n : Int)) := by
  have h := held_from s n hl h0 h1 n 0 (by omega)
  have e : s + ((0 : Nat) : Int) = s := by omega
  rw [e] at h
  exact h

/-! ### Rooms -/
def roomI (n : Int) : Int := if n = 0 then 0 else (n + n / 8 + 6) / 4 * 4
theorem spec_roomI (n : Int) (h0 : 0 ≤ n) (h1 : n ≤ 1000000) : spec_roomFor.f n = some (roomI n) := by
  unfold spec_roomFor.f roomI
  by_cases h3 : n = 0
  · simp [h3]
  · have t8 : Int.tdiv n 8 = n / 8 := Int.tdiv_eq_ediv_of_nonneg h0
    have t4 : Int.tdiv (n + n / 8 + 6) 4 = (n + n / 8 + 6) / 4 := Int.tdiv_eq_ediv_of_nonneg (by omega)
    have w1 : wrap64 (n / 8) = n / 8 := w64 (by omega) (by omega)
    have w2 : wrap64 (n + n / 8) = n + n / 8 := w64 (by omega) (by omega)
    have w3 : wrap64 (n + n / 8 + 6) = n + n / 8 + 6 := w64 (by omega) (by omega)
    have w4 : wrap64 ((n + n / 8 + 6) / 4) = (n + n / 8 + 6) / 4 := w64 (by omega) (by omega)
    have w5 : wrap64 ((n + n / 8 + 6) / 4 * 4) = (n + n / 8 + 6) / 4 * 4 := w64 (by omega) (by omega)
    simp only [h3, t8, w1, w2, w3, t4, w4, w5, if_false]
theorem impl_roomI (n : Int) (h0 : 0 ≤ n) (h1 : n ≤ 1000000) : impl_ListRoom.f n = some (roomI n) := by
  rw [← spec_roomI n h0 h1]
  unfold impl_ListRoom.f impl_within.f spec_roomFor.f
  simp [h0, h1]
theorem roomI_bd (n : Int) (h0 : 0 ≤ n) (h1 : n ≤ 1000000) : n ≤ roomI n ∧ roomI n ≤ 2000000 := by
  unfold roomI; split <;> omega
/-- The room behind one length. -/
def roomNext (n room : Int) : Int := if n > room then roomI n else if n < room / 2 then roomI n else room
theorem roomNext_bd (n room : Int) (h0 : 0 ≤ n) (h1 : n ≤ 1000000) (r0 : 0 ≤ room) (r1 : room ≤ 2000000) : n ≤ roomNext n room ∧ 0 ≤ roomNext n room ∧ roomNext n room ≤ 2000000 := by
  have := roomI_bd n h0 h1
  unfold roomNext; split <;> (try split) <;> omega
def okLen (n : Int) : Bool := decide (0 ≤ n ∧ n ≤ 1000000)
def roomsL : List Int → Int → List Int
  | [], _ => []
  | n :: l, room => roomNext n room :: roomsL l (roomNext n room)
theorem roomsL_length : ∀ (l : List Int) (r : Int), (roomsL l r).length = l.length
  | [], _ => rfl
  | n :: l, r => by simp [roomsL, roomsL_length l]
/-- What RoomsOf answers. -/
def roomsR (l : List Int) : List Int := if l.length ≤ 60 ∧ l.all okLen = true then roomsL l 0 else []

theorem spec_rooms_from (l : List Int) (hl : l.length ≤ 60) (d : Nat) : ∀ (i : Nat) (out : List Int) (room : Int), i + d = l.length → out.length = i → 0 ≤ room → room ≤ 2000000 →
    Ev (fun k => spec_RoomsOf.l0 k l out room (i : Int)) (if (l.drop i).all okLen = true then out ++ roomsL (l.drop i) room else []) := by
  induction d with
  | zero =>
    intro i out room hi ho r0 r1
    refine ev_succ ?_
    simp only [spec_RoomsOf.l0]
    refine ev_neg (by omega) (ev_some ?_)
    rw [List.drop_of_length_le (by omega)]; simp [roomsL]
  | succ d ih =>
    intro i out room hi ho r0 r1
    have hlt : i < l.length := by omega
    refine ev_succ ?_
    simp only [spec_RoomsOf.l0]
    refine ev_pos (by omega) (ev_pos (by omega) ?_)
    rw [rd_at l i hlt, next_i i (by omega), List.drop_eq_getElem_cons hlt]
    generalize l[i] = n
    refine ev_bind1 (a := okLen n) (by unfold spec_inRange.f okLen; by_cases h : n ≥ 0 <;> simp [h] <;> omega) ?_
    simp only [List.all_cons]
    by_cases hk : okLen n = true
    case neg => exact ev_neg hk (ev_some (by rw [Bool.not_eq_true] at hk; simp [hk]))
    case pos =>
      refine ev_pos hk ?_
      have hn : 0 ≤ n ∧ n ≤ 1000000 := by simpa [okLen] using hk
      have hnext := roomNext_bd n room hn.1 hn.2 r0 r1
      have fin : Ev (fun k => if out.length < 17592186044416 then spec_RoomsOf.l0 k l (out ++ [roomNext n room]) (roomNext n room) ((i + 1 : Nat) : Int) else none)
          (if (okLen n && (l.drop (i + 1)).all okLen) = true then out ++ roomsL (n :: l.drop (i + 1)) room else []) := by
        refine ev_pos (by omega) (ev_eq (ih (i + 1) (out ++ [roomNext n room]) (roomNext n room) (by omega) (by simp [ho]) hnext.2.1 hnext.2.2) ?_)
        simp [roomsL, hk]
      have t2 : wrap64 (Int.tdiv room 2) = room / 2 := by rw [Int.tdiv_eq_ediv_of_nonneg r0]; exact w64 (by omega) (by omega)
      rw [t2]
      by_cases h1 : n > room
      · refine ev_pos h1 (ev_bind1 (spec_roomI n hn.1 hn.2) ?_)
        have e : roomNext n room = roomI n := by unfold roomNext; rw [if_pos h1]
        rw [e] at fin; exact fin
      · refine ev_neg h1 ?_
        by_cases h2 : n < room / 2
        · refine ev_pos h2 (ev_bind1 (spec_roomI n hn.1 hn.2) ?_)
          have e : roomNext n room = roomI n := by unfold roomNext; rw [if_neg h1, if_pos h2]
          rw [e] at fin; exact fin
        · refine ev_neg h2 ?_
          have e : roomNext n room = room := by unfold roomNext; rw [if_neg h1, if_neg h2]
          rw [e] at fin; exact fin

theorem spec_rooms_ev (l : List Int) : Ev (fun k => spec_RoomsOf.f k l) (roomsR l) := by
  unfold spec_RoomsOf.f roomsR
  by_cases h : l.length ≤ 60
  · refine ev_neg (by omega) (ev_eq (spec_rooms_from l h l.length 0 [] 0 (by omega) rfl (by omega) (by omega)) ?_)
    simp [h]
  · exact ev_pos (by omega) (ev_some (by simp [h]))

theorem impl_rooms_from (l : List Int) (hl : l.length ≤ 60) (d : Nat) : ∀ (i : Nat) (out : List Int) (room : Int), i + d = l.length → out.length = i → 0 ≤ room → room ≤ 2000000 →
    Ev (fun k => impl_RoomsOf.l0 k out room l (l.length : Int) (i : Int)) (if (l.drop i).all okLen = true then out ++ roomsL (l.drop i) room else []) := by
  induction d with
  | zero =>
    intro i out room hi ho r0 r1
    refine ev_succ ?_
    simp only [impl_RoomsOf.l0]
    refine ev_neg (by omega) (ev_some ?_)
    rw [List.drop_of_length_le (by omega)]; simp [roomsL]
  | succ d ih =>
    intro i out room hi ho r0 r1
    have hlt : i < l.length := by omega
    refine ev_succ ?_
    simp only [impl_RoomsOf.l0]
    refine ev_pos (by omega) (ev_pos (by omega) (ev_pos (by omega) ?_))
    rw [rd_at l i hlt, next_i i (by omega), List.drop_eq_getElem_cons hlt]
    generalize l[i] = n
    refine ev_bind1 (a := okLen n) (by unfold impl_within.f okLen; by_cases h : n ≥ 0 <;> simp [h] <;> omega) ?_
    simp only [List.all_cons]
    by_cases hk : okLen n = true
    case neg => exact ev_neg hk (ev_some (by rw [Bool.not_eq_true] at hk; simp [hk]))
    case pos =>
      refine ev_pos hk ?_
      have hn : 0 ≤ n ∧ n ≤ 1000000 := by simpa [okLen] using hk
      have hnext := roomNext_bd n room hn.1 hn.2 r0 r1
      have fin : Ev (fun k => if out.length < 17592186044416 then impl_RoomsOf.l0 k (out ++ [roomNext n room]) (roomNext n room) l (l.length : Int) ((i + 1 : Nat) : Int) else none)
          (if (okLen n && (l.drop (i + 1)).all okLen) = true then out ++ roomsL (n :: l.drop (i + 1)) room else []) := by
        refine ev_pos (by omega) (ev_eq (ih (i + 1) (out ++ [roomNext n room]) (roomNext n room) (by omega) (by simp [ho]) hnext.2.1 hnext.2.2) ?_)
        simp [roomsL, hk]
      have t2 : wrap64 (Int.tdiv room 2) = room / 2 := by rw [Int.tdiv_eq_ediv_of_nonneg r0]; exact w64 (by omega) (by omega)
      rw [t2]
      by_cases h1 : n > room
      · refine ev_pos h1 (ev_bind1 (impl_roomI n hn.1 hn.2) ?_)
        have e : roomNext n room = roomI n := by unfold roomNext; rw [if_pos h1]
        rw [e] at fin; exact fin
      · refine ev_neg h1 ?_
        by_cases h2 : n < room / 2
        · refine ev_pos h2 (ev_bind1 (impl_roomI n hn.1 hn.2) ?_)
          have e : roomNext n room = roomI n := by unfold roomNext; rw [if_neg h1, if_pos h2]
          rw [e] at fin; exact fin
        · refine ev_neg h2 ?_
          have e : roomNext n room = room := by unfold roomNext; rw [if_neg h1, if_neg h2]
          rw [e] at fin; exact fin

theorem impl_rooms_ev (l : List Int) : Ev (fun k => impl_RoomsOf.f k l) (roomsR l) := by
  unfold impl_RoomsOf.f roomsR
  by_cases h : l.length ≤ 60
  · refine ev_neg (by omega) (ev_eq (impl_rooms_from l h l.length 0 [] 0 (by omega) rfl (by omega) (by omega)) ?_)
    simp [h]
  · exact ev_pos (by omega) (ev_some (by simp [h]))

theorem roomsR_len (l : List Int) : (roomsR l).length ≤ 60 := by
  unfold roomsR; split
  · rw [roomsL_length]; omega
  · simp

theorem FnExactRoomsOf : laws_FnExactRoomsOf.Pure := by
  intro l _ _ _
  refine Ev.rounds ?_
  unfold laws_FnExactRoomsOf.f
  by_cases hl : (l.length : Int) > 1048576
  · exact ev_pos hl (ev_some rfl)
  refine ev_neg hl ?_
  have hl' : l.length ≤ 1048576 := by omega
  have hr := roomsR_len l
  have T := toInt_ev l hl'
  have E := eqSelf_ev (roomsR l) (by omega)
  refine Ev.bind T (Ev.bind (spec_rooms_ev l) (Ev.bind T (Ev.bind (impl_rooms_ev l) (Ev.bind E (ev_pos rfl (Ev.bind T (Ev.bind (eqSelf_ev l hl') (ev_pos rfl (Ev.bind (mark_ev l 1 hl' (by omega) (by omega)) ?_)))))))))
  refine ev_neg (by show ¬ (1 + (l.length : Int)) < 0; omega) (Ev.bind E ?_)
  refine ev_succ ?_
  simp only [laws_FnExactRoomsOf.j0]
  have M := mark_ev (roomsR l) 1 (by omega) (by omega) (by omega)
  have H := held_ev 1 (roomsR l).length (by omega) (by omega) (by omega)
  refine ev_neg (by simp) (Ev.bind M (Ev.bind H (ev_neg (by omega) (ev_pos rfl (Ev.bind T (Ev.bind (impl_rooms_ev l) (Ev.bind E (ev_pos rfl (Ev.bind H (ev_neg (by omega) (ev_pos rfl (ev_some rfl))))))))))))

end Go.Proofs.Ytppbnfoagbipaab.Pure
