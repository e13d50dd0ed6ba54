/- FnRoomsOf: for every code, rooms hold what there is. -/
import Derived.Test.YtppbnfoagbipaacXFnRoomsOfx3
namespace Go.Proofs.Ytppbnfoagbipaac.Pure
open Go.RowKit Go.Proofs.Ytppbnfoagbipaac.XFnRoomsOf Go.Proofs.YtppbnfoagbipaacW.PrintWords Go.Proofs.YtppbnfoagbipaacW.PrintLast Go.Proofs.YtppbnfoagbipaacW.PrintMore
set_option linter.unusedVariables false
set_option linter.unusedSimpArgs false

/-! ### Rounds, and words of 64 bits -/
theorem ev_succ {α : Type} {g : Nat → Option α} {r : α} (h : Ev (fun k => g (k + 1)) r) : Ev g r := Ev.step (fun _ => rfl) h
theorem ev_some {α : Type} {o : Option α} {r : α} (h : o = some r) : Ev (fun _ => o) r := ⟨0, fun _ _ => h⟩
theorem ev_pos {α : Type} {c : Prop} [Decidable c] {A B : Nat → Option α} {r : α} (h : c) (k : Ev A r) : Ev (fun n => if c then A n else B n) r :=
  Ev.congr (fun _ => if_pos h) k
theorem ev_neg {α : Type} {c : Prop} [Decidable c] {A B : Nat → Option α} {r : α} (h : ¬ c) (k : Ev B r) : Ev (fun n => if c then A n else B n) r :=
  Ev.congr (fun _ => if_neg h) k
theorem ev_eq {α : Type} {g : Nat → Option α} {r s : α} (h : Ev g r) (e : r = s) : Ev g s := e ▸ h
theorem ev_bind1 {α β : Type} {o : Option α} {f : Nat → α → Option β} {a : α} {r : β} (h : o = some a) (k : Ev (fun n => f n a) r) : Ev (fun n => o.bind (f n)) r :=
  Ev.bind (ev_some h) k
theorem ev_det {α : Type} {g : Nat → Option α} {r s : α} (h : Ev g r) (k : Ev g s) : r = s := by
  obtain ⟨K, h⟩ := h
  obtain ⟨L, k⟩ := k
  have h1 := h (max K L) (by omega)
  have h2 := k (max K L) (by omega)
  rw [h1] at h2
  exact Option.some.inj h2
theorem w64 {n : Int} (h : -9223372036854775808 ≤ n) (h' : n ≤ 9223372036854775807) : wrap64 n = n := by unfold wrap64; omega
theorem byte_of {l : List Int} (h : ∀ x ∈ l, (Lit.int .u8 x).wf = true) (i : Int) : 0 ≤ rd l i ∧ rd l i ≤ 255 := by
  unfold rd
  by_cases hi : i.toNat < l.length
  · have hm : l.getD i.toNat 0 ∈ l := by
      rw [List.getD_eq_getElem?_getD, List.getElem?_eq_getElem hi]
      exact List.getElem_mem hi
    have := h _ hm
    have m0 : IntKind.u8.min = 0 := by decide
    have m1 : IntKind.u8.max = 255 := by decide
    simp only [Lit.wf, m0, m1, Bool.and_eq_true, decide_eq_true_eq] at this
    exact this
  · rw [List.getD_eq_getElem?_getD, List.getElem?_eq_none (by omega)]
    simp

/-! ### Draws: what they pick, and that they never panic -/
theorem xor_ok (v u : Int) (h0 : 0 ≤ v) (h1 : v < 4611686018427387904) (u0 : 0 ≤ u) (u1 : u < 4611686018427387904) : 0 ≤ Go.bits .xor .i64 v u := by
  obtain ⟨a, rfl⟩ := Int.eq_ofNat_of_zero_le h0
  obtain ⟨b, rfl⟩ := Int.eq_ofNat_of_zero_le u0
  have ofInt : ∀ a : Nat, a < 9223372036854775808 → (BitVec.ofInt 64 (a : Int)).toNat = a := fun a ha => by
    rw [BitVec.ofInt_natCast, BitVec.toNat_ofNat]; exact Nat.mod_eq_of_lt (by omega)
  have hx : a ^^^ b < 2 ^ 63 := Nat.xor_lt_two_pow (by omega) (by omega)
  show 0 ≤ IntKind.i64.wrap ((BitVec.ofInt 64 (a : Int) ^^^ BitVec.ofInt 64 (b : Int)).toNat : Int)
  rw [BitVec.toNat_xor, ofInt a (by omega), ofInt b (by omega), IntKind.wrap_i64]
  omega

theorem pick_ok {code : List Int} (hl : code.length ≤ 4000) (hb : ∀ x ∈ code, (Lit.int .u8 x).wf = true) {p : Int} (h0 : 0 ≤ p) (h1 : p ≤ 1000000) (n : Int) :
    ∃ v q, spec_rnd_pick.f code p n = some (v, q) ∧ 0 ≤ v ∧ (v < n ∨ (n < 2 ∧ v = 0)) ∧ p ≤ q ∧ q ≤ p + 1 := by
  unfold spec_rnd_pick.f
  by_cases hn : n < 2
  · rw [if_pos hn]; exact ⟨0, p, rfl, by omega, .inr ⟨hn, rfl⟩, by omega, by omega⟩
  rw [if_neg hn]
  have hw : wrap64 (p + 1) = p + 1 := w64 (by omega) (by omega)
  have fin : ∀ v : Int, 0 ≤ v → ∃ v' q, (if n = 0 then none else some (Int.tmod v n, wrap64 (p + 1))) = some (v', q) ∧ 0 ≤ v' ∧ (v' < n ∨ (n < 2 ∧ v' = 0)) ∧ p ≤ q ∧ q ≤ p + 1 := by
    intro v hv
    rw [if_neg (by omega), hw, Int.tmod_eq_emod_of_nonneg hv]
    exact ⟨_, _, rfl, Int.emod_nonneg _ (by omega), .inl (Int.emod_lt_of_pos _ (by omega)), by omega, by omega⟩
  by_cases hc : (code.length : Int) > 0
  · rw [if_pos hc, if_neg (by omega)]
    have e1 : Int.tmod p (code.length : Int) = p % code.length := Int.tmod_eq_emod_of_nonneg h0
    have e2 : wrap64 (wrap64 (p * 7) + 3) = p * 7 + 3 := by rw [w64 (n := p * 7) (by omega) (by omega)]; exact w64 (by omega) (by omega)
    have e3 : Int.tmod (p * 7 + 3) (code.length : Int) = (p * 7 + 3) % code.length := Int.tmod_eq_emod_of_nonneg (by omega)
    have m0 := Int.emod_nonneg p (show (code.length : Int) ≠ 0 by omega)
    have m1 := Int.emod_lt_of_pos p hc
    have m2 := Int.emod_nonneg (p * 7 + 3) (show (code.length : Int) ≠ 0 by omega)
    have m3 := Int.emod_lt_of_pos (p * 7 + 3) hc
    have e4 : Int.tdiv p (code.length : Int) = p / code.length := Int.tdiv_eq_ediv_of_nonneg h0
    have d0 : 0 ≤ p / (code.length : Int) := Int.ediv_nonneg h0 (by omega)
    have d1 : p / (code.length : Int) ≤ p := Int.ediv_le_self _ h0
    rw [e1, if_pos m0, if_pos m1, e2, e3, if_pos m2, if_pos m3, e4]
    obtain ⟨a0, a1⟩ := byte_of hb (p % code.length)
    obtain ⟨b0, b1⟩ := byte_of hb ((p * 7 + 3) % code.length)
    generalize rd code (p % code.length) = a at a0 a1 ⊢
    generalize rd code ((p * 7 + 3) % code.length) = b at b0 b1 ⊢
    generalize p / (code.length : Int) = d at d0 d1 ⊢
    have w1 : wrap64 a = a := w64 (by omega) (by omega)
    have w2 : wrap64 b = b := w64 (by omega) (by omega)
    have w3 : wrap64 (a * 131) = a * 131 := w64 (by omega) (by omega)
    have w4 : wrap64 (b * 1117) = b * 1117 := w64 (by omega) (by omega)
    have w5 : wrap64 (p * 29) = p * 29 := w64 (by omega) (by omega)
    have w6 : wrap64 d = d := w64 (by omega) (by omega)
    have w7 : wrap64 (d * 53) = d * 53 := w64 (by omega) (by omega)
    have w8 : wrap64 (a * 131 + b * 1117) = a * 131 + b * 1117 := w64 (by omega) (by omega)
    have w9 : wrap64 (a * 131 + b * 1117 + p * 29) = a * 131 + b * 1117 + p * 29 := w64 (by omega) (by omega)
    have w10 : wrap64 (a * 131 + b * 1117 + p * 29 + d * 53) = a * 131 + b * 1117 + p * 29 + d * 53 := w64 (by omega) (by omega)
    rw [w1, w2, w3, w4, w5, w6, w7, w8, w9, w10]
    have big : 0 ≤ Go.bits .xor .i64 (a * 131 + b * 1117 + p * 29 + d * 53) (wrap64 (Int.tdiv (a * 131 + b * 1117 + p * 29 + d * 53) 64)) := by
      have t : Int.tdiv (a * 131 + b * 1117 + p * 29 + d * 53) 64 = (a * 131 + b * 1117 + p * 29 + d * 53) / 64 := Int.tdiv_eq_ediv_of_nonneg (by omega)
      rw [t, w64 (by omega) (by omega)]
      exact xor_ok _ _ (by omega) (by omega) (by omega) (by omega)
    by_cases h256 : n > 256
    · rw [if_pos h256]; exact fin _ big
    · rw [if_neg h256]
      by_cases hp : p ≥ (code.length : Int)
      · rw [if_pos hp]; exact fin _ big
      · rw [if_neg hp]; exact fin _ a0
  · rw [if_neg hc, if_neg (by omega), hw]
    exact ⟨_, _, rfl, by simp, .inl (by simp; omega), by omega, by omega⟩

theorem newRnd_ok {l : List Int} (hl : l.length ≤ 1048576) (hb : ∀ x ∈ l, (Lit.int .u8 x).wf = true) :
    ∃ code, spec_newRnd.f l = some (code, 0) ∧ code.length ≤ 4000 ∧ ∀ x ∈ code, (Lit.int .u8 x).wf = true := by
  unfold spec_newRnd.f
  have h : mn (l.length : Int) 4000 = min (l.length : Int) 4000 := by unfold mn; split <;> omega
  rw [h, if_pos (by omega), if_pos (by omega)]
  refine ⟨_, rfl, ?_, fun x hx => hb x (List.mem_of_mem_take hx)⟩
  rw [List.length_take]; omega

theorem one_ok {code : List Int} (hl : code.length ≤ 4000) (hb : ∀ x ∈ code, (Lit.int .u8 x).wf = true) {p : Int} (h0 : 0 ≤ p) (h1 : p ≤ 1000000) (list : List Int) (hn : list ≠ []) :
    ∃ v q, spec_rnd_one.f code p list = some (v, q) ∧ v ∈ list ∧ p ≤ q ∧ q ≤ p + 1 := by
  have hlen : 0 < list.length := List.length_pos_iff.2 hn
  obtain ⟨i, q, e, i0, i1, q0, q1⟩ := pick_ok hl hb h0 h1 (list.length : Int)
  unfold spec_rnd_one.f
  have hi : i < (list.length : Int) := by omega
  rw [e]
  simp only [Option.bind_some]
  rw [if_pos i0, if_pos hi]
  refine ⟨_, _, rfl, ?_, q0, q1⟩
  unfold rd
  rw [List.getD_eq_getElem?_getD, List.getElem?_eq_getElem (show i.toNat < list.length by omega)]
  exact List.getElem_mem _

theorem often_ok {code : List Int} (hl : code.length ≤ 4000) (hb : ∀ x ∈ code, (Lit.int .u8 x).wf = true) {p : Int} (h0 : 0 ≤ p) (h1 : p ≤ 900000) (n : Int) (hn : -9223372036854775808 ≤ n ∧ n ≤ 9223372036854775807) :
    ∃ v q, spec_rnd_often.f code p n = some (v, q) ∧ (-9223372036854775808 ≤ v ∧ v ≤ 9223372036854775807) ∧ p ≤ q ∧ q ≤ p + 2 := by
  obtain ⟨i, q, e, i0, i1, q0, q1⟩ := pick_ok hl hb h0 (by omega) 16
  unfold spec_rnd_often.f
  rw [e]
  simp only [Option.bind_some]
  by_cases hi : i = 0
  · rw [if_pos hi]
    unfold spec_rnd_odd.f
    obtain ⟨v, q', e', hv, q0', q1'⟩ := one_ok hl hb (p := q) (by omega) (by omega) [(-1), 4611686018427387904, (-4611686018427387904), 1001, 7, 1000001, (-9223372036854775808), 9223372036854775807] (by simp)
    rw [e']
    simp only [Option.bind_some]
    refine ⟨_, _, rfl, ?_, by omega, by omega⟩
    simp only [List.mem_cons, List.not_mem_nil, or_false] at hv
    omega
  · rw [if_neg hi]
    exact ⟨_, _, rfl, hn, by omega, by omega⟩

/-! ### Reading a list -/
theorem rd_at (l : List Int) (i : Nat) (h : i < l.length) : rd l (i : Int) = l[i] := by
  unfold rd
  simp [List.getD_eq_getElem?_getD, h]
theorem next_i (i : Nat) (h : i ≤ 4611686018427387904) : wrap64 ((i : Int) + 1) = ((i + 1 : Nat) : Int) := by rw [w64 (by omega) (by omega)]; omega

/-! ### Rooms -/
def roomI (n : Int) : Int := if n = 0 then 0 else (n + n / 8 + 6) / 4 * 4
theorem spec_roomI (n : Int) (h0 : 0 ≤ n) (h1 : n ≤ 1000000) : spec_roomFor.f n = some (roomI n) := by
  unfold spec_roomFor.f roomI
  by_cases h3 : n = 0
  · simp [h3]
  · have t8 : Int.tdiv n 8 = n / 8 := Int.tdiv_eq_ediv_of_nonneg h0
    have t4 : Int.tdiv (n + n / 8 + 6) 4 = (n + n / 8 + 6) / 4 := Int.tdiv_eq_ediv_of_nonneg (by omega)
    have w1 : wrap64 (n / 8) = n / 8 := w64 (by omega) (by omega)
    have w2 : wrap64 (n + n / 8) = n + n / 8 := w64 (by omega) (by omega)
    have w3 : wrap64 (n + n / 8 + 6) = n + n / 8 + 6 := w64 (by omega) (by omega)
    have w4 : wrap64 ((n + n / 8 + 6) / 4) = (n + n / 8 + 6) / 4 := w64 (by omega) (by omega)
    have w5 : wrap64 ((n + n / 8 + 6) / 4 * 4) = (n + n / 8 + 6) / 4 * 4 := w64 (by omega) (by omega)
    simp only [h3, t8, w1, w2, w3, t4, w4, w5, if_false]
theorem impl_roomI (n : Int) (h0 : 0 ≤ n) (h1 : n ≤ 1000000) : impl_ListRoom.f n = some (roomI n) := by
  rw [← spec_roomI n h0 h1]
  unfold impl_ListRoom.f impl_within.f spec_roomFor.f
  simp [h0, h1]
theorem roomI_bd (n : Int) (h0 : 0 ≤ n) (h1 : n ≤ 1000000) : n ≤ roomI n ∧ roomI n ≤ 2000000 := by
  unfold roomI; split <;> omega
/-- The room behind one length. -/
def roomNext (n room : Int) : Int := if n > room then roomI n else if n < room / 2 then roomI n else room
theorem roomNext_bd (n room : Int) (h0 : 0 ≤ n) (h1 : n ≤ 1000000) (r0 : 0 ≤ room) (r1 : room ≤ 2000000) : n ≤ roomNext n room ∧ 0 ≤ roomNext n room ∧ roomNext n room ≤ 2000000 := by
  have := roomI_bd n h0 h1
  unfold roomNext; split <;> (try split) <;> omega
def okLen (n : Int) : Bool := decide (0 ≤ n ∧ n ≤ 1000000)
def roomsL : List Int → Int → List Int
  | [], _ => []
  | n :: l, room => roomNext n room :: roomsL l (roomNext n room)
theorem roomsL_length : ∀ (l : List Int) (r : Int), (roomsL l r).length = l.length
  | [], _ => rfl
  | n :: l, r => by simp [roomsL, roomsL_length l]
/-- What RoomsOf answers. -/
def roomsR (l : List Int) : List Int := if l.length ≤ 60 ∧ l.all okLen = true then roomsL l 0 else []

theorem spec_rooms_from (l : List Int) (hl : l.length ≤ 60) (d : Nat) : ∀ (i : Nat) (out : List Int) (room : Int), i + d = l.length → out.length = i → 0 ≤ room → room ≤ 2000000 →
    Ev (fun k => spec_RoomsOf.l0 k l out room (i : Int)) (if (l.drop i).all okLen = true then out ++ roomsL (l.drop i) room else []) := by
  induction d with
  | zero =>
    intro i out room hi ho r0 r1
    refine ev_succ ?_
    simp only [spec_RoomsOf.l0]
    refine ev_neg (by omega) (ev_some ?_)
    rw [List.drop_of_length_le (by omega)]; simp [roomsL]
  | succ d ih =>
    intro i out room hi ho r0 r1
    have hlt : i < l.length := by omega
    refine ev_succ ?_
    simp only [spec_RoomsOf.l0]
    refine ev_pos (by omega) (ev_pos (by omega) ?_)
    rw [rd_at l i hlt, next_i i (by omega), List.drop_eq_getElem_cons hlt]
    generalize l[i] = n
    refine ev_bind1 (a := okLen n) (by unfold spec_inRange.f okLen; by_cases h : n ≥ 0 <;> simp [h] <;> omega) ?_
    simp only [List.all_cons]
    by_cases hk : okLen n = true
    case neg => exact ev_neg hk (ev_some (by rw [Bool.not_eq_true] at hk; simp [hk]))
    case pos =>
      refine ev_pos hk ?_
      have hn : 0 ≤ n ∧ n ≤ 1000000 := by simpa [okLen] using hk
      have hnext := roomNext_bd n room hn.1 hn.2 r0 r1
      have fin : Ev (fun k => if out.length < 17592186044416 then spec_RoomsOf.l0 k l (out ++ [roomNext n room]) (roomNext n room) ((i + 1 : Nat) : Int) else none)
          (if (okLen n && (l.drop (i + 1)).all okLen) = true then out ++ roomsL (n :: l.drop (i + 1)) room else []) := by
        refine ev_pos (by omega) (ev_eq (ih (i + 1) (out ++ [roomNext n room]) (roomNext n room) (by omega) (by simp [ho]) hnext.2.1 hnext.2.2) ?_)
        simp [roomsL, hk]
      have t2 : wrap64 (Int.tdiv room 2) = room / 2 := by rw [Int.tdiv_eq_ediv_of_nonneg r0]; exact w64 (by omega) (by omega)
      rw [t2]
      by_cases h1 : n > room
      · refine ev_pos h1 (ev_bind1 (spec_roomI n hn.1 hn.2) ?_)
        have e : roomNext n room = roomI n := by unfold roomNext; rw [if_pos h1]
        rw [e] at fin; exact fin
      · refine ev_neg h1 ?_
        by_cases h2 : n < room / 2
        · refine ev_pos h2 (ev_bind1 (spec_roomI n hn.1 hn.2) ?_)
          have e : roomNext n room = roomI n := by unfold roomNext; rw [if_neg h1, if_pos h2]
          rw [e] at fin; exact fin
        · refine ev_neg h2 ?_
          have e : roomNext n room = room := by unfold roomNext; rw [if_neg h1, if_neg h2]
          rw [e] at fin; exact fin

theorem spec_rooms_ev (l : List Int) : Ev (fun k => spec_RoomsOf.f k l) (roomsR l) := by
  unfold spec_RoomsOf.f roomsR
  by_cases h : l.length ≤ 60
  · refine ev_neg (by omega) (ev_eq (spec_rooms_from l h l.length 0 [] 0 (by omega) rfl (by omega) (by omega)) ?_)
    simp [h]
  · exact ev_pos (by omega) (ev_some (by simp [h]))

theorem impl_rooms_from (l : List Int) (hl : l.length ≤ 60) (d : Nat) : ∀ (i : Nat) (out : List Int) (room : Int), i + d = l.length → out.length = i → 0 ≤ room → room ≤ 2000000 →
    Ev (fun k => impl_RoomsOf.l0 k out room l (l.length : Int) (i : Int)) (if (l.drop i).all okLen = true then out ++ roomsL (l.drop i) room else []) := by
  induction d with
  | zero =>
    intro i out room hi ho r0 r1
    refine ev_succ ?_
    simp only [impl_RoomsOf.l0]
    refine ev_neg (by omega) (ev_some ?_)
    rw [List.drop_of_length_le (by omega)]; simp [roomsL]
  | succ d ih =>
    intro i out room hi ho r0 r1
    have hlt : i < l.length := by omega
    refine ev_succ ?_
    simp only [impl_RoomsOf.l0]
    refine ev_pos (by omega) (ev_pos (by omega) (ev_pos (by omega) ?_))
    rw [rd_at l i hlt, next_i i (by omega), List.drop_eq_getElem_cons hlt]
    generalize l[i] = n
    refine ev_bind1 (a := okLen n) (by unfold impl_within.f okLen; by_cases h : n ≥ 0 <;> simp [h] <;> omega) ?_
    simp only [List.all_cons]
    by_cases hk : okLen n = true
    case neg => exact ev_neg hk (ev_some (by rw [Bool.not_eq_true] at hk; simp [hk]))
    case pos =>
      refine ev_pos hk ?_
      have hn : 0 ≤ n ∧ n ≤ 1000000 := by simpa [okLen] using hk
      have hnext := roomNext_bd n room hn.1 hn.2 r0 r1
      have fin : Ev (fun k => if out.length < 17592186044416 then impl_RoomsOf.l0 k (out ++ [roomNext n room]) (roomNext n room) l (l.length : Int) ((i + 1 : Nat) : Int) else none)
          (if (okLen n && (l.drop (i + 1)).all okLen) = true then out ++ roomsL (n :: l.drop (i + 1)) room else []) := by
        refine ev_pos (by omega) (ev_eq (ih (i + 1) (out ++ [roomNext n room]) (roomNext n room) (by omega) (by simp [ho]) hnext.2.1 hnext.2.2) ?_)
        simp [roomsL, hk]
      have t2 : wrap64 (Int.tdiv room 2) = room / 2 := by rw [Int.tdiv_eq_ediv_of_nonneg r0]; exact w64 (by omega) (by omega)
      rw [t2]
      by_cases h1 : n > room
      · refine ev_pos h1 (ev_bind1 (impl_roomI n hn.1 hn.2) ?_)
        have e : roomNext n room = roomI n := by unfold roomNext; rw [if_pos h1]
        rw [e] at fin; exact fin
      · refine ev_neg h1 ?_
        by_cases h2 : n < room / 2
        · refine ev_pos h2 (ev_bind1 (impl_roomI n hn.1 hn.2) ?_)
          have e : roomNext n room = roomI n := by unfold roomNext; rw [if_neg h1, if_pos h2]
          rw [e] at fin; exact fin
        · refine ev_neg h2 ?_
          have e : roomNext n room = room := by unfold roomNext; rw [if_neg h1, if_neg h2]
          rw [e] at fin; exact fin

theorem impl_rooms_ev (l : List Int) : Ev (fun k => impl_RoomsOf.f k l) (roomsR l) := by
  unfold impl_RoomsOf.f roomsR
  by_cases h : l.length ≤ 60
  · refine ev_neg (by omega) (ev_eq (impl_rooms_from l h l.length 0 [] 0 (by omega) rfl (by omega) (by omega)) ?_)
    simp [h]
  · exact ev_pos (by omega) (ev_some (by simp [h]))

theorem roomsR_len (l : List Int) : (roomsR l).length ≤ 60 := by
  unfold roomsR; split
  · rw [roomsL_length]; omega
  · simp

theorem same_from (l : List Int) (hl : l.length ≤ 1048576) (d : Nat) : ∀ (i : Nat), i + d = l.length → Ev (fun k => spec_sameNums.l0 k l l (i : Int)) true := by
  induction d with
  | zero =>
    intro i hi
    refine ev_succ ?_
    simp only [spec_sameNums.l0]
    exact ev_neg (by omega) (ev_some rfl)
  | succ d ih =>
    intro i hi
    refine ev_succ ?_
    simp only [spec_sameNums.l0]
    refine ev_pos (by omega) (ev_pos (by omega) (ev_pos (by omega) (ev_pos trivial ?_)))
    rw [next_i i (by omega)]
    exact ih (i + 1) (by omega)
theorem same_ev (l : List Int) (hl : l.length ≤ 1048576) : Ev (fun k => spec_SameInts.f k l l) true := by
  unfold spec_SameInts.f spec_sameNums.f
  refine Ev.bind (a := true) (ev_pos rfl (same_from l hl l.length 0 (by omega))) (ev_some rfl)

theorem draw_from {code : List Int} (hc : code.length ≤ 4000) (hb : ∀ x ∈ code, (Lit.int .u8 x).wf = true) (d : Nat) : ∀ (out : List Int) (n p : Int), out.length + d ≤ 29 → 0 ≤ n → n + 20 * d ≤ 600 → 0 ≤ p → p + 3 * d ≤ 800000 →
    ∃ r, Ev (fun k => spec_DrawRoomsOf.l0 k out n (d : Int) code p) r ∧ r.length ≤ 29 := by
  induction d with
  | zero =>
    intro out n p ho _ _ _ _
    refine ⟨out, ev_succ ?_, by omega⟩
    simp only [spec_DrawRoomsOf.l0]
    exact ev_neg (by omega) (ev_some rfl)
  | succ d ih =>
    intro out n p ho n0 n1 p0 p1
    obtain ⟨v, q, e, hv, q0, q1⟩ := one_ok hc hb p0 (by omega) [1, 1, 1, (-1), 5, (-6), 20, (-30)] (by simp)
    have hv' : -30 ≤ v ∧ v ≤ 20 := by
      simp only [List.mem_cons, List.not_mem_nil, or_false] at hv
      omega
    have hw : wrap64 (n + v) = n + v := w64 (by omega) (by omega)
    have hm : mx 0 (n + v) = if 0 < n + v then n + v else 0 := rfl
    have hm0 : 0 ≤ mx 0 (n + v) ∧ mx 0 (n + v) + 20 * d ≤ 600 := by rw [hm]; split <;> omega
    obtain ⟨u, q', e', hu, q0', q1'⟩ := often_ok hc hb (p := q) (by omega) (by omega) (mx 0 (n + v)) (by omega)
    obtain ⟨r, hr, hrl⟩ := ih (out ++ [u]) (mx 0 (n + v)) q' (by simp; omega) hm0.1 hm0.2 (by omega) (by omega)
    refine ⟨r, ev_succ ?_, hrl⟩
    simp only [spec_DrawRoomsOf.l0]
    refine ev_pos (by omega) (ev_bind1 e ?_)
    simp only [hw]
    refine ev_bind1 e' (ev_pos (by omega) ?_)
    have hd : wrap64 (((d + 1 : Nat) : Int) - 1) = (d : Int) := by rw [w64 (by omega) (by omega)]; omega
    rw [hd]
    exact hr

theorem roomsL_take : ∀ (n : Nat) (l : List Int) (r : Int), roomsL (l.take n) r = (roomsL l r).take n
  | 0, l, r => by simp [roomsL]
  | n + 1, [], r => by simp [roomsL]
  | n + 1, x :: l, r => by simp [roomsL, roomsL_take n l]

theorem roomsL_ge : ∀ (l : List Int) (r : Int) (i : Nat) (h : i < l.length) (h' : i < (roomsL l r).length), l.all okLen = true → 0 ≤ r → r ≤ 2000000 → l[i] ≤ (roomsL l r)[i]
  | x :: l, r, 0, _, _, ha, r0, r1 => by
    simp only [List.all_cons, Bool.and_eq_true, okLen, decide_eq_true_eq] at ha
    exact (roomNext_bd x r ha.1.1 ha.1.2 r0 r1).1
  | x :: l, r, i + 1, h, h', ha, r0, r1 => by
    simp only [List.all_cons, Bool.and_eq_true, okLen, decide_eq_true_eq] at ha
    have hn := roomNext_bd x r ha.1.1 ha.1.2 r0 r1
    exact roomsL_ge l (roomNext x r) i (by simpa using h) (by simpa [roomsL] using h') ha.2 hn.2.1 hn.2.2

theorem check (l less : List Int) (hl : l.length ≤ 60) (ha : l.all okLen = true) (hn : l.length ≠ 0) (hless : less = (roomsL l 0).take (l.length - 1)) (d : Nat) : ∀ i : Nat, i + d = l.length →
    Ev (fun k => laws_FnRoomsOf.l0 k l (roomsL l 0) less (i : Int)) true := by
  have hlen := roomsL_length l 0
  induction d with
  | zero =>
    intro i hi
    have hw : wrap64 (((roomsL l 0).length : Int) - 1) = (l.length : Int) - 1 := by rw [hlen]; exact w64 (by omega) (by omega)
    have ht : (roomsL l 0).take ((l.length : Int) - 1).toNat = less := by rw [hless]; congr 1; omega
    refine ev_succ ?_
    simp only [laws_FnRoomsOf.l0]
    refine ev_neg (by omega) (ev_pos (by omega) ?_)
    rw [hw, ht]
    exact ev_pos (by omega) (ev_pos (by omega) (Ev.bind (same_ev _ (by rw [hless, List.length_take]; omega)) (ev_some rfl)))
  | succ d ih =>
    intro i hi
    have hlt : i < (roomsL l 0).length := by omega
    have hge := roomsL_ge l 0 i (by omega) hlt ha (by omega) (by omega)
    refine ev_succ ?_
    simp only [laws_FnRoomsOf.l0]
    rw [rd_at _ i hlt, rd_at l i (by omega), next_i i (by omega)]
    exact ev_pos (by omega) (ev_pos (by omega) (ev_pos (by omega) (ev_neg (by omega) (ih (i + 1) (by omega)))))

theorem FnRoomsOf : laws_FnRoomsOf.Pure := by
  intro l hm _ hb
  refine Ev.rounds ?_
  unfold laws_FnRoomsOf.f
  by_cases hl : (l.length : Int) > 1048576
  · exact ev_pos hl (ev_some rfl)
  refine ev_neg hl ?_
  obtain ⟨code, e, hc, hbc⟩ := newRnd_ok (l := l) (by omega) hb
  obtain ⟨v, q, e1, v0, v1, q0, q1⟩ := pick_ok hc hbc (p := 0) (by omega) (by omega) 30
  obtain ⟨n, rfl⟩ := Int.eq_ofNat_of_zero_le v0
  obtain ⟨r, hr, hrl⟩ := draw_from hc hbc n [] 0 q (by simp; omega) (by omega) (by omega) (by omega) (by omega)
  have D : Ev (fun k => spec_DrawRoomsOf.f k l) r := by
    unfold spec_DrawRoomsOf.f
    exact ev_bind1 e (ev_bind1 e1 hr)
  have hlen := roomsR_len r
  refine Ev.bind D (Ev.bind (impl_rooms_ev r) (Ev.bind (spec_rooms_ev r) (Ev.bind (same_ev _ (by omega)) (ev_pos rfl ?_))))
  refine ev_succ ?_
  simp only [laws_FnRoomsOf.j0]
  by_cases hz : (roomsR r).length = 0
  · exact ev_pos (by simp [hz]) (ev_some rfl)
  · refine ev_neg (by simpa using hz) ?_
    by_cases hc : r.length ≤ 60 ∧ r.all okLen = true
    · have e : roomsR r = roomsL r 0 := by unfold roomsR; exact if_pos hc
      rw [e] at hz ⊢
      rw [roomsL_length] at hz
      have hw : wrap64 ((r.length : Int) - 1) = (r.length : Int) - 1 := w64 (by omega) (by omega)
      rw [hw]
      refine ev_pos (by omega) (ev_pos (by omega) ?_)
      have hnat : ((r.length : Int) - 1).toNat = r.length - 1 := by omega
      rw [hnat]
      have e2 : roomsR (r.take (r.length - 1)) = (roomsL r 0).take (r.length - 1) := by
        have ha : (r.take (r.length - 1)).all okLen = true := by
          rw [List.all_eq_true] at hc ⊢
          exact fun x hx => hc.2 x (List.mem_of_mem_take hx)
        unfold roomsR
        rw [if_pos ⟨by rw [List.length_take]; omega, ha⟩, roomsL_take]
      have I := impl_rooms_ev (r.take (r.length - 1))
      rw [e2] at I
      exact Ev.bind I (check r _ hc.1 hc.2 hz rfl r.length 0 (by omega))
    · have e : roomsR r = [] := by unfold roomsR; exact if_neg hc
      rw [e] at hz; exact absurd rfl hz

end Go.Proofs.Ytppbnfoagbipaac.Pure
