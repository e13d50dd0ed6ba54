/- FnExactRoundsOf: the program tells the rounds of collections as the reference does, for every number and every list of at most 2^20 thresholds. -/
import Derived.Test.YtppbnfoagbipaaaXFnExactRoundsOfx3
namespace Go.Proofs.Ytppbnfoagbipaaa.Pure
open Go.RowKit Go.Proofs.Ytppbnfoagbipaaa.XFnExactRoundsOf Go.Proofs.YtppbnfoagbipaaaW.PrintWords Go.Proofs.YtppbnfoagbipaaaW.PrintLast Go.Proofs.YtppbnfoagbipaaaW.PrintMore
set_option linter.unusedVariables false
set_option linter.unusedSimpArgs false

/-! ### Rounds, and words of 64 bits -/
theorem ev_succ {α : Type} {g : Nat → Option α} {r : α} (h : Ev (fun k => g (k + 1)) r) : Ev g r := Ev.step (fun _ => rfl) h
theorem ev_some {α : Type} {o : Option α} {r : α} (h : o = some r) : Ev (fun _ => o) r := ⟨0, fun _ _ => h⟩
theorem ev_pos {α : Type} {c : Prop} [Decidable c] {A B : Nat → Option α} {r : α} (h : c) (k : Ev A r) : Ev (fun n => if c then A n else B n) r :=
  Ev.congr (fun _ => if_pos h) k
theorem ev_neg {α : Type} {c : Prop} [Decidable c] {A B : Nat → Option α} {r : α} (h : ¬ c) (k : Ev B r) : Ev (fun n => if c then A n else B n) r :=
  Ev.congr (fun _ => if_neg h) k
theorem ev_eq {α : Type} {g : Nat → Option α} {r s : α} (h : Ev g r) (e : r = s) : Ev g s := e ▸ h
theorem ev_bind1 {α β : Type} {o : Option α} {f : Nat → α → Option β} {a : α} {r : β} (h : o = some a) (k : Ev (fun n => f n a) r) : Ev (fun n => o.bind (f n)) r :=
  Ev.bind (ev_some h) k
theorem ev_det {α : Type} {g : Nat → Option α} {r s : α} (h : Ev g r) (k : Ev g s) : r = s := by
  obtain ⟨K, h⟩ := h
  obtain ⟨L, k⟩ := k
  have h1 := h (max K L) (by omega)
  have h2 := k (max K L) (by omega)
  rw [h1] at h2
  exact Option.some.inj h2
theorem w64 {n : Int} (h : -9223372036854775808 ≤ n) (h' : n ≤ 9223372036854775807) : wrap64 n = n := by unfold wrap64; omega
theorem byte_of {l : List Int} (h : ∀ x ∈ l, (Lit.int .u8 x).wf = true) (i : Int) : 0 ≤ rd l i ∧ rd l i ≤ 255 := by
  unfold rd
  by_cases hi : i.toNat < l.length
  · have hm : l.getD i.toNat 0 ∈ l := by
      rw [List.getD_eq_getElem?_getD, List.getElem?_eq_getElem hi]
      exact List.getElem_mem hi
    have := h _ hm
    have m0 : IntKind.u8.min = 0 := by decide
    have m1 : IntKind.u8.max = 255 := by decide
    simp only [Lit.wf, m0, m1, Bool.and_eq_true, decide_eq_true_eq] at this
    exact this
  · rw [List.getD_eq_getElem?_getD, List.getElem?_eq_none (by omega)]
    simp

/-! ### Lists of numbers: copied, compared, marked -/
def seqL (s : Int) (n : Nat) : List Int := (List.range n).map fun (i : Nat) => s + (i : Int)
theorem seqL_length (s : Int) (n : Nat) : (seqL s n).length = n := by simp [seqL]
theorem rd_at (l : List Int) (i : Nat) (h : i < l.length) : rd l (i : Int) = l[i] := by
  unfold rd
  simp [List.getD_eq_getElem?_getD, h]
theorem next_i (i : Nat) (h : i ≤ 4611686018427387904) : wrap64 ((i : Int) + 1) = ((i + 1 : Nat) : Int) := by rw [w64 (by omega) (by omega)]; omega

theorem toInt_from (l : List Int) (hl : l.length ≤ 1048576) (d : Nat) : ∀ (i : Nat) (x : List Int), i + d = l.length → x.length = l.length → x.take i = l.take i → Ev (fun k => laws_toIntS.l0 k l x (i : Int)) l := by
  induction d with
  | zero =>
    intro i x hi hx ht
    refine ev_succ ?_
    simp only [laws_toIntS.l0]
    refine ev_neg (by omega) (ev_some ?_)
    rw [List.take_of_length_le (by omega), List.take_of_length_le (by omega)] at ht
    rw [ht]
  | succ d ih =>
    intro i x hi hx ht
    refine ev_succ ?_
    simp only [laws_toIntS.l0]
    refine ev_pos (by omega) (ev_pos (by omega) (ev_pos (by omega) ?_))
    rw [next_i i (by omega), rd_at l i (by omega)]
    refine ih (i + 1) _ (by omega) (by simp [hx]) ?_
    have hi' : i < x.length := by omega
    rw [List.take_succ_eq_append_getElem (by simp; omega), List.take_succ_eq_append_getElem (by omega)]
    simp only [Int.toNat_natCast, List.getElem_set_self]
    rw [List.take_set_of_le (Nat.le_refl i), ht]

theorem toInt_ev (l : List Int) (hl : l.length ≤ 1048576) : Ev (fun k => laws_toIntS.f k l) l := by
  unfold laws_toIntS.f
  refine ev_pos (by omega) (ev_pos (by simp; omega) ?_)
  exact toInt_from l hl l.length 0 _ (by omega) (by simp) (by simp)

theorem eqSelf_from (l : List Int) (hl : l.length ≤ 1048576) (d : Nat) : ∀ (i : Nat), i + d = l.length → Ev (fun k => laws_eqIntS.l0 k l l (i : Int)) true := by
  induction d with
  | zero =>
    intro i hi
    refine ev_succ ?_
    simp only [laws_eqIntS.l0]
    exact ev_neg (by omega) (ev_some rfl)
  | succ d ih =>
    intro i hi
    refine ev_succ ?_
    simp only [laws_eqIntS.l0]
    refine ev_pos (by omega) (ev_pos (by omega) (ev_pos (by omega) (ev_pos trivial ?_)))
    rw [next_i i (by omega)]
    exact ih (i + 1) (by omega)

theorem eqSelf_ev (l : List Int) (hl : l.length ≤ 1048576) : Ev (fun k => laws_eqIntS.f k l l) true := by
  unfold laws_eqIntS.f
  exact ev_pos rfl (eqSelf_from l hl l.length 0 (by omega))

theorem mark_from (l : List Int) (s : Int) (hl : l.length ≤ 1048576) (h0 : 0 ≤ s) (h1 : s ≤ 1000000000000) (d : Nat) : ∀ (i : Nat) (x : List Int), i + d = l.length → x.length = l.length → x.take i = seqL s i →
    Ev (fun k => laws_markIntS.l0 k x (s + (i : Int)) (i : Int)) (s + (l.length : Int), seqL s l.length) := by
  induction d with
  | zero =>
    intro i x hi hx ht
    refine ev_succ ?_
    simp only [laws_markIntS.l0]
    refine ev_neg (by omega) (ev_some ?_)
    rw [List.take_of_length_le (by omega)] at ht
    have : i = l.length := by omega
    subst this
    rw [ht]
  | succ d ih =>
    intro i x hi hx ht
    refine ev_succ ?_
    simp only [laws_markIntS.l0]
    refine ev_pos (by omega) (ev_pos (by omega) ?_)
    rw [next_i i (by omega), show wrap64 (s + (i : Int) + 1) = s + ((i + 1 : Nat) : Int) by rw [w64 (by omega) (by omega)]; omega]
    refine ih (i + 1) _ (by omega) (by simp [hx]) ?_
    rw [List.take_succ_eq_append_getElem (by simp; omega)]
    simp only [Int.toNat_natCast, List.getElem_set_self]
    rw [List.take_set_of_le (Nat.le_refl i), ht]
    simp [seqL, List.range_succ]

theorem mark_ev (l : List Int) (s : Int) (hl : l.length ≤ 1048576) (h0 : 0 ≤ s) (h1 : s ≤ 1000000000000) : Ev (fun k => laws_markIntS.f k l s) (s + (l.length : Int), seqL s l.length) := by
  have h := mark_from l s hl h0 h1 l.length 0 l (by omega) rfl (by simp [seqL])
  have e : s + ((0 : Nat) : Int) = s := by omega
  rw [e] at h
  exact h

theorem held_from (s : Int) (n : Nat) (hl : n ≤ 1048576) (h0 : 0 ≤ s) (h1 : s ≤ 1000000000000) (d : Nat) : ∀ (i : Nat), i + d = n → Ev (fun k => laws_heldIntS.l0 k (seqL s n) (s + (i : Int)) (i : Int)) (s + (n : Int)) := by
  induction d with
  | zero =>
    intro i hi
    refine ev_succ ?_
    simp only [laws_heldIntS.l0, seqL_length]
    refine ev_neg (by omega) (ev_some ?_)
    have : i = n := by omega
    rw [this]
  | succ d ih =>
    intro i hi
    refine ev_succ ?_
    simp only [laws_heldIntS.l0, seqL_length]
    refine ev_pos (by omega) (ev_pos (by omega) (ev_pos ?_ ?_))
    · rw [rd_at _ i (by rw [seqL_length]; omega)]; simp [seqL]
    · rw [next_i i (by omega), show wrap64 (s + (i : Int) + 1) = s + ((i + 1 : Nat) : Int) by rw [w64 (by omega) (by omega)]; omega]
      exact ih (i + 1) (by omega)

theorem held_ev (s : Int) (n : Nat) (hl : n ≤ 1048576) (h0 : 0 ≤ s) (h1 : s ≤ 1000000000000) : Ev (fun k => laws_heldIntS.f k (seqL s n) s) (s + (n : Int)) := by
  have h := held_from s n hl h0 h1 n 0 (by omega)
  have e : s + ((0 : Nat) : Int) = s := by omega
  rw [e] at h
  exact h

/-! ### Rounds of collections -/
/-- One collection: how far it goes, and the two counts behind it. -/
def stepR (t0 t1 s0 s1 : Int) : Int × Int × Int := if s0 + 1 < t0 then (0, s0 + 1, s1) else if s1 + 1 < t1 then (1, 0, s1 + 1) else (2, 0, 0)
def roundsL (t0 t1 : Int) : Nat → Int → Int → List Int
  | 0, _, _ => []
  | n + 1, s0, s1 => (stepR t0 t1 s0 s1).1 :: roundsL t0 t1 n (stepR t0 t1 s0 s1).2.1 (stepR t0 t1 s0 s1).2.2
theorem roundsL_length (t0 t1 : Int) : ∀ (n : Nat) (s0 s1 : Int), (roundsL t0 t1 n s0 s1).length = n
  | 0, _, _ => rfl
  | n + 1, _, _ => by simp [roundsL, roundsL_length t0 t1 n]
theorem roundsL_take (t0 t1 : Int) : ∀ (n : Nat) (s0 s1 : Int), (roundsL t0 t1 (n + 1) s0 s1).take n = roundsL t0 t1 n s0 s1
  | 0, _, _ => by simp [roundsL]
  | n + 1, s0, s1 => by
    rw [roundsL, List.take_succ_cons, roundsL_take t0 t1 n]; rfl
theorem stepR_bd (t0 t1 s0 s1 : Int) : 0 ≤ (stepR t0 t1 s0 s1).1 ∧ (stepR t0 t1 s0 s1).1 < 3 := by
  unfold stepR; split <;> (try split) <;> simp
theorem roundsL_bd (t0 t1 : Int) : ∀ (n : Nat) (s0 s1 : Int), ∀ x ∈ roundsL t0 t1 n s0 s1, 0 ≤ x ∧ x < 3
  | 0, _, _ => by simp [roundsL]
  | n + 1, s0, s1 => by
    intro x hx
    simp only [roundsL, List.mem_cons] at hx
    rcases hx with rfl | hx
    · exact stepR_bd _ _ _ _
    · exact roundsL_bd t0 t1 n _ _ x hx
/-- What RoundsOf answers. -/
def roundsR (many : Int) (ts : List Int) : List Int :=
  match ts with
  | [t0, t1] => if (0 ≤ many ∧ many ≤ 60) ∧ (1 ≤ t0 ∧ t0 ≤ 60) ∧ (1 ≤ t1 ∧ t1 ≤ 60) then roundsL t0 t1 many.toNat 0 0 else []
  | _ => []
theorem roundsR_len (many : Int) (ts : List Int) : (roundsR many ts).length ≤ 60 := by
  unfold roundsR
  split
  · split
    · rw [roundsL_length]; omega
    · simp
  · simp

theorem spec_round (many t0 t1 : Int) (ht : 1 ≤ t0 ∧ t0 ≤ 60 ∧ 1 ≤ t1 ∧ t1 ≤ 60) (hm : many ≤ 60) (d : Nat) : ∀ (n : Int) (out : List Int) (s0 s1 : Int), 0 ≤ n → n + d = many → out.length = n → (0 ≤ s0 ∧ s0 < t0) → (0 ≤ s1 ∧ s1 < t1) →
    Ev (fun k => spec_RoundsOf.l1 k many [t0, t1] out [s0, s1] n) (out ++ roundsL t0 t1 d s0 s1) := by
  induction d with
  | zero =>
    intro n out s0 s1 n0 hn ho h0 h1
    refine ev_succ ?_
    simp only [spec_RoundsOf.l1]
    exact ev_neg (by omega) (ev_some (by simp [roundsL]))
  | succ d ih =>
    intro n out s0 s1 n0 hn ho h0 h1
    have w0 : wrap64 (s0 + 1) = s0 + 1 := w64 (by omega) (by omega)
    have w1 : wrap64 (s1 + 1) = s1 + 1 := w64 (by omega) (by omega)
    have wn : wrap64 (n + 1) = n + 1 := w64 (by omega) (by omega)
    have wz : wrap64 (0 + 1) = 1 := w64 (by omega) (by omega)
    have wo : wrap64 (1 + 1) = 2 := w64 (by omega) (by omega)
    have r0 : rd [s0, s1] 0 = s0 := rfl
    have r1 : rd [t0, t1] 0 = t0 := rfl
    have r2 : rd [t0, t1] 1 = t1 := rfl
    refine ev_succ ?_
    simp only [spec_RoundsOf.l1]
    refine ev_pos (by omega) (ev_succ ?_)
    simp only [spec_RoundsOf.l2]
    refine ev_pos (by omega) (ev_pos (by omega) (ev_pos (by simp) (ev_bind1 rfl (ev_pos (by simp) ?_))))
    rw [r0, w0, r1]
    have x0 : rd (([s0, s1] : List Int).set (0 : Int).toNat (s0 + 1)) 0 = s0 + 1 := rfl
    rw [x0]
    by_cases c0 : s0 + 1 < t0
    · refine ev_pos c0 (ev_pos (by omega) ?_)
      rw [wn]
      have e : stepR t0 t1 s0 s1 = (0, s0 + 1, s1) := by unfold stepR; rw [if_pos c0]
      refine ev_eq (ih (n + 1) (out ++ [0]) (s0 + 1) s1 (by omega) (by omega) (by simp; omega) (by omega) h1) ?_
      simp [roundsL, e]
    · refine ev_neg c0 (ev_succ ?_)
      rw [wz]
      simp only [spec_RoundsOf.l2]
      refine ev_pos (by omega) (ev_pos (by omega) (ev_pos (by simp) (ev_bind1 rfl (ev_pos (by simp) ?_))))
      have x1 : rd ((([s0, s1] : List Int).set (0 : Int).toNat (s0 + 1)).set (0 : Int).toNat 0) 1 = s1 := rfl
      rw [x1, w1, r2]
      have x2 : rd (((([s0, s1] : List Int).set (0 : Int).toNat (s0 + 1)).set (0 : Int).toNat 0).set (1 : Int).toNat (s1 + 1)) 1 = s1 + 1 := rfl
      rw [x2]
      by_cases c1 : s1 + 1 < t1
      · refine ev_pos c1 (ev_pos (by omega) ?_)
        rw [wn]
        have e : stepR t0 t1 s0 s1 = (1, 0, s1 + 1) := by unfold stepR; rw [if_neg c0, if_pos c1]
        refine ev_eq (ih (n + 1) (out ++ [1]) 0 (s1 + 1) (by omega) (by omega) (by simp; omega) (by omega) (by omega)) ?_
        simp [roundsL, e]
      · refine ev_neg c1 (ev_succ ?_)
        rw [wo]
        simp only [spec_RoundsOf.l2]
        refine ev_neg (by omega) (ev_pos (by omega) ?_)
        rw [wn]
        have e : stepR t0 t1 s0 s1 = (2, 0, 0) := by unfold stepR; rw [if_neg c0, if_neg c1]
        refine ev_eq (ih (n + 1) (out ++ [2]) 0 0 (by omega) (by omega) (by simp; omega) (by omega) (by omega)) ?_
        simp [roundsL, e]

theorem impl_round (many t0 t1 z : Int) (ht : 1 ≤ t0 ∧ t0 ≤ 60 ∧ 1 ≤ t1 ∧ t1 ≤ 60) (hm : many ≤ 60) (d : Nat) : ∀ (n : Int) (out : List Int) (s0 s1 : Int), 0 ≤ n → n + d = many → out.length = n → (0 ≤ s0 ∧ s0 < t0) → (0 ≤ s1 ∧ s1 < t1) →
    Ev (fun k => impl_RoundsOf.l1 k [t0, t1] out [z, s0, s1] many n) (out ++ roundsL t0 t1 d s0 s1) := by
  induction d with
  | zero =>
    intro n out s0 s1 n0 hn ho h0 h1
    refine ev_succ ?_
    simp only [impl_RoundsOf.l1]
    exact ev_neg (by omega) (ev_some (by simp [roundsL]))
  | succ d ih =>
    intro n out s0 s1 n0 hn ho h0 h1
    have w0 : wrap64 (s0 + 1) = s0 + 1 := w64 (by omega) (by omega)
    have w1 : wrap64 (s1 + 1) = s1 + 1 := w64 (by omega) (by omega)
    have wn : wrap64 (n + 1) = n + 1 := w64 (by omega) (by omega)
    have wz : wrap64 (0 + 1) = 1 := w64 (by omega) (by omega)
    have wo : wrap64 (1 + 1) = 2 := w64 (by omega) (by omega)
    have wp : wrap64 (2 + 1) = 3 := w64 (by omega) (by omega)
    have r0 : rd [z, s0, s1] 1 = s0 := rfl
    have r1 : rd [t0, t1] 0 = t0 := rfl
    have r2 : rd [t0, t1] 1 = t1 := rfl
    refine ev_succ ?_
    simp only [impl_RoundsOf.l1]
    refine ev_pos (by omega) (ev_succ ?_)
    simp only [impl_RoundsOf.l2]
    rw [wz, r0, w0, r1]
    refine ev_pos (by omega) (ev_pos (by omega) (ev_pos (by simp) (ev_pos (by omega) (ev_pos (by simp) ?_))))
    by_cases c0 : s0 + 1 < t0
    · refine ev_neg (by omega) (ev_pos (by omega) ?_)
      rw [wn]
      have e : stepR t0 t1 s0 s1 = (0, s0 + 1, s1) := by unfold stepR; rw [if_pos c0]
      refine ev_eq (ih (n + 1) (out ++ [0]) (s0 + 1) s1 (by omega) (by omega) (by simp; omega) (by omega) h1) ?_
      simp [roundsL, e]
    · refine ev_pos (by omega) (ev_succ ?_)
      simp only [impl_RoundsOf.l2]
      have x1 : rd (([z, s0, s1] : List Int).set (1 : Int).toNat 0) 2 = s1 := rfl
      rw [wo, x1, w1, r2]
      refine ev_pos (by omega) (ev_pos (by omega) (ev_pos (by simp) (ev_pos (by omega) (ev_pos (by simp) ?_))))
      by_cases c1 : s1 + 1 < t1
      · refine ev_neg (by omega) (ev_pos (by omega) ?_)
        rw [wn]
        have e : stepR t0 t1 s0 s1 = (1, 0, s1 + 1) := by unfold stepR; rw [if_neg c0, if_pos c1]
        refine ev_eq (ih (n + 1) (out ++ [1]) 0 (s1 + 1) (by omega) (by omega) (by simp; omega) (by omega) (by omega)) ?_
        simp [roundsL, e]
      · refine ev_pos (by omega) (ev_succ ?_)
        simp only [impl_RoundsOf.l2]
        rw [wp]
        refine ev_neg (by omega) (ev_pos (by omega) ?_)
        rw [wn]
        have e : stepR t0 t1 s0 s1 = (2, 0, 0) := by unfold stepR; rw [if_neg c0, if_neg c1]
        refine ev_eq (ih (n + 1) (out ++ [2]) 0 0 (by omega) (by omega) (by simp; omega) (by omega) (by omega)) ?_
        simp [roundsL, e]

theorem in60 (t : Int) : spec_inRange.f t 1 60 = some (decide (1 ≤ t ∧ t ≤ 60)) := by
  unfold spec_inRange.f
  by_cases h : t ≥ 1
  · have : 1 ≤ t := h
    simp [h]
  · simp [h]
theorem in60' (t : Int) : impl_within.f t 1 60 = some (decide (1 ≤ t ∧ t ≤ 60)) := in60 t
theorem in061 (t : Int) : spec_inRange.f t 0 60 = some (decide (0 ≤ t ∧ t ≤ 60)) := by
  unfold spec_inRange.f
  by_cases h : t ≥ 0
  · have : 0 ≤ t := h
    simp [h]
  · simp [h]
theorem in061' (t : Int) : impl_within.f t 0 60 = some (decide (0 ≤ t ∧ t ≤ 60)) := in061 t

theorem spec_rounds_ev (many : Int) (ts : List Int) : Ev (fun k => spec_RoundsOf.f k many ts) (roundsR many ts) := by
  unfold spec_RoundsOf.f
  have no : ∀ r : List Int, r = [] → Ev (fun k => spec_RoundsOf.j0 k many ts true) r := by
    intro r hr
    refine ev_succ ?_
    simp only [spec_RoundsOf.j0]
    exact ev_pos trivial (ev_some (by rw [hr]))
  refine ev_bind1 (in061 many) ?_
  by_cases hm : 0 ≤ many ∧ many ≤ 60
  · refine ev_pos (by simp [hm]) ?_
    match ts, no with
    | [t0, t1], no =>
      refine ev_succ ?_
      simp only [spec_RoundsOf.j0]
      refine ev_neg (by simp) (ev_succ ?_)
      have wz : wrap64 (0 + 1) = 1 := w64 (by omega) (by omega)
      have wo : wrap64 (1 + 1) = 2 := w64 (by omega) (by omega)
      have r0 : rd [t0, t1] 0 = t0 := rfl
      have r1 : rd [t0, t1] 1 = t1 := rfl
      simp only [spec_RoundsOf.l0]
      refine ev_pos (by simp) (ev_pos (by omega) ?_)
      rw [r0]
      refine ev_bind1 (in60 t0) ?_
      by_cases h0 : 1 ≤ t0 ∧ t0 ≤ 60
      · refine ev_pos (by simp [h0]) (ev_succ ?_)
        rw [wz]
        simp only [spec_RoundsOf.l0]
        refine ev_pos (by simp) (ev_pos (by omega) ?_)
        rw [r1]
        refine ev_bind1 (in60 t1) ?_
        by_cases h1 : 1 ≤ t1 ∧ t1 ≤ 60
        · refine ev_pos (by simp [h1]) (ev_succ ?_)
          rw [wo]
          simp only [spec_RoundsOf.l0]
          refine ev_neg (by simp) (ev_pos (by omega) ?_)
          have e : roundsR many [t0, t1] = roundsL t0 t1 many.toNat 0 0 := by simp [roundsR, hm, h0, h1]
          rw [e]
          exact spec_round many t0 t1 (by omega) (by omega) many.toNat 0 [] 0 0 (by omega) (by omega) rfl (by omega) (by omega)
        · exact ev_neg (by simpa using h1) (ev_some (by simp [roundsR, h1]))
      · exact ev_neg (by simpa using h0) (ev_some (by simp [roundsR, h0]))
    | [], no => exact no _ rfl
    | [_], no => exact no _ rfl
    | a :: b :: c :: l, no =>
      have : (((a :: b :: c :: l : List Int).length : Int) != 2) = true := by simp; omega
      rw [this]; exact no _ rfl
  · refine ev_neg (by simpa using hm) (no _ ?_)
    unfold roundsR
    split
    · rw [if_neg (fun h => hm h.1)]
    · rfl

theorem impl_rounds_ev (many : Int) (ts : List Int) : Ev (fun k => impl_RoundsOf.f k many ts) (roundsR many ts) := by
  unfold impl_RoundsOf.f
  have no : ∀ r : List Int, r = [] → Ev (fun k => impl_RoundsOf.j0 k many ts true) r := by
    intro r hr
    refine ev_succ ?_
    simp only [impl_RoundsOf.j0]
    exact ev_pos trivial (ev_some (by rw [hr]))
  refine ev_bind1 (in061' many) ?_
  by_cases hm : 0 ≤ many ∧ many ≤ 60
  · refine ev_pos (by simp [hm]) ?_
    match ts, no with
    | [t0, t1], no =>
      refine ev_succ ?_
      simp only [impl_RoundsOf.j0]
      refine ev_neg (by simp) (ev_succ ?_)
      have wz : wrap64 (0 + 1) = 1 := w64 (by omega) (by omega)
      have wo : wrap64 (1 + 1) = 2 := w64 (by omega) (by omega)
      have r0 : rd [t0, t1] 0 = t0 := rfl
      have r1 : rd [t0, t1] 1 = t1 := rfl
      simp only [impl_RoundsOf.l0]
      refine ev_pos (by simp) (ev_pos (by omega) (ev_pos (by simp) ?_))
      rw [r0]
      refine ev_bind1 (in60' t0) ?_
      by_cases h0 : 1 ≤ t0 ∧ t0 ≤ 60
      · refine ev_pos (by simp [h0]) (ev_succ ?_)
        rw [wz]
        simp only [impl_RoundsOf.l0]
        refine ev_pos (by simp) (ev_pos (by omega) (ev_pos (by simp) ?_))
        rw [r1]
        refine ev_bind1 (in60' t1) ?_
        by_cases h1 : 1 ≤ t1 ∧ t1 ≤ 60
        · refine ev_pos (by simp [h1]) (ev_succ ?_)
          rw [wo]
          simp only [impl_RoundsOf.l0]
          refine ev_neg (by simp) (ev_pos (by omega) ?_)
          have e : roundsR many [t0, t1] = roundsL t0 t1 many.toNat 0 0 := by simp [roundsR, hm, h0, h1]
          rw [e]
          exact impl_round many t0 t1 0 (by omega) (by omega) many.toNat 0 [] 0 0 (by omega) (by omega) rfl (by omega) (by omega)
        · exact ev_neg (by simpa using h1) (ev_some (by simp [roundsR, h1]))
      · exact ev_neg (by simpa using h0) (ev_some (by simp [roundsR, h0]))
    | [], no => exact no _ rfl
    | [_], no => exact no _ rfl
    | a :: b :: c :: l, no =>
      have : (((a :: b :: c :: l : List Int).length : Int) != 2) = true := by simp; omega
      rw [this]; exact no _ rfl
  · refine ev_neg (by simpa using hm) (no _ ?_)
    unfold roundsR
    split
    · rw [if_neg (fun h => hm h.1)]
    · rfl

theorem FnExactRoundsOf : laws_FnExactRoundsOf.Pure := by
  intro m l _ _ _ _
  refine Ev.rounds ?_
  unfold laws_FnExactRoundsOf.f
  by_cases hl : (l.length : Int) > 1048576
  · exact ev_pos hl (ev_some rfl)
  refine ev_neg hl ?_
  have hl' : l.length ≤ 1048576 := by omega
  have hr := roundsR_len m l
  have T := toInt_ev l hl'
  have E := eqSelf_ev (roundsR m l) (by omega)
  refine Ev.bind T (Ev.bind (spec_rounds_ev m l) (Ev.bind T (Ev.bind (impl_rounds_ev m l) (Ev.bind E (ev_pos rfl (Ev.bind T (Ev.bind (eqSelf_ev l hl') (ev_pos rfl (Ev.bind (mark_ev l 1 hl' (by omega) (by omega)) ?_)))))))))
  refine ev_neg (by show ¬ (1 + (l.length : Int)) < 0; omega) (Ev.bind E ?_)
  refine ev_succ ?_
  simp only [laws_FnExactRoundsOf.j0]
  have M := mark_ev (roundsR m l) 1 (by omega) (by omega) (by omega)
  have H := held_ev 1 (roundsR m l).length (by omega) (by omega) (by omega)
  refine ev_neg (by simp) (Ev.bind M (Ev.bind H (ev_neg (by omega) (ev_pos rfl (Ev.bind T (Ev.bind (impl_rounds_ev m l) (Ev.bind E (ev_pos rfl (Ev.bind H (ev_neg (by omega) (ev_pos rfl (ev_some rfl))))))))))))

end Go.Proofs.Ytppbnfoagbipaaa.Pure
