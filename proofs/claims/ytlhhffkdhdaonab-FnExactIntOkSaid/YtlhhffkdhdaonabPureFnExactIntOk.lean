/- FnExactIntOk: the program tells integers as the reference does, for every text of at most 2^20 bytes. -/
import Derived.Test.YtlhhffkdhdaonabXFnExactIntOkx2
namespace Go.Proofs.Ytlhhffkdhdaonab.Pure
open Go.RowKit Go.Proofs.Ytlhhffkdhdaonab.XFnExactIntOk Go.Proofs.YtlhhffkdhdaonabW.PrintWords Go.Proofs.YtlhhffkdhdaonabW.PrintLast Go.Proofs.YtlhhffkdhdaonabW.PrintMore
set_option linter.unusedVariables false
set_option linter.unusedSimpArgs false

/-! ### Rounds, and words of 64 bits -/
theorem ev_succ {α : Type} {g : Nat → Option α} {r : α} (h : Ev (fun k => g (k + 1)) r) : Ev g r := Ev.step (fun _ => rfl) h
theorem ev_some {α : Type} {o : Option α} {r : α} (h : o = some r) : Ev (fun _ => o) r := ⟨0, fun _ _ => h⟩
theorem ev_pos {α : Type} {c : Prop} [Decidable c] {A B : Nat → Option α} {r : α} (h : c) (k : Ev A r) : Ev (fun n => if c then A n else B n) r :=
  Ev.congr (fun _ => if_pos h) k
theorem ev_neg {α : Type} {c : Prop} [Decidable c] {A B : Nat → Option α} {r : α} (h : ¬ c) (k : Ev B r) : Ev (fun n => if c then A n else B n) r :=
  Ev.congr (fun _ => if_neg h) k
theorem ev_eq {α : Type} {g : Nat → Option α} {r s : α} (h : Ev g r) (e : r = s) : Ev g s := e ▸ h
theorem ev_bind1 {α β : Type} {o : Option α} {f : Nat → α → Option β} {a : α} {r : β} (h : o = some a) (k : Ev (fun n => f n a) r) : Ev (fun n => o.bind (f n)) r :=
  Ev.bind (ev_some h) k
theorem ev_det {α : Type} {g : Nat → Option α} {r s : α} (h : Ev g r) (k : Ev g s) : r = s := by
  obtain ⟨K, h⟩ := h
  obtain ⟨L, k⟩ := k
  have h1 := h (max K L) (by omega)
  have h2 := k (max K L) (by omega)
  rw [h1] at h2
  exact Option.some.inj h2
theorem w64 {n : Int} (h : -9223372036854775808 ≤ n) (h' : n ≤ 9223372036854775807) : wrap64 n = n := by unfold wrap64; omega
theorem byte_of {l : List Int} (h : ∀ x ∈ l, (Lit.int .u8 x).wf = true) (i : Int) : 0 ≤ rd l i ∧ rd l i ≤ 255 := by
  unfold rd
  by_cases hi : i.toNat < l.length
  · have hm : l.getD i.toNat 0 ∈ l := by
      rw [List.getD_eq_getElem?_getD, List.getElem?_eq_getElem hi]
      exact List.getElem_mem hi
    have := h _ hm
    have m0 : IntKind.u8.min = 0 := by decide
    have m1 : IntKind.u8.max = 255 := by decide
    simp only [Lit.wf, m0, m1, Bool.and_eq_true, decide_eq_true_eq] at this
    exact this
  · rw [List.getD_eq_getElem?_getD, List.getElem?_eq_none (by omega)]
    simp

/-! ### Reading a list -/
theorem rd_at (l : List Int) (i : Nat) (h : i < l.length) : rd l (i : Int) = l[i] := by
  unfold rd
  simp [List.getD_eq_getElem?_getD, h]
theorem next_i (i : Nat) (h : i ≤ 4611686018427387904) : wrap64 ((i : Int) + 1) = ((i + 1 : Nat) : Int) := by rw [w64 (by omega) (by omega)]; omega

theorem toList_size (s : ByteArray) : s.toList.length = s.size := by
  rw [ByteArray.toList_eq]; rfl
theorem bytes_ext {a b : ByteArray} (h : a.toList = b.toList) : a = b := by
  rw [ByteArray.toList_eq, ByteArray.toList_eq] at h
  cases a; cases b
  simp only [Array.toList_inj] at h
  rw [h]
theorem bt_append_left (a b : ByteArray) (i : Nat) (h : i < a.size) : bt (a ++ b) (i : Int) = bt a (i : Int) := by
  unfold bt
  rw [dif_pos (by rw [ByteArray.size_append]; simp; omega), dif_pos (by simpa using h)]
  simp only [Int.toNat_natCast]
  rw [ByteArray.getElem_append_left h]
theorem bt_append_right (a b : ByteArray) (i : Nat) (h : a.size ≤ i) (h' : i < a.size + b.size) : bt (a ++ b) (i : Int) = bt b ((i - a.size : Nat) : Int) := by
  unfold bt
  rw [dif_pos (by rw [ByteArray.size_append]; simpa using h'), dif_pos (by simp; omega)]
  simp only [Int.toNat_natCast]
  rw [ByteArray.getElem_append_right h]

/-! ### Digits, the least one first -/
def val : List Int → Int
  | [] => 0
  | d :: l => d + 10 * val l
def Dig (l : List Int) : Prop := ∀ d ∈ l, 0 ≤ d ∧ d ≤ 9
def Trim (l : List Int) : Prop := ∀ h : l ≠ [], l.getLast h ≠ 0

theorem val_append (a b : List Int) : val (a ++ b) = val a + 10 ^ a.length * val b := by
  induction a with
  | nil => simp [val]
  | cons d a ih =>
    simp only [List.cons_append, val, ih, List.length_cons]
    rw [Int.pow_succ]
    have : 10 * (10 ^ a.length * val b) = 10 ^ a.length * 10 * val b := by rw [Int.mul_comm (10 ^ a.length) 10, Int.mul_assoc]
    omega

theorem pow_pos10 (n : Nat) : 0 < (10 : Int) ^ n := Int.pow_pos (by omega)

theorem dig_cons {d : Int} {l : List Int} : Dig (d :: l) ↔ (0 ≤ d ∧ d ≤ 9) ∧ Dig l := by simp [Dig]
theorem dig_nil : Dig [] := by simp [Dig]
theorem dig_append {a b : List Int} : Dig (a ++ b) ↔ Dig a ∧ Dig b := by
  simp only [Dig, List.mem_append]
  exact ⟨fun h => ⟨fun d hd => h d (.inl hd), fun d hd => h d (.inr hd)⟩, fun h d hd => hd.elim (h.1 d) (h.2 d)⟩

theorem val_nonneg {l : List Int} (h : Dig l) : 0 ≤ val l := by
  induction l with
  | nil => simp [val]
  | cons d l ih =>
    obtain ⟨h1, h2⟩ := dig_cons.1 h
    have := ih h2
    simp only [val]; omega

theorem val_lt {l : List Int} (h : Dig l) : val l < 10 ^ l.length := by
  induction l with
  | nil => simp [val]
  | cons d l ih =>
    obtain ⟨h1, h2⟩ := dig_cons.1 h
    have := ih h2
    simp only [val, List.length_cons, Int.pow_succ]; omega

theorem val_pos {l : List Int} (h : Dig l) (t : Trim l) (hn : l ≠ []) : 10 ^ (l.length - 1) ≤ val l := by
  obtain ⟨i, d, rfl⟩ : ∃ i d, l = i ++ [d] := ⟨l.dropLast, l.getLast hn, (List.dropLast_concat_getLast hn).symm⟩
  have hd : d ≠ 0 := by have := t hn; simpa using this
  obtain ⟨h1, h2⟩ := dig_append.1 h
  have h3 := (dig_cons.1 h2).1
  have h4 := val_nonneg h1
  rw [val_append]
  simp only [val, List.length_append, List.length_cons, List.length_nil]
  have h5 := pow_pos10 i.length
  have h6 : (10 : Int) ^ i.length * 1 ≤ 10 ^ i.length * (d + 10 * 0) := Int.mul_le_mul_of_nonneg_left (by omega) (by omega)
  simp only [Nat.zero_add, Nat.add_sub_cancel]
  omega

theorem trim_tail {d : Int} {l : List Int} (t : Trim (d :: l)) : Trim l := by
  intro hn
  have := t (by simp)
  rwa [List.getLast_cons hn] at this

theorem digs_unique : ∀ (a b : List Int), Dig a → Dig b → Trim a → Trim b → val a = val b → a = b
  | [], b, _, hb, _, tb, h => by
    by_cases hn : b = []
    · exact hn.symm
    · have := val_pos hb tb hn
      have h2 := pow_pos10 (b.length - 1)
      simp only [val] at h; omega
  | x :: a, [], ha, _, ta, _, h => by
    have := val_pos ha ta (by simp)
    have h2 := pow_pos10 ((x :: a).length - 1)
    simp only [val] at h this; omega
  | x :: a, y :: b, ha, hb, ta, tb, h => by
    obtain ⟨h1, h2⟩ := dig_cons.1 ha
    obtain ⟨h3, h4⟩ := dig_cons.1 hb
    simp only [val] at h
    have hxy : x = y := by omega
    have := digs_unique a b h2 h4 (trim_tail ta) (trim_tail tb) (by omega)
    rw [hxy, this]

def trimL : List Int → List Int
  | [] => []
  | d :: l => if trimL l = [] ∧ d = 0 then [] else d :: trimL l

theorem trimL_snoc : ∀ (l : List Int), trimL (l ++ [0]) = trimL l
  | [] => by simp [trimL]
  | d :: l => by simp only [List.cons_append, trimL, trimL_snoc l]

theorem val_trimL : ∀ (l : List Int), val (trimL l) = val l
  | [] => rfl
  | d :: l => by
    have ih := val_trimL l
    unfold trimL
    by_cases h : trimL l = [] ∧ d = 0
    · rw [if_pos h]; rw [h.1] at ih; simp only [val] at ih ⊢; omega
    · rw [if_neg h]; simp only [val]; omega

theorem dig_trimL : ∀ {l : List Int}, Dig l → Dig (trimL l)
  | [], h => h
  | d :: l, h => by
    obtain ⟨h1, h2⟩ := dig_cons.1 h
    unfold trimL
    by_cases hc : trimL l = [] ∧ d = 0
    · rw [if_pos hc]; exact dig_nil
    · rw [if_neg hc]; exact dig_cons.2 ⟨h1, dig_trimL h2⟩

theorem trim_trimL : ∀ (l : List Int), Trim (trimL l)
  | [] => by intro h; exact absurd rfl h
  | d :: l => by
    have ih := trim_trimL l
    unfold trimL
    by_cases hc : trimL l = [] ∧ d = 0
    · rw [if_pos hc]; intro h; exact absurd rfl h
    · rw [if_neg hc]
      intro h
      by_cases hn : trimL l = []
      · have hd : d ≠ 0 := fun e => hc ⟨hn, e⟩
        simp only [hn, List.getLast_singleton]; exact hd
      · rw [List.getLast_cons hn]; exact ih hn

theorem trimL_of_trim : ∀ {l : List Int}, Trim l → trimL l = l
  | [], _ => rfl
  | d :: l, t => by
    have ih := trimL_of_trim (trim_tail t)
    unfold trimL
    rw [ih]
    by_cases hn : l = []
    · subst hn
      have hd : d ≠ 0 := by have := t (by simp); simpa using this
      rw [if_neg (fun h => hd h.2)]
    · rw [if_neg (fun h => hn h.1)]

theorem trimL_len : ∀ (l : List Int), (trimL l).length ≤ l.length
  | [] => by simp [trimL]
  | d :: l => by
    have ih := trimL_len l
    unfold trimL
    by_cases hc : trimL l = [] ∧ d = 0
    · rw [if_pos hc]; simp
    · rw [if_neg hc]; simp only [List.length_cons]; omega

theorem rd_last (l : List Int) (x : Int) : rd (l ++ [x]) (((l ++ [x]).length : Int) - 1) = x := by
  have h : (((l ++ [x]).length : Int) - 1) = (l.length : Int) := by simp
  rw [h, rd_at _ l.length (by simp)]; simp

theorem trimmed_from (n : Nat) : ∀ l : List Int, l.length = n → n ≤ 1000000 → Ev (fun k => impl_trimmed.l0 k l) (trimL l) := by
  induction n with
  | zero =>
    intro l hl _
    have : l = [] := List.length_eq_zero_iff.1 hl
    subst this
    refine ev_succ ?_
    simp only [impl_trimmed.l0]
    exact ev_neg (by simp) (ev_some rfl)
  | succ n ih =>
    intro l hl hn
    obtain ⟨i, x, rfl⟩ : ∃ i x, l = i ++ [x] := ⟨l.dropLast, l.getLast (by intro h; simp [h] at hl), (List.dropLast_concat_getLast _).symm⟩
    have hi : i.length = n := by simpa using hl
    have hw : wrap64 (((i ++ [x]).length : Int) - 1) = ((i ++ [x]).length : Int) - 1 := w64 (by omega) (by omega)
    refine ev_succ ?_
    simp only [impl_trimmed.l0]
    rw [hw, rd_last]
    refine ev_pos (by omega) (ev_pos (by omega) (ev_pos (by omega) ?_))
    by_cases hx : x = 0
    · refine ev_pos hx (ev_pos (by omega) ?_)
      have ht : (i ++ [x]).take (((i ++ [x]).length : Int) - 1).toNat = i := by
        have : (((i ++ [x]).length : Int) - 1).toNat = i.length := by simp
        rw [this]; simp
      rw [ht, hx, trimL_snoc]
      exact ih i hi (by omega)
    · refine ev_neg hx (ev_some ?_)
      rw [trimL_of_trim]
      intro _
      simpa using hx

theorem trimmed_ev (l : List Int) (h : l.length ≤ 1000000) : Ev (fun k => impl_trimmed.f k l) (trimL l) := trimmed_from l.length l rfl h

/-! ### Texts of integers -/
def isDig (c : Int) : Bool := decide (48 ≤ c ∧ c ≤ 57)
def negB (s : ByteArray) : Bool := decide (0 < s.size ∧ bt s 0 = 45)
def bodyB (s : ByteArray) : ByteArray := if negB s = true then s.extract 1 s.size else s
def allD (b : ByteArray) (n : Nat) : Bool := (List.range n).all fun j => isDig (bt b j)
/-- Is s an integer? -/
def intB (s : ByteArray) : Bool := decide (1 ≤ (bodyB s).size ∧ (bodyB s).size ≤ 40) && (allD (bodyB s) (bodyB s).size && !(decide (bt (bodyB s) 0 = 48) && (decide (1 < (bodyB s).size) || negB s)))
theorem allD_succ (b : ByteArray) (n : Nat) : allD b (n + 1) = (allD b n && isDig (bt b n)) := by simp [allD, List.range_succ]
theorem body_size (s : ByteArray) : (bodyB s).size ≤ s.size := by
  unfold bodyB; split
  · rw [ByteArray.size_extract]; omega
  · exact Nat.le_refl _
theorem get_bt (s : ByteArray) (i : Nat) (h : i < s.size) : bt s (i : Int) = (s[i].toNat : Int) := by simp [bt, h]
theorem first_one (s : ByteArray) (h : 0 < s.size) : (s.extract 0 1).toList = [s[0]] := by
  rw [ByteArray.toList_eq, ByteArray.data_extract, Array.toList_extract]
  have hl : 0 < s.data.toList.length := by rw [Array.length_toList]; exact h
  obtain ⟨x, l, e⟩ : ∃ x l, s.data.toList = x :: l := List.exists_cons_of_length_pos hl
  have hx : s[0] = x := by
    have : s[0] = s.data.toList[0] := rfl
    rw [this]
    simp [e]
  rw [hx, e]; rfl
theorem pre_neg (s : ByteArray) (h : 0 < s.size) : ((s.extract 0 1).toList == (⟨#[45]⟩ : ByteArray).toList) = negB s := by
  have e2 : (⟨#[45]⟩ : ByteArray).toList = [45] := by rw [ByteArray.toList_eq]
  rw [first_one s h, e2]
  have hb : bt s 0 = (s[0].toNat : Int) := get_bt s 0 h
  unfold negB
  rw [hb]
  by_cases hc : s[0] = 45
  · simp [hc, h]
  · have h2 : ¬ (s[0].toNat : Int) = 45 := by
      intro e
      exact hc (UInt8.toNat_inj.1 (by simpa using (by omega : s[0].toNat = 45)))
    have h3 : ([s[0]] == ([45] : List UInt8)) = false := by simp [hc]
    rw [h3, decide_eq_false (fun h => h2 h.2)]

/-- The digits of the places below n, the last one first. -/
def digL (b : ByteArray) (n : Nat) : List Int := (List.range n).reverse.map fun (j : Nat) => bt b (j : Int) - 48
theorem digL_succ (b : ByteArray) (n : Nat) : digL b (n + 1) = (bt b n - 48) :: digL b n := by simp [digL, List.range_succ]
theorem digL_length (b : ByteArray) (n : Nat) : (digL b n).length = n := by simp [digL]
/-- What parseNumber answers. -/
def parseR (s : ByteArray) : Bool × List Int × Bool := if intB s = true then (negB s, trimL (digL (bodyB s) (bodyB s).size), true) else (false, [], false)

theorem cut_prefix (s : ByteArray) (hs : s.size ≤ 1048576) : strings_CutPrefix.f s (⟨#[45]⟩ : ByteArray) = some (bodyB s, negB s) := by
  have e1 : (⟨#[45]⟩ : ByteArray).size = 1 := rfl
  unfold strings_CutPrefix.f stringslite_CutPrefix.f stringslite_HasPrefix.f
  rw [e1]
  by_cases h : 0 < s.size
  · rw [if_pos (by omega), if_pos (by omega), if_pos (by omega)]
    simp only [Option.bind_some]
    have : ((1 : Nat) : Int).toNat = 1 := rfl
    rw [this, pre_neg s h]
    by_cases hn : negB s = true
    · rw [if_pos hn, if_pos (by omega), if_pos (by omega)]
      simp only [Option.bind_some]
      rw [bodyB, if_pos hn, hn]
    · rw [if_neg hn]
      simp only [Option.bind_some]
      rw [bodyB, if_neg hn]
      rw [Bool.not_eq_true] at hn
      rw [hn]
  · rw [if_neg (by omega)]
    simp only [Option.bind_some]
    have hn : negB s = false := by unfold negB; simp; omega
    rw [if_neg (by simp)]
    simp only [Option.bind_some]
    rw [bodyB, hn]; simp

theorem parse_from (b : ByteArray) (neg : Bool) (hb : b.size ≤ 1000) (n : Nat) : ∀ (acc : List Int), n ≤ b.size → acc.length + n ≤ 1000 →
    Ev (fun k => impl_parseNumber.l0 k b ((n : Int) - 1) neg acc) (if allD b n = true then (neg, trimL (acc ++ digL b n), true) else (false, [], false)) := by
  induction n with
  | zero =>
    intro acc _ ha
    refine ev_succ ?_
    simp only [impl_parseNumber.l0]
    refine ev_neg (by omega) (Ev.bind (trimmed_ev acc (by omega)) (ev_some ?_))
    simp [allD, digL]
  | succ n ih =>
    intro acc hn ha
    have e : ((n + 1 : Nat) : Int) - 1 = (n : Int) := by omega
    rw [e, allD_succ, digL_succ]
    refine ev_succ ?_
    simp only [impl_parseNumber.l0]
    refine ev_pos (by omega) (ev_pos (by omega) (ev_pos (by omega) ?_))
    by_cases h1 : bt b n < 48
    · refine ev_pos h1 (ev_some ?_)
      have : isDig (bt b n) = false := by unfold isDig; simp; omega
      rw [this]; simp
    · refine ev_neg h1 ?_
      by_cases h2 : bt b n > 57
      · refine ev_pos h2 (ev_some ?_)
        have : isDig (bt b n) = false := by unfold isDig; simp; omega
        rw [this]; simp
      · refine ev_neg h2 (ev_pos (by omega) ?_)
        have : isDig (bt b n) = true := by unfold isDig; simp; omega
        have hw : wrap64 ((n : Int) - 1) = (n : Int) - 1 := w64 (by omega) (by omega)
        have hm : (bt b n - 48) % 256 = bt b n - 48 := Int.emod_eq_of_lt (by omega) (by omega)
        rw [this, hw, hm, Bool.and_true]
        refine ev_eq (ih (acc ++ [bt b n - 48]) (by omega) (by simp; omega)) ?_
        simp

theorem parse_no (b : ByteArray) (neg : Bool) : Ev (fun k => impl_parseNumber.j0 k b neg true) (false, [], false) := by
  refine ev_succ ?_
  simp only [impl_parseNumber.j0]
  exact ev_pos trivial (ev_some rfl)
theorem parse_yes (b : ByteArray) (neg : Bool) (hb : b.size ≤ 1000) : Ev (fun k => impl_parseNumber.j0 k b neg false) (if allD b b.size = true then (neg, trimL (digL b b.size), true) else (false, [], false)) := by
  refine ev_succ ?_
  simp only [impl_parseNumber.j0]
  have hw : wrap64 ((b.size : Int) - 1) = (b.size : Int) - 1 := w64 (by omega) (by omega)
  rw [hw]
  exact ev_neg (by simp) (parse_from b neg hb b.size [] (Nat.le_refl _) (by simp; omega))

theorem parse_ev (s : ByteArray) (hs : s.size ≤ 1048576) : Ev (fun k => impl_parseNumber.f k s) (parseR s) := by
  unfold impl_parseNumber.f
  refine ev_bind1 (cut_prefix s hs) ?_
  simp only []
  by_cases h1 : (bodyB s).size < 1
  · refine ev_pos (by omega) (ev_eq (parse_no _ _) ?_)
    have : intB s = false := by rw [intB, decide_eq_false (by omega)]; rfl
    rw [parseR, this]; rfl
  refine ev_neg (by omega) ?_
  by_cases h2 : (bodyB s).size > 40
  · refine ev_pos (by omega) (ev_eq (parse_no _ _) ?_)
    have : intB s = false := by rw [intB, decide_eq_false (by omega)]; rfl
    rw [parseR, this]; rfl
  refine ev_neg (by omega) (ev_pos (by omega) ?_)
  have hr : decide (1 ≤ (bodyB s).size ∧ (bodyB s).size ≤ 40) = true := decide_eq_true (by omega)
  have fin : ∀ z : Bool, (decide (bt (bodyB s) 0 = 48) && (decide (1 < (bodyB s).size) || negB s)) = z → Ev (fun k => impl_parseNumber.j0 k (bodyB s) (negB s) z) (parseR s) := by
    intro z hz
    cases z with
    | true =>
      have : intB s = false := by rw [intB, hz]; simp
      exact ev_eq (parse_no _ _) (by rw [parseR, this]; rfl)
    | false =>
      have : intB s = allD (bodyB s) (bodyB s).size := by rw [intB, hz, hr]; simp
      exact ev_eq (parse_yes _ _ (by omega)) (by rw [parseR, this])
  by_cases h3 : bt (bodyB s) 0 = 48
  · refine ev_pos h3 ?_
    by_cases h4 : ((bodyB s).size : Int) > 1
    · exact ev_pos h4 (fin true (by simp [h3]; omega))
    · refine ev_neg h4 (fin (negB s) ?_)
      have : ¬ 1 < (bodyB s).size := by omega
      simp [h3, this]
  · exact ev_neg h3 (fin false (by simp [h3]))

theorem valid_end (s b : ByteArray) (hb : b = bodyB s) : (spec_inRange.f (b.size : Int) 1 40).bind (fun t101 => (if t101 = true then (if 0 < (b.size : Int) then (if (bt b 0) = 48 then (some (s.toList == ([48] : List UInt8))) else (some true)) else (none)) else (some false))) =
    some (decide (1 ≤ b.size ∧ b.size ≤ 40) && !(decide (bt b 0 = 48) && (decide (1 < b.size) || negB s))) := by
  have hr : spec_inRange.f (b.size : Int) 1 40 = some (decide (1 ≤ b.size ∧ b.size ≤ 40)) := by
    unfold spec_inRange.f
    by_cases h : (b.size : Int) ≥ 1
    · have h' : 1 ≤ b.size := by omega
      rw [if_pos h]; congr 1; simp [h']; omega
    · rw [if_neg h, decide_eq_false (by omega)]
  rw [hr]
  simp only [Option.bind_some]
  by_cases h : 1 ≤ b.size ∧ b.size ≤ 40
  · rw [if_pos (decide_eq_true h), if_pos (by omega), decide_eq_true h]
    by_cases h0 : bt b 0 = 48
    · rw [if_pos h0]
      simp only [h0, decide_true, Bool.true_and]
      congr 1
      by_cases hn : negB s = true
      · rw [hn]
        simp only [Bool.or_true, Bool.not_true]
        have : 0 < s.size ∧ bt s 0 = 45 := by simpa [negB] using hn
        apply beq_eq_false_iff_ne.2
        intro e
        have hz : s.size = 1 := by rw [← toList_size, e]; rfl
        have hbz : b.size = 0 := by rw [hb, bodyB, if_pos hn, ByteArray.size_extract]; omega
        omega
      · have hbs : b = s := by rw [hb, bodyB, if_neg hn]
        rw [Bool.not_eq_true] at hn
        rw [hn, Bool.or_false]
        subst hbs
        by_cases h1 : 1 < b.size
        · rw [decide_eq_true h1]
          apply beq_eq_false_iff_ne.2
          intro e
          have : b.size = 1 := by rw [← toList_size, e]; rfl
          omega
        · rw [decide_eq_false h1]
          have hz : b.size = 1 := by omega
          have hg := get_bt b 0 (by omega)
          simp only [Bool.not_false, beq_iff_eq]
          have e1 := first_one b (by omega)
          have e2 : b.extract 0 1 = b := by
            have := ByteArray.extract_zero_size (b := b)
            rwa [hz] at this
          rw [e2] at e1
          rw [e1]
          have e3 : (b[0].toNat : Int) = 48 := by rw [← hg]; exact h0
          have : b[0] = 48 := UInt8.toNat_inj.1 (by simpa using (by omega : b[0].toNat = 48))
          rw [this]
    · rw [if_neg h0]; simp [h0]
  · rw [if_neg (by simpa using h), decide_eq_false h]; simp

theorem valid_int_from (s b : ByteArray) (hb : b = bodyB s) (hz : b.size ≤ 1048576) (d : Nat) : ∀ i : Nat, i + d = b.size →
    Ev (fun k => spec_validInt.l0 k s b (i : Int)) (((List.range' i d).all fun j => isDig (bt b (j : Int))) && (decide (1 ≤ b.size ∧ b.size ≤ 40) && !(decide (bt b 0 = 48) && (decide (1 < b.size) || negB s)))) := by
  induction d with
  | zero =>
    intro i hi
    refine ev_succ ?_
    simp only [spec_validInt.l0]
    refine ev_neg (by omega) (ev_some ?_)
    rw [valid_end s b hb]; simp
  | succ d ih =>
    intro i hi
    have hw : wrap64 ((i : Int) + 1) = ((i + 1 : Nat) : Int) := by rw [w64 (by omega) (by omega)]; omega
    refine ev_succ ?_
    simp only [spec_validInt.l0]
    rw [List.range'_succ, List.all_cons]
    refine ev_pos (by omega) (ev_pos (by omega) ?_)
    by_cases h1 : bt b i < 48
    · refine ev_pos h1 (ev_some ?_)
      have : isDig (bt b i) = false := by unfold isDig; simp; omega
      rw [this]; rfl
    · refine ev_neg h1 ?_
      by_cases h2 : bt b i > 57
      · refine ev_pos h2 (ev_some ?_)
        have : isDig (bt b i) = false := by unfold isDig; simp; omega
        rw [this]; rfl
      · refine ev_neg h2 ?_
        have : isDig (bt b i) = true := by unfold isDig; simp; omega
        rw [this, hw, Bool.true_and]
        exact ih (i + 1) (by omega)

theorem valid_int (s : ByteArray) (hs : s.size ≤ 1048576) : Ev (fun k => spec_validInt.f k s) (intB s) := by
  have hbz := body_size s
  have key : Ev (fun k => spec_validInt.l0 k s (bodyB s) 0) (intB s) := by
    have h := valid_int_from s (bodyB s) rfl (by omega) (bodyB s).size 0 (by omega)
    refine ev_eq h ?_
    rw [intB, allD, List.range_eq_range']
    cases (List.range' 0 (bodyB s).size).all fun j => isDig (bt (bodyB s) (j : Int)) <;> cases decide (1 ≤ (bodyB s).size ∧ (bodyB s).size ≤ 40) <;> simp
  unfold spec_validInt.f
  by_cases h : 0 < s.size
  · refine ev_pos (by omega) (ev_pos (by omega) (ev_succ ?_))
    simp only [spec_validInt.j0]
    by_cases hn : bt s 0 = 45
    · have e : negB s = true := by simp [negB, h, hn]
      have eb : s.extract 1 s.size = bodyB s := by rw [bodyB, if_pos e]
      refine ev_pos (by simp [hn]) (ev_pos (by omega) (ev_succ ?_))
      simp only [spec_validInt.j1]
      rw [eb]; exact key
    · have e : negB s = false := by simp [negB, hn]
      have eb : bodyB s = s := by rw [bodyB, e]; simp
      refine ev_neg (by simp [hn]) (ev_succ ?_)
      simp only [spec_validInt.j1]
      rw [eb] at key; exact key
  · have e : negB s = false := by unfold negB; simp; omega
    have eb : bodyB s = s := by rw [bodyB, e]; simp
    refine ev_neg (by omega) (ev_succ ?_)
    simp only [spec_validInt.j0]
    refine ev_neg (by simp) (ev_succ ?_)
    simp only [spec_validInt.j1]
    rw [eb] at key; exact key

theorem FnExactIntOk : laws_FnExactIntOk.Pure := by
  intro s _
  refine Ev.rounds ?_
  unfold laws_FnExactIntOk.f
  by_cases hl : (s.size : Int) > 1048576
  · exact ev_pos hl (ev_some rfl)
  refine ev_neg hl ?_
  have S : Ev (fun k => spec_IntOk.f k s) (intB s) := by
    unfold spec_IntOk.f
    exact Ev.bind (valid_int s (by omega)) (ev_some rfl)
  have I : Ev (fun k => impl_IntOk.f k s) (intB s) := by
    unfold impl_IntOk.f
    refine Ev.bind (parse_ev s (by omega)) (ev_some ?_)
    rw [parseR]
    cases intB s <;> rfl
  exact Ev.bind S (Ev.bind I (ev_some (by simp)))

end Go.Proofs.Ytlhhffkdhdaonab.Pure
