/- FnExactIntPow: the program raises integers as the reference does, for all texts of at most 2^20 bytes and every exponent. -/
import Derived.Test.YtkhkbbhkhpekcaaXFnExactIntPowx6
namespace Go.Proofs.Ytkhkbbhkhpekcaa.Pure
open Go.RowKit Go.Proofs.Ytkhkbbhkhpekcaa.XFnExactIntPow Go.Proofs.YtkhkbbhkhpekcaaW.PrintWords Go.Proofs.YtkhkbbhkhpekcaaW.PrintLast Go.Proofs.YtkhkbbhkhpekcaaW.PrintMore
set_option linter.unusedVariables false
set_option linter.unusedSimpArgs false

/-! ### Rounds, and words of 64 bits -/
theorem ev_succ {α : Type} {g : Nat → Option α} {r : α} (h : Ev (fun k => g (k + 1)) r) : Ev g r := Ev.step (fun _ => rfl) h
theorem ev_some {α : Type} {o : Option α} {r : α} (h : o = some r) : Ev (fun _ => o) r := ⟨0, fun _ _ => h⟩
theorem ev_pos {α : Type} {c : Prop} [Decidable c] {A B : Nat → Option α} {r : α} (h : c) (k : Ev A r) : Ev (fun n => if c then A n else B n) r :=
  Ev.congr (fun _ => if_pos h) k
theorem ev_neg {α : Type} {c : Prop} [Decidable c] {A B : Nat → Option α} {r : α} (h : ¬ c) (k : Ev B r) : Ev (fun n => if c then A n else B n) r :=
  Ev.congr (fun _ => if_neg h) k
theorem ev_eq {α : Type} {g : Nat → Option α} {r s : α} (h : Ev g r) (e : r = s) : Ev g s := e ▸ h
theorem ev_bind1 {α β : Type} {o : Option α} {f : Nat → α → Option β} {a : α} {r : β} (h : o = some a) (k : Ev (fun n => f n a) r) : Ev (fun n => o.bind (f n)) r :=
  Ev.bind (ev_some h) k
theorem ev_det {α : Type} {g : Nat → Option α} {r s : α} (h : Ev g r) (k : Ev g s) : r = s := by
  obtain ⟨K, h⟩ := h
  obtain ⟨L, k⟩ := k
  have h1 := h (max K L) (by omega)
  have h2 := k (max K L) (by omega)
  rw [h1] at h2
  exact Option.some.inj h2
theorem w64 {n : Int} (h : -9223372036854775808 ≤ n) (h' : n ≤ 9223372036854775807) : wrap64 n = n := by unfold wrap64; omega
theorem byte_of {l : List Int} (h : ∀ x ∈ l, (Lit.int .u8 x).wf = true) (i : Int) : 0 ≤ rd l i ∧ rd l i ≤ 255 := by
  unfold rd
  by_cases hi : i.toNat < l.length
  · have hm : l.getD i.toNat 0 ∈ l := by
      rw [List.getD_eq_getElem?_getD, List.getElem?_eq_getElem hi]
      exact List.getElem_mem hi
    have := h _ hm
    have m0 : IntKind.u8.min = 0 := by decide
    have m1 : IntKind.u8.max = 255 := by decide
    simp only [Lit.wf, m0, m1, Bool.and_eq_true, decide_eq_true_eq] at this
    exact this
  · rw [List.getD_eq_getElem?_getD, List.getElem?_eq_none (by omega)]
    simp

/-! ### Reading a list -/
theorem rd_at (l : List Int) (i : Nat) (h : i < l.length) : rd l (i : Int) = l[i] := by
  unfold rd
  simp [List.getD_eq_getElem?_getD, h]
theorem next_i (i : Nat) (h : i ≤ 4611686018427387904) : wrap64 ((i : Int) + 1) = ((i + 1 : Nat) : Int) := by rw [w64 (by omega) (by omega)]; omega

theorem toList_size (s : ByteArray) : s.toList.length = s.size := by
  rw [ByteArray.toList_eq]; rfl
theorem bytes_ext {a b : ByteArray} (h : a.toList = b.toList) : a = b := by
  rw [ByteArray.toList_eq, ByteArray.toList_eq] at h
  cases a; cases b
  simp only [Array.toList_inj] at h
  rw [h]
theorem bt_append_left (a b : ByteArray) (i : Nat) (h : i < a.size) : bt (a ++ b) (i : Int) = bt a (i : Int) := by
  unfold bt
  rw [dif_pos (by rw [ByteArray.size_append]; simp; omega), dif_pos (by simpa using h)]
  simp only [Int.toNat_natCast]
  rw [ByteArray.getElem_append_left h]
theorem bt_append_right (a b : ByteArray) (i : Nat) (h : a.size ≤ i) (h' : i < a.size + b.size) : bt (a ++ b) (i : Int) = bt b ((i - a.size : Nat) : Int) := by
  unfold bt
  rw [dif_pos (by rw [ByteArray.size_append]; simpa using h'), dif_pos (by simp; omega)]
  simp only [Int.toNat_natCast]
  rw [ByteArray.getElem_append_right h]

/-! ### Digits, the least one first -/
def val : List Int → Int
  | [] => 0
  | d :: l => d + 10 * val l
def Dig (l : List Int) : Prop := ∀ d ∈ l, 0 ≤ d ∧ d ≤ 9
def Trim (l : List Int) : Prop := ∀ h : l ≠ [], l.getLast h ≠ 0

theorem val_append (a b : List Int) : val (a ++ b) = val a + 10 ^ a.length * val b := by
  induction a with
  | nil => simp [val]
  | cons d a ih =>
    simp only [List.cons_append, val, ih, List.length_cons]
    rw [Int.pow_succ]
    have : 10 * (10 ^ a.length * val b) = 10 ^ a.length * 10 * val b := by rw [Int.mul_comm (10 ^ a.length) 10, Int.mul_assoc]
    omega

theorem pow_pos10 (n : Nat) : 0 < (10 : Int) ^ n := Int.pow_pos (by omega)

theorem dig_cons {d : Int} {l : List Int} : Dig (d :: l) ↔ (0 ≤ d ∧ d ≤ 9) ∧ Dig l := by simp [Dig]
theorem dig_nil : Dig [] := by simp [Dig]
theorem dig_append {a b : List Int} : Dig (a ++ b) ↔ Dig a ∧ Dig b := by
  simp only [Dig, List.mem_append]
  exact ⟨fun h => ⟨fun d hd => h d (.inl hd), fun d hd => h d (.inr hd)⟩, fun h d hd => hd.elim (h.1 d) (h.2 d)⟩

theorem val_nonneg {l : List Int} (h : Dig l) : 0 ≤ val l := by
  induction l with
  | nil => simp [val]
  | cons d l ih =>
    obtain ⟨h1, h2⟩ := dig_cons.1 h
    have := ih h2
    simp only [val]; omega

theorem val_lt {l : List Int} (h : Dig l) : val l < 10 ^ l.length := by
  induction l with
  | nil => simp [val]
  | cons d l ih =>
    obtain ⟨h1, h2⟩ := dig_cons.1 h
    have := ih h2
    simp only [val, List.length_cons, Int.pow_succ]; omega

theorem val_pos {l : List Int} (h : Dig l) (t : Trim l) (hn : l ≠ []) : 10 ^ (l.length - 1) ≤ val l := by
  obtain ⟨i, d, rfl⟩ : ∃ i d, l = i ++ [d] := ⟨l.dropLast, l.getLast hn, (List.dropLast_concat_getLast hn).symm⟩
  have hd : d ≠ 0 := by have := t hn; simpa using this
  obtain ⟨h1, h2⟩ := dig_append.1 h
  have h3 := (dig_cons.1 h2).1
  have h4 := val_nonneg h1
  rw [val_append]
  simp only [val, List.length_append, List.length_cons, List.length_nil]
  have h5 := pow_pos10 i.length
  have h6 : (10 : Int) ^ i.length * 1 ≤ 10 ^ i.length * (d + 10 * 0) := Int.mul_le_mul_of_nonneg_left (by omega) (by omega)
  simp only [Nat.zero_add, Nat.add_sub_cancel]
  omega

theorem trim_tail {d : Int} {l : List Int} (t : Trim (d :: l)) : Trim l := by
  intro hn
  have := t (by simp)
  rwa [List.getLast_cons hn] at this

theorem digs_unique : ∀ (a b : List Int), Dig a → Dig b → Trim a → Trim b → val a = val b → a = b
  | [], b, _, hb, _, tb, h => by
    by_cases hn : b = []
    · exact hn.symm
    · have := val_pos hb tb hn
      have h2 := pow_pos10 (b.length - 1)
      simp only [val] at h; omega
  | x :: a, [], ha, _, ta, _, h => by
    have := val_pos ha ta (by simp)
    have h2 := pow_pos10 ((x :: a).length - 1)
    simp only [val] at h this; omega
  | x :: a, y :: b, ha, hb, ta, tb, h => by
    obtain ⟨h1, h2⟩ := dig_cons.1 ha
    obtain ⟨h3, h4⟩ := dig_cons.1 hb
    simp only [val] at h
    have hxy : x = y := by omega
    have := digs_unique a b h2 h4 (trim_tail ta) (trim_tail tb) (by omega)
    rw [hxy, this]

def trimL : List Int → List Int
  | [] => []
  | d :: l => if trimL l = [] ∧ d = 0 then [] else d :: trimL l

theorem trimL_snoc : ∀ (l : List Int), trimL (l ++ [0]) = trimL l
  | [] => by simp [trimL]
  | d :: l => by simp only [List.cons_append, trimL, trimL_snoc l]

theorem val_trimL : ∀ (l : List Int), val (trimL l) = val l
  | [] => rfl
  | d :: l => by
    have ih := val_trimL l
    unfold trimL
    by_cases h : trimL l = [] ∧ d = 0
    · rw [if_pos h]; rw [h.1] at ih; simp only [val] at ih ⊢; omega
    · rw [if_neg h]; simp only [val]; omega

theorem dig_trimL : ∀ {l : List Int}, Dig l → Dig (trimL l)
  | [], h => h
  | d :: l, h => by
    obtain ⟨h1, h2⟩ := dig_cons.1 h
    unfold trimL
    by_cases hc : trimL l = [] ∧ d = 0
    · rw [if_pos hc]; exact dig_nil
    · rw [if_neg hc]; exact dig_cons.2 ⟨h1, dig_trimL h2⟩

theorem trim_trimL : ∀ (l : List Int), Trim (trimL l)
  | [] => by intro h; exact absurd rfl h
  | d :: l => by
    have ih := trim_trimL l
    unfold trimL
    by_cases hc : trimL l = [] ∧ d = 0
    · rw [if_pos hc]; intro h; exact absurd rfl h
    · rw [if_neg hc]
      intro h
      by_cases hn : trimL l = []
      · have hd : d ≠ 0 := fun e => hc ⟨hn, e⟩
        simp only [hn, List.getLast_singleton]; exact hd
      · rw [List.getLast_cons hn]; exact ih hn

theorem trimL_of_trim : ∀ {l : List Int}, Trim l → trimL l = l
  | [], _ => rfl
  | d :: l, t => by
    have ih := trimL_of_trim (trim_tail t)
    unfold trimL
    rw [ih]
    by_cases hn : l = []
    · subst hn
      have hd : d ≠ 0 := by have := t (by simp); simpa using this
      rw [if_neg (fun h => hd h.2)]
    · rw [if_neg (fun h => hn h.1)]

theorem trimL_len : ∀ (l : List Int), (trimL l).length ≤ l.length
  | [] => by simp [trimL]
  | d :: l => by
    have ih := trimL_len l
    unfold trimL
    by_cases hc : trimL l = [] ∧ d = 0
    · rw [if_pos hc]; simp
    · rw [if_neg hc]; simp only [List.length_cons]; omega

/-! ### The digits of a number -/
def dg (n : Nat) : List Int := if h : n = 0 then [] else ((n % 10 : Nat) : Int) :: dg (n / 10)
termination_by n
decreasing_by omega
theorem dg_zero : dg 0 = [] := by rw [dg]; simp
theorem dg_pos {n : Nat} (h : n ≠ 0) : dg n = ((n % 10 : Nat) : Int) :: dg (n / 10) := by rw [dg, dif_neg h]
theorem dg_nil {n : Nat} : dg n = [] ↔ n = 0 := by
  constructor
  · intro h
    apply Classical.byContradiction
    intro hn
    rw [dg_pos hn] at h
    cases h
  · rintro rfl; exact dg_zero
theorem val_dg (n : Nat) : val (dg n) = n := by
  induction n using Nat.strongRecOn with
  | ind n ih =>
    by_cases h : n = 0
    · subst h; rw [dg_zero]; rfl
    · rw [dg_pos h]
      simp only [val]
      rw [ih (n / 10) (by omega)]
      omega
theorem dig_dg (n : Nat) : Dig (dg n) := by
  induction n using Nat.strongRecOn with
  | ind n ih =>
    by_cases h : n = 0
    · subst h; rw [dg_zero]; exact dig_nil
    · rw [dg_pos h]
      exact dig_cons.2 ⟨by omega, ih (n / 10) (by omega)⟩
theorem trim_dg (n : Nat) : Trim (dg n) := by
  induction n using Nat.strongRecOn with
  | ind n ih =>
    by_cases h : n = 0
    · subst h; rw [dg_zero]; intro hn; exact absurd rfl hn
    · rw [dg_pos h]
      intro hn
      by_cases h2 : dg (n / 10) = []
      · have := dg_nil.1 h2
        simp only [h2, List.getLast_singleton]
        omega
      · rw [List.getLast_cons h2]; exact ih (n / 10) (by omega) h2
theorem dg_of {l : List Int} {n : Nat} (h : Dig l) (hv : val l = n) : trimL l = dg n :=
  digs_unique _ _ (dig_trimL h) (dig_dg n) (trim_trimL l) (trim_dg n) (by rw [val_trimL, hv, val_dg])
theorem dg_val {l : List Int} (h : Dig l) (t : Trim l) : dg (val l).toNat = l := by
  have := dg_of (n := (val l).toNat) h (by have := val_nonneg h; omega)
  rw [← this, trimL_of_trim t]
theorem trimL_dg (n : Nat) : trimL (dg n) = dg n := trimL_of_trim (trim_dg n)
theorem dg_len (n : Nat) : ∀ k : Nat, (dg n).length ≤ k ↔ n < 10 ^ k := by
  induction n using Nat.strongRecOn with
  | ind n ih =>
    intro k
    by_cases h : n = 0
    · subst h; rw [dg_zero]; simp [Nat.pow_pos]
    · rw [dg_pos h]
      cases k with
      | zero => simp; omega
      | succ k =>
        have := ih (n / 10) (by omega) k
        simp only [List.length_cons, Nat.add_le_add_iff_right, Nat.pow_succ]
        rw [this]
        omega
theorem val_set : ∀ (l : List Int) (j : Nat) (x : Int) (h : j < l.length), val (l.set j x) = val l + 10 ^ j * (x - l[j])
  | d :: l, 0, x, _ => by simp [val]; omega
  | d :: l, j + 1, x, h => by
    have ih := val_set l j x (by simpa using h)
    simp only [List.set_cons_succ, val, ih, List.getElem_cons_succ, Int.pow_succ]
    rw [Int.mul_comm (10 ^ j) 10, Int.mul_assoc]
    generalize (10 : Int) ^ j * (x - l[j]'(by simpa using h)) = z
    omega
theorem val_zeros : ∀ n : Nat, val (List.replicate n 0) = 0
  | 0 => rfl
  | n + 1 => by simp [List.replicate_succ, val, val_zeros n]
theorem val_take (l : List Int) (j : Nat) (h : j < l.length) : val (l.take (j + 1)) = val (l.take j) + 10 ^ j * l[j] := by
  rw [List.take_succ_eq_append_getElem h, val_append]
  simp [val, Nat.min_eq_left (Nat.le_of_lt h)]
theorem dig_set {l : List Int} (h : Dig l) (j : Nat) (x : Int) (hx : 0 ≤ x ∧ x ≤ 9) : Dig (l.set j x) := by
  intro d hd
  rcases List.mem_or_eq_of_mem_set hd with h2 | h2
  · exact h d h2
  · subst h2; exact hx
theorem dig_get {l : List Int} (h : Dig l) (j : Nat) (hj : j < l.length) : 0 ≤ l[j] ∧ l[j] ≤ 9 := h _ (List.getElem_mem hj)
theorem dig_zeros (n : Nat) : Dig (List.replicate n 0) := by
  intro d hd
  have := (List.mem_replicate.1 hd).2
  omega
theorem dig_take {l : List Int} (h : Dig l) (j : Nat) : Dig (l.take j) := fun d hd => h d (List.mem_of_mem_take hd)

theorem rd_last (l : List Int) (x : Int) : rd (l ++ [x]) (((l ++ [x]).length : Int) - 1) = x := by
  have h : (((l ++ [x]).length : Int) - 1) = (l.length : Int) := by simp
  rw [h, rd_at _ l.length (by simp)]; simp

theorem trimmed_from (n : Nat) : ∀ l : List Int, l.length = n → n ≤ 1000000 → Ev (fun k => impl_trimmed.l0 k l) (trimL l) := by
  induction n with
  | zero =>
    intro l hl _
    have : l = [] := List.length_eq_zero_iff.1 hl
    subst this
    refine ev_succ ?_
    simp only [impl_trimmed.l0]
    exact ev_neg (by simp) (ev_some rfl)
  | succ n ih =>
    intro l hl hn
    obtain ⟨i, x, rfl⟩ : ∃ i x, l = i ++ [x] := ⟨l.dropLast, l.getLast (by intro h; simp [h] at hl), (List.dropLast_concat_getLast _).symm⟩
    have hi : i.length = n := by simpa using hl
    have hw : wrap64 (((i ++ [x]).length : Int) - 1) = ((i ++ [x]).length : Int) - 1 := w64 (by omega) (by omega)
    refine ev_succ ?_
    simp only [impl_trimmed.l0]
    rw [hw, rd_last]
    refine ev_pos (by omega) (ev_pos (by omega) (ev_pos (by omega) ?_))
    by_cases hx : x = 0
    · refine ev_pos hx (ev_pos (by omega) ?_)
      have ht : (i ++ [x]).take (((i ++ [x]).length : Int) - 1).toNat = i := by
        have : (((i ++ [x]).length : Int) - 1).toNat = i.length := by simp
        rw [this]; simp
      rw [ht, hx, trimL_snoc]
      exact ih i hi (by omega)
    · refine ev_neg hx (ev_some ?_)
      rw [trimL_of_trim]
      intro _
      simpa using hx

theorem trimmed_ev (l : List Int) (h : l.length ≤ 1000000) : Ev (fun k => impl_trimmed.f k l) (trimL l) := trimmed_from l.length l rfl h

/-! ### Texts of integers -/
def isDig (c : Int) : Bool := decide (48 ≤ c ∧ c ≤ 57)
def negB (s : ByteArray) : Bool := decide (0 < s.size ∧ bt s 0 = 45)
def bodyB (s : ByteArray) : ByteArray := if negB s = true then s.extract 1 s.size else s
def allD (b : ByteArray) (n : Nat) : Bool := (List.range n).all fun j => isDig (bt b j)
/-- Is s an integer? -/
def intB (s : ByteArray) : Bool := decide (1 ≤ (bodyB s).size ∧ (bodyB s).size ≤ 40) && (allD (bodyB s) (bodyB s).size && !(decide (bt (bodyB s) 0 = 48) && (decide (1 < (bodyB s).size) || negB s)))
theorem allD_succ (b : ByteArray) (n : Nat) : allD b (n + 1) = (allD b n && isDig (bt b n)) := by simp [allD, List.range_succ]
theorem body_size (s : ByteArray) : (bodyB s).size ≤ s.size := by
  unfold bodyB; split
  · rw [ByteArray.size_extract]; omega
  · exact Nat.le_refl _
theorem get_bt (s : ByteArray) (i : Nat) (h : i < s.size) : bt s (i : Int) = (s[i].toNat : Int) := by simp [bt, h]
theorem first_one (s : ByteArray) (h : 0 < s.size) : (s.extract 0 1).toList = [s[0]] := by
  rw [ByteArray.toList_eq, ByteArray.data_extract, Array.toList_extract]
  have hl : 0 < s.data.toList.length := by rw [Array.length_toList]; exact h
  obtain ⟨x, l, e⟩ : ∃ x l, s.data.toList = x :: l := List.exists_cons_of_length_pos hl
  have hx : s[0] = x := by
    have : s[0] = s.data.toList[0] := rfl
    rw [this]
    simp [e]
  rw [hx, e]; rfl
theorem pre_neg (s : ByteArray) (h : 0 < s.size) : ((s.extract 0 1).toList == (⟨#[45]⟩ : ByteArray).toList) = negB s := by
  have e2 : (⟨#[45]⟩ : ByteArray).toList = [45] := by rw [ByteArray.toList_eq]
  rw [first_one s h, e2]
  have hb : bt s 0 = (s[0].toNat : Int) := get_bt s 0 h
  unfold negB
  rw [hb]
  by_cases hc : s[0] = 45
  · simp [hc, h]
  · have h2 : ¬ (s[0].toNat : Int) = 45 := by
      intro e
      exact hc (UInt8.toNat_inj.1 (by simpa using (by omega : s[0].toNat = 45)))
    have h3 : ([s[0]] == ([45] : List UInt8)) = false := by simp [hc]
    rw [h3, decide_eq_false (fun h => h2 h.2)]

/-- The digits of the places below n, the last one first. -/
def digL (b : ByteArray) (n : Nat) : List Int := (List.range n).reverse.map fun (j : Nat) => bt b (j : Int) - 48
theorem digL_succ (b : ByteArray) (n : Nat) : digL b (n + 1) = (bt b n - 48) :: digL b n := by simp [digL, List.range_succ]
theorem digL_length (b : ByteArray) (n : Nat) : (digL b n).length = n := by simp [digL]
/-- What parseNumber answers. -/
def parseR (s : ByteArray) : Bool × List Int × Bool := if intB s = true then (negB s, trimL (digL (bodyB s) (bodyB s).size), true) else (false, [], false)

theorem cut_prefix (s : ByteArray) (hs : s.size ≤ 1048576) : strings_CutPrefix.f s (⟨#[45]⟩ : ByteArray) = some (bodyB s, negB s) := by
  have e1 : (⟨#[45]⟩ : ByteArray).size = 1 := rfl
  unfold strings_CutPrefix.f stringslite_CutPrefix.f stringslite_HasPrefix.f
  rw [e1]
  by_cases h : 0 < s.size
  · rw [if_pos (by omega), if_pos (by omega), if_pos (by omega)]
    simp only [Option.bind_some]
    have : ((1 : Nat) : Int).toNat = 1 := rfl
    rw [this, pre_neg s h]
    by_cases hn : negB s = true
    · rw [if_pos hn, if_pos (by omega), if_pos (by omega)]
      simp only [Option.bind_some]
      rw [bodyB, if_pos hn, hn]
    · rw [if_neg hn]
      simp only [Option.bind_some]
      rw [bodyB, if_neg hn]
      rw [Bool.not_eq_true] at hn
      rw [hn]
  · rw [if_neg (by omega)]
    simp only [Option.bind_some]
    have hn : negB s = false := by unfold negB; simp; omega
    rw [if_neg (by simp)]
    simp only [Option.bind_some]
    rw [bodyB, hn]; simp

theorem parse_from (b : ByteArray) (neg : Bool) (hb : b.size ≤ 1000) (n : Nat) : ∀ (acc : List Int), n ≤ b.size → acc.length + n ≤ 1000 →
    Ev (fun k => impl_parseNumber.l0 k b ((n : Int) - 1) neg acc) (if allD b n = true then (neg, trimL (acc ++ digL b n), true) else (false, [], false)) := by
  induction n with
  | zero =>
    intro acc _ ha
    refine ev_succ ?_
    simp only [impl_parseNumber.l0]
    refine ev_neg (by omega) (Ev.bind (trimmed_ev acc (by omega)) (ev_some ?_))
    simp [allD, digL]
  | succ n ih =>
    intro acc hn ha
    have e : ((n + 1 : Nat) : Int) - 1 = (n : Int) := by omega
    rw [e, allD_succ, digL_succ]
    refine ev_succ ?_
    simp only [impl_parseNumber.l0]
    refine ev_pos (by omega) (ev_pos (by omega) (ev_pos (by omega) ?_))
    by_cases h1 : bt b n < 48
    · refine ev_pos h1 (ev_some ?_)
      have : isDig (bt b n) = false := by unfold isDig; simp; omega
      rw [this]; simp
    · refine ev_neg h1 ?_
      by_cases h2 : bt b n > 57
      · refine ev_pos h2 (ev_some ?_)
        have : isDig (bt b n) = false := by unfold isDig; simp; omega
        rw [this]; simp
      · refine ev_neg h2 (ev_pos (by omega) ?_)
        have : isDig (bt b n) = true := by unfold isDig; simp; omega
        have hw : wrap64 ((n : Int) - 1) = (n : Int) - 1 := w64 (by omega) (by omega)
        have hm : (bt b n - 48) % 256 = bt b n - 48 := Int.emod_eq_of_lt (by omega) (by omega)
        rw [this, hw, hm, Bool.and_true]
        refine ev_eq (ih (acc ++ [bt b n - 48]) (by omega) (by simp; omega)) ?_
        simp

theorem parse_no (b : ByteArray) (neg : Bool) : Ev (fun k => impl_parseNumber.j0 k b neg true) (false, [], false) := by
  refine ev_succ ?_
  simp only [impl_parseNumber.j0]
  exact ev_pos trivial (ev_some rfl)
theorem parse_yes (b : ByteArray) (neg : Bool) (hb : b.size ≤ 1000) : Ev (fun k => impl_parseNumber.j0 k b neg false) (if allD b b.size = true then (neg, trimL (digL b b.size), true) else (false, [], false)) := by
  refine ev_succ ?_
  simp only [impl_parseNumber.j0]
  have hw : wrap64 ((b.size : Int) - 1) = (b.size : Int) - 1 := w64 (by omega) (by omega)
  rw [hw]
  exact ev_neg (by simp) (parse_from b neg hb b.size [] (Nat.le_refl _) (by simp; omega))

theorem parse_ev (s : ByteArray) (hs : s.size ≤ 1048576) : Ev (fun k => impl_parseNumber.f k s) (parseR s) := by
  unfold impl_parseNumber.f
  refine ev_bind1 (cut_prefix s hs) ?_
  simp only []
  by_cases h1 : (bodyB s).size < 1
  · refine ev_pos (by omega) (ev_eq (parse_no _ _) ?_)
    have : intB s = false := by rw [intB, decide_eq_false (by omega)]; rfl
    rw [parseR, this]; rfl
  refine ev_neg (by omega) ?_
  by_cases h2 : (bodyB s).size > 40
  · refine ev_pos (by omega) (ev_eq (parse_no _ _) ?_)
    have : intB s = false := by rw [intB, decide_eq_false (by omega)]; rfl
    rw [parseR, this]; rfl
  refine ev_neg (by omega) (ev_pos (by omega) ?_)
  have hr : decide (1 ≤ (bodyB s).size ∧ (bodyB s).size ≤ 40) = true := decide_eq_true (by omega)
  have fin : ∀ z : Bool, (decide (bt (bodyB s) 0 = 48) && (decide (1 < (bodyB s).size) || negB s)) = z → Ev (fun k => impl_parseNumber.j0 k (bodyB s) (negB s) z) (parseR s) := by
    intro z hz
    cases z with
    | true =>
      have : intB s = false := by rw [intB, hz]; simp
      exact ev_eq (parse_no _ _) (by rw [parseR, this]; rfl)
    | false =>
      have : intB s = allD (bodyB s) (bodyB s).size := by rw [intB, hz, hr]; simp
      exact ev_eq (parse_yes _ _ (by omega)) (by rw [parseR, this])
  by_cases h3 : bt (bodyB s) 0 = 48
  · refine ev_pos h3 ?_
    by_cases h4 : ((bodyB s).size : Int) > 1
    · exact ev_pos h4 (fin true (by simp [h3]; omega))
    · refine ev_neg h4 (fin (negB s) ?_)
      have : ¬ 1 < (bodyB s).size := by omega
      simp [h3, this]
  · exact ev_neg h3 (fin false (by simp [h3]))

theorem valid_end (s b : ByteArray) (hb : b = bodyB s) : (spec_inRange.f (b.size : Int) 1 40).bind (fun t101 => (if t101 = true then (if 0 < (b.size : Int) then (if (bt b 0) = 48 then (some (s.toList == ([48] : List UInt8))) else (some true)) else (none)) else (some false))) =
    some (decide (1 ≤ b.size ∧ b.size ≤ 40) && !(decide (bt b 0 = 48) && (decide (1 < b.size) || negB s))) := by
  have hr : spec_inRange.f (b.size : Int) 1 40 = some (decide (1 ≤ b.size ∧ b.size ≤ 40)) := by
    unfold spec_inRange.f
    by_cases h : (b.size : Int) ≥ 1
    · have h' : 1 ≤ b.size := by omega
      rw [if_pos h]; congr 1; simp [h']; omega
    · rw [if_neg h, decide_eq_false (by omega)]
  rw [hr]
  simp only [Option.bind_some]
  by_cases h : 1 ≤ b.size ∧ b.size ≤ 40
  · rw [if_pos (decide_eq_true h), if_pos (by omega), decide_eq_true h]
    by_cases h0 : bt b 0 = 48
    · rw [if_pos h0]
      simp only [h0, decide_true, Bool.true_and]
      congr 1
      by_cases hn : negB s = true
      · rw [hn]
        simp only [Bool.or_true, Bool.not_true]
        have : 0 < s.size ∧ bt s 0 = 45 := by simpa [negB] using hn
        apply beq_eq_false_iff_ne.2
        intro e
        have hz : s.size = 1 := by rw [← toList_size, e]; rfl
        have hbz : b.size = 0 := by rw [hb, bodyB, if_pos hn, ByteArray.size_extract]; omega
        omega
      · have hbs : b = s := by rw [hb, bodyB, if_neg hn]
        rw [Bool.not_eq_true] at hn
        rw [hn, Bool.or_false]
        subst hbs
        by_cases h1 : 1 < b.size
        · rw [decide_eq_true h1]
          apply beq_eq_false_iff_ne.2
          intro e
          have : b.size = 1 := by rw [← toList_size, e]; rfl
          omega
        · rw [decide_eq_false h1]
          have hz : b.size = 1 := by omega
          have hg := get_bt b 0 (by omega)
          simp only [Bool.not_false, beq_iff_eq]
          have e1 := first_one b (by omega)
          have e2 : b.extract 0 1 = b := by
            have := ByteArray.extract_zero_size (b := b)
            rwa [hz] at this
          rw [e2] at e1
          rw [e1]
          have e3 : (b[0].toNat : Int) = 48 := by rw [← hg]; exact h0
          have : b[0] = 48 := UInt8.toNat_inj.1 (by simpa using (by omega : b[0].toNat = 48))
          rw [this]
    · rw [if_neg h0]; simp [h0]
  · rw [if_neg (by simpa using h), decide_eq_false h]; simp

theorem valid_int_from (s b : ByteArray) (hb : b = bodyB s) (hz : b.size ≤ 1048576) (d : Nat) : ∀ i : Nat, i + d = b.size →
    Ev (fun k => spec_validInt.l0 k s b (i : Int)) (((List.range' i d).all fun j => isDig (bt b (j : Int))) && (decide (1 ≤ b.size ∧ b.size ≤ 40) && !(decide (bt b 0 = 48) && (decide (1 < b.size) || negB s)))) := by
  induction d with
  | zero =>
    intro i hi
    refine ev_succ ?_
    simp only [spec_validInt.l0]
    refine ev_neg (by omega) (ev_some ?_)
    rw [valid_end s b hb]; simp
  | succ d ih =>
    intro i hi
    have hw : wrap64 ((i : Int) + 1) = ((i + 1 : Nat) : Int) := by rw [w64 (by omega) (by omega)]; omega
    refine ev_succ ?_
    simp only [spec_validInt.l0]
    rw [List.range'_succ, List.all_cons]
    refine ev_pos (by omega) (ev_pos (by omega) ?_)
    by_cases h1 : bt b i < 48
    · refine ev_pos h1 (ev_some ?_)
      have : isDig (bt b i) = false := by unfold isDig; simp; omega
      rw [this]; rfl
    · refine ev_neg h1 ?_
      by_cases h2 : bt b i > 57
      · refine ev_pos h2 (ev_some ?_)
        have : isDig (bt b i) = false := by unfold isDig; simp; omega
        rw [this]; rfl
      · refine ev_neg h2 ?_
        have : isDig (bt b i) = true := by unfold isDig; simp; omega
        rw [this, hw, Bool.true_and]
        exact ih (i + 1) (by omega)

theorem valid_int (s : ByteArray) (hs : s.size ≤ 1048576) : Ev (fun k => spec_validInt.f k s) (intB s) := by
  have hbz := body_size s
  have key : Ev (fun k => spec_validInt.l0 k s (bodyB s) 0) (intB s) := by
    have h := valid_int_from s (bodyB s) rfl (by omega) (bodyB s).size 0 (by omega)
    refine ev_eq h ?_
    rw [intB, allD, List.range_eq_range']
    cases (List.range' 0 (bodyB s).size).all fun j => isDig (bt (bodyB s) (j : Int)) <;> cases decide (1 ≤ (bodyB s).size ∧ (bodyB s).size ≤ 40) <;> simp
  unfold spec_validInt.f
  by_cases h : 0 < s.size
  · refine ev_pos (by omega) (ev_pos (by omega) (ev_succ ?_))
    simp only [spec_validInt.j0]
    by_cases hn : bt s 0 = 45
    · have e : negB s = true := by simp [negB, h, hn]
      have eb : s.extract 1 s.size = bodyB s := by rw [bodyB, if_pos e]
      refine ev_pos (by simp [hn]) (ev_pos (by omega) (ev_succ ?_))
      simp only [spec_validInt.j1]
      rw [eb]; exact key
    · have e : negB s = false := by simp [negB, hn]
      have eb : bodyB s = s := by rw [bodyB, e]; simp
      refine ev_neg (by simp [hn]) (ev_succ ?_)
      simp only [spec_validInt.j1]
      rw [eb] at key; exact key
  · have e : negB s = false := by unfold negB; simp; omega
    have eb : bodyB s = s := by rw [bodyB, e]; simp
    refine ev_neg (by omega) (ev_succ ?_)
    simp only [spec_validInt.j0]
    refine ev_neg (by simp) (ev_succ ?_)
    simp only [spec_validInt.j1]
    rw [eb] at key; exact key

/-! ### Trimmed, by the reference -/
theorem spec_trim_from (l : List Int) (hl : l.length ≤ 1000000) : ∀ n : Nat, n ≤ l.length → Ev (fun k => spec_trimmed.l0 k l (n : Int)) (trimL (l.take n)) := by
  intro n
  induction n with
  | zero =>
    intro _
    refine ev_succ ?_
    simp only [spec_trimmed.l0]
    exact ev_neg (by simp) (ev_pos (by simp) (ev_pos (by simp) (ev_some (by simp [trimL]))))
  | succ n ih =>
    intro hn
    have hlt : n < l.length := by omega
    have e : wrap64 (((n + 1 : Nat) : Int) - 1) = (n : Int) := by rw [w64 (by omega) (by omega)]; omega
    have htk : l.take (n + 1) = l.take n ++ [l[n]] := List.take_succ_eq_append_getElem hlt
    refine ev_succ ?_
    simp only [spec_trimmed.l0]
    rw [e, rd_at l n hlt, htk]
    refine ev_pos (by omega) (ev_pos (by omega) (ev_pos (by omega) ?_))
    by_cases h0 : l[n] = 0
    · refine ev_pos h0 ?_
      rw [h0, trimL_snoc]
      exact ih (by omega)
    · refine ev_neg h0 (ev_pos (by omega) (ev_pos (by omega) (ev_some (congrArg some ?_))))
      rw [Int.toNat_natCast, htk, trimL_of_trim]
      intro hne
      rw [List.getLast_concat]
      exact h0
theorem spec_trim_ev (l : List Int) (hl : l.length ≤ 1000000) : Ev (fun k => spec_trimmed.f k l) (trimL l) := by
  unfold spec_trimmed.f
  have := spec_trim_from l hl l.length (Nat.le_refl _)
  rwa [List.take_length] at this

/-! ### Products of digits -/
theorem val_cons (d : Int) (l : List Int) : val (d :: l) = d + 10 * val l := rfl
theorem val_drop (l : List Int) (j : Nat) (h : j < l.length) : val (l.drop j) = l[j] + 10 * val (l.drop (j + 1)) := by rw [List.drop_eq_getElem_cons h, val_cons]
theorem prod_lt {a b : List Int} (ha : Dig a) (hb : Dig b) : val a * val b < 10 ^ (a.length + b.length) := by
  have h1 := val_lt ha
  have h2 := val_lt hb
  have h3 := val_nonneg ha
  have h4 := pow_pos10 b.length
  have h5 : val a * val b ≤ val a * 10 ^ b.length := Int.mul_le_mul_of_nonneg_left (by omega) h3
  have h6 : val a * 10 ^ b.length < 10 ^ a.length * 10 ^ b.length := Int.mul_lt_mul_of_pos_right h1 h4
  rw [Int.pow_add]
  omega
theorem pow10_le {m n : Nat} (h : m ≤ n) : (10 : Int) ^ m ≤ 10 ^ n := by
  obtain ⟨d, rfl⟩ := Nat.le.dest h
  have h1 := pow_pos10 m
  have h2 := pow_pos10 d
  rw [Int.pow_add]
  have : (10 : Int) ^ m * 1 ≤ 10 ^ m * 10 ^ d := Int.mul_le_mul_of_nonneg_left (by omega) (by omega)
  omega
def BdM (m : Int) (l : List Int) : Prop := ∀ x ∈ l, 0 ≤ x ∧ x ≤ m
theorem bdM_get {m : Int} {l : List Int} (h : BdM m l) (j : Nat) (hj : j < l.length) : 0 ≤ l[j] ∧ l[j] ≤ m := h _ (List.getElem_mem hj)
theorem bdM_set {m m' : Int} {l : List Int} (h : BdM m l) (hm : m ≤ m') (j : Nat) (x : Int) (hx : 0 ≤ x ∧ x ≤ m') : BdM m' (l.set j x) := by
  intro y hy
  rcases List.mem_or_eq_of_mem_set hy with hy | rfl
  · have := h y hy; omega
  · exact hx
theorem mul_dig {x y : Int} (hx : 0 ≤ x ∧ x ≤ 9) (hy : 0 ≤ y ∧ y ≤ 9) : 0 ≤ x * y ∧ x * y ≤ 81 := by
  have h1 : x * y ≤ 9 * y := Int.mul_le_mul_of_nonneg_right hx.2 hy.1
  have h2 := Int.mul_nonneg hx.1 hy.1
  omega
section
variable (a b : List Int)
theorem spec_in (ha : Dig a) (hb : Dig b) (la : a.length ≤ 50) (lb : b.length ≤ 50) (R : List Int) (T : Int) (i : Nat) (hi : i < a.length) (M : Int)
    (K : ∀ out : List Int, out.length = a.length + b.length + 1 → BdM (81 * M) out → val out = T → Ev (fun k => spec_timesDigits.l0 k a b out ((i + 1 : Nat) : Int)) R) (e : Nat) :
    ∀ (j : Nat) (out : List Int) (t : Int), j + e = b.length → out.length = a.length + b.length + 1 → BdM (81 * t) out → 0 ≤ t → t + e ≤ M → M ≤ 10000 → val out + 10 ^ (i + j) * (a[i] * val (b.drop j)) = T → Ev (fun k => spec_timesDigits.l1 k a b out (i : Int) (j : Int)) R := by
  induction e with
  | zero =>
    intro j out t hj ho hB t0 ht hM hv
    refine ev_succ ?_
    simp only [spec_timesDigits.l1]
    rw [next_i i (by omega)]
    rw [List.drop_of_length_le (by omega)] at hv
    simp only [val, Int.mul_zero, Int.add_zero] at hv
    exact ev_neg (by omega) (K out ho (fun x hx => by have := hB x hx; omega) hv)
  | succ e ih =>
    intro j out t hj ho hB t0 ht hM hv
    have hlt : j < b.length := by omega
    have hp : i + j < out.length := by omega
    have d1 := dig_get ha i hi
    have d2 := dig_get hb j hlt
    have d3 := mul_dig d1 d2
    have d4 := bdM_get hB (i + j) hp
    have e1 : wrap64 ((i : Int) + (j : Int)) = ((i + j : Nat) : Int) := by rw [w64 (by omega) (by omega)]; omega
    refine ev_succ ?_
    simp only [spec_timesDigits.l1]
    rw [e1, rd_at a i hi, rd_at b j hlt, rd_at out (i + j) hp, next_i j (by omega), Int.toNat_natCast]
    clear e1
    rw [val_drop b j hlt] at hv
    generalize hq : a[i] * b[j] = q at d3
    rw [w64 (n := q) (by omega) (by omega), w64 (by omega) (by omega)]
    refine ev_pos (by omega) (ev_pos (by omega) (ev_pos (by omega) (ev_pos (by omega) (ev_pos (by omega) (ev_pos (by omega) ?_)))))
    refine ih (j + 1) _ (t + 1) (by omega) (by simpa using ho) (bdM_set hB (by omega) _ _ (by omega)) (by omega) (by omega) hM ?_
    rw [val_set out (i + j) _ hp, ← hv]
    have e2 : (10 : Int) ^ (i + (j + 1)) = 10 ^ (i + j) * 10 := by rw [← Nat.add_assoc, Int.pow_succ]
    rw [e2, Int.mul_add a[i], hq, show out[i + j] + q - out[i + j] = q by omega, Int.add_assoc, Int.mul_assoc, ← Int.mul_add]
    congr 2
    rw [Int.mul_left_comm]
theorem spec_rows (ha : Dig a) (hb : Dig b) (la : a.length ≤ 50) (lb : b.length ≤ 50) (R : List Int) (T : Int)
    (K : ∀ out : List Int, out.length = a.length + b.length + 1 → BdM 1000000 out → val out = T → Ev (fun k => spec_timesDigits.l2 k out 0 0) R) (d : Nat) :
    ∀ (i : Nat) (out : List Int) (t : Int), i + d = a.length → out.length = a.length + b.length + 1 → BdM (81 * t) out → 0 ≤ t → t + 50 * d ≤ 5000 → val out + 10 ^ i * (val (a.drop i) * val b) = T → Ev (fun k => spec_timesDigits.l0 k a b out (i : Int)) R := by
  induction d with
  | zero =>
    intro i out t hi ho hB t0 ht hv
    refine ev_succ ?_
    simp only [spec_timesDigits.l0]
    rw [List.drop_of_length_le (by omega)] at hv
    simp only [val, Int.zero_mul, Int.mul_zero, Int.add_zero] at hv
    exact ev_neg (by omega) (K out ho (fun x hx => by have := hB x hx; omega) hv)
  | succ d ih =>
    intro i out t hi ho hB t0 ht hv
    have hlt : i < a.length := by omega
    refine ev_succ ?_
    simp only [spec_timesDigits.l0]
    refine ev_pos (by omega) ?_
    refine spec_in a b ha hb la lb R (val out + 10 ^ i * (a[i] * val b)) i hlt (t + 50) (fun out' ho' hB' hv' => ih (i + 1) out' (t + 50) (by omega) ho' hB' (by omega) (by omega) ?_) b.length 0 out t (by omega) ho hB t0 (by omega) (by omega) (by rw [List.drop_zero, Nat.add_zero])
    rw [hv', ← hv, val_drop a i hlt, Int.pow_succ, Int.add_mul, Int.mul_add, Int.add_assoc, Int.mul_assoc, Int.mul_assoc]
theorem spec_carry (N : Nat) (hN : N ≤ 200) (T : Int) (hT : T < 10 ^ N) (d : Nat) : ∀ (p : Nat) (out : List Int) (c : Int), p + d = N → out.length = N → BdM 1000000 out → Dig (out.take p) → 0 ≤ c → c ≤ 1000000 → val out + 10 ^ p * c = T →
    Ev (fun k => spec_timesDigits.l2 k out c (p : Int)) (dg T.toNat) := by
  induction d with
  | zero =>
    intro p out c hp ho hB hD c0 c1 hv
    have hpn : p = N := by omega
    subst hpn
    rw [List.take_of_length_le (by omega)] at hD
    have h1 := val_nonneg hD
    have hc : c = 0 := by
      apply Classical.byContradiction
      intro hc
      have : (10 : Int) ^ p * 1 ≤ 10 ^ p * c := Int.mul_le_mul_of_nonneg_left (by omega) (by have := pow_pos10 p; omega)
      omega
    subst hc
    rw [Int.mul_zero, Int.add_zero] at hv
    refine ev_succ ?_
    simp only [spec_timesDigits.l2]
    refine ev_neg (by omega) (Ev.bind (spec_trim_ev out (by omega)) (ev_some (congrArg some ?_)))
    exact dg_of hD (by omega)
  | succ d ih =>
    intro p out c hp ho hB hD c0 c1 hv
    have hlt : p < out.length := by omega
    have hb := bdM_get hB p hlt
    have e1 : wrap64 (out[p] + c) = out[p] + c := w64 (by omega) (by omega)
    have e2 : Int.tmod (out[p] + c) 10 = (out[p] + c) % 10 := Int.tmod_eq_emod_of_nonneg (by omega)
    have e3 : Int.tdiv (out[p] + c) 10 = (out[p] + c) / 10 := Int.tdiv_eq_ediv_of_nonneg (by omega)
    refine ev_succ ?_
    simp only [spec_timesDigits.l2]
    rw [rd_at out p hlt, e1, e2, e3, w64 (by omega) (by omega), next_i p (by omega), Int.toNat_natCast]
    refine ev_pos (by omega) (ev_pos (by omega) (ih (p + 1) _ _ (by omega) (by simpa using ho) (bdM_set hB (Int.le_refl _) p _ (by omega)) ?_ (by omega) (by omega) ?_))
    · rw [List.take_succ_eq_append_getElem (by simpa using hlt), List.take_set_of_le (Nat.le_refl p)]
      refine dig_append.2 ⟨hD, ?_⟩
      intro x hx
      rw [List.mem_singleton.1 hx, List.getElem_set_self]
      omega
    · rw [val_set out p _ hlt, ← hv, Int.pow_succ, Int.add_assoc, Int.mul_assoc, ← Int.mul_add]
      congr 2
      omega
theorem spec_times_ev (ha : Dig a) (hb : Dig b) (la : a.length ≤ 50) (lb : b.length ≤ 50) : Ev (fun k => spec_timesDigits.f k a b) (dg (val a * val b).toNat) := by
  have e1 : wrap64 ((a.length : Int) + (b.length : Int)) = ((a.length + b.length : Nat) : Int) := by rw [w64 (by omega) (by omega)]; omega
  have e2 : wrap64 (((a.length + b.length : Nat) : Int) + 1) = ((a.length + b.length + 1 : Nat) : Int) := by rw [w64 (by omega) (by omega)]; omega
  have hT : val a * val b < 10 ^ (a.length + b.length + 1) := by
    have h1 := prod_lt ha hb
    have h2 := pow10_le (show a.length + b.length ≤ a.length + b.length + 1 by omega)
    omega
  unfold spec_timesDigits.f
  rw [e1, e2, Int.toNat_natCast]
  refine ev_pos (by omega) (ev_pos (by omega) ?_)
  refine spec_rows a b ha hb la lb _ (val a * val b) (fun out ho hB hv => spec_carry (a.length + b.length + 1) (by omega) _ hT (a.length + b.length + 1) 0 out 0 (by omega) ho hB (by simp [Dig]) (by omega) (by omega) (by rw [hv, Int.mul_zero, Int.add_zero])) a.length 0 _ 0 (by omega) (by simp) ?_ (by omega) (by omega) ?_
  · intro x hx
    have := List.eq_of_mem_replicate hx
    omega
  · rw [val_zeros, List.drop_zero, Int.pow_zero, Int.one_mul, Int.zero_add]
theorem impl_in (ha : Dig a) (hb : Dig b) (la : a.length ≤ 50) (lb : b.length ≤ 50) (R : List Int) (T : Int) (i : Nat) (hi : i < a.length) (hT : T < 10 ^ (i + b.length + 1))
    (K : ∀ out : List Int, out.length = a.length + b.length + 1 → Dig out → val out = T → Ev (fun k => impl_magMul.l0 k b out a (a.length : Int) ((i + 1 : Nat) : Int)) R) (e : Nat) :
    ∀ (j : Nat) (out : List Int) (c : Int), j + e = b.length → out.length = a.length + b.length + 1 → Dig out → 0 ≤ c → c ≤ 9 → val out + 10 ^ (i + j) * (c + a[i] * val (b.drop j)) = T → Ev (fun k => impl_magMul.l1 k b out (i : Int) a[i] c (j : Int) a (a.length : Int) (i : Int)) R := by
  have stop : ∀ (j : Nat) (out : List Int), b.length ≤ j → j ≤ 100 → out.length = a.length + b.length + 1 → Dig out → val out = T → Ev (fun k => impl_magMul.l1 k b out (i : Int) a[i] 0 (j : Int) a (a.length : Int) (i : Int)) R := by
    intro j out hj h100 ho hD hv
    refine ev_succ ?_
    simp only [impl_magMul.l1]
    refine ev_neg (by omega) (ev_succ ?_)
    simp only [impl_magMul.j2]
    rw [next_i i (by omega)]
    exact ev_neg (by simp) (K out ho hD hv)
  induction e with
  | zero =>
    intro j out c hj ho hD c0 c1 hv
    have hjb : j = b.length := by omega
    subst hjb
    rw [List.drop_of_length_le (Nat.le_refl _)] at hv
    simp only [val, Int.mul_zero, Int.add_zero] at hv
    by_cases hc : c = 0
    · subst hc
      rw [Int.mul_zero, Int.add_zero] at hv
      exact stop _ out (Nat.le_refl _) (by omega) ho hD hv
    · have hp : i + b.length < out.length := by omega
      have d4 := dig_get hD (i + b.length) hp
      have e1 : wrap64 ((i : Int) + (b.length : Int)) = ((i + b.length : Nat) : Int) := by rw [w64 (by omega) (by omega)]; omega
      have hs : c + out[i + b.length] ≤ 9 := by
        apply Classical.byContradiction
        intro hs
        have hset : val (out.set (i + b.length) 0) = val out + 10 ^ (i + b.length) * (0 - out[i + b.length]) := val_set out _ _ hp
        have hnn := val_nonneg (dig_set hD (i + b.length) 0 (by omega))
        have h2 : (10 : Int) ^ (i + b.length) * 10 ≤ 10 ^ (i + b.length) * (c + out[i + b.length]) := Int.mul_le_mul_of_nonneg_left (by omega) (by have := pow_pos10 (i + b.length); omega)
        rw [Int.pow_succ] at hT
        rw [Int.mul_add] at h2
        rw [Int.zero_sub, Int.mul_neg] at hset
        omega
      have e2 : Int.tmod (c + out[i + b.length]) 10 = c + out[i + b.length] := by rw [Int.tmod_eq_emod_of_nonneg (by omega)]; omega
      have e3 : Int.tdiv (c + out[i + b.length]) 10 = 0 := by rw [Int.tdiv_eq_ediv_of_nonneg (by omega)]; omega
      refine ev_succ ?_
      simp only [impl_magMul.l1]
      refine ev_neg (by omega) (ev_succ ?_)
      simp only [impl_magMul.j2]
      rw [e1]
      clear e1
      rw [rd_at out _ hp, w64 (n := c + out[i + b.length]) (by omega) (by omega), e2, e3, w64 (n := 0) (by omega) (by omega), next_i b.length (by omega), Int.toNat_natCast]
      clear e2 e3
      refine ev_pos (by simp; omega) (ev_pos (by omega) (ev_pos (by omega) (ev_neg (by omega) ?_)))
      refine stop _ _ (by omega) (by omega) (by simpa using ho) (dig_set hD _ _ (by omega)) ?_
      rw [val_set out _ _ hp, ← hv, show c + out[i + b.length] - out[i + b.length] = c by omega]
  | succ e ih =>
    intro j out c hj ho hD c0 c1 hv
    have hlt : j < b.length := by omega
    have hp : i + j < out.length := by omega
    have d1 := dig_get ha i hi
    have d2 := dig_get hb j hlt
    have d3 := mul_dig d1 d2
    have d4 := dig_get hD (i + j) hp
    have e1 : wrap64 ((i : Int) + (j : Int)) = ((i + j : Nat) : Int) := by rw [w64 (by omega) (by omega)]; omega
    rw [val_drop b j hlt] at hv
    refine ev_succ ?_
    simp only [impl_magMul.l1]
    refine ev_pos (by omega) (ev_succ ?_)
    simp only [impl_magMul.j2]
    rw [e1, rd_at out _ hp, rd_at b j hlt, next_i j (by omega), Int.toNat_natCast]
    clear e1
    generalize hq : a[i] * b[j] = q at d3
    have e2 : wrap64 (wrap64 (c + out[i + j]) + wrap64 q) = c + out[i + j] + q := by rw [w64 (n := c + out[i + j]) (by omega) (by omega), w64 (n := q) (by omega) (by omega), w64 (by omega) (by omega)]
    have e3 : Int.tmod (c + out[i + j] + q) 10 = (c + out[i + j] + q) % 10 := Int.tmod_eq_emod_of_nonneg (by omega)
    have e4 : Int.tdiv (c + out[i + j] + q) 10 = (c + out[i + j] + q) / 10 := Int.tdiv_eq_ediv_of_nonneg (by omega)
    rw [e2]
    clear e2
    rw [e3, e4, w64 (n := (c + out[i + j] + q) / 10) (by omega) (by omega)]
    clear e3 e4
    refine ev_pos trivial (ev_pos (by omega) (ev_pos (by omega) (ev_pos (by omega) (ev_pos (by omega) ?_))))
    refine ih (j + 1) _ _ (by omega) (by simpa using ho) (dig_set hD _ _ (by omega)) (by omega) (by omega) ?_
    have e5 : (10 : Int) ^ (i + (j + 1)) = 10 ^ (i + j) * 10 := by rw [← Nat.add_assoc, Int.pow_succ]
    rw [val_set out _ _ hp, ← hv, e5, Int.add_assoc, Int.mul_assoc, ← Int.mul_add]
    congr 2
    rw [Int.mul_add a[i], hq, Int.mul_left_comm a[i]]
    omega
theorem impl_rows_ (ha : Dig a) (hb : Dig b) (la : a.length ≤ 50) (lb : b.length ≤ 50) (htr : ∀ l : List Int, l.length ≤ 1000000 → Ev (fun k => impl_trimmed.f k l) (trimL l)) (d : Nat) :
    ∀ (i : Nat) (out : List Int), i + d = a.length → out.length = a.length + b.length + 1 → Dig out → val out = val (a.take i) * val b → Ev (fun k => impl_magMul.l0 k b out a (a.length : Int) (i : Int)) (dg (val a * val b).toNat) := by
  induction d with
  | zero =>
    intro i out hi ho hD hv
    rw [List.take_of_length_le (by omega)] at hv
    have hn := val_nonneg hD
    refine ev_succ ?_
    simp only [impl_magMul.l0]
    refine ev_neg (by omega) (Ev.bind (htr out (by omega)) (ev_some (congrArg some ?_)))
    exact dg_of hD (by omega)
  | succ d ih =>
    intro i out hi ho hD hv
    have hlt : i < a.length := by omega
    have htk : val (a.take (i + 1)) * val b = val out + 10 ^ i * (a[i] * val b) := by rw [val_take a i hlt, Int.add_mul, hv, Int.mul_assoc]
    have hlen : (a.take (i + 1)).length = i + 1 := by simp; omega
    refine ev_succ ?_
    simp only [impl_magMul.l0]
    rw [rd_at a i hlt]
    refine ev_pos (by omega) (ev_pos (by omega) (ev_pos (by omega) ?_))
    refine impl_in a b ha hb la lb _ (val (a.take (i + 1)) * val b) i hlt ?_ (fun out' ho' hD' hv' => ih (i + 1) out' (by omega) ho' hD' hv') b.length 0 out 0 (by omega) ho hD (by omega) (by omega) ?_
    · have := prod_lt (dig_take ha (i + 1)) hb
      rw [hlen] at this
      rwa [show i + b.length + 1 = i + 1 + b.length by omega]
    · rw [htk, List.drop_zero, Nat.add_zero, Int.zero_add]
theorem impl_mul_ev (ha : Dig a) (hb : Dig b) (la : a.length ≤ 50) (lb : b.length ≤ 50) (htr : ∀ l : List Int, l.length ≤ 1000000 → Ev (fun k => impl_trimmed.f k l) (trimL l)) : Ev (fun k => impl_magMul.f k a b) (dg (val a * val b).toNat) := by
  have e1 : wrap64 ((a.length : Int) + (b.length : Int)) = ((a.length + b.length : Nat) : Int) := by rw [w64 (by omega) (by omega)]; omega
  have e2 : wrap64 (((a.length + b.length : Nat) : Int) + 1) = ((a.length + b.length + 1 : Nat) : Int) := by rw [w64 (by omega) (by omega)]; omega
  unfold impl_magMul.f
  rw [e1, e2, Int.toNat_natCast]
  refine ev_pos (by omega) (ev_pos (by omega) ?_)
  exact impl_rows_ a b ha hb la lb htr a.length 0 _ (by omega) (by simp) (dig_zeros _) (by rw [val_zeros, List.take_zero]; simp [val])
end

/-! ### Texts of numbers -/
theorem ba_extN {a b : ByteArray} (h : a.data.toList = b.data.toList) : a = b := by
  cases a; cases b
  simp only [Array.toList_inj] at h
  rw [h]
theorem bt_list {s : ByteArray} {L : List UInt8} (h : s.data.toList = L) (i : Nat) (hi : i < L.length) : bt s (i : Int) = ((L[i]).toNat : Int) := by
  subst h
  have hi' : i < s.size := by simpa using hi
  rw [get_bt s i hi']
  rfl
theorem size_list {s : ByteArray} {L : List UInt8} (h : s.data.toList = L) : s.size = L.length := by rw [← h]; simp
theorem dchr_nat {d : Int} (h : 0 ≤ d ∧ d ≤ 9) : ((dchr d).toNat : Int) = 48 + d := by
  unfold dchr
  simp
  omega
theorem numT_len (neg : Bool) (l : List Int) : (numT neg l).length = (if neg then 1 else 0) + l.length := by
  unfold numT
  cases neg <;> simp [Nat.add_comm]
theorem numT_get (neg : Bool) (l : List Int) (e t : Nat) (h : t + (e + 1) = l.length) : ∃ h' : (if neg then 1 else 0) + e < (numT neg l).length, (numT neg l)[(if neg then 1 else 0) + e] = dchr (l[t]'(by omega)) := by
  refine ⟨by rw [numT_len]; omega, ?_⟩
  have hr : (l.reverse.map dchr)[e]'(by simp; omega) = dchr (l[t]'(by omega)) := by
    rw [List.getElem_map, List.getElem_reverse]
    congr 2
    omega
  unfold numT
  rw [List.getElem_append_right (by cases neg <;> simp)]
  rw [← hr]
  congr 1
  cases neg <;> simp
theorem dig_from (s : ByteArray) (neg : Bool) (l : List Int) (h : s.data.toList = numT neg l) (hD : Dig l) (hl : l.length ≤ 100) (e : Nat) : ∀ t : Nat, t + e = l.length → Ev (fun k => spec_digitsOf.l0 k s neg (l.take t) ((((if neg then 1 else 0) + e : Nat) : Int) - 1)) (trimL l, neg) := by
  have hz := size_list h
  rw [numT_len] at hz
  induction e with
  | zero =>
    intro t ht
    rw [List.take_of_length_le (by omega)]
    refine ev_succ ?_
    simp only [spec_digitsOf.l0]
    cases neg with
    | true =>
      have hb : bt s 0 = 45 := by
        have := bt_list h 0 (by rw [numT_len]; simp; omega)
        simpa [numT] using this
      have e0 : ((((if true = true then 1 else 0) + 0 : Nat) : Int) - 1) = 0 := by simp
      rw [e0, hb]
      simp only [if_pos] at hz
      exact ev_pos (by omega) (ev_pos (by omega) (ev_pos (by omega) (ev_pos rfl (Ev.bind (spec_trim_ev l (by omega)) (ev_some rfl)))))
    | false =>
      exact ev_neg (by simp) (Ev.bind (spec_trim_ev l (by omega)) (ev_some rfl))
  | succ e ih =>
    intro t ht
    obtain ⟨h1, h2⟩ := numT_get neg l e t ht
    have hlt : t < l.length := by omega
    have hd := dig_get hD t hlt
    have hb : bt s (((if neg then 1 else 0) + e : Nat) : Int) = 48 + l[t] := by rw [bt_list h _ h1, h2, dchr_nat hd]
    have e0 : ((((if neg then 1 else 0) + (e + 1) : Nat) : Int) - 1) = (((if neg then 1 else 0) + e : Nat) : Int) := by omega
    have nx := ih (t + 1) (by omega)
    rw [List.take_succ_eq_append_getElem hlt] at nx
    rw [e0]
    generalize hg : (if neg then 1 else 0) + e = g at *
    have hng : (if neg = true then 1 else 0) ≤ 1 := by split <;> omega
    refine ev_succ ?_
    simp only [spec_digitsOf.l0]
    rw [hb, w64 (n := (g : Int) - 1) (by omega) (by omega), show (48 + l[t] - 48) % 256 = l[t] by omega]
    exact ev_pos (by omega) (ev_pos (by omega) (ev_pos (by omega) (ev_neg (by omega) (ev_pos (by rw [List.length_take]; omega) nx))))
theorem digitsOf_ev (s : ByteArray) (neg : Bool) (l : List Int) (h : s.data.toList = numT neg l) (hD : Dig l) (hl : l.length ≤ 100) : Ev (fun k => spec_digitsOf.f k s) (trimL l, neg) := by
  have hz := size_list h
  rw [numT_len] at hz
  have main : ∀ z : Bool, z = neg → Ev (fun k => spec_digitsOf.j0 k s z) (trimL l, neg) := by
    intro z hzn
    subst hzn
    have := dig_from s z l h hD hl l.length 0 (by omega)
    refine ev_succ ?_
    simp only [spec_digitsOf.j0]
    have hng : (if z = true then 1 else 0) ≤ 1 := by split <;> omega
    rw [w64 (by omega) (by omega), hz]
    exact this
  unfold spec_digitsOf.f
  by_cases h0 : (s.size : Int) > 0
  · refine ev_pos h0 (ev_pos (by omega) (main _ ?_))
    cases neg with
    | true =>
      have := bt_list h 0 (by rw [numT_len]; simp; omega)
      have hb : bt s 0 = 45 := by simpa [numT] using this
      rw [hb]; rfl
    | false =>
      have hll : l.length = s.size := by simpa using hz.symm
      obtain ⟨h1, h2⟩ := numT_get false l 0 (l.length - 1) (by omega)
      have hd := dig_get hD (l.length - 1) (by omega)
      have hb : bt s 0 = 48 + l[l.length - 1]'(by omega) := by
        have := bt_list h _ h1
        rw [h2, dchr_nat hd] at this
        simpa using this
      rw [hb]
      exact beq_eq_false_iff_ne.2 (by omega)
  · refine ev_neg h0 (main _ ?_)
    cases neg with
    | true => simp at hz; omega
    | false => rfl
theorem digL_dig (b : ByteArray) (n : Nat) (h : allD b n = true) : Dig (digL b n) := by
  intro d hd
  simp only [digL, List.mem_map, List.mem_reverse, List.mem_range] at hd
  obtain ⟨j, hj, rfl⟩ := hd
  rw [allD, List.all_eq_true] at h
  have := h j (List.mem_range.2 hj)
  simp only [isDig, decide_eq_true_eq] at this
  omega
theorem digL_text (b : ByteArray) (h : allD b b.size = true) : b.data.toList = (digL b b.size).reverse.map dchr := by
  refine List.ext_getElem (by simp [digL]) (fun i h1 h2 => ?_)
  have hi : i < b.size := by simpa using h1
  have hb := get_bt b i hi
  rw [allD, List.all_eq_true] at h
  have := h i (List.mem_range.2 hi)
  simp only [isDig, decide_eq_true_eq] at this
  have e : ((digL b b.size).reverse.map dchr)[i] = dchr (bt b (i : Int) - 48) := by simp [digL]
  rw [e]
  have h3 : b.data.toList[i] = b[i] := rfl
  rw [h3]
  apply UInt8.toNat_inj.1
  have := dchr_nat (d := bt b (i : Int) - 48) (by omega)
  omega
theorem valid_text (s : ByteArray) (h : intB s = true) : s.data.toList = numT (negB s) (digL (bodyB s) (bodyB s).size) ∧ Dig (digL (bodyB s) (bodyB s).size) ∧ (digL (bodyB s) (bodyB s).size).length ≤ 40 ∧ (negB s = true → trimL (digL (bodyB s) (bodyB s).size) ≠ []) := by
  rw [intB, Bool.and_eq_true, Bool.and_eq_true] at h
  obtain ⟨h1, h2, h3⟩ := h
  have h1 := of_decide_eq_true h1
  have hD := digL_dig _ _ h2
  refine ⟨?_, hD, by rw [digL_length]; exact h1.2, fun hn => ?_⟩
  · have ht := digL_text _ h2
    unfold numT
    rw [← ht]
    by_cases hn : negB s = true
    · have hn' : 0 < s.size ∧ bt s 0 = 45 := by simpa [negB] using hn
      have hb : bodyB s = s.extract 1 s.size := by rw [bodyB, if_pos hn]
      rw [hb, hn, ByteArray.data_extract, Array.toList_extract, List.extract_eq_take_drop]
      have hl : s.data.toList.length = s.size := by simp
      rw [List.take_of_length_le (by rw [List.length_drop]; omega)]
      have hg := get_bt s 0 hn'.1
      have h0 : s[0]'hn'.1 = 45 := by
        apply UInt8.toNat_inj.1
        have : ((s[0]'hn'.1).toNat : Int) = 45 := by rw [← hg]; exact hn'.2
        simpa using (by omega : (s[0]'hn'.1).toNat = 45)
      have hd : s.data.toList.drop 0 = s[0]'hn'.1 :: s.data.toList.drop 1 := List.drop_eq_getElem_cons (by omega)
      rw [List.drop_zero, h0] at hd
      rw [hd]
      simp
    · have hb : bodyB s = s := by rw [bodyB, if_neg hn]
      rw [Bool.not_eq_true] at hn
      rw [hb, hn]
      simp
  · have h48 : ¬ bt (bodyB s) 0 = 48 := by
      intro e
      rw [e, hn] at h3
      simp at h3
    have hne : digL (bodyB s) (bodyB s).size ≠ [] := by
      intro e
      have := digL_length (bodyB s) (bodyB s).size
      rw [e] at this
      simp at this
      omega
    have htr : Trim (digL (bodyB s) (bodyB s).size) := by
      intro hh
      rw [List.getLast_eq_getElem]
      have e : (digL (bodyB s) (bodyB s).size)[(digL (bodyB s) (bodyB s).size).length - 1]'(by rw [digL_length]; omega) = bt (bodyB s) 0 - 48 := by
        simp [digL]
      rw [e]
      omega
    rw [trimL_of_trim htr]
    exact hne
def intT (neg : Bool) (l : List Int) : ByteArray := if l = [] then ⟨#[48]⟩ else ⟨(numT neg l).toArray⟩
theorem integer_from (d : List Int) (neg : Bool) (hD : Dig d) (hd : d.length ≤ 1000) (hne : d ≠ []) (e : Nat) : ∀ (i : Nat) (x : ByteArray), i + e = d.length → x.data.toList = (d.take i).reverse.map dchr → Ev (fun k => spec_integer.l0 k d neg x (i : Int)) (intT neg d) := by
  induction e with
  | zero =>
    intro i x hi hx
    rw [List.take_of_length_le (by omega)] at hx
    have hxs : x.size = d.length := by rw [size_list hx]; simp
    refine ev_succ ?_
    simp only [spec_integer.l0]
    refine ev_neg (by omega) ?_
    cases neg with
    | true =>
      refine ev_pos rfl (ev_pos (by omega) (ev_some (congrArg some (ba_extN ?_))))
      rw [ByteArray.data_append, Array.toList_append, hx, intT, if_neg hne]
      simp [numT]
    | false =>
      refine ev_neg (by simp) (ev_some (congrArg some (ba_extN ?_)))
      rw [hx, intT, if_neg hne]
      simp [numT]
  | succ e ih =>
    intro i x hi hx
    have hlt : i < d.length := by omega
    have hg := dig_get hD i hlt
    have hxs : x.size = i := by rw [size_list hx]; simp; omega
    refine ev_succ ?_
    simp only [spec_integer.l0]
    rw [rd_at d i hlt, next_i i (by omega), w64 (n := 48 + d[i]) (by omega) (by omega), show (48 + d[i]) % 256 = 48 + d[i] by omega]
    refine ev_pos (by omega) (ev_pos (by omega) (ev_bind1 rfl (ev_pos (by rw [strOfNums_size]; simp; omega) (ih (i + 1) _ (by omega) ?_))))
    rw [ByteArray.data_append, Array.toList_append, hx, List.take_succ_eq_append_getElem hlt]
    simp only [List.reverse_append, List.reverse_cons, List.reverse_nil, List.nil_append, List.map_append, List.map_cons, List.map_nil, List.singleton_append]
    rfl
theorem integer_ev (l : List Int) (neg : Bool) (hD : Dig l) (hl : l.length ≤ 1000) : Ev (fun k => spec_integer.f k l neg) (intT neg (trimL l)) := by
  have h1 := trimL_len l
  unfold spec_integer.f
  refine Ev.bind (spec_trim_ev l (by omega)) ?_
  by_cases h0 : trimL l = []
  · rw [h0]
    exact ev_pos (by simp) (ev_some (by simp [intT]))
  · refine ev_neg (by have := List.length_pos_iff.2 h0; omega) ?_
    exact integer_from (trimL l) neg (dig_trimL hD) (by omega) h0 (trimL l).length 0 _ (by omega) (by simp)
def fitT (neg : Bool) (l : List Int) : ByteArray × Bool := if l.length > 40 then (⟨#[]⟩, false) else (intT neg l, true)
theorem fitting_ev (l : List Int) (neg : Bool) (hD : Dig l) (ht : trimL l = l) (hl : l.length ≤ 1000) : Ev (fun k => spec_fitting.f k l neg) (fitT neg l) := by
  have E := spec_trim_ev l (by omega)
  have I := integer_ev l neg hD hl
  rw [ht] at E I
  unfold spec_fitting.f fitT
  refine Ev.bind E ?_
  by_cases h : l.length > 40
  · rw [if_pos h]
    exact ev_pos (by omega) (ev_some rfl)
  · rw [if_neg h]
    exact ev_neg (by omega) (Ev.bind I (ev_some rfl))
theorem text_some (l : List Int) (neg : Bool) (hD : Dig l) : impl_number_text.f neg l = some (fitT neg l) := by
  unfold impl_number_text.f fitT
  by_cases h : l.length > 40
  · rw [if_pos h, if_pos h]
  · rw [if_neg h, if_neg h]
    by_cases h0 : l.length = 0
    · have : l = [] := List.eq_nil_of_length_eq_zero h0
      rw [if_pos h0, this]
      simp [intT]
    · have hne : l ≠ [] := fun e => h0 (by rw [e]; rfl)
      have ha : (l.all fun d => decide (0 ≤ d ∧ d ≤ 9)) = true := List.all_eq_true.2 (fun d hd => decide_eq_true (hD d hd))
      rw [if_neg h0, if_pos ha, intT, if_neg hne]
theorem tidy_ev (l : List Int) (neg : Bool) (ht : trimL l = l) (hl : l.length ≤ 1000) : Ev (fun k => impl_number_tidy.f k neg l) (if l = [] then false else neg, l) := by
  have E := trimmed_ev l (by omega)
  rw [ht] at E
  unfold impl_number_tidy.f
  refine Ev.bind E ?_
  by_cases h : l = []
  · exact ev_pos (by rw [h]; rfl) (ev_some (by rw [if_pos h]))
  · exact ev_neg (by have := List.length_pos_iff.2 h; omega) (ev_some (by rw [if_neg h]))
theorem fitT_nil (p q : Bool) : fitT p [] = fitT q [] := by simp [fitT, intT]
theorem fitT_tidy (neg : Bool) (l : List Int) : fitT (if l = [] then false else neg) l = fitT neg l := by
  by_cases h : l = []
  · rw [h]; exact fitT_nil _ _
  · rw [if_neg h]
/-- How long a product is. -/
theorem prod_len {a b : List Int} (ha : Dig a) (hb : Dig b) (la : a.length ≤ 50) (lb : b.length ≤ 50) : (dg (val a * val b).toNat).length ≤ 100 := by
  rw [dg_len]
  have h1 := prod_lt ha hb
  have h2 := pow10_le (show a.length + b.length ≤ 100 by omega)
  have h3 := Int.mul_nonneg (val_nonneg ha) (val_nonneg hb)
  have : ((val a * val b).toNat : Int) < ((10 ^ 100 : Nat) : Int) := by
    rw [Int.toNat_of_nonneg h3, Int.natCast_pow]
    exact Int.lt_of_lt_of_le h1 h2
  exact Int.ofNat_lt.1 this
theorem mulInts_ev (s t : ByteArray) (p q : Bool) (a b : List Int) (hs : s.data.toList = numT p a) (ht : t.data.toList = numT q b) (ha : Dig a) (hb : Dig b) (la : a.length ≤ 50) (lb : b.length ≤ 50) :
    Ev (fun k => spec_mulInts.f k s t) (fitT (p != q) (dg (val a * val b).toNat)) := by
  have hta := trimL_len a
  have htb := trimL_len b
  have T := spec_times_ev (trimL a) (trimL b) (dig_trimL ha) (dig_trimL hb) (by omega) (by omega)
  rw [val_trimL, val_trimL] at T
  have hpl := prod_len ha hb la lb
  unfold spec_mulInts.f
  refine Ev.bind (digitsOf_ev s p a hs ha (by omega)) (Ev.bind (digitsOf_ev t q b ht hb (by omega)) (Ev.bind T (Ev.bind (fitting_ev _ _ (dig_dg _) (trimL_dg _) (by omega)) (ev_some rfl))))
theorem times_ev (p q : Bool) (a b : List Int) (ha : Dig a) (hb : Dig b) (la : a.length ≤ 50) (lb : b.length ≤ 50) :
    Ev (fun k => impl_number_times.f k p a q b) (if dg (val a * val b).toNat = [] then false else (p != q), dg (val a * val b).toNat) := by
  have hpl := prod_len ha hb la lb
  unfold impl_number_times.f
  exact Ev.bind (impl_mul_ev a b ha hb la lb trimmed_ev) (Ev.bind (tidy_ev _ _ (trimL_dg _) (by omega)) (ev_some rfl))

/-! ### Integers, their texts and pairs -/
def IsTx (s : ByteArray) (z : Int) : Prop := ∃ l, s.data.toList = numT (decide (z < 0)) l ∧ Dig l ∧ l.length ≤ 50 ∧ trimL l = dg z.natAbs
def txI (z : Int) : ByteArray := intT (decide (z < 0)) (dg z.natAbs)
def Big (n : Nat) : Prop := 10 ^ 40 ≤ n
def fitI (z : Int) : ByteArray × Bool := fitT (decide (z < 0)) (dg z.natAbs)
theorem big_len (n : Nat) : (dg n).length > 40 ↔ Big n := by
  have := dg_len n 40
  unfold Big
  omega
theorem fitI_big {z : Int} (h : Big z.natAbs) : fitI z = (⟨#[]⟩, false) := by
  unfold fitI fitT
  rw [if_pos ((big_len _).2 h)]
theorem fitI_ok {z : Int} (h : ¬ Big z.natAbs) : fitI z = (txI z, true) := by
  unfold fitI fitT
  rw [if_neg (fun h' => h ((big_len _).1 h'))]
  rfl
theorem isTx_txI (z : Int) (h : ¬ Big z.natAbs) : IsTx (txI z) z := by
  have hl : (dg z.natAbs).length ≤ 40 := by
    have := big_len z.natAbs
    apply Classical.byContradiction
    intro hc
    exact h (this.1 (by omega))
  by_cases h0 : dg z.natAbs = []
  · have hz := dg_nil.1 h0
    have hz' : z = 0 := by omega
    subst hz'
    refine ⟨[0], by simp [txI, intT, numT, dchr, dg_zero], ?_, by simp, ?_⟩
    · intro d hd
      rw [List.mem_singleton.1 hd]
      omega
    · rw [h0]; simp [trimL]
  · refine ⟨dg z.natAbs, by simp [txI, intT, h0], dig_dg _, by omega, trimL_dg _⟩
theorem val_tx {l : List Int} {n : Nat} (h : trimL l = dg n) : val l = n := by rw [← val_trimL, h, val_dg]
theorem neg_mul {a b : Int} : (decide (a * b < 0)) = if (a * b).natAbs = 0 then false else (decide (a < 0) != decide (b < 0)) := by
  by_cases h : (a * b).natAbs = 0
  · rw [if_pos h]
    exact decide_eq_false (by omega)
  · rw [if_neg h]
    have hne : a * b ≠ 0 := by omega
    have ha : a ≠ 0 := fun e => hne (by rw [e, Int.zero_mul])
    have hb : b ≠ 0 := fun e => hne (by rw [e, Int.mul_zero])
    rcases Int.lt_or_gt_of_ne ha with ha' | ha' <;> rcases Int.lt_or_gt_of_ne hb with hb' | hb'
    · have := Int.mul_pos_of_neg_of_neg ha' hb'
      rw [decide_eq_true ha', decide_eq_true hb', decide_eq_false (by omega)]; rfl
    · have := Int.mul_neg_of_neg_of_pos ha' hb'
      rw [decide_eq_true ha', decide_eq_false (by omega : ¬ b < 0), decide_eq_true this]; rfl
    · have := Int.mul_neg_of_pos_of_neg ha' hb'
      rw [decide_eq_false (by omega : ¬ a < 0), decide_eq_true hb', decide_eq_true this]; rfl
    · have := Int.mul_pos ha' hb'
      rw [decide_eq_false (by omega : ¬ a < 0), decide_eq_false (by omega : ¬ b < 0), decide_eq_false (by omega)]; rfl
theorem dg_if {α : Type} (n : Nat) (x y : α) : (if dg n = [] then x else y) = if n = 0 then x else y := by
  by_cases h : n = 0
  · rw [if_pos h, if_pos (dg_nil.2 h)]
  · rw [if_neg h, if_neg (fun e => h (dg_nil.1 e))]
theorem mulI_ev (s t : ByteArray) (a b : Int) (hs : IsTx s a) (ht : IsTx t b) : Ev (fun k => spec_mulInts.f k s t) (fitI (a * b)) := by
  obtain ⟨la, a1, a2, a3, a4⟩ := hs
  obtain ⟨lb, b1, b2, b3, b4⟩ := ht
  refine ev_eq (mulInts_ev s t _ _ la lb a1 b1 a2 b2 a3 b3) ?_
  rw [val_tx a4, val_tx b4, ← Int.natCast_mul, Int.toNat_natCast, ← Int.natAbs_mul]
  unfold fitI
  rw [neg_mul, ← dg_if, fitT_tidy]
theorem timesI_ev (a b : Int) (ha : ¬ Big a.natAbs) (hb : ¬ Big b.natAbs) : Ev (fun k => impl_number_times.f k (decide (a < 0)) (dg a.natAbs) (decide (b < 0)) (dg b.natAbs)) (decide (a * b < 0), dg (a * b).natAbs) := by
  have la : (dg a.natAbs).length ≤ 40 := by
    apply Classical.byContradiction
    intro hc
    exact ha ((big_len _).1 (by omega))
  have lb : (dg b.natAbs).length ≤ 40 := by
    apply Classical.byContradiction
    intro hc
    exact hb ((big_len _).1 (by omega))
  refine ev_eq (times_ev _ _ _ _ (dig_dg _) (dig_dg _) (by omega) (by omega)) ?_
  rw [val_dg, val_dg, ← Int.natCast_mul, Int.toNat_natCast, ← Int.natAbs_mul, dg_if, neg_mul]
theorem pow_ge {a n : Nat} (ha : 1 ≤ a) {m : Nat} (h : m ≤ n) : a ^ m ≤ a ^ n := Nat.pow_le_pow_right ha h
theorem spec_pow (A0 : Int) : ∀ (n : Nat) (s o : ByteArray) (A O : Int), n ≤ 200 → IsTx s A → o = txI O → ¬ Big O.natAbs → (O = 0 → A = 0) → (A = 0 → n = 0 ∨ True) →
    Ev (fun k => spec_powInts.l0 k s (n : Int) o) (fitI (O * A ^ n)) := by
  intro n
  induction n using Nat.strongRecOn with
  | ind n ih =>
    intro s o A O hn hs ho hO hz _
    refine ev_succ ?_
    simp only [spec_powInts.l0]
    by_cases h0 : n = 0
    · subst h0
      refine ev_neg (by omega) (ev_some (congrArg some ?_))
      rw [Int.pow_zero, Int.mul_one, fitI_ok hO, ho]
    · have e1 : Int.tmod (n : Int) 2 = ((n % 2 : Nat) : Int) := by rw [Int.tmod_eq_emod_of_nonneg (by omega)]; omega
      have e2 : Int.tdiv (n : Int) 2 = ((n / 2 : Nat) : Int) := by rw [Int.tdiv_eq_ediv_of_nonneg (by omega)]; omega
      have e3 : wrap64 ((n / 2 : Nat) : Int) = ((n / 2 : Nat) : Int) := w64 (by omega) (by omega)
      -- the square step
      have J : ∀ (o' : ByteArray) (O' : Int), o' = txI O' → ¬ Big O'.natAbs → (O' = 0 → A = 0) → O' * (A * A) ^ (n / 2) = O * A ^ n → Ev (fun k => spec_powInts.j1 k s (n : Int) o') (fitI (O * A ^ n)) := by
        intro o' O' ho' hO' hz' hp
        refine ev_succ ?_
        simp only [spec_powInts.j1]
        rw [e2, e3]
        by_cases h2 : n / 2 = 0
        · refine ev_neg (by omega) ?_
          have := ih (n / 2) (by omega) s o' A O' (by omega) hs ho' hO' hz' (fun _ => .inr trivial)
          rw [h2, Int.pow_zero] at hp this
          rw [h2, ← hp]
          exact this
        · refine ev_pos (by omega) (Ev.bind (mulI_ev s s A A hs hs) ?_)
          by_cases hb : Big (A * A).natAbs
          · rw [fitI_big hb]
            have hA1 : 1 ≤ (A * A).natAbs := by
              have : 1 ≤ 10 ^ 40 := Nat.one_le_pow _ _ (by omega)
              unfold Big at hb
              omega
            have hO1 : 1 ≤ O'.natAbs := by
              apply Classical.byContradiction
              intro hc
              have : A = 0 := hz' (by omega)
              rw [this] at hA1
              simp at hA1
            have hbig : Big (O * A ^ n).natAbs := by
              rw [← hp, Int.natAbs_mul, Int.natAbs_pow]
              have h3 := pow_ge hA1 (show 1 ≤ n / 2 by omega)
              rw [Nat.pow_one] at h3
              have h4 : 1 * (A * A).natAbs ^ (n / 2) ≤ O'.natAbs * (A * A).natAbs ^ (n / 2) := Nat.mul_le_mul_right _ hO1
              unfold Big at hb ⊢
              omega
            rw [fitI_big hbig]
            exact ev_neg (by simp) (ev_some rfl)
          · rw [fitI_ok hb]
            refine ev_pos rfl ?_
            rw [← hp]
            refine ih (n / 2) (by omega) (txI (A * A)) o' (A * A) O' (by omega) (isTx_txI _ hb) ho' hO' (fun e => by rw [hz' e]; rfl) (fun _ => .inr trivial)
      have hpow : ∀ m : Nat, (A * A) ^ m = A ^ (2 * m) := by
        intro m
        induction m with
        | zero => simp
        | succ m ihm => rw [Int.pow_succ, ihm, show 2 * (m + 1) = 2 * m + 1 + 1 by omega, Int.pow_succ, Int.pow_succ, Int.mul_assoc]
      refine ev_pos (by omega) ?_
      rw [e1]
      by_cases h1 : n % 2 = 1
      · refine ev_pos (by omega) ?_
        have hx : IsTx o O := ho ▸ isTx_txI O hO
        refine Ev.bind (mulI_ev o s O A hx hs) ?_
        have hp : O * A * (A * A) ^ (n / 2) = O * A ^ n := by
          rw [hpow, Int.mul_assoc, Int.mul_comm A, ← Int.pow_succ, show (2 * (n / 2)).succ = n by omega]
        by_cases hb : Big (O * A).natAbs
        · rw [fitI_big hb]
          have hA1 : 1 ≤ A.natAbs := by
            have : 1 ≤ 10 ^ 40 := Nat.one_le_pow _ _ (by omega)
            apply Classical.byContradiction
            intro hc
            have hA0 : A = 0 := by omega
            rw [hA0] at hb
            unfold Big at hb
            simp at hb
          have hbig : Big (O * A ^ n).natAbs := by
            have h3 : 1 ≤ (A * A).natAbs ^ (n / 2) := Nat.one_le_pow _ _ (by rw [Int.natAbs_mul]; exact Nat.mul_le_mul hA1 hA1)
            rw [← hp, Int.natAbs_mul, Int.natAbs_pow]
            have h4 : (O * A).natAbs * 1 ≤ (O * A).natAbs * (A * A).natAbs ^ (n / 2) := Nat.mul_le_mul_left _ h3
            unfold Big at hb ⊢
            omega
          rw [fitI_big hbig]
          exact ev_neg (by simp) (ev_some rfl)
        · rw [fitI_ok hb]
          refine ev_pos rfl (J _ (O * A) rfl hb (fun e => ?_) hp)
          rcases Int.mul_eq_zero.1 e with e | e
          · exact hz e
          · exact e
      · refine ev_neg (by omega) (J o O ho hO hz ?_)
        rw [hpow, show 2 * (n / 2) = n by omega]
theorem impl_pow (A : Int) (hA : ¬ Big A.natAbs) (n : Nat) (hn : n ≤ 200) (d : Nat) : ∀ i : Nat, i + d = n → ¬ Big (A ^ i).natAbs →
    Ev (fun k => impl_IntPow.l0 k (n : Int) (i : Int) (decide (A < 0)) (dg A.natAbs) (decide (A ^ i < 0)) (dg (A ^ i).natAbs)) (fitI (A ^ n)) := by
  induction d with
  | zero =>
    intro i hi hb
    have e : i = n := by omega
    subst e
    refine ev_succ ?_
    simp only [impl_IntPow.l0]
    exact ev_neg (by omega) (ev_bind1 (text_some _ _ (dig_dg _)) (ev_some rfl))
  | succ d ih =>
    intro i hi hb
    refine ev_succ ?_
    simp only [impl_IntPow.l0]
    rw [next_i i (by omega)]
    refine ev_pos (by omega) (Ev.bind (timesI_ev (A ^ i) A hb hA) ?_)
    rw [show A ^ i * A = A ^ (i + 1) from (Int.pow_succ A i).symm]
    by_cases h : Big (A ^ (i + 1)).natAbs
    · have hA1 : 1 ≤ A.natAbs := by
        apply Classical.byContradiction
        intro hc
        have hA0 : A = 0 := by omega
        rw [hA0, Int.pow_succ, Int.mul_zero] at h
        unfold Big at h
        simp at h
      have hbig : Big (A ^ n).natAbs := by
        rw [Int.natAbs_pow] at h ⊢
        have := pow_ge hA1 (show i + 1 ≤ n by omega)
        unfold Big at h ⊢
        omega
      rw [fitI_big hbig]
      have := (big_len _).2 h
      exact ev_pos (by simp only []; omega) (ev_some rfl)
    · have := mt (big_len _).1 h
      exact ev_neg (by simp only []; omega) (ih (i + 1) (by omega) h)
theorem parse_int (s : ByteArray) (h : intB s = true) : ∃ z : Int, ¬ Big z.natAbs ∧ IsTx s z ∧ (negB s, trimL (digL (bodyB s) (bodyB s).size)) = (decide (z < 0), dg z.natAbs) := by
  obtain ⟨a1, a2, a3, a4⟩ := valid_text s h
  have hv := val_nonneg a2
  have e := dg_of (n := (val (digL (bodyB s) (bodyB s).size)).toNat) a2 (by omega)
  have hl := trimL_len (digL (bodyB s) (bodyB s).size)
  have nb : ¬ Big (val (digL (bodyB s) (bodyB s).size)).toNat := fun hb => by
    have := (big_len _).2 hb
    rw [← e] at this
    omega
  cases hn : negB s with
  | true =>
    have hne := a4 hn
    rw [e] at hne
    have h0 : (val (digL (bodyB s) (bodyB s).size)).toNat ≠ 0 := fun h0 => hne (dg_nil.2 h0)
    have hz : decide (-(val (digL (bodyB s) (bodyB s).size)) < 0) = true := decide_eq_true (by omega)
    have ha : (-(val (digL (bodyB s) (bodyB s).size))).natAbs = (val (digL (bodyB s) (bodyB s).size)).toNat := by omega
    refine ⟨-(val (digL (bodyB s) (bodyB s).size)), by rw [ha]; exact nb, ⟨_, by rw [hz, ← hn]; exact a1, a2, by omega, by rw [ha]; exact e⟩, by rw [hz, ha, e]⟩
  | false =>
    have hz : decide (val (digL (bodyB s) (bodyB s).size) < 0) = false := decide_eq_false (by omega)
    have ha : (val (digL (bodyB s) (bodyB s).size)).natAbs = (val (digL (bodyB s) (bodyB s).size)).toNat := by omega
    refine ⟨val (digL (bodyB s) (bodyB s).size), by rw [ha]; exact nb, ⟨_, by rw [hz, ← hn]; exact a1, a2, by omega, by rw [ha]; exact e⟩, by rw [hz, ha, e]⟩
theorem one_tx : (⟨#[49]⟩ : ByteArray) = txI 1 := by
  have h1 : dg 1 = [1] := by rw [dg_pos (by omega), dg_zero]; rfl
  have : txI 1 = intT false [1] := by
    unfold txI
    rw [show (1 : Int).natAbs = 1 from rfl, h1]
    rfl
  rw [this]
  rfl
theorem FnExactIntPow : laws_FnExactIntPow.Pure := by
  intro s n _ hw
  refine Ev.rounds ?_
  unfold laws_FnExactIntPow.f
  by_cases hs : (s.size : Int) > 1048576
  · exact ev_pos hs (ev_some rfl)
  refine ev_neg hs ?_
  have V1 := valid_int s (by omega)
  have P1 := parse_ev s (by omega)
  have hr : spec_inRange.f n 0 200 = some (decide (0 ≤ n ∧ n ≤ 200)) := by
    unfold spec_inRange.f
    by_cases h : n ≥ 0
    · have h' : 0 ≤ n := h
      rw [if_pos h]; congr 1; simp [h']
    · rw [if_neg h, decide_eq_false (by omega)]
  have noI : ∀ p l, Ev (fun k => impl_IntPow.j0 k n true p l) ((⟨#[]⟩ : ByteArray), false) := fun p l => by
    refine ev_succ ?_
    simp only [impl_IntPow.j0]
    exact ev_pos trivial (ev_some rfl)
  have key : ∃ r, Ev (fun k => spec_IntPow.f k s n) r ∧ Ev (fun k => impl_IntPow.f k s n) r := by
    unfold spec_IntPow.f impl_IntPow.f
    unfold parseR at P1
    cases h1 : intB s with
    | false =>
      rw [h1] at V1 P1
      exact ⟨(⟨#[]⟩, false), Ev.bind V1 (ev_neg (by simp) (ev_some rfl)), Ev.bind P1 (ev_neg (by simp) (noI _ _))⟩
    | true =>
      rw [h1] at V1 P1
      rw [if_pos rfl] at P1
      by_cases hn : 0 ≤ n ∧ n ≤ 200
      · obtain ⟨m, rfl⟩ := Int.eq_ofNat_of_zero_le hn.1
        obtain ⟨z, z1, z2, z3⟩ := parse_int s h1
        obtain ⟨z4, z5⟩ := Prod.mk.inj z3
        rw [z4, z5] at P1
        have hone : ¬ Big (1 : Int).natAbs := by
          unfold Big
          have : (10 : Nat) ^ 40 = 10 * 10 ^ 39 := by rw [← Nat.pow_succ']
          have h2 : 1 ≤ (10 : Nat) ^ 39 := Nat.one_le_pow _ _ (by omega)
          show ¬ 10 ^ 40 ≤ 1
          omega
        refine ⟨fitI (z ^ m), Ev.bind V1 (ev_pos rfl (ev_bind1 hr (ev_pos (decide_eq_true hn) (Ev.bind (a := fitI (z ^ m)) ?_ (ev_some rfl))))), Ev.bind P1 (ev_pos rfl (ev_neg (by omega) ?_))⟩
        · unfold spec_powInts.f
          have := spec_pow z m s _ z 1 (by omega) z2 one_tx hone (fun e => by omega) (fun _ => .inr trivial)
          rwa [Int.one_mul] at this
        · rw [decide_eq_false (by omega)]
          refine ev_succ ?_
          simp only [impl_IntPow.j0]
          refine ev_neg (by simp) ?_
          have := impl_pow z z1 m (by omega) m 0 (by omega) (by rw [Int.pow_zero]; exact hone)
          have h1' : dg (1 : Int).natAbs = [1] := by
            rw [show (1 : Int).natAbs = 1 from rfl, dg_pos (by omega), dg_zero]; rfl
          rw [Int.pow_zero, h1'] at this
          exact this
      · refine ⟨(⟨#[]⟩, false), Ev.bind V1 (ev_pos rfl (ev_bind1 hr (ev_neg (by simpa using hn) (ev_some rfl)))), Ev.bind P1 (ev_pos rfl ?_)⟩
        by_cases h0 : n < 0
        · exact ev_pos h0 (noI _ _)
        · refine ev_neg h0 ?_
          rw [decide_eq_true (by omega)]
          exact noI _ _
  obtain ⟨r, S, I⟩ := key
  exact Ev.bind S (Ev.bind I (ev_pos rfl (ev_neg (by simp) (ev_some rfl))))

end Go.Proofs.Ytkhkbbhkhpekcaa.Pure
