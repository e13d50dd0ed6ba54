/- FnExactIntCmp: the program compares integers as the reference does, for all texts of at most 2^20 bytes. -/
import Derived.Test.YtkhkbbhkhpekcaaXFnExactIntCmpx8
namespace Go.Proofs.Ytkhkbbhkhpekcaa.Pure
open Go.RowKit Go.Proofs.Ytkhkbbhkhpekcaa.XFnExactIntCmp Go.Proofs.YtkhkbbhkhpekcaaW.PrintWords Go.Proofs.YtkhkbbhkhpekcaaW.PrintLast Go.Proofs.YtkhkbbhkhpekcaaW.PrintMore
set_option linter.unusedVariables false
set_option linter.unusedSimpArgs false

/-! ### Rounds, and words of 64 bits -/
theorem ev_succ {α : Type} {g : Nat → Option α} {r : α} (h : Ev (fun k => g (k + 1)) r) : Ev g r := Ev.step (fun _ => rfl) h
theorem ev_some {α : Type} {o : Option α} {r : α} (h : o = some r) : Ev (fun _ => o) r := ⟨0, fun _ _ => h⟩
theorem ev_pos {α : Type} {c : Prop} [Decidable c] {A B : Nat → Option α} {r : α} (h : c) (k : Ev A r) : Ev (fun n => if c then A n else B n) r :=
  Ev.congr (fun _ => if_pos h) k
theorem ev_neg {α : Type} {c : Prop} [Decidable c] {A B : Nat → Option α} {r : α} (h : ¬ c) (k : Ev B r) : Ev (fun n => if c then A n else B n) r :=
  Ev.congr (fun _ => if_neg h) k
theorem ev_eq {α : Type} {g : Nat → Option α} {r s : α} (h : Ev g r) (e : r = s) : Ev g s := e ▸ h
theorem ev_bind1 {α β : Type} {o : Option α} {f : Nat → α → Option β} {a : α} {r : β} (h : o = some a) (k : Ev (fun n => f n a) r) : Ev (fun n => o.bind (f n)) r :=
  Ev.bind (ev_some h) k
theorem ev_det {α : Type} {g : Nat → Option α} {r s : α} (h : Ev g r) (k : Ev g s) : r = s := by
  obtain ⟨K, h⟩ := h
  obtain ⟨L, k⟩ := k
  have h1 := h (max K L) (by omega)
  have h2 := k (max K L) (by omega)
  rw [h1] at h2
  exact Option.some.inj h2
theorem w64 {n : Int} (h : -9223372036854775808 ≤ n) (h' : n ≤ 9223372036854775807) : wrap64 n = n := by unfold wrap64; omega
theorem byte_of {l : List Int} (h : ∀ x ∈ l, (Lit.int .u8 x).wf = true) (i : Int) : 0 ≤ rd l i ∧ rd l i ≤ 255 := by
  unfold rd
  by_cases hi : i.toNat < l.length
  · have hm : l.getD i.toNat 0 ∈ l := by
      rw [List.getD_eq_getElem?_getD, List.getElem?_eq_getElem hi]
      exact List.getElem_mem hi
    have := h _ hm
    have m0 : IntKind.u8.min = 0 := by decide
    have m1 : IntKind.u8.max = 255 := by decide
    simp only [Lit.wf, m0, m1, Bool.and_eq_true, decide_eq_true_eq] at this
    exact this
  · rw [List.getD_eq_getElem?_getD, List.getElem?_eq_none (by omega)]
    simp

/-! ### Reading a list -/
theorem rd_at (l : List Int) (i : Nat) (h : i < l.length) : rd l (i : Int) = l[i] := by
  unfold rd
  simp [List.getD_eq_getElem?_getD, h]
theorem next_i (i : Nat) (h : i ≤ 4611686018427387904) : wrap64 ((i : Int) + 1) = ((i + 1 : Nat) : Int) := by rw [w64 (by omega) (by omega)]; omega

theorem toList_size (s : ByteArray) : s.toList.length = s.size := by
  rw [ByteArray.toList_eq]; rfl
theorem bytes_ext {a b : ByteArray} (h : a.toList = b.toList) : a = b := by
  rw [ByteArray.toList_eq, ByteArray.toList_eq] at h
  cases a; cases b
  simp only [Array.toList_inj] at h
  rw [h]
theorem bt_append_left (a b : ByteArray) (i : Nat) (h : i < a.size) : bt (a ++ b) (i : Int) = bt a (i : Int) := by
  unfold bt
  rw [dif_pos (by rw [ByteArray.size_append]; simp; omega), dif_pos (by simpa using h)]
  simp only [Int.toNat_natCast]
  rw [ByteArray.getElem_append_left h]
theorem bt_append_right (a b : ByteArray) (i : Nat) (h : a.size ≤ i) (h' : i < a.size + b.size) : bt (a ++ b) (i : Int) = bt b ((i - a.size : Nat) : Int) := by
  unfold bt
  rw [dif_pos (by rw [ByteArray.size_append]; simpa using h'), dif_pos (by simp; omega)]
  simp only [Int.toNat_natCast]
  rw [ByteArray.getElem_append_right h]

/-! ### Digits, the least one first -/
def val : List Int → Int
  | [] => 0
  | d :: l => d + 10 * val l
def Dig (l : List Int) : Prop := ∀ d ∈ l, 0 ≤ d ∧ d ≤ 9
def Trim (l : List Int) : Prop := ∀ h : l ≠ [], l.getLast h ≠ 0

theorem val_append (a b : List Int) : val (a ++ b) = val a + 10 ^ a.length * val b := by
  induction a with
  | nil => simp [val]
  | cons d a ih =>
    simp only [List.cons_append, val, ih, List.length_cons]
    rw [Int.pow_succ]
    have : 10 * (10 ^ a.length * val b) = 10 ^ a.length * 10 * val b := by rw [Int.mul_comm (10 ^ a.length) 10, Int.mul_assoc]
    omega

theorem pow_pos10 (n : Nat) : 0 < (10 : Int) ^ n := Int.pow_pos (by omega)

theorem dig_cons {d : Int} {l : List Int} : Dig (d :: l) ↔ (0 ≤ d ∧ d ≤ 9) ∧ Dig l := by simp [Dig]
theorem dig_nil : Dig [] := by simp [Dig]
theorem dig_append {a b : List Int} : Dig (a ++ b) ↔ Dig a ∧ Dig b := by
  simp only [Dig, List.mem_append]
  exact ⟨fun h => ⟨fun d hd => h d (.inl hd), fun d hd => h d (.inr hd)⟩, fun h d hd => hd.elim (h.1 d) (h.2 d)⟩

theorem val_nonneg {l : List Int} (h : Dig l) : 0 ≤ val l := by
  induction l with
  | nil => simp [val]
  | cons d l ih =>
    obtain ⟨h1, h2⟩ := dig_cons.1 h
    have := ih h2
    simp only [val]; omega

theorem val_lt {l : List Int} (h : Dig l) : val l < 10 ^ l.length := by
  induction l with
  | nil => simp [val]
  | cons d l ih =>
    obtain ⟨h1, h2⟩ := dig_cons.1 h
    have := ih h2
    simp only [val, List.length_cons, Int.pow_succ]; omega

theorem val_pos {l : List Int} (h : Dig l) (t : Trim l) (hn : l ≠ []) : 10 ^ (l.length - 1) ≤ val l := by
  obtain ⟨i, d, rfl⟩ : ∃ i d, l = i ++ [d] := ⟨l.dropLast, l.getLast hn, (List.dropLast_concat_getLast hn).symm⟩
  have hd : d ≠ 0 := by have := t hn; simpa using this
  obtain ⟨h1, h2⟩ := dig_append.1 h
  have h3 := (dig_cons.1 h2).1
  have h4 := val_nonneg h1
  rw [val_append]
  simp only [val, List.length_append, List.length_cons, List.length_nil]
  have h5 := pow_pos10 i.length
  have h6 : (10 : Int) ^ i.length * 1 ≤ 10 ^ i.length * (d + 10 * 0) := Int.mul_le_mul_of_nonneg_left (by omega) (by omega)
  simp only [Nat.zero_add, Nat.add_sub_cancel]
  omega

theorem trim_tail {d : Int} {l : List Int} (t : Trim (d :: l)) : Trim l := by
  intro hn
  have := t (by simp)
  rwa [List.getLast_cons hn] at this

theorem digs_unique : ∀ (a b : List Int), Dig a → Dig b → Trim a → Trim b → val a = val b → a = b
  | [], b, _, hb, _, tb, h => by
    by_cases hn : b = []
    · exact hn.symm
    · have := val_pos hb tb hn
      have h2 := pow_pos10 (b.length - 1)
      simp only [val] at h; omega
  | x :: a, [], ha, _, ta, _, h => by
    have := val_pos ha ta (by simp)
    have h2 := pow_pos10 ((x :: a).length - 1)
    simp only [val] at h this; omega
  | x :: a, y :: b, ha, hb, ta, tb, h => by
    obtain ⟨h1, h2⟩ := dig_cons.1 ha
    obtain ⟨h3, h4⟩ := dig_cons.1 hb
    simp only [val] at h
    have hxy : x = y := by omega
    have := digs_unique a b h2 h4 (trim_tail ta) (trim_tail tb) (by omega)
    rw [hxy, this]

def trimL : List Int → List Int
  | [] => []
  | d :: l => if trimL l = [] ∧ d = 0 then [] else d :: trimL l

theorem trimL_snoc : ∀ (l : List Int), trimL (l ++ [0]) = trimL l
  | [] => by simp [trimL]
  | d :: l => by simp only [List.cons_append, trimL, trimL_snoc l]

theorem val_trimL : ∀ (l : List Int), val (trimL l) = val l
  | [] => rfl
  | d :: l => by
    have ih := val_trimL l
    unfold trimL
    by_cases h : trimL l = [] ∧ d = 0
    · rw [if_pos h]; rw [h.1] at ih; simp only [val] at ih ⊢; omega
    · rw [if_neg h]; simp only [val]; omega

theorem dig_trimL : ∀ {l : List Int}, Dig l → Dig (trimL l)
  | [], h => h
  | d :: l, h => by
    obtain ⟨h1, h2⟩ := dig_cons.1 h
    unfold trimL
    by_cases hc : trimL l = [] ∧ d = 0
    · rw [if_pos hc]; exact dig_nil
    · rw [if_neg hc]; exact dig_cons.2 ⟨h1, dig_trimL h2⟩

theorem trim_trimL : ∀ (l : List Int), Trim (trimL l)
  | [] => by intro h; exact absurd rfl h
  | d :: l => by
    have ih := trim_trimL l
    unfold trimL
    by_cases hc : trimL l = [] ∧ d = 0
    · rw [if_pos hc]; intro h; exact absurd rfl h
    · rw [if_neg hc]
      intro h
      by_cases hn : trimL l = []
      · have hd : d ≠ 0 := fun e => hc ⟨hn, e⟩
        simp only [hn, List.getLast_singleton]; exact hd
      · rw [List.getLast_cons hn]; exact ih hn

theorem trimL_of_trim : ∀ {l : List Int}, Trim l → trimL l = l
  | [], _ => rfl
  | d :: l, t => by
    have ih := trimL_of_trim (trim_tail t)
    unfold trimL
    rw [ih]
    by_cases hn : l = []
    · subst hn
      have hd : d ≠ 0 := by have := t (by simp); simpa using this
      rw [if_neg (fun h => hd h.2)]
    · rw [if_neg (fun h => hn h.1)]

theorem trimL_len : ∀ (l : List Int), (trimL l).length ≤ l.length
  | [] => by simp [trimL]
  | d :: l => by
    have ih := trimL_len l
    unfold trimL
    by_cases hc : trimL l = [] ∧ d = 0
    · rw [if_pos hc]; simp
    · rw [if_neg hc]; simp only [List.length_cons]; omega

/-! ### The digits of a number -/
def dg (n : Nat) : List Int := if h : n = 0 then [] else ((n % 10 : Nat) : Int) :: dg (n / 10)
termination_by n
decreasing_by omega
theorem dg_zero : dg 0 = [] := by rw [dg]; simp
theorem dg_pos {n : Nat} (h : n ≠ 0) : dg n = ((n % 10 : Nat) : Int) :: dg (n / 10) := by rw [dg, dif_neg h]
theorem dg_nil {n : Nat} : dg n = [] ↔ n = 0 := by
  constructor
  · intro h
    apply Classical.byContradiction
    intro hn
    rw [dg_pos hn] at h
    cases h
  · rintro rfl; exact dg_zero
theorem val_dg (n : Nat) : val (dg n) = n := by
  induction n using Nat.strongRecOn with
  | ind n ih =>
    by_cases h : n = 0
    · subst h; rw [dg_zero]; rfl
    · rw [dg_pos h]
      simp only [val]
      rw [ih (n / 10) (by omega)]
      omega
theorem dig_dg (n : Nat) : Dig (dg n) := by
  induction n using Nat.strongRecOn with
  | ind n ih =>
    by_cases h : n = 0
    · subst h; rw [dg_zero]; exact dig_nil
    · rw [dg_pos h]
      exact dig_cons.2 ⟨by omega, ih (n / 10) (by omega)⟩
theorem trim_dg (n : Nat) : Trim (dg n) := by
  induction n using Nat.strongRecOn with
  | ind n ih =>
    by_cases h : n = 0
    · subst h; rw [dg_zero]; intro hn; exact absurd rfl hn
    · rw [dg_pos h]
      intro hn
      by_cases h2 : dg (n / 10) = []
      · have := dg_nil.1 h2
        simp only [h2, List.getLast_singleton]
        omega
      · rw [List.getLast_cons h2]; exact ih (n / 10) (by omega) h2
theorem dg_of {l : List Int} {n : Nat} (h : Dig l) (hv : val l = n) : trimL l = dg n :=
  digs_unique _ _ (dig_trimL h) (dig_dg n) (trim_trimL l) (trim_dg n) (by rw [val_trimL, hv, val_dg])
theorem dg_val {l : List Int} (h : Dig l) (t : Trim l) : dg (val l).toNat = l := by
  have := dg_of (n := (val l).toNat) h (by have := val_nonneg h; omega)
  rw [← this, trimL_of_trim t]
theorem trimL_dg (n : Nat) : trimL (dg n) = dg n := trimL_of_trim (trim_dg n)
theorem dg_len (n : Nat) : ∀ k : Nat, (dg n).length ≤ k ↔ n < 10 ^ k := by
  induction n using Nat.strongRecOn with
  | ind n ih =>
    intro k
    by_cases h : n = 0
    · subst h; rw [dg_zero]; simp [Nat.pow_pos]
    · rw [dg_pos h]
      cases k with
      | zero => simp; omega
      | succ k =>
        have := ih (n / 10) (by omega) k
        simp only [List.length_cons, Nat.add_le_add_iff_right, Nat.pow_succ]
        rw [this]
        omega
theorem val_set : ∀ (l : List Int) (j : Nat) (x : Int) (h : j < l.length), val (l.set j x) = val l + 10 ^ j * (x - l[j])
  | d :: l, 0, x, _ => by simp [val]; omega
  | d :: l, j + 1, x, h => by
    have ih := val_set l j x (by simpa using h)
    simp only [List.set_cons_succ, val, ih, List.getElem_cons_succ, Int.pow_succ]
    rw [Int.mul_comm (10 ^ j) 10, Int.mul_assoc]
    generalize (10 : Int) ^ j * (x - l[j]'(by simpa using h)) = z
    omega
theorem val_zeros : ∀ n : Nat, val (List.replicate n 0) = 0
  | 0 => rfl
  | n + 1 => by simp [List.replicate_succ, val, val_zeros n]
theorem val_take (l : List Int) (j : Nat) (h : j < l.length) : val (l.take (j + 1)) = val (l.take j) + 10 ^ j * l[j] := by
  rw [List.take_succ_eq_append_getElem h, val_append]
  simp [val, Nat.min_eq_left (Nat.le_of_lt h)]
theorem dig_set {l : List Int} (h : Dig l) (j : Nat) (x : Int) (hx : 0 ≤ x ∧ x ≤ 9) : Dig (l.set j x) := by
  intro d hd
  rcases List.mem_or_eq_of_mem_set hd with h2 | h2
  · exact h d h2
  · subst h2; exact hx
theorem dig_get {l : List Int} (h : Dig l) (j : Nat) (hj : j < l.length) : 0 ≤ l[j] ∧ l[j] ≤ 9 := h _ (List.getElem_mem hj)
theorem dig_zeros (n : Nat) : Dig (List.replicate n 0) := by
  intro d hd
  have := (List.mem_replicate.1 hd).2
  omega
theorem dig_take {l : List Int} (h : Dig l) (j : Nat) : Dig (l.take j) := fun d hd => h d (List.mem_of_mem_take hd)

theorem rd_last (l : List Int) (x : Int) : rd (l ++ [x]) (((l ++ [x]).length : Int) - 1) = x := by
  have h : (((l ++ [x]).length : Int) - 1) = (l.length : Int) := by simp
  rw [h, rd_at _ l.length (by simp)]; simp

theorem trimmed_from (n : Nat) : ∀ l : List Int, l.length = n → n ≤ 1000000 → Ev (fun k => impl_trimmed.l0 k l) (trimL l) := by
  induction n with
  | zero =>
    intro l hl _
    have : l = [] := List.length_eq_zero_iff.1 hl
    subst this
    refine ev_succ ?_
    simp only [impl_trimmed.l0]
    exact ev_neg (by simp) (ev_some rfl)
  | succ n ih =>
    intro l hl hn
    obtain ⟨i, x, rfl⟩ : ∃ i x, l = i ++ [x] := ⟨l.dropLast, l.getLast (by intro h; simp [h] at hl), (List.dropLast_concat_getLast _).symm⟩
    have hi : i.length = n := by simpa using hl
    have hw : wrap64 (((i ++ [x]).length : Int) - 1) = ((i ++ [x]).length : Int) - 1 := w64 (by omega) (by omega)
    refine ev_succ ?_
    simp only [impl_trimmed.l0]
    rw [hw, rd_last]
    refine ev_pos (by omega) (ev_pos (by omega) (ev_pos (by omega) ?_))
    by_cases hx : x = 0
    · refine ev_pos hx (ev_pos (by omega) ?_)
      have ht : (i ++ [x]).take (((i ++ [x]).length : Int) - 1).toNat = i := by
        have : (((i ++ [x]).length : Int) - 1).toNat = i.length := by simp
        rw [this]; simp
      rw [ht, hx, trimL_snoc]
      exact ih i hi (by omega)
    · refine ev_neg hx (ev_some ?_)
      rw [trimL_of_trim]
      intro _
      simpa using hx

theorem trimmed_ev (l : List Int) (h : l.length ≤ 1000000) : Ev (fun k => impl_trimmed.f k l) (trimL l) := trimmed_from l.length l rfl h

/-! ### Texts of integers -/
def isDig (c : Int) : Bool := decide (48 ≤ c ∧ c ≤ 57)
def negB (s : ByteArray) : Bool := decide (0 < s.size ∧ bt s 0 = 45)
def bodyB (s : ByteArray) : ByteArray := if negB s = true then s.extract 1 s.size else s
def allD (b : ByteArray) (n : Nat) : Bool := (List.range n).all fun j => isDig (bt b j)
/-- Is s an integer? -/
def intB (s : ByteArray) : Bool := decide (1 ≤ (bodyB s).size ∧ (bodyB s).size ≤ 40) && (allD (bodyB s) (bodyB s).size && !(decide (bt (bodyB s) 0 = 48) && (decide (1 < (bodyB s).size) || negB s)))
theorem allD_succ (b : ByteArray) (n : Nat) : allD b (n + 1) = (allD b n && isDig (bt b n)) := by simp [allD, List.range_succ]
theorem body_size (s : ByteArray) : (bodyB s).size ≤ s.size := by
  unfold bodyB; split
  · rw [ByteArray.size_extract]; omega
  · exact Nat.le_refl _
theorem get_bt (s : ByteArray) (i : Nat) (h : i < s.size) : bt s (i : Int) = (s[i].toNat : Int) := by simp [bt, h]
theorem first_one (s : ByteArray) (h : 0 < s.size) : (s.extract 0 1).toList = [s[0]] := by
  rw [ByteArray.toList_eq, ByteArray.data_extract, Array.toList_extract]
  have hl : 0 < s.data.toList.length := by rw [Array.length_toList]; exact h
  obtain ⟨x, l, e⟩ : ∃ x l, s.data.toList = x :: l := List.exists_cons_of_length_pos hl
  have hx : s[0] = x := by
    have : s[0] = s.data.toList[0] := rfl
    rw [this]
    simp [e]
  rw [hx, e]; rfl
theorem pre_neg (s : ByteArray) (h : 0 < s.size) : ((s.extract 0 1).toList == (⟨#[45]⟩ : ByteArray).toList) = negB s := by
  have e2 : (⟨#[45]⟩ : ByteArray).toList = [45] := by rw [ByteArray.toList_eq]
  rw [first_one s h, e2]
  have hb : bt s 0 = (s[0].toNat : Int) := get_bt s 0 h
  unfold negB
  rw [hb]
  by_cases hc : s[0] = 45
  · simp [hc, h]
  · have h2 : ¬ (s[0].toNat : Int) = 45 := by
      intro e
      exact hc (UInt8.toNat_inj.1 (by simpa using (by omega : s[0].toNat = 45)))
    have h3 : ([s[0]] == ([45] : List UInt8)) = false := by simp [hc]
    rw [h3, decide_eq_false (fun h => h2 h.2)]

/-- The digits of the places below n, the last one first. -/
def digL (b : ByteArray) (n : Nat) : List Int := (List.range n).reverse.map fun (j : Nat) => bt b (j : Int) - 48
theorem digL_succ (b : ByteArray) (n : Nat) : digL b (n + 1) = (bt b n - 48) :: digL b n := by simp [digL, List.range_succ]
theorem digL_length (b : ByteArray) (n : Nat) : (digL b n).length = n := by simp [digL]
/-- What parseNumber answers. -/
def parseR (s : ByteArray) : Bool × List Int × Bool := if intB s = true then (negB s, trimL (digL (bodyB s) (bodyB s).size), true) else (false, [], false)

theorem cut_prefix (s : ByteArray) (hs : s.size ≤ 1048576) : strings_CutPrefix.f s (⟨#[45]⟩ : ByteArray) = some (bodyB s, negB s) := by
  have e1 : (⟨#[45]⟩ : ByteArray).size = 1 := rfl
  unfold strings_CutPrefix.f stringslite_CutPrefix.f stringslite_HasPrefix.f
  rw [e1]
  by_cases h : 0 < s.size
  · rw [if_pos (by omega), if_pos (by omega), if_pos (by omega)]
    simp only [Option.bind_some]
    have : ((1 : Nat) : Int).toNat = 1 := rfl
    rw [this, pre_neg s h]
    by_cases hn : negB s = true
    · rw [if_pos hn, if_pos (by omega), if_pos (by omega)]
      simp only [Option.bind_some]
      rw [bodyB, if_pos hn, hn]
    · rw [if_neg hn]
      simp only [Option.bind_some]
      rw [bodyB, if_neg hn]
      rw [Bool.not_eq_true] at hn
      rw [hn]
  · rw [if_neg (by omega)]
    simp only [Option.bind_some]
    have hn : negB s = false := by unfold negB; simp; omega
    rw [if_neg (by simp)]
    simp only [Option.bind_some]
    rw [bodyB, hn]; simp

theorem parse_from (b : ByteArray) (neg : Bool) (hb : b.size ≤ 1000) (n : Nat) : ∀ (acc : List Int), n ≤ b.size → acc.length + n ≤ 1000 →
    Ev (fun k => impl_parseNumber.l0 k b ((n : Int) - 1) neg acc) (if allD b n = true then (neg, trimL (acc ++ digL b n), true) else (false, [], false)) := by
  induction n with
  | zero =>
    intro acc _ ha
    refine ev_succ ?_
    simp only [impl_parseNumber.l0]
    refine ev_neg (by omega) (Ev.bind (trimmed_ev acc (by omega)) (ev_some ?_))
    simp [allD, digL]
  | succ n ih =>
    intro acc hn ha
    have e : ((n + 1 : Nat) : Int) - 1 = (n : Int) := by omega
    rw [e, allD_succ, digL_succ]
    refine ev_succ ?_
    simp only [impl_parseNumber.l0]
    refine ev_pos (by omega) (ev_pos (by omega) (ev_pos (by omega) ?_))
    by_cases h1 : bt b n < 48
    · refine ev_pos h1 (ev_some ?_)
      have : isDig (bt b n) = false := by unfold isDig; simp; omega
      rw [this]; simp
    · refine ev_neg h1 ?_
      by_cases h2 : bt b n > 57
      · refine ev_pos h2 (ev_some ?_)
        have : isDig (bt b n) = false := by unfold isDig; simp; omega
        rw [this]; simp
      · refine ev_neg h2 (ev_pos (by omega) ?_)
        have : isDig (bt b n) = true := by unfold isDig; simp; omega
        have hw : wrap64 ((n : Int) - 1) = (n : Int) - 1 := w64 (by omega) (by omega)
        have hm : (bt b n - 48) % 256 = bt b n - 48 := Int.emod_eq_of_lt (by omega) (by omega)
        rw [this, hw, hm, Bool.and_true]
        refine ev_eq (ih (acc ++ [bt b n - 48]) (by omega) (by simp; omega)) ?_
        simp

theorem parse_no (b : ByteArray) (neg : Bool) : Ev (fun k => impl_parseNumber.j0 k b neg true) (false, [], false) := by
  refine ev_succ ?_
  simp only [impl_parseNumber.j0]
  exact ev_pos trivial (ev_some rfl)
theorem parse_yes (b : ByteArray) (neg : Bool) (hb : b.size ≤ 1000) : Ev (fun k => impl_parseNumber.j0 k b neg false) (if allD b b.size = true then (neg, trimL (digL b b.size), true) else (false, [], false)) := by
  refine ev_succ ?_
  simp only [impl_parseNumber.j0]
  have hw : wrap64 ((b.size : Int) - 1) = (b.size : Int) - 1 := w64 (by omega) (by omega)
  rw [hw]
  exact ev_neg (by simp) (parse_from b neg hb b.size [] (Nat.le_refl _) (by simp; omega))

theorem parse_ev (s : ByteArray) (hs : s.size ≤ 1048576) : Ev (fun k => impl_parseNumber.f k s) (parseR s) := by
  unfold impl_parseNumber.f
  refine ev_bind1 (cut_prefix s hs) ?_
  simp only []
  by_cases h1 : (bodyB s).size < 1
  · refine ev_pos (by omega) (ev_eq (parse_no _ _) ?_)
    have : intB s = false := by rw [intB, decide_eq_false (by omega)]; rfl
    rw [parseR, this]; rfl
  refine ev_neg (by omega) ?_
  by_cases h2 : (bodyB s).size > 40
  · refine ev_pos (by omega) (ev_eq (parse_no _ _) ?_)
    have : intB s = false := by rw [intB, decide_eq_false (by omega)]; rfl
    rw [parseR, this]; rfl
  refine ev_neg (by omega) (ev_pos (by omega) ?_)
  have hr : decide (1 ≤ (bodyB s).size ∧ (bodyB s).size ≤ 40) = true := decide_eq_true (by omega)
  have fin : ∀ z : Bool, (decide (bt (bodyB s) 0 = 48) && (decide (1 < (bodyB s).size) || negB s)) = z → Ev (fun k => impl_parseNumber.j0 k (bodyB s) (negB s) z) (parseR s) := by
    intro z hz
    cases z with
    | true =>
      have : intB s = false := by rw [intB, hz]; simp
      exact ev_eq (parse_no _ _) (by rw [parseR, this]; rfl)
    | false =>
      have : intB s = allD (bodyB s) (bodyB s).size := by rw [intB, hz, hr]; simp
      exact ev_eq (parse_yes _ _ (by omega)) (by rw [parseR, this])
  by_cases h3 : bt (bodyB s) 0 = 48
  · refine ev_pos h3 ?_
    by_cases h4 : ((bodyB s).size : Int) > 1
    · exact ev_pos h4 (fin true (by simp [h3]; omega))
    · refine ev_neg h4 (fin (negB s) ?_)
      have : ¬ 1 < (bodyB s).size := by omega
      simp [h3, this]
  · exact ev_neg h3 (fin false (by simp [h3]))

theorem valid_end (s b : ByteArray) (hb : b = bodyB s) : (spec_inRange.f (b.size : Int) 1 40).bind (fun t101 => (if t101 = true then (if 0 < (b.size : Int) then (if (bt b 0) = 48 then (some (s.toList == ([48] : List UInt8))) else (some true)) else (none)) else (some false))) =
    some (decide (1 ≤ b.size ∧ b.size ≤ 40) && !(decide (bt b 0 = 48) && (decide (1 < b.size) || negB s))) := by
  have hr : spec_inRange.f (b.size : Int) 1 40 = some (decide (1 ≤ b.size ∧ b.size ≤ 40)) := by
    unfold spec_inRange.f
    by_cases h : (b.size : Int) ≥ 1
    · have h' : 1 ≤ b.size := by omega
      rw [if_pos h]; congr 1; simp [h']; omega
    · rw [if_neg h, decide_eq_false (by omega)]
  rw [hr]
  simp only [Option.bind_some]
  by_cases h : 1 ≤ b.size ∧ b.size ≤ 40
  · rw [if_pos (decide_eq_true h), if_pos (by omega), decide_eq_true h]
    by_cases h0 : bt b 0 = 48
    · rw [if_pos h0]
      simp only [h0, decide_true, Bool.true_and]
      congr 1
      by_cases hn : negB s = true
      · rw [hn]
        simp only [Bool.or_true, Bool.not_true]
        have : 0 < s.size ∧ bt s 0 = 45 := by simpa [negB] using hn
        apply beq_eq_false_iff_ne.2
        intro e
        have hz : s.size = 1 := by rw [← toList_size, e]; rfl
        have hbz : b.size = 0 := by rw [hb, bodyB, if_pos hn, ByteArray.size_extract]; omega
        omega
      · have hbs : b = s := by rw [hb, bodyB, if_neg hn]
        rw [Bool.not_eq_true] at hn
        rw [hn, Bool.or_false]
        subst hbs
        by_cases h1 : 1 < b.size
        · rw [decide_eq_true h1]
          apply beq_eq_false_iff_ne.2
          intro e
          have : b.size = 1 := by rw [← toList_size, e]; rfl
          omega
        · rw [decide_eq_false h1]
          have hz : b.size = 1 := by omega
          have hg := get_bt b 0 (by omega)
          simp only [Bool.not_false, beq_iff_eq]
          have e1 := first_one b (by omega)
          have e2 : b.extract 0 1 = b := by
            have := ByteArray.extract_zero_size (b := b)
            rwa [hz] at this
          rw [e2] at e1
          rw [e1]
          have e3 : (b[0].toNat : Int) = 48 := by rw [← hg]; exact h0
          have : b[0] = 48 := UInt8.toNat_inj.1 (by simpa using (by omega : b[0].toNat = 48))
          rw [this]
    · rw [if_neg h0]; simp [h0]
  · rw [if_neg (by simpa using h), decide_eq_false h]; simp

theorem valid_int_from (s b : ByteArray) (hb : b = bodyB s) (hz : b.size ≤ 1048576) (d : Nat) : ∀ i : Nat, i + d = b.size →
    Ev (fun k => spec_validInt.l0 k s b (i : Int)) (((List.range' i d).all fun j => isDig (bt b (j : Int))) && (decide (1 ≤ b.size ∧ b.size ≤ 40) && !(decide (bt b 0 = 48) && (decide (1 < b.size) || negB s)))) := by
  induction d with
  | zero =>
    intro i hi
    refine ev_succ ?_
    simp only [spec_validInt.l0]
    refine ev_neg (by omega) (ev_some ?_)
    rw [valid_end s b hb]; simp
  | succ d ih =>
    intro i hi
    have hw : wrap64 ((i : Int) + 1) = ((i + 1 : Nat) : Int) := by rw [w64 (by omega) (by omega)]; omega
    refine ev_succ ?_
    simp only [spec_validInt.l0]
    rw [List.range'_succ, List.all_cons]
    refine ev_pos (by omega) (ev_pos (by omega) ?_)
    by_cases h1 : bt b i < 48
    · refine ev_pos h1 (ev_some ?_)
      have : isDig (bt b i) = false := by unfold isDig; simp; omega
      rw [this]; rfl
    · refine ev_neg h1 ?_
      by_cases h2 : bt b i > 57
      · refine ev_pos h2 (ev_some ?_)
        have : isDig (bt b i) = false := by unfold isDig; simp; omega
        rw [this]; rfl
      · refine ev_neg h2 ?_
        have : isDig (bt b i) = true := by unfold isDig; simp; omega
        rw [this, hw, Bool.true_and]
        exact ih (i + 1) (by omega)

theorem valid_int (s : ByteArray) (hs : s.size ≤ 1048576) : Ev (fun k => spec_validInt.f k s) (intB s) := by
  have hbz := body_size s
  have key : Ev (fun k => spec_validInt.l0 k s (bodyB s) 0) (intB s) := by
    have h := valid_int_from s (bodyB s) rfl (by omega) (bodyB s).size 0 (by omega)
    refine ev_eq h ?_
    rw [intB, allD, List.range_eq_range']
    cases (List.range' 0 (bodyB s).size).all fun j => isDig (bt (bodyB s) (j : Int)) <;> cases decide (1 ≤ (bodyB s).size ∧ (bodyB s).size ≤ 40) <;> simp
  unfold spec_validInt.f
  by_cases h : 0 < s.size
  · refine ev_pos (by omega) (ev_pos (by omega) (ev_succ ?_))
    simp only [spec_validInt.j0]
    by_cases hn : bt s 0 = 45
    · have e : negB s = true := by simp [negB, h, hn]
      have eb : s.extract 1 s.size = bodyB s := by rw [bodyB, if_pos e]
      refine ev_pos (by simp [hn]) (ev_pos (by omega) (ev_succ ?_))
      simp only [spec_validInt.j1]
      rw [eb]; exact key
    · have e : negB s = false := by simp [negB, hn]
      have eb : bodyB s = s := by rw [bodyB, e]; simp
      refine ev_neg (by simp [hn]) (ev_succ ?_)
      simp only [spec_validInt.j1]
      rw [eb] at key; exact key
  · have e : negB s = false := by unfold negB; simp; omega
    have eb : bodyB s = s := by rw [bodyB, e]; simp
    refine ev_neg (by omega) (ev_succ ?_)
    simp only [spec_validInt.j0]
    refine ev_neg (by simp) (ev_succ ?_)
    simp only [spec_validInt.j1]
    rw [eb] at key; exact key

/-! ### Trimmed, by the reference -/
theorem spec_trim_from (l : List Int) (hl : l.length ≤ 1000000) : ∀ n : Nat, n ≤ l.length → Ev (fun k => spec_trimmed.l0 k l (n : Int)) (trimL (l.take n)) := by
  intro n
  induction n with
  | zero =>
    intro _
    refine ev_succ ?_
    simp only [spec_trimmed.l0]
    exact ev_neg (by simp) (ev_pos (by simp) (ev_pos (by simp) (ev_some (by simp [trimL]))))
  | succ n ih =>
    intro hn
    have hlt : n < l.length := by omega
    have e : wrap64 (((n + 1 : Nat) : Int) - 1) = (n : Int) := by rw [w64 (by omega) (by omega)]; omega
    have htk : l.take (n + 1) = l.take n ++ [l[n]] := List.take_succ_eq_append_getElem hlt
    refine ev_succ ?_
    simp only [spec_trimmed.l0]
    rw [e, rd_at l n hlt, htk]
    refine ev_pos (by omega) (ev_pos (by omega) (ev_pos (by omega) ?_))
    by_cases h0 : l[n] = 0
    · refine ev_pos h0 ?_
      rw [h0, trimL_snoc]
      exact ih (by omega)
    · refine ev_neg h0 (ev_pos (by omega) (ev_pos (by omega) (ev_some (congrArg some ?_))))
      rw [Int.toNat_natCast, htk, trimL_of_trim]
      intro hne
      rw [List.getLast_concat]
      exact h0
theorem spec_trim_ev (l : List Int) (hl : l.length ≤ 1000000) : Ev (fun k => spec_trimmed.f k l) (trimL l) := by
  unfold spec_trimmed.f
  have := spec_trim_from l hl l.length (Nat.le_refl _)
  rwa [List.take_length] at this

/-! ### Texts of numbers -/
def dchr (d : Int) : UInt8 := UInt8.ofNat (48 + d).toNat
def numT (neg : Bool) (l : List Int) : List UInt8 := (if neg then [45] else []) ++ l.reverse.map dchr
theorem ba_extN {a b : ByteArray} (h : a.data.toList = b.data.toList) : a = b := by
  cases a; cases b
  simp only [Array.toList_inj] at h
  rw [h]
theorem bt_list {s : ByteArray} {L : List UInt8} (h : s.data.toList = L) (i : Nat) (hi : i < L.length) : bt s (i : Int) = ((L[i]).toNat : Int) := by
  subst h
  have hi' : i < s.size := by simpa using hi
  rw [get_bt s i hi']
  rfl
theorem size_list {s : ByteArray} {L : List UInt8} (h : s.data.toList = L) : s.size = L.length := by rw [← h]; simp
theorem dchr_nat {d : Int} (h : 0 ≤ d ∧ d ≤ 9) : ((dchr d).toNat : Int) = 48 + d := by
  unfold dchr
  simp
  omega
theorem numT_len (neg : Bool) (l : List Int) : (numT neg l).length = (if neg then 1 else 0) + l.length := by
  unfold numT
  cases neg <;> simp [Nat.add_comm]
theorem numT_get (neg : Bool) (l : List Int) (e t : Nat) (h : t + (e + 1) = l.length) : ∃ h' : (if neg then 1 else 0) + e < (numT neg l).length, (numT neg l)[(if neg then 1 else 0) + e] = dchr (l[t]'(by omega)) := by
  refine ⟨by rw [numT_len]; omega, ?_⟩
  have hr : (l.reverse.map dchr)[e]'(by simp; omega) = dchr (l[t]'(by omega)) := by
    rw [List.getElem_map, List.getElem_reverse]
    congr 2
    omega
  unfold numT
  rw [List.getElem_append_right (by cases neg <;> simp)]
  rw [← hr]
  congr 1
  cases neg <;> simp
theorem dig_from (s : ByteArray) (neg : Bool) (l : List Int) (h : s.data.toList = numT neg l) (hD : Dig l) (hl : l.length ≤ 100) (e : Nat) : ∀ t : Nat, t + e = l.length → Ev (fun k => spec_digitsOf.l0 k s neg (l.take t) ((((if neg then 1 else 0) + e : Nat) : Int) - 1)) (trimL l, neg) := by
  have hz := size_list h
  rw [numT_len] at hz
  induction e with
  | zero =>
    intro t ht
    rw [List.take_of_length_le (by omega)]
    refine ev_succ ?_
    simp only [spec_digitsOf.l0]
    cases neg with
    | true =>
      have hb : bt s 0 = 45 := by
        have := bt_list h 0 (by rw [numT_len]; simp; omega)
        simpa [numT] using this
      have e0 : ((((if true = true then 1 else 0) + 0 : Nat) : Int) - 1) = 0 := by simp
      rw [e0, hb]
      simp only [if_pos] at hz
      exact ev_pos (by omega) (ev_pos (by omega) (ev_pos (by omega) (ev_pos rfl (Ev.bind (spec_trim_ev l (by omega)) (ev_some rfl)))))
    | false =>
      exact ev_neg (by simp) (Ev.bind (spec_trim_ev l (by omega)) (ev_some rfl))
  | succ e ih =>
    intro t ht
    obtain ⟨h1, h2⟩ := numT_get neg l e t ht
    have hlt : t < l.length := by omega
    have hd := dig_get hD t hlt
    have hb : bt s (((if neg then 1 else 0) + e : Nat) : Int) = 48 + l[t] := by rw [bt_list h _ h1, h2, dchr_nat hd]
    have e0 : ((((if neg then 1 else 0) + (e + 1) : Nat) : Int) - 1) = (((if neg then 1 else 0) + e : Nat) : Int) := by omega
    have nx := ih (t + 1) (by omega)
    rw [List.take_succ_eq_append_getElem hlt] at nx
    rw [e0]
    generalize hg : (if neg then 1 else 0) + e = g at *
    have hng : (if neg = true then 1 else 0) ≤ 1 := by split <;> omega
    refine ev_succ ?_
    simp only [spec_digitsOf.l0]
    rw [hb, w64 (n := (g : Int) - 1) (by omega) (by omega), show (48 + l[t] - 48) % 256 = l[t] by omega]
    exact ev_pos (by omega) (ev_pos (by omega) (ev_pos (by omega) (ev_neg (by omega) (ev_pos (by rw [List.length_take]; omega) nx))))
theorem digitsOf_ev (s : ByteArray) (neg : Bool) (l : List Int) (h : s.data.toList = numT neg l) (hD : Dig l) (hl : l.length ≤ 100) : Ev (fun k => spec_digitsOf.f k s) (trimL l, neg) := by
  have hz := size_list h
  rw [numT_len] at hz
  have main : ∀ z : Bool, z = neg → Ev (fun k => spec_digitsOf.j0 k s z) (trimL l, neg) := by
    intro z hzn
    subst hzn
    have := dig_from s z l h hD hl l.length 0 (by omega)
    refine ev_succ ?_
    simp only [spec_digitsOf.j0]
    have hng : (if z = true then 1 else 0) ≤ 1 := by split <;> omega
    rw [w64 (by omega) (by omega), hz]
    exact this
  unfold spec_digitsOf.f
  by_cases h0 : (s.size : Int) > 0
  · refine ev_pos h0 (ev_pos (by omega) (main _ ?_))
    cases neg with
    | true =>
      have := bt_list h 0 (by rw [numT_len]; simp; omega)
      have hb : bt s 0 = 45 := by simpa [numT] using this
      rw [hb]; rfl
    | false =>
      have hll : l.length = s.size := by simpa using hz.symm
      obtain ⟨h1, h2⟩ := numT_get false l 0 (l.length - 1) (by omega)
      have hd := dig_get hD (l.length - 1) (by omega)
      have hb : bt s 0 = 48 + l[l.length - 1]'(by omega) := by
        have := bt_list h _ h1
        rw [h2, dchr_nat hd] at this
        simpa using this
      rw [hb]
      exact beq_eq_false_iff_ne.2 (by omega)
  · refine ev_neg h0 (main _ ?_)
    cases neg with
    | true => simp at hz; omega
    | false => rfl
theorem digL_dig (b : ByteArray) (n : Nat) (h : allD b n = true) : Dig (digL b n) := by
  intro d hd
  simp only [digL, List.mem_map, List.mem_reverse, List.mem_range] at hd
  obtain ⟨j, hj, rfl⟩ := hd
  rw [allD, List.all_eq_true] at h
  have := h j (List.mem_range.2 hj)
  simp only [isDig, decide_eq_true_eq] at this
  omega
theorem digL_text (b : ByteArray) (h : allD b b.size = true) : b.data.toList = (digL b b.size).reverse.map dchr := by
  refine List.ext_getElem (by simp [digL]) (fun i h1 h2 => ?_)
  have hi : i < b.size := by simpa using h1
  have hb := get_bt b i hi
  rw [allD, List.all_eq_true] at h
  have := h i (List.mem_range.2 hi)
  simp only [isDig, decide_eq_true_eq] at this
  have e : ((digL b b.size).reverse.map dchr)[i] = dchr (bt b (i : Int) - 48) := by simp [digL]
  rw [e]
  have h3 : b.data.toList[i] = b[i] := rfl
  rw [h3]
  apply UInt8.toNat_inj.1
  have := dchr_nat (d := bt b (i : Int) - 48) (by omega)
  omega
theorem valid_text (s : ByteArray) (h : intB s = true) : s.data.toList = numT (negB s) (digL (bodyB s) (bodyB s).size) ∧ Dig (digL (bodyB s) (bodyB s).size) ∧ (digL (bodyB s) (bodyB s).size).length ≤ 40 ∧ (negB s = true → trimL (digL (bodyB s) (bodyB s).size) ≠ []) := by
  rw [intB, Bool.and_eq_true, Bool.and_eq_true] at h
  obtain ⟨h1, h2, h3⟩ := h
  have h1 := of_decide_eq_true h1
  have hD := digL_dig _ _ h2
  refine ⟨?_, hD, by rw [digL_length]; exact h1.2, fun hn => ?_⟩
  · have ht := digL_text _ h2
    unfold numT
    rw [← ht]
    by_cases hn : negB s = true
    · have hn' : 0 < s.size ∧ bt s 0 = 45 := by simpa [negB] using hn
      have hb : bodyB s = s.extract 1 s.size := by rw [bodyB, if_pos hn]
      rw [hb, hn, ByteArray.data_extract, Array.toList_extract, List.extract_eq_take_drop]
      have hl : s.data.toList.length = s.size := by simp
      rw [List.take_of_length_le (by rw [List.length_drop]; omega)]
      have hg := get_bt s 0 hn'.1
      have h0 : s[0]'hn'.1 = 45 := by
        apply UInt8.toNat_inj.1
        have : ((s[0]'hn'.1).toNat : Int) = 45 := by rw [← hg]; exact hn'.2
        simpa using (by omega : (s[0]'hn'.1).toNat = 45)
      have hd : s.data.toList.drop 0 = s[0]'hn'.1 :: s.data.toList.drop 1 := List.drop_eq_getElem_cons (by omega)
      rw [List.drop_zero, h0] at hd
      rw [hd]
      simp
    · have hb : bodyB s = s := by rw [bodyB, if_neg hn]
      rw [Bool.not_eq_true] at hn
      rw [hb, hn]
      simp
  · have h48 : ¬ bt (bodyB s) 0 = 48 := by
      intro e
      rw [e, hn] at h3
      simp at h3
    have hne : digL (bodyB s) (bodyB s).size ≠ [] := by
      intro e
      have := digL_length (bodyB s) (bodyB s).size
      rw [e] at this
      simp at this
      omega
    have htr : Trim (digL (bodyB s) (bodyB s).size) := by
      intro hh
      rw [List.getLast_eq_getElem]
      have e : (digL (bodyB s) (bodyB s).size)[(digL (bodyB s) (bodyB s).size).length - 1]'(by rw [digL_length]; omega) = bt (bodyB s) 0 - 48 := by
        simp [digL]
      rw [e]
      omega
    rw [trimL_of_trim htr]
    exact hne

/-! ### Sums, differences and the order of digits -/
theorem val_cons (d : Int) (l : List Int) : val (d :: l) = d + 10 * val l := rfl
theorem rd_drop (l : List Int) (j : Nat) : val (l.drop j) = rd l (j : Int) + 10 * val (l.drop (j + 1)) := by
  by_cases h : j < l.length
  · rw [List.drop_eq_getElem_cons h, val_cons, rd_at l j h]
  · rw [List.drop_of_length_le (by omega), List.drop_of_length_le (by omega)]
    unfold rd
    simp [val, List.getD_eq_getElem?_getD, List.getElem?_eq_none (Nat.le_of_not_lt h)]
theorem rd_dig {l : List Int} (h : Dig l) (j : Nat) : 0 ≤ rd l (j : Int) ∧ rd l (j : Int) ≤ 9 := by
  by_cases hj : j < l.length
  · rw [rd_at l j hj]; exact dig_get h j hj
  · unfold rd
    simp [List.getD_eq_getElem?_getD, List.getElem?_eq_none (Nat.le_of_not_lt hj)]
theorem rd_out (l : List Int) (j : Nat) (hj : ¬ j < l.length) : rd l (j : Int) = 0 := by
  unfold rd
  simp [List.getD_eq_getElem?_getD, List.getElem?_eq_none (Nat.le_of_not_lt hj)]
def cmpN (m n : Int) : Int := if m = n then 0 else if m < n then -1 else 1
theorem pow10_mono {m n : Nat} (h : m ≤ n) : (10 : Int) ^ m ≤ 10 ^ n := by
  obtain ⟨d, rfl⟩ := Nat.le.dest h
  have h1 := pow_pos10 m
  have h2 := pow_pos10 d
  rw [Int.pow_add]
  have : (10 : Int) ^ m * 1 ≤ 10 ^ m * 10 ^ d := Int.mul_le_mul_of_nonneg_left (by omega) (by omega)
  omega
theorem val_split (l : List Int) (j : Nat) (h : j < l.length) : val l = val (l.take j) + 10 ^ j * (l[j] + 10 * val (l.drop (j + 1))) := by
  have h1 := val_append (l.take j) (l.drop j)
  rw [List.take_append_drop, List.drop_eq_getElem_cons h, val_cons, List.length_take, Nat.min_eq_left (by omega)] at h1
  exact h1
theorem split_lt {a b : List Int} (ha : Dig a) (hb : Dig b) (j : Nat) (h1 : j < a.length) (h2 : j < b.length) (he : a.drop (j + 1) = b.drop (j + 1)) (h : a[j] < b[j]) : val a < val b := by
  have e1 := val_split a j h1
  have e2 := val_split b j h2
  rw [he] at e1
  have l1 := val_lt (dig_take ha j)
  rw [List.length_take, Nat.min_eq_left (by omega)] at l1
  have l2 := val_nonneg (dig_take hb j)
  have h3 : (10 : Int) ^ j * ((a[j] + 10 * val (b.drop (j + 1))) + 1) ≤ 10 ^ j * (b[j] + 10 * val (b.drop (j + 1))) := Int.mul_le_mul_of_nonneg_left (by omega) (by have := pow_pos10 j; omega)
  rw [Int.mul_add, Int.mul_one] at h3
  omega
theorem cmp_l0 {a b : List Int} (ha : Dig a) (hb : Dig b) (hl : a.length = b.length) (h100 : a.length ≤ 1000) : ∀ n : Nat, n ≤ a.length → a.drop n = b.drop n → Ev (fun k => spec_compareDigits.l0 k a b ((n : Int) - 1)) (cmpN (val a) (val b)) := by
  intro n
  induction n with
  | zero =>
    intro _ he
    rw [List.drop_zero, List.drop_zero] at he
    refine ev_succ ?_
    simp only [spec_compareDigits.l0]
    exact ev_neg (by omega) (ev_some (congrArg some (by rw [he]; simp [cmpN])))
  | succ n ih =>
    intro hn he
    have e : (((n + 1 : Nat) : Int) - 1) = (n : Int) := by omega
    have h1 : n < a.length := by omega
    have h2 : n < b.length := by omega
    refine ev_succ ?_
    simp only [spec_compareDigits.l0]
    rw [e, rd_at a n h1, rd_at b n h2, w64 (n := (n : Int) - 1) (by omega) (by omega)]
    refine ev_pos (by omega) (ev_pos (by omega) (ev_pos (by omega) (ev_pos (by omega) ?_)))
    by_cases hq : a[n] = b[n]
    · refine ev_pos hq (ih (by omega) ?_)
      rw [List.drop_eq_getElem_cons h1, List.drop_eq_getElem_cons h2, hq, he]
    · refine ev_neg hq ?_
      by_cases hlt : a[n] < b[n]
      · have := split_lt ha hb n h1 h2 he hlt
        exact ev_pos hlt (ev_some (congrArg some (by unfold cmpN; rw [if_neg (by omega), if_pos this])))
      · have := split_lt hb ha n h2 h1 he.symm (by omega)
        exact ev_neg hlt (ev_some (congrArg some (by unfold cmpN; rw [if_neg (by omega), if_neg (by omega)])))
theorem len_lt {a b : List Int} (ha : Dig a) (hb : Dig b) (tb : Trim b) (h : a.length < b.length) : val a < val b := by
  have h1 := val_lt ha
  have h2 := val_pos hb tb (fun e => by rw [e] at h; simp at h)
  have h3 := pow10_mono (show a.length ≤ b.length - 1 by omega)
  omega
theorem compare_ev {a b : List Int} (ha : Dig a) (hb : Dig b) (ta : Trim a) (tb : Trim b) (h1 : a.length ≤ 1000) (h2 : b.length ≤ 1000) : Ev (fun k => spec_compareDigits.f k a b) (cmpN (val a) (val b)) := by
  unfold spec_compareDigits.f
  rw [w64 (n := (a.length : Int) - 1) (by omega) (by omega)]
  by_cases hl : a.length = b.length
  · exact ev_pos (by omega) (cmp_l0 ha hb hl h1 a.length (Nat.le_refl _) (by rw [List.drop_of_length_le (Nat.le_refl _), List.drop_of_length_le (by omega)]))
  · refine ev_neg (by omega) ?_
    by_cases hlt : a.length < b.length
    · have := len_lt ha hb tb hlt
      exact ev_pos (by omega) (ev_some (congrArg some (by unfold cmpN; rw [if_neg (by omega), if_pos this])))
    · have := len_lt hb ha ta (by omega)
      exact ev_neg (by omega) (ev_some (congrArg some (by unfold cmpN; rw [if_neg (by omega), if_neg (by omega)])))
theorem cmp_same : ∀ (k : Nat) (a b : List Int) (i : Int), impl_magCmp.l0 k a b i = spec_compareDigits.l0 k a b i
  | 0, _, _, _ => rfl
  | k + 1, a, b, i => by simp only [impl_magCmp.l0, spec_compareDigits.l0, cmp_same k]
theorem magCmp_ev {a b : List Int} (ha : Dig a) (hb : Dig b) (ta : Trim a) (tb : Trim b) (h1 : a.length ≤ 1000) (h2 : b.length ≤ 1000) : Ev (fun k => impl_magCmp.f k a b) (cmpN (val a) (val b)) := by
  refine Ev.congr (fun k => ?_) (compare_ev ha hb ta tb h1 h2)
  unfold impl_magCmp.f spec_compareDigits.f
  simp only [cmp_same]
theorem magAdd_from {a b : List Int} (ha : Dig a) (hb : Dig b) (la : a.length ≤ 1000) (lb : b.length ≤ 1000) (T : Int) (e : Nat) :
    ∀ (i : Nat) (out : List Int) (c : Int), 2 * (a.length - i) + 2 * (b.length - i) + c.toNat ≤ e → i ≤ 1001 → out.length = i → Dig out → 0 ≤ c → c ≤ 1 → (i = 1001 → c = 0) → val out + 10 ^ i * (c + val (a.drop i) + val (b.drop i)) = T →
    ∃ R, Ev (fun k => impl_magAdd.l0 k a b out c (i : Int)) R ∧ Dig R ∧ val R = T ∧ R.length ≤ 1001 := by
  induction e with
  | zero =>
    intro i out c he hi ho hD c0 c1 _ hv
    have hc : c = 0 := by omega
    subst hc
    rw [List.drop_of_length_le (by omega), List.drop_of_length_le (by omega)] at hv
    simp only [val, Int.add_zero, Int.mul_zero] at hv
    refine ⟨out, ev_succ ?_, hD, hv, by omega⟩
    simp only [impl_magAdd.l0]
    refine ev_neg (by omega) (ev_neg (by omega) (ev_succ ?_))
    simp only [impl_magAdd.j1]
    exact ev_neg (by simp) (ev_some rfl)
  | succ e ih =>
    intro i out c he hi ho hD c0 c1 hlast hv
    by_cases hstop : ¬ i < a.length ∧ ¬ i < b.length ∧ c = 0
    · obtain ⟨h1, h2, hc⟩ := hstop
      exact ih i out c (by omega) hi ho hD c0 c1 hlast hv
    · have da := rd_dig ha i
      have db := rd_dig hb i
      have hi1 : i ≤ 1000 := by
        apply Classical.byContradiction
        intro hc
        have : c = 0 := hlast (by omega)
        omega
      have e2 : Int.tmod (c + rd a (i : Int) + rd b (i : Int)) 10 = (c + rd a (i : Int) + rd b (i : Int)) % 10 := Int.tmod_eq_emod_of_nonneg (by omega)
      have e3 : Int.tdiv (c + rd a (i : Int) + rd b (i : Int)) 10 = (c + rd a (i : Int) + rd b (i : Int)) / 10 := Int.tdiv_eq_ediv_of_nonneg (by omega)
      obtain ⟨R, hR, h1, h2, h3⟩ := ih (i + 1) (out ++ [(c + rd a (i : Int) + rd b (i : Int)) % 10]) ((c + rd a (i : Int) + rd b (i : Int)) / 10) (by
          by_cases x1 : i < a.length
          · omega
          · by_cases x2 : i < b.length
            · omega
            · rw [rd_out a i x1, rd_out b i x2]
              have : c = 1 := by omega
              subst this
              have : ((1 : Int) + 0 + 0) / 10 = 0 := by decide
              rw [this]
              omega)
        (by omega) (by simp; omega) (dig_append.2 ⟨hD, dig_cons.2 ⟨by omega, dig_nil⟩⟩) (by omega) (by omega)
        (fun hl => by
          rw [rd_out a i (by omega), rd_out b i (by omega)]
          omega)
        (by
          rw [← hv, val_append, rd_drop a i, rd_drop b i, Int.pow_succ, ho, Int.add_assoc, Int.mul_assoc, ← Int.mul_add]
          simp only [val]
          congr 2
          omega)
      refine ⟨R, ?_, h1, h2, h3⟩
      have hs : Ev (fun k => impl_magAdd.j1 k a b out c (i : Int) true) R := by
        refine ev_succ ?_
        simp only [impl_magAdd.j1]
        rw [next_i i (by omega), w64 (n := c + rd a (i : Int)) (by omega) (by omega), w64 (n := c + rd b (i : Int)) (by omega) (by omega), w64 (n := c + rd a (i : Int) + rd b (i : Int)) (by omega) (by omega)]
        refine ev_pos trivial ?_
        by_cases x1 : i < a.length
        · refine ev_pos (by omega) (ev_pos (by omega) ?_)
          by_cases x2 : i < b.length
          · refine ev_pos (by omega) (ev_pos (by omega) ?_)
            rw [e2, e3, w64 (n := (c + rd a (i : Int) + rd b (i : Int)) / 10) (by omega) (by omega)]
            exact hR
          · refine ev_neg (by omega) (ev_pos (by omega) ?_)
            rw [rd_out b i x2, Int.add_zero] at hR e2 e3
            rw [e2, e3, w64 (n := (c + rd a (i : Int)) / 10) (by omega) (by omega)]
            exact hR
        · refine ev_neg (by omega) ?_
          by_cases x2 : i < b.length
          · refine ev_pos (by omega) (ev_pos (by omega) (ev_pos (by omega) ?_))
            rw [rd_out a i x1, Int.add_zero] at hR e2 e3
            rw [e2, e3, w64 (n := (c + rd b (i : Int)) / 10) (by omega) (by omega)]
            exact hR
          · refine ev_neg (by omega) (ev_pos (by omega) ?_)
            rw [rd_out a i x1, rd_out b i x2, Int.add_zero, Int.add_zero] at hR e2 e3
            rw [e2, e3, w64 (n := c / 10) (by omega) (by omega)]
            exact hR
      refine ev_succ ?_
      simp only [impl_magAdd.l0]
      by_cases x1 : i < a.length
      · exact ev_pos (by omega) hs
      · refine ev_neg (by omega) ?_
        by_cases x2 : i < b.length
        · exact ev_pos (by omega) hs
        · refine ev_neg (by omega) ?_
          rw [decide_eq_true (by omega : c > 0)]
          exact hs
theorem magAdd_ev {a b : List Int} (ha : Dig a) (hb : Dig b) (la : a.length ≤ 1000) (lb : b.length ≤ 1000) : ∃ R, Ev (fun k => impl_magAdd.f k a b) R ∧ Dig R ∧ val R = val a + val b ∧ R.length ≤ 1001 := by
  unfold impl_magAdd.f
  exact magAdd_from ha hb la lb (val a + val b) _ 0 [] 0 (Nat.le_refl _) (by omega) rfl dig_nil (by omega) (by omega) (by omega) (by simp [val])
theorem set_mid (lo : List Int) (x y : Int) (hi : List Int) : (lo ++ x :: hi).set lo.length y = lo ++ y :: hi := by
  rw [List.set_append_right _ _ (Nat.le_refl _), Nat.sub_self, List.set_cons_zero]
theorem rd_mid (lo : List Int) (x : Int) (hi : List Int) : rd (lo ++ x :: hi) (lo.length : Int) = x := by
  rw [rd_at _ _ (by simp)]
  simp
theorem magSub_from {b : List Int} (hb : Dig b) (lb : b.length ≤ 1000) (T : Int) (hT : 0 ≤ T) (N : Nat) (hN : N ≤ 1000) (d : Nat) :
    ∀ (lo : List Int) (out : List Int), lo.length + d = N → Dig lo → (d = 0 → out = lo ∧ val lo - 10 ^ N * val (b.drop N) = T) →
    (∀ d' : Nat, d = d' + 1 → ∃ x hi, out = lo ++ x :: hi ∧ hi.length = d' ∧ -1 ≤ x ∧ x ≤ 9 ∧ Dig hi ∧ val lo + 10 ^ lo.length * (x + 10 * val hi - val (b.drop lo.length)) = T) →
    Ev (fun k => impl_magSub.l0 k b out (N : Int) (lo.length : Int)) (dg T.toNat) := by
  induction d with
  | zero =>
    intro lo out hlen hD h0 _
    obtain ⟨ho, hv⟩ := h0 rfl
    subst ho
    have hvb := val_nonneg (l := b.drop N) (fun x hx => hb x (List.mem_of_mem_drop hx))
    have hlt := val_lt hD
    have hNo : out.length = N := by omega
    rw [hNo] at hlt
    have hz : val (b.drop N) = 0 := by
      apply Classical.byContradiction
      intro hc
      have : (10 : Int) ^ N * 1 ≤ 10 ^ N * val (b.drop N) := Int.mul_le_mul_of_nonneg_left (by omega) (by have := pow_pos10 N; omega)
      omega
    rw [hz, Int.mul_zero, Int.sub_zero] at hv
    refine ev_succ ?_
    simp only [impl_magSub.l0]
    refine ev_neg (by omega) (Ev.bind (trimmed_ev out (by omega)) (ev_some (congrArg some ?_)))
    exact dg_of hD (by omega)
  | succ d ih =>
    intro lo out hlen hD _ h1
    obtain ⟨x, hi, ho, hhi, x0, x1, hDh, hv⟩ := h1 d rfl
    subst ho
    have hol : (lo ++ x :: hi).length = N := by simp; omega
    have db := rd_dig hb lo.length
    rw [rd_drop b lo.length] at hv
    have hvb := val_nonneg (l := b.drop (lo.length + 1)) (fun x hx => hb x (List.mem_of_mem_drop hx))
    have hlo := val_lt hD
    have hlo0 := val_nonneg hD
    -- one digit settled
    have NX : ∀ (y z : Int) (hi' : List Int), hi = z :: hi' → 0 ≤ y → y ≤ 9 → ∀ z' : Int, -1 ≤ z' → z' ≤ 9 → y + 10 * z' = x - rd b (lo.length : Int) + 10 * z → Ev (fun k => impl_magSub.l0 k b (lo ++ y :: z' :: hi') (N : Int) ((lo.length + 1 : Nat) : Int)) (dg T.toNat) := by
      intro y z hi' hh y0 y1 z' z0 z1 hyz
      subst hh
      have hl2 : (lo ++ [y]).length = lo.length + 1 := by simp
      have := ih (lo ++ [y]) (lo ++ y :: z' :: hi') (by rw [hl2]; omega) (dig_append.2 ⟨hD, dig_cons.2 ⟨⟨y0, y1⟩, dig_nil⟩⟩) (fun h => by simp at hhi; omega)
        (fun d' hd => ⟨z', hi', by simp, by simp at hhi; omega, z0, z1, (dig_cons.1 hDh).2, by
          rw [hl2, ← hv, val_append, Int.pow_succ, val_cons, Int.add_assoc, Int.mul_assoc, ← Int.mul_add]
          simp only [val]
          congr 2
          omega⟩)
      rw [hl2] at this
      exact this
    have NN : ∀ y : Int, 0 ≤ y → y ≤ 9 → y = x - rd b (lo.length : Int) → Ev (fun k => impl_magSub.l0 k b (lo ++ y :: hi) (N : Int) ((lo.length + 1 : Nat) : Int)) (dg T.toNat) := by
      intro y y0 y1 hy
      cases hh : hi with
      | cons z hi' =>
        have hz := (dig_cons.1 (hh ▸ hDh)).1
        exact NX y z hi' hh y0 y1 z (by omega) (by omega) (by omega)
      | nil =>
        rw [hh] at hhi hv
        have hl2 : (lo ++ [y]).length = lo.length + 1 := by simp
        have hNl : N = lo.length + 1 := by simp at hhi; omega
        have := ih (lo ++ [y]) (lo ++ [y]) (by rw [hl2]; omega) (dig_append.2 ⟨hD, dig_cons.2 ⟨⟨y0, y1⟩, dig_nil⟩⟩) (fun h => ⟨rfl, by
            rw [hNl, ← hv, val_append, Int.pow_succ]
            simp only [val, Int.mul_zero, Int.add_zero]
            rw [Int.mul_assoc, Int.add_sub_assoc, ← Int.mul_sub, hy]
            congr 2
            omega⟩)
          (fun d' hd => by simp at hhi; omega)
        rw [hl2] at this
        exact this
    -- a borrow
    have BR : ∀ y : Int, y < 0 → y = x - rd b (lo.length : Int) → ∃ z hi', hi = z :: hi' := by
      intro y hy he
      cases hh : hi with
      | cons z hi' => exact ⟨z, hi', rfl⟩
      | nil =>
        exfalso
        rw [hh] at hv
        simp only [val, Int.mul_zero, Int.add_zero] at hv
        have : (10 : Int) ^ lo.length * (x - (rd b (lo.length : Int) + 10 * val (b.drop (lo.length + 1)))) ≤ 10 ^ lo.length * (-1) := Int.mul_le_mul_of_nonneg_left (by omega) (by have := pow_pos10 lo.length; omega)
        omega
    have BB : ∀ y : Int, y < 0 → y = x - rd b (lo.length : Int) → Ev (fun k => if 0 ≤ ((lo.length + 1 : Nat) : Int) then (if ((lo.length + 1 : Nat) : Int) < ((lo ++ x :: hi).length : Int) then (impl_magSub.l0 k b ((lo ++ (y + 10) :: hi).set (((lo.length + 1 : Nat) : Int)).toNat (wrap64 ((rd (lo ++ (y + 10) :: hi) ((lo.length + 1 : Nat) : Int)) - 1))) (N : Int) ((lo.length + 1 : Nat) : Int)) else none) else none) (dg T.toNat) := by
      intro y hy he
      obtain ⟨z, hi', hh⟩ := BR y hy he
      subst hh
      have hz := (dig_cons.1 hDh).1
      have hl2 : (lo ++ [y + 10]).length = lo.length + 1 := by simp
      have q1 := rd_mid (lo ++ [y + 10]) z hi'
      have q2 := set_mid (lo ++ [y + 10]) z (z - 1) hi'
      rw [hl2, List.append_assoc] at q1 q2
      simp only [List.cons_append, List.nil_append, List.append_assoc] at q1 q2
      rw [Int.toNat_natCast, q1, w64 (n := z - 1) (by omega) (by omega), q2]
      exact ev_pos (by omega) (ev_pos (by simp at hol ⊢; omega) (NX (y + 10) z hi' rfl (by omega) (by omega) (z - 1) (by omega) (by omega) (by omega)))
    refine ev_succ ?_
    simp only [impl_magSub.l0]
    rw [rd_mid, next_i lo.length (by omega)]
    simp only [Int.toNat_natCast, set_mid]
    rw [w64 (n := x - rd b (lo.length : Int)) (by omega) (by omega), w64 (n := x + 10) (by omega) (by omega), w64 (n := x - rd b (lo.length : Int) + 10) (by omega) (by omega)]
    refine ev_pos (by omega) ?_
    by_cases hbl : lo.length < b.length
    · refine ev_pos (by omega) (ev_pos (by omega) (ev_pos (by omega) (ev_bind1 rfl ?_)))
      by_cases hy : x - rd b (lo.length : Int) < 0
      · refine ev_pos hy (ev_bind1 (congrArg some (set_mid _ _ _ _)) ?_)
        exact BB _ hy rfl
      · exact ev_neg hy (NN _ (by omega) (by omega) rfl)
    · have hr := rd_out b lo.length hbl
      refine ev_neg (by omega) (ev_pos (by omega) (ev_pos (by omega) ?_))
      by_cases hy : x < 0
      · refine ev_pos hy (ev_bind1 rfl ?_)
        exact BB x hy (by omega)
      · exact ev_neg hy (NN x (by omega) (by omega) (by omega))
theorem magSub_ev {a b : List Int} (ha : Dig a) (hb : Dig b) (la : a.length ≤ 1000) (lb : b.length ≤ 1000) (hle : val b ≤ val a) : Ev (fun k => impl_magSub.f k a b) (dg (val a - val b).toNat) := by
  unfold impl_magSub.f
  simp only [List.nil_append, Option.bind_some]
  refine ev_pos (by simp; omega) ?_
  refine magSub_from hb lb (val a - val b) (by omega) a.length la a.length [] a (by simp) dig_nil (fun h => ?_) (fun d' hd => ?_)
  · have : a = [] := List.eq_nil_of_length_eq_zero h
    subst this
    simp [val]
  · cases a with
    | nil => simp at hd
    | cons x hi =>
      have := dig_cons.1 ha
      exact ⟨x, hi, rfl, by simpa using hd, by omega, by omega, this.2, by simp [val]⟩
/-! ### Signed numbers -/
theorem cmp_tidy (l : List Int) (neg : Bool) (hl : l.length ≤ 1001) : Ev (fun k => impl_number_tidy.f k neg l) (if trimL l = [] then false else neg, trimL l) := by
  have E := trimmed_ev l (by omega)
  unfold impl_number_tidy.f
  refine Ev.bind E ?_
  by_cases h : trimL l = []
  · exact ev_pos (by rw [h]; rfl) (ev_some (by rw [if_pos h]))
  · exact ev_neg (by have := List.length_pos_iff.2 h; omega) (ev_some (by rw [if_neg h]))
theorem dg_if {α : Type} (n : Nat) (x y : α) : (if dg n = [] then x else y) = if n = 0 then x else y := by
  by_cases h : n = 0
  · rw [if_pos h, if_pos (dg_nil.2 h)]
  · rw [if_neg h, if_neg (fun e => h (dg_nil.1 e))]
theorem sign_of (Z : Int) (p : Bool) (h : Z ≠ 0 → decide (Z < 0) = p) : (if dg Z.natAbs = [] then false else p) = decide (Z < 0) := by
  rw [dg_if]
  by_cases h0 : Z = 0
  · subst h0; rfl
  · rw [if_neg (by omega), h h0]
theorem minus_ev (Y : Int) (hl : (dg Y.natAbs).length ≤ 50) : Ev (fun k => impl_number_minus.f k (decide (Y < 0)) (dg Y.natAbs)) (decide (-Y < 0), dg (-Y).natAbs) := by
  have T := cmp_tidy (dg Y.natAbs) (!decide (Y < 0)) (by omega)
  rw [trimL_dg] at T
  unfold impl_number_minus.f
  refine Ev.bind T (ev_some (congrArg some ?_))
  have := sign_of (-Y) (!decide (Y < 0)) (fun h => by
    by_cases hy : Y < 0
    · rw [decide_eq_true hy, decide_eq_false (by omega)]; rfl
    · rw [decide_eq_false hy, decide_eq_true (by omega)]; rfl)
  rw [Int.natAbs_neg] at this ⊢
  rw [this]
theorem plus_ev (A B : Int) (la : (dg A.natAbs).length ≤ 50) (lb : (dg B.natAbs).length ≤ 50) : Ev (fun k => impl_number_plus.f k (decide (A < 0)) (dg A.natAbs) (decide (B < 0)) (dg B.natAbs)) (decide (A + B < 0), dg (A + B).natAbs) := by
  have dA := dig_dg A.natAbs
  have dB := dig_dg B.natAbs
  have vA := val_dg A.natAbs
  have vB := val_dg B.natAbs
  unfold impl_number_plus.f
  by_cases hs : decide (A < 0) = decide (B < 0)
  · have hs' : A < 0 ↔ B < 0 := by simpa using hs
    obtain ⟨R, hR, h1, h2, h3⟩ := magAdd_ev dA dB (by omega) (by omega)
    have T := cmp_tidy R (decide (A < 0)) h3
    rw [dg_of (n := (A + B).natAbs) h1 (by omega), sign_of (A + B) _ (fun h => decide_eq_decide.2 (by omega))] at T
    exact ev_pos (by simpa using hs) (Ev.bind hR (Ev.bind T (ev_some rfl)))
  · have hs' : ¬ (A < 0 ↔ B < 0) := by simpa using hs
    refine ev_neg (by simpa using hs) (Ev.bind (magCmp_ev dA dB (trim_dg _) (trim_dg _) (by omega) (by omega)) ?_)
    by_cases hc : val (dg B.natAbs) ≤ val (dg A.natAbs)
    · have S := magSub_ev dA dB (by omega) (by omega) hc
      rw [show (val (dg A.natAbs) - val (dg B.natAbs)).toNat = (A + B).natAbs by omega] at S
      have hlen : (dg (A + B).natAbs).length ≤ 1001 := by
        have : (dg (A + B).natAbs).length ≤ 50 := (dg_len _ 50).2 (Nat.lt_of_le_of_lt (by omega) ((dg_len A.natAbs 50).1 la))
        omega
      have T := cmp_tidy (dg (A + B).natAbs) (decide (A < 0)) hlen
      rw [trimL_dg, sign_of (A + B) _ (fun h => decide_eq_decide.2 (by omega))] at T
      exact ev_pos (by unfold cmpN; split <;> (try split) <;> omega) (Ev.bind S (Ev.bind T (ev_some rfl)))
    · have S := magSub_ev dB dA (by omega) (by omega) (by omega)
      rw [show (val (dg B.natAbs) - val (dg A.natAbs)).toNat = (A + B).natAbs by omega] at S
      have hlen : (dg (A + B).natAbs).length ≤ 1001 := by
        have : (dg (A + B).natAbs).length ≤ 50 := (dg_len _ 50).2 (Nat.lt_of_le_of_lt (by omega) ((dg_len B.natAbs 50).1 lb))
        omega
      have T := cmp_tidy (dg (A + B).natAbs) (decide (B < 0)) hlen
      rw [trimL_dg, sign_of (A + B) _ (fun h => decide_eq_decide.2 (by omega))] at T
      exact ev_neg (by unfold cmpN; split <;> (try split) <;> omega) (Ev.bind S (Ev.bind T (ev_some rfl)))
def IsTx (s : ByteArray) (z : Int) : Prop := ∃ l, s.data.toList = numT (decide (z < 0)) l ∧ Dig l ∧ l.length ≤ 50 ∧ trimL l = dg z.natAbs
theorem parse_int (s : ByteArray) (h : intB s = true) : ∃ z : Int, (dg z.natAbs).length ≤ 50 ∧ IsTx s z ∧ (negB s, trimL (digL (bodyB s) (bodyB s).size)) = (decide (z < 0), dg z.natAbs) := by
  obtain ⟨a1, a2, a3, a4⟩ := valid_text s h
  have hv := val_nonneg a2
  have e := dg_of (n := (val (digL (bodyB s) (bodyB s).size)).toNat) a2 (by omega)
  have hl := trimL_len (digL (bodyB s) (bodyB s).size)
  have nb : (dg (val (digL (bodyB s) (bodyB s).size)).toNat).length ≤ 50 := by rw [← e]; omega
  cases hn : negB s with
  | true =>
    have hne := a4 hn
    rw [e] at hne
    have h0 : (val (digL (bodyB s) (bodyB s).size)).toNat ≠ 0 := fun h0 => hne (dg_nil.2 h0)
    have hz : decide (-(val (digL (bodyB s) (bodyB s).size)) < 0) = true := decide_eq_true (by omega)
    have ha : (-(val (digL (bodyB s) (bodyB s).size))).natAbs = (val (digL (bodyB s) (bodyB s).size)).toNat := by omega
    refine ⟨-(val (digL (bodyB s) (bodyB s).size)), by rw [ha]; exact nb, ⟨_, by rw [hz, ← hn]; exact a1, a2, by omega, by rw [ha]; exact e⟩, by rw [hz, ha, e]⟩
  | false =>
    have hz : decide (val (digL (bodyB s) (bodyB s).size) < 0) = false := decide_eq_false (by omega)
    have ha : (val (digL (bodyB s) (bodyB s).size)).natAbs = (val (digL (bodyB s) (bodyB s).size)).toNat := by omega
    refine ⟨val (digL (bodyB s) (bodyB s).size), by rw [ha]; exact nb, ⟨_, by rw [hz, ← hn]; exact a1, a2, by omega, by rw [ha]; exact e⟩, by rw [hz, ha, e]⟩
theorem cmpInts_ev (s t : ByteArray) (X Y : Int) (hs : IsTx s X) (ht : IsTx t Y) (lx : (dg X.natAbs).length ≤ 50) (ly : (dg Y.natAbs).length ≤ 50) : Ev (fun k => spec_cmpInts.f k s t) (cmpN X Y) := by
  obtain ⟨la, a1, a2, a3, a4⟩ := hs
  obtain ⟨lb, b1, b2, b3, b4⟩ := ht
  have D1 := digitsOf_ev s _ la a1 a2 (by omega)
  have D2 := digitsOf_ev t _ lb b1 b2 (by omega)
  rw [a4] at D1
  rw [b4] at D2
  have vX := val_dg X.natAbs
  have vY := val_dg Y.natAbs
  unfold spec_cmpInts.f
  refine Ev.bind D1 (Ev.bind D2 ?_)
  by_cases hx : X < 0
  · by_cases hy : Y < 0
    · rw [decide_eq_true hx, decide_eq_true hy]
      refine ev_neg (by simp) (ev_pos rfl (Ev.bind (compare_ev (a := dg Y.natAbs) (b := dg X.natAbs) (dig_dg _) (dig_dg _) (trim_dg _) (trim_dg _) (by omega) (by omega)) (ev_some (congrArg some ?_))))
      rw [vX, vY]
      unfold cmpN
      split <;> split <;> (try split) <;> (try split) <;> omega
    · rw [decide_eq_true hx, decide_eq_false hy]
      refine ev_pos (by simp) (ev_pos rfl (ev_some (congrArg some ?_)))
      unfold cmpN
      rw [if_neg (by omega), if_pos (by omega)]
  · by_cases hy : Y < 0
    · rw [decide_eq_false hx, decide_eq_true hy]
      refine ev_pos (by simp) (ev_neg (by simp) (ev_some (congrArg some ?_)))
      unfold cmpN
      rw [if_neg (by omega), if_neg (by omega)]
    · rw [decide_eq_false hx, decide_eq_false hy]
      refine ev_neg (by simp) (ev_neg (by simp) (Ev.bind (compare_ev (a := dg X.natAbs) (b := dg Y.natAbs) (dig_dg _) (dig_dg _) (trim_dg _) (trim_dg _) (by omega) (by omega)) (ev_some (congrArg some ?_))))
      rw [vX, vY]
      unfold cmpN
      split <;> split <;> (try split) <;> (try split) <;> omega
theorem FnExactIntCmp : laws_FnExactIntCmp.Pure := by
  intro s t _ _
  refine Ev.rounds ?_
  unfold laws_FnExactIntCmp.f
  by_cases hs : (s.size : Int) > 1048576
  · exact ev_pos hs (ev_some rfl)
  refine ev_neg hs ?_
  by_cases ht : (t.size : Int) > 1048576
  · exact ev_pos ht (ev_some rfl)
  refine ev_neg ht ?_
  have V1 := valid_int s (by omega)
  have V2 := valid_int t (by omega)
  have P1 := parse_ev s (by omega)
  have P2 := parse_ev t (by omega)
  have key : ∃ r, Ev (fun k => spec_IntCmp.f k s t) r ∧ Ev (fun k => impl_IntCmp.f k s t) r := by
    unfold spec_IntCmp.f impl_IntCmp.f impl_twoNumbers.f
    unfold parseR at P1 P2
    cases h1 : intB s with
    | false =>
      rw [h1] at V1 P1
      refine ⟨-2, Ev.bind V1 (ev_neg (by simp) (ev_some rfl)), Ev.bind (Ev.bind P1 (Ev.bind P2 (ev_neg (by simp) (ev_some rfl)))) (ev_neg (by simp) (ev_some rfl))⟩
    | true =>
      rw [h1] at V1 P1
      rw [if_pos rfl] at P1
      cases h2 : intB t with
      | false =>
        rw [h2] at V2 P2
        refine ⟨-2, Ev.bind V1 (ev_pos rfl (Ev.bind V2 (ev_neg (by simp) (ev_some rfl)))), Ev.bind (Ev.bind P1 (Ev.bind P2 (ev_pos rfl (ev_some rfl)))) (ev_neg (by simp) (ev_some rfl))⟩
      | true =>
        rw [h2] at V2 P2
        rw [if_pos rfl] at P2
        obtain ⟨X, lx, tx, ex⟩ := parse_int s h1
        obtain ⟨Y, ly, ty, ey⟩ := parse_int t h2
        injection ex with ex1 ex2
        injection ey with ey1 ey2
        rw [ex1, ex2] at P1
        rw [ey1, ey2] at P2
        refine ⟨cmpN X Y, Ev.bind V1 (ev_pos rfl (Ev.bind V2 (ev_pos rfl (Ev.bind (cmpInts_ev s t X Y tx ty lx ly) (ev_some rfl))))), Ev.bind (Ev.bind P1 (Ev.bind P2 (ev_pos rfl (ev_some rfl)))) (ev_pos rfl (Ev.bind (minus_ev Y ly) (Ev.bind (plus_ev X (-Y) lx (by rw [Int.natAbs_neg]; exact ly)) ?_)))⟩
        by_cases h0 : X + -Y = 0
        · refine ev_pos ?_ (ev_some (congrArg some ?_))
          · rw [h0]; simp [dg_zero]
          · unfold cmpN; rw [if_pos (by omega)]
        · refine ev_neg ?_ ?_
          · intro h
            have := List.eq_nil_of_length_eq_zero (by simpa using h : (dg (X + -Y).natAbs).length = 0)
            have := dg_nil.1 this
            omega
          · by_cases hn : X + -Y < 0
            · exact ev_pos (decide_eq_true hn) (ev_some (congrArg some (by unfold cmpN; rw [if_neg (by omega), if_pos (by omega)])))
            · exact ev_neg (by simp; omega) (ev_some (congrArg some (by unfold cmpN; rw [if_neg (by omega), if_neg (by omega)])))
  obtain ⟨r, S, I⟩ := key
  exact Ev.bind S (Ev.bind I (ev_pos rfl (ev_some rfl)))

end Go.Proofs.Ytkhkbbhkhpekcaa.Pure
