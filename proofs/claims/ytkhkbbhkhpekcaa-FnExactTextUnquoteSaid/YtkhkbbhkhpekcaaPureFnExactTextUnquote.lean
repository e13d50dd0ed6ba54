/- FnExactTextUnquote: the program reads quoted texts as the reference does, for every text of at most 2^20 bytes. -/
import Derived.Test.YtkhkbbhkhpekcaaXFnExactTextUnquotex5
namespace Go.Proofs.Ytkhkbbhkhpekcaa.Pure
open Go.RowKit Go.Proofs.Ytkhkbbhkhpekcaa.XFnExactTextUnquote Go.Proofs.YtkhkbbhkhpekcaaW.PrintWords Go.Proofs.YtkhkbbhkhpekcaaW.PrintLast Go.Proofs.YtkhkbbhkhpekcaaW.PrintMore
set_option linter.unusedVariables false
set_option linter.unusedSimpArgs false

/-! ### Rounds, and words of 64 bits -/
theorem ev_succ {α : Type} {g : Nat → Option α} {r : α} (h : Ev (fun k => g (k + 1)) r) : Ev g r := Ev.step (fun _ => rfl) h
theorem ev_some {α : Type} {o : Option α} {r : α} (h : o = some r) : Ev (fun _ => o) r := ⟨0, fun _ _ => h⟩
theorem ev_pos {α : Type} {c : Prop} [Decidable c] {A B : Nat → Option α} {r : α} (h : c) (k : Ev A r) : Ev (fun n => if c then A n else B n) r :=
  Ev.congr (fun _ => if_pos h) k
theorem ev_neg {α : Type} {c : Prop} [Decidable c] {A B : Nat → Option α} {r : α} (h : ¬ c) (k : Ev B r) : Ev (fun n => if c then A n else B n) r :=
  Ev.congr (fun _ => if_neg h) k
theorem ev_eq {α : Type} {g : Nat → Option α} {r s : α} (h : Ev g r) (e : r = s) : Ev g s := e ▸ h
theorem ev_bind1 {α β : Type} {o : Option α} {f : Nat → α → Option β} {a : α} {r : β} (h : o = some a) (k : Ev (fun n => f n a) r) : Ev (fun n => o.bind (f n)) r :=
  Ev.bind (ev_some h) k
theorem ev_det {α : Type} {g : Nat → Option α} {r s : α} (h : Ev g r) (k : Ev g s) : r = s := by
  obtain ⟨K, h⟩ := h
  obtain ⟨L, k⟩ := k
  have h1 := h (max K L) (by omega)
  have h2 := k (max K L) (by omega)
  rw [h1] at h2
  exact Option.some.inj h2
theorem w64 {n : Int} (h : -9223372036854775808 ≤ n) (h' : n ≤ 9223372036854775807) : wrap64 n = n := by unfold wrap64; omega
theorem byte_of {l : List Int} (h : ∀ x ∈ l, (Lit.int .u8 x).wf = true) (i : Int) : 0 ≤ rd l i ∧ rd l i ≤ 255 := by
  unfold rd
  by_cases hi : i.toNat < l.length
  · have hm : l.getD i.toNat 0 ∈ l := by
      rw [List.getD_eq_getElem?_getD, List.getElem?_eq_getElem hi]
      exact List.getElem_mem hi
    have := h _ hm
    have m0 : IntKind.u8.min = 0 := by decide
    have m1 : IntKind.u8.max = 255 := by decide
    simp only [Lit.wf, m0, m1, Bool.and_eq_true, decide_eq_true_eq] at this
    exact this
  · rw [List.getD_eq_getElem?_getD, List.getElem?_eq_none (by omega)]
    simp

/-! ### Reading a list -/
theorem rd_at (l : List Int) (i : Nat) (h : i < l.length) : rd l (i : Int) = l[i] := by
  unfold rd
  simp [List.getD_eq_getElem?_getD, h]
theorem next_i (i : Nat) (h : i ≤ 4611686018427387904) : wrap64 ((i : Int) + 1) = ((i + 1 : Nat) : Int) := by rw [w64 (by omega) (by omega)]; omega

theorem ba_ext {a b : ByteArray} (h : a.data.toList = b.data.toList) : a = b := by
  cases a; cases b
  simp only [Array.toList_inj] at h
  rw [h]
theorem ba_append (a b : ByteArray) : (a ++ b).data.toList = a.data.toList ++ b.data.toList := by
  rw [ByteArray.data_append, Array.toList_append]
theorem ba_len (a : ByteArray) : a.data.toList.length = a.size := by simp

/-! ### Quotes -/
def quoteR (s : ByteArray) : ByteArray := ⟨(quoteL s.data.toList).toArray⟩
theorem nums_list (l : List Int) : (strOfNums l).data.toList = l.map fun n => UInt8.ofNat n.toNat := rfl
theorem ofNat_byte (b : UInt8) : UInt8.ofNat ((b.toNat : Int)).toNat = b := by simp
theorem bt_nat (s : ByteArray) (i : Nat) (h : i < s.size) : bt s (i : Int) = ((s[i]'h).toNat : Int) := by simp [bt, h]
theorem ext_list (b : ByteArray) (j : Nat) (h : j < b.size) : (b.extract j (j + 1)).data.toList = [b[j]'h] := by
  rw [ByteArray.data_extract, Array.toList_extract, List.extract_eq_take_drop, List.drop_eq_getElem_cons (by simpa using h), show j + 1 - j = 0 + 1 by omega, List.take_succ_cons, List.take_zero]
  rfl
theorem hex_digit (n : Int) (h0 : 0 ≤ n) (h1 : n < 16) : ∃ t, spec_hexDigit.f n = some t ∧ t.data.toList = [hexD n.toNat] := by
  obtain ⟨m, rfl⟩ := Int.eq_ofNat_of_zero_le h0
  have hw : wrap64 ((m : Int) + 1) = ((m + 1 : Nat) : Int) := by rw [w64 (by omega) (by omega)]; omega
  unfold spec_hexDigit.f
  rw [hw, if_pos (by omega), if_pos (by omega), if_pos (by omega)]
  refine ⟨_, rfl, ?_⟩
  have := ext_list (⟨#[48, 49, 50, 51, 52, 53, 54, 55, 56, 57, 97, 98, 99, 100, 101, 102]⟩ : ByteArray) m (by show m < 16; omega)
  simp only [Int.toNat_natCast]
  rw [this, hexD_at m (by omega)]
theorem quote_from (s : ByteArray) (hs : s.size ≤ 1048576) (d : Nat) : ∀ (i : Nat) (x : ByteArray), i + d = s.size → x.data.toList = 39 :: (s.data.toList.take i).flatMap quote1 → Ev (fun k => spec_quoted.l0 k s x (i : Int)) (quoteR s) := by
  induction d with
  | zero =>
    intro i x hi hx
    have hxl : x.size ≤ 1 + 4 * i := by
      rw [← ba_len, hx, List.length_cons]
      have := flat_len (s.data.toList.take i)
      have h2 : (s.data.toList.take i).length ≤ i := List.length_take_le _ _
      omega
    refine ev_succ ?_
    simp only [spec_quoted.l0]
    refine ev_neg (by omega) (ev_pos (by omega) (ev_some (congrArg some (ba_ext ?_))))
    rw [ba_append, hx, List.take_of_length_le (by rw [ba_len]; omega)]
    rfl
  | succ d ih =>
    intro i x hi hx
    have hlt : i < s.size := by omega
    have hxl : x.size ≤ 1 + 4 * i := by
      rw [← ba_len, hx, List.length_cons]
      have := flat_len (s.data.toList.take i)
      have h2 : (s.data.toList.take i).length ≤ i := List.length_take_le _ _
      omega
    have hb := (s[i]'hlt).toNat_lt
    have go : ∀ y : ByteArray, y.data.toList = x.data.toList ++ quote1 (s[i]'hlt) → Ev (fun k => spec_quoted.l0 k s y ((i + 1 : Nat) : Int)) (quoteR s) := fun y hy =>
      ih (i + 1) y (by omega) (by rw [hy, hx, quote_take s i hlt]; simp)
    have hw : wrap64 ((s[i]'hlt).toNat : Int) = ((s[i]'hlt).toNat : Int) := w64 (by omega) (by omega)
    have J2 : ¬ ((s[i]'hlt).toNat = 39 ∨ (s[i]'hlt).toNat = 92) → ¬ (s[i]'hlt).toNat = 10 → ∀ z : Bool, (z = true ↔ (s[i]'hlt).toNat < 32 ∨ 126 < (s[i]'hlt).toNat) → Ev (fun k => spec_quoted.j2 k s x (i : Int) ((s[i]'hlt).toNat : Int) z) (quoteR s) := by
      intro n1 n2 z hz
      refine ev_succ ?_
      simp only [spec_quoted.j2]
      rw [next_i i (by omega), hw]
      by_cases c : (s[i]'hlt).toNat < 32 ∨ 126 < (s[i]'hlt).toNat
      · have e1 : Int.tdiv ((s[i]'hlt).toNat : Int) 16 = (((s[i]'hlt).toNat / 16 : Nat) : Int) := by rw [Int.tdiv_eq_ediv_of_nonneg (by omega)]; omega
        have e2 : Int.tmod ((s[i]'hlt).toNat : Int) 16 = (((s[i]'hlt).toNat % 16 : Nat) : Int) := by rw [Int.tmod_eq_emod_of_nonneg (by omega)]; omega
        have e3 : wrap64 (((s[i]'hlt).toNat / 16 : Nat) : Int) = (((s[i]'hlt).toNat / 16 : Nat) : Int) := w64 (by omega) (by omega)
        obtain ⟨t1, h1, l1⟩ := hex_digit (((s[i]'hlt).toNat / 16 : Nat) : Int) (by omega) (by omega)
        obtain ⟨t2, h2, l2⟩ := hex_digit (((s[i]'hlt).toNat % 16 : Nat) : Int) (by omega) (by omega)
        have z1 : t1.size = 1 := by rw [← ba_len, l1]; rfl
        have z2 : t2.size = 1 := by rw [← ba_len, l2]; rfl
        have zs : (strOfNums [92, 120]).size = 2 := by rw [strOfNums_size]; rfl
        rw [e1, e2, e3]
        refine ev_pos (hz.2 c) (ev_bind1 rfl (ev_pos (by omega) (ev_bind1 h1 (ev_pos (by rw [ByteArray.size_append]; omega) (ev_bind1 h2 (ev_pos (by rw [ByteArray.size_append, ByteArray.size_append]; omega) (go _ ?_)))))))
        rw [ba_append, ba_append, ba_append, l1, l2, nums_list, quote1, if_neg n1, if_neg n2, if_pos c, Int.toNat_natCast, Int.toNat_natCast]
        simp only [List.append_assoc]
        rfl
      · have zz : (s.extract i (i + 1)).size = 1 := by rw [← ba_len, ext_list s i hlt]; rfl
        refine ev_neg (fun h => c (hz.1 h)) (ev_pos (by omega) (ev_pos (by omega) (ev_pos (by omega) ?_)))
        simp only [Int.toNat_natCast]
        refine ev_pos (by omega) (go _ ?_)
        rw [ba_append, ext_list s i hlt, quote1, if_neg n1, if_neg n2, if_neg c]
    have J1 : ∀ z : Bool, (z = true ↔ (s[i]'hlt).toNat = 39 ∨ (s[i]'hlt).toNat = 92) → Ev (fun k => spec_quoted.j1 k s x (i : Int) ((s[i]'hlt).toNat : Int) z) (quoteR s) := by
      intro z hz
      refine ev_succ ?_
      simp only [spec_quoted.j1]
      rw [next_i i (by omega)]
      by_cases c : (s[i]'hlt).toNat = 39 ∨ (s[i]'hlt).toNat = 92
      · refine ev_pos (hz.2 c) (ev_bind1 rfl (ev_pos (by rw [strOfNums_size]; simp; omega) (go _ ?_)))
        rw [ba_append, nums_list, quote1, if_pos c]
        simp
      · refine ev_neg (fun h => c (hz.1 h)) ?_
        by_cases c2 : ((s[i]'hlt).toNat : Int) = 10
        · refine ev_pos c2 (ev_bind1 rfl (ev_pos (by rw [strOfNums_size]; simp; omega) (go _ ?_)))
          rw [ba_append, nums_list, quote1, if_neg c, if_pos (by omega)]
          simp
        · refine ev_neg c2 ?_
          by_cases c3 : ((s[i]'hlt).toNat : Int) < 32
          · exact ev_pos c3 (J2 c (by omega) true (by simp; omega))
          · exact ev_neg c3 (J2 c (by omega) _ (by simp; omega))
    refine ev_succ ?_
    simp only [spec_quoted.l0]
    rw [bt_nat s i hlt]
    refine ev_pos (by omega) (ev_pos (by omega) ?_)
    by_cases c : ((s[i]'hlt).toNat : Int) = 39
    · exact ev_pos c (J1 true (by simp; omega))
    · exact ev_neg c (J1 _ (by simp; omega))
theorem specQuote_ev (s : ByteArray) (hs : s.size ≤ 1048576) : Ev (fun k => spec_quoted.f k s) (quoteR s) := by
  unfold spec_quoted.f
  exact quote_from s hs s.size 0 _ (by omega) (by simp)
/-- What TextQuote answers. -/
def textQ (s : ByteArray) : ByteArray := if s.size ≤ 400 then quoteR s else ⟨#[]⟩

/-! ### Texts out of quotes -/
theorem ofNat_eq (b : UInt8) (n : Nat) (h : b.toNat = n) : UInt8.ofNat n = b := by subst h; simp
theorem hexV_hexD : ∀ n : Nat, n < 16 → hexV (hexD n) = n := by decide
/-- What is quoted is read back. -/
theorem scan_quoted (rest : List UInt8) : ∀ (l : List UInt8) (k : Nat) (acc : List UInt8), l.length < k → scanL k (l.flatMap quote1 ++ 39 :: rest) acc = some (acc ++ l, rest.length) := by
  intro l
  induction l with
  | nil =>
    intro k acc hk
    obtain ⟨k, rfl⟩ : ∃ m, k = m + 1 := ⟨k - 1, by simp at hk; omega⟩
    simp only [List.flatMap_nil, List.nil_append, List.append_nil]
    exact scan_close (by decide)
  | cons b l ih =>
    intro k acc hk
    obtain ⟨k, rfl⟩ : ∃ m, k = m + 1 := ⟨k - 1, by simp at hk; omega⟩
    have hk' : l.length < k := by simp at hk; omega
    have hb := b.toNat_lt
    have fin : ∀ c, c = b → scanL k (l.flatMap quote1 ++ 39 :: rest) (acc ++ [c]) = some (acc ++ b :: l, rest.length) := fun c hc => by
      rw [ih k _ hk', hc]; simp
    rw [List.flatMap_cons, List.append_assoc]
    by_cases c1 : b.toNat = 39 ∨ b.toNat = 92
    · have e : quote1 b = [92, b] := by rw [quote1, if_pos c1]
      rw [e]
      show scanL (k + 1) (92 :: b :: _) acc = _
      rw [scan_other (by decide) (by omega) (by omega)]
      exact fin b rfl
    · by_cases c2 : b.toNat = 10
      · have e : quote1 b = [92, 110] := by rw [quote1, if_neg c1, if_pos c2]
        rw [e]
        show scanL (k + 1) (92 :: 110 :: _) acc = _
        rw [scan_n (by decide) (by decide)]
        exact fin 10 (ofNat_eq b 10 c2)
      · by_cases c3 : b.toNat < 32 ∨ 126 < b.toNat
        · have e : quote1 b = [92, 120, hexD (b.toNat / 16), hexD (b.toNat % 16)] := by rw [quote1, if_neg c1, if_neg c2, if_pos c3]
          rw [e]
          show scanL (k + 1) (92 :: 120 :: hexD (b.toNat / 16) :: hexD (b.toNat % 16) :: _) acc = _
          rw [scan_hex (by decide) (by decide), hexV_hexD _ (by omega), hexV_hexD _ (by omega), if_neg (by omega)]
          exact fin _ (ofNat_eq b _ (by omega))
        · have e : quote1 b = [b] := by rw [quote1, if_neg c1, if_neg c2, if_neg c3]
          rw [e]
          show scanL (k + 1) (b :: _) acc = _
          rw [scan_plain (by omega) (by omega)]
          exact fin b rfl
theorem quoteL_inj {a b : List UInt8} (h : quoteL a = quoteL b) : a = b := by
  have h1 := scan_quoted [] a (a.length + b.length + 1) [] (by omega)
  have h2 := scan_quoted [] b (a.length + b.length + 1) [] (by omega)
  have h3 : a.flatMap quote1 ++ [39] = b.flatMap quote1 ++ [39] := (List.cons.inj h).2
  rw [h3, h2] at h1
  simpa using h1.symm
theorem quoteL_len (l : List UInt8) : l.length + 2 ≤ (quoteL l).length ∧ (quoteL l).length ≤ 4 * l.length + 2 := by
  have h := flat_len l
  have h2 : l.length ≤ (l.flatMap quote1).length := by
    clear h
    induction l with
    | nil => simp
    | cons b l ih =>
      have := quote1_len b
      rw [List.flatMap_cons, List.length_append, List.length_cons]; omega
  unfold quoteL
  simp only [List.length_cons, List.length_append, List.length_nil]
  omega
theorem quoteE_of (s : ByteArray) (l : List UInt8) (h : s.data.toList = quoteL l) : quoteE s = (⟨l.toArray⟩, (s.size : Int), decide (l.length ≤ 400)) := by
  have hz : s.size = (quoteL l).length := by rw [← h]; simp
  have hl := quoteL_len l
  have e : scanL (s.size + 1) (s.data.toList.drop 1) [] = some (l, 0) := by
    rw [h]
    have := scan_quoted [] l (s.size + 1) [] (by omega)
    simpa [quoteL] using this
  unfold quoteE
  rw [e]
  simp only [Nat.sub_zero, Int.sub_zero, Int.ofNat_zero, Int.natCast_zero]
  have hx : (s.extract 0 s.size).toList = quoteL l := by rw [ByteArray.extract_zero_size, ByteArray.toList_eq, h]
  rw [hx]
  simp
theorem scanL_left : ∀ (k : Nat) (l acc out : List UInt8) (left : Nat), scanL k l acc = some (out, left) → left < l.length := by
  intro k
  induction k with
  | zero => intro l acc out left h; simp [scanL] at h
  | succ k ih =>
    intro l acc out left h
    match l with
    | [] => simp [scanL] at h
    | b :: l =>
      by_cases c1 : b.toNat = 39
      · rw [scan_close c1] at h
        obtain ⟨-, rfl⟩ := Prod.mk.inj (Option.some.inj h)
        simp
      · by_cases c2 : b.toNat = 92
        · match l with
          | [] => rw [scan_last c2] at h; cases h
          | c :: l =>
            by_cases c3 : c.toNat = 110
            · rw [scan_n c2 c3] at h; have := ih _ _ _ _ h; simp; omega
            · by_cases c4 : c.toNat = 120
              · match l with
                | [] => rw [scan_x c2 c4 (by simp)] at h; cases h
                | [_] => rw [scan_x c2 c4 (by simp)] at h; cases h
                | x :: o :: l =>
                  rw [scan_hex c2 c4] at h
                  split at h
                  · cases h
                  · have := ih _ _ _ _ h; simp; omega
              · rw [scan_other c2 c3 c4] at h; have := ih _ _ _ _ h; simp; omega
        · rw [scan_plain c1 c2] at h; have := ih _ _ _ _ h; simp; omega
/-- What quoteEnd takes for a text in quotes is one. -/
theorem quoteE_yes (s o : ByteArray) (h : quoteE s = (o, (s.size : Int), true)) : o.size ≤ 400 ∧ s.data.toList = quoteL o.data.toList := by
  unfold quoteE at h
  split at h
  · cases (Prod.mk.inj (Prod.mk.inj h).2).2
  · rename_i out left e
    obtain ⟨rfl, h2⟩ := Prod.mk.inj h
    obtain ⟨h3, h4⟩ := Prod.mk.inj h2
    have hl : left = 0 := by omega
    subst hl
    rw [Bool.and_eq_true] at h4
    have h5 : out.length ≤ 400 := of_decide_eq_true h4.1
    have h6 := beq_iff_eq.1 h4.2
    rw [Nat.sub_zero, ByteArray.extract_zero_size, ByteArray.toList_eq] at h6
    exact ⟨by simpa [ByteArray.size] using h5, by rw [← h6]⟩

/-! ### The reference's reading of a text in quotes -/
def scanS : Nat → List UInt8 → List UInt8 → Option (List UInt8 × Nat)
  | 0, _, _ => none
  | _, [], _ => none
  | k + 1, b :: l, acc => if b.toNat = 39 then some (acc, l.length) else if b.toNat = 10 then none else if b.toNat ≠ 92 then scanS k l (acc ++ [b]) else
    match l with
    | [] => none
    | c :: l => if c.toNat = 39 ∨ c.toNat = 92 then scanS k l (acc ++ [c]) else if c.toNat = 110 then scanS k l (acc ++ [10]) else
      match l with
      | h :: o :: l => if c.toNat = 120 ∧ 0 ≤ hexV h ∧ 0 ≤ hexV o then scanS k l (acc ++ [UInt8.ofNat (16 * hexV h + hexV o).toNat]) else none
      | _ => none
theorem scanS_quoted (rest : List UInt8) : ∀ (l : List UInt8) (k : Nat) (acc : List UInt8), l.length < k → scanS k (l.flatMap quote1 ++ 39 :: rest) acc = some (acc ++ l, rest.length) := by
  intro l
  induction l with
  | nil =>
    intro k acc hk
    obtain ⟨k, rfl⟩ : ∃ m, k = m + 1 := ⟨k - 1, by simp at hk; omega⟩
    simp only [List.flatMap_nil, List.nil_append, List.append_nil]
    simp only [scanS]
    rw [if_pos (by decide)]
  | cons b l ih =>
    intro k acc hk
    obtain ⟨k, rfl⟩ : ∃ m, k = m + 1 := ⟨k - 1, by simp at hk; omega⟩
    have hk' : l.length < k := by simp at hk; omega
    have hb := b.toNat_lt
    have fin : ∀ c, c = b → scanS k (l.flatMap quote1 ++ 39 :: rest) (acc ++ [c]) = some (acc ++ b :: l, rest.length) := fun c hc => by
      rw [ih k _ hk', hc]; simp
    rw [List.flatMap_cons, List.append_assoc]
    by_cases c1 : b.toNat = 39 ∨ b.toNat = 92
    · have e : quote1 b = [92, b] := by rw [quote1, if_pos c1]
      rw [e]
      show scanS (k + 1) (92 :: b :: _) acc = _
      simp only [scanS]
      rw [if_neg (by decide), if_neg (by decide), if_neg (by decide), if_pos c1]
      exact fin b rfl
    · by_cases c2 : b.toNat = 10
      · have e : quote1 b = [92, 110] := by rw [quote1, if_neg c1, if_pos c2]
        rw [e]
        show scanS (k + 1) (92 :: 110 :: _) acc = _
        simp only [scanS]
        rw [if_neg (by decide), if_neg (by decide), if_neg (by decide), if_neg (by decide), if_pos (by decide)]
        exact fin 10 (ofNat_eq b 10 c2)
      · by_cases c3 : b.toNat < 32 ∨ 126 < b.toNat
        · have e : quote1 b = [92, 120, hexD (b.toNat / 16), hexD (b.toNat % 16)] := by rw [quote1, if_neg c1, if_neg c2, if_pos c3]
          rw [e]
          show scanS (k + 1) (92 :: 120 :: hexD (b.toNat / 16) :: hexD (b.toNat % 16) :: _) acc = _
          simp only [scanS]
          rw [if_neg (by decide), if_neg (by decide), if_neg (by decide), if_neg (by decide), if_neg (by decide), hexV_hexD _ (by omega), hexV_hexD _ (by omega), if_pos ⟨by decide, by omega, by omega⟩]
          exact fin _ (ofNat_eq b _ (by omega))
        · have e : quote1 b = [b] := by rw [quote1, if_neg c1, if_neg c2, if_neg c3]
          rw [e]
          show scanS (k + 1) (b :: _) acc = _
          simp only [scanS]
          rw [if_neg (by omega), if_neg (by omega), if_pos (by omega)]
          exact fin b rfl
def hexN (n : Nat) : Int := if 48 ≤ n ∧ n ≤ 57 then (n : Int) - 48 else if 97 ≤ n ∧ n ≤ 102 then (n : Int) - 87 else -1
theorem hexV_nat : ∀ n : Nat, n < 256 → hexV (UInt8.ofNat n) = hexN n := by decide +kernel
theorem hexV_eq (b : UInt8) : hexV b = hexN b.toNat := by
  have := hexV_nat b.toNat b.toNat_lt
  rwa [show UInt8.ofNat b.toNat = b by simp] at this
theorem hex_ev (b : UInt8) : Ev (fun k => spec_hexValue.f k (b.toNat : Int)) (hexV b) := by
  have hb := b.toNat_lt
  rw [hexV_eq]
  have n1 : 48 ≤ b.toNat ∧ b.toNat ≤ 57 → hexN b.toNat = (b.toNat : Int) - 48 := fun h => if_pos h
  have n2 : ¬ (48 ≤ b.toNat ∧ b.toNat ≤ 57) → 97 ≤ b.toNat ∧ b.toNat ≤ 102 → hexN b.toNat = (b.toNat : Int) - 87 := fun h k => (if_neg h).trans (if_pos k)
  have n3 : ¬ (48 ≤ b.toNat ∧ b.toNat ≤ 57) → ¬ (97 ≤ b.toNat ∧ b.toNat ≤ 102) → hexN b.toNat = -1 := fun h k => (if_neg h).trans (if_neg k)
  unfold spec_hexValue.f
  by_cases c1 : 48 ≤ b.toNat
  · refine ev_pos (by omega) (ev_succ ?_)
    simp only [spec_hexValue.j0]
    by_cases c2 : b.toNat ≤ 57
    · rw [n1 ⟨c1, c2⟩]
      exact ev_pos (decide_eq_true (by omega)) (ev_some (congrArg some (by omega)))
    · refine ev_neg (by simp; omega) ?_
      by_cases c3 : 97 ≤ b.toNat
      · refine ev_pos (by omega) ?_
        by_cases c4 : b.toNat ≤ 102
        · rw [n2 (by omega) ⟨c3, c4⟩]
          exact ev_pos (by omega) (ev_some (congrArg some (by omega)))
        · rw [n3 (by omega) (by omega)]
          exact ev_neg (by omega) (ev_some rfl)
      · rw [n3 (by omega) (by omega)]
        exact ev_neg (by omega) (ev_some rfl)
  · rw [n3 (by omega) (by omega)]
    refine ev_neg (by omega) (ev_succ ?_)
    simp only [spec_hexValue.j0]
    exact ev_neg (by simp) (ev_neg (by omega) (ev_some rfl))
def natsL (l : List UInt8) : List Int := l.map fun b => (b.toNat : Int)
theorem natsL_snoc (l : List UInt8) (b : UInt8) : natsL l ++ [(b.toNat : Int)] = natsL (l ++ [b]) := by simp [natsL]
theorem strOf_nats (l : List UInt8) : strOfNums (natsL l) = ⟨l.toArray⟩ := ba_ext (by
  rw [nums_list, natsL]
  induction l with
  | nil => rfl
  | cons b l ih => simp only [List.map_cons, ih, ofNat_byte])
def unqR (s : ByteArray) : Option (List UInt8 × Nat) → ByteArray × Int
  | none => (⟨#[]⟩, -1)
  | some (out, left) => (⟨out.toArray⟩, (s.size : Int) - left)
theorem drop_len (s : ByteArray) (i : Nat) : (s.data.toList.drop i).length = s.size - i := by rw [List.length_drop]; simp
theorem unq_from (s : ByteArray) (hs : s.size ≤ 1602) : ∀ (k i : Nat) (acc : List UInt8), s.size ≤ i + k → i ≤ s.size → acc.length ≤ i → Ev (fun n => spec_unquoted.l0 n s (natsL acc) (i : Int)) (unqR s (scanS (k + 1) (s.data.toList.drop i) acc)) := by
  intro k
  induction k with
  | zero =>
    intro i acc h1 h2 h3
    rw [drop_end s i (by omega)]
    refine ev_succ ?_
    simp only [spec_unquoted.l0]
    exact ev_neg (by omega) (ev_some rfl)
  | succ k ih =>
    intro i acc h1 h2 h3
    refine ev_succ ?_
    simp only [spec_unquoted.l0]
    by_cases hlt : i < s.size
    · have hal : ∀ a : List UInt8, a.length ≤ 2000 → (natsL a).length < 140737488355328 := fun a ha => by simp [natsL]; omega
      have w1 : wrap64 ((i : Int) + 1) = ((i + 1 : Nat) : Int) := by rw [w64 (by omega) (by omega)]; omega
      have w2 : wrap64 (((i + 1 : Nat) : Int) + 1) = ((i + 2 : Nat) : Int) := by rw [w64 (by omega) (by omega)]; omega
      have w3 : wrap64 ((i : Int) + 3) = ((i + 3 : Nat) : Int) := by rw [w64 (by omega) (by omega)]; omega
      have w4 : wrap64 ((i : Int) + 2) = ((i + 2 : Nat) : Int) := by rw [w64 (by omega) (by omega)]; omega
      have w5 : wrap64 (((i + 3 : Nat) : Int) + 1) = ((i + 4 : Nat) : Int) := by rw [w64 (by omega) (by omega)]; omega
      rw [drop_at s i hlt, bt_nat s i hlt, w1]
      refine ev_pos (by omega) (ev_pos (by omega) ?_)
      by_cases c1 : (s[i]'hlt).toNat = 39
      · refine ev_pos (by omega) (ev_some (congrArg some ?_))
        simp only [scanS]
        rw [if_pos c1]
        simp only [unqR]
        rw [strOf_nats, drop_len]
        congr 1
        omega
      · refine ev_neg (by omega) ?_
        by_cases c2 : (s[i]'hlt).toNat = 10
        · refine ev_pos (by omega) (ev_some (congrArg some ?_))
          simp only [scanS]
          rw [if_neg c1, if_pos c2]
          rfl
        · refine ev_neg (by omega) ?_
          by_cases c3 : (s[i]'hlt).toNat = 92
          · refine ev_pos (by omega) ?_
            by_cases q1 : i + 1 < s.size
            · rw [drop_at s (i + 1) q1, bt_nat s (i + 1) q1]
              have J4 : ∀ z : Bool, ¬ ((s[i + 1]'q1).toNat = 39 ∨ (s[i + 1]'q1).toNat = 92) → ¬ (s[i + 1]'q1).toNat = 110 → (z = true ↔ ∃ h : i + 3 < s.size, (s[i + 1]'q1).toNat = 120 ∧ 0 ≤ hexV (s[i + 2]'(by omega)) ∧ 0 ≤ hexV (s[i + 3]'h)) →
                  Ev (fun n => spec_unquoted.j4 n s (natsL acc) (i : Int) z) (unqR s (scanS (k + 1 + 1) (s[i]'hlt :: s[i + 1]'q1 :: s.data.toList.drop (i + 1 + 1)) acc)) := by
                intro z n1 n2 hz
                refine ev_succ ?_
                simp only [spec_unquoted.j4, scanS]
                rw [if_neg c1, if_neg c2, if_neg (fun h => h c3), if_neg n1, if_neg n2, w4, w3, w5]
                cases z with
                | true =>
                  obtain ⟨q3, e1, e2, e3⟩ := hz.1 rfl
                  have q2 : i + 2 < s.size := by omega
                  have b2 := hexV_bd (s[i + 2]'q2)
                  have b3 := hexV_bd (s[i + 3]'q3)
                  rw [drop_at s (i + 1 + 1) q2, drop_at s (i + 1 + 1 + 1) q3, bt_nat s (i + 2) q2, bt_nat s (i + 3) q3]
                  show Ev _ (unqR s (if (s[i + 1]'q1).toNat = 120 ∧ 0 ≤ hexV (s[i + 2]'q2) ∧ 0 ≤ hexV (s[i + 3]'q3) then scanS (k + 1) (s.data.toList.drop (i + 4)) (acc ++ [UInt8.ofNat (16 * hexV (s[i + 2]'q2) + hexV (s[i + 3]'q3)).toNat]) else none))
                  rw [if_pos ⟨e1, e2, e3⟩]
                  refine ev_pos rfl (ev_pos (by omega) (ev_pos (by omega) (Ev.bind (hex_ev _) (ev_pos (by omega) (ev_pos (by omega) (Ev.bind (hex_ev _) (ev_pos (hal _ (by omega)) ?_)))))))
                  have hv : (wrap64 (wrap64 (hexV (s[i + 2]'q2) * 16) + hexV (s[i + 3]'q3))) % 256 = (((UInt8.ofNat (16 * hexV (s[i + 2]'q2) + hexV (s[i + 3]'q3)).toNat).toNat : Nat) : Int) := by
                    rw [w64 (n := hexV (s[i + 2]'q2) * 16) (by omega) (by omega), w64 (by omega) (by omega)]
                    simp
                    omega
                  rw [hv, natsL_snoc]
                  exact ih (i + 4) _ (by omega) (by omega) (by simp; omega)
                | false =>
                  refine ev_neg (by simp) (ev_some (congrArg some ?_))
                  by_cases q3 : i + 3 < s.size
                  · have q2 : i + 2 < s.size := by omega
                    rw [drop_at s (i + 1 + 1) q2, drop_at s (i + 1 + 1 + 1) q3]
                    show _ = unqR s (if (s[i + 1]'q1).toNat = 120 ∧ 0 ≤ hexV (s[i + 2]'q2) ∧ 0 ≤ hexV (s[i + 3]'q3) then _ else none)
                    rw [if_neg (fun h => by have := hz.2 ⟨q3, h⟩; cases this)]
                    rfl
                  · have hl : (s.data.toList.drop (i + 1 + 1)).length < 2 := by rw [drop_len]; omega
                    generalize s.data.toList.drop (i + 1 + 1) = l at hl
                    match l, hl with
                    | [], _ => rfl
                    | [_], _ => rfl
              have J3 : ∀ z : Bool, ¬ ((s[i + 1]'q1).toNat = 39 ∨ (s[i + 1]'q1).toNat = 92) → (z = true ↔ (s[i + 1]'q1).toNat = 110) →
                  Ev (fun n => spec_unquoted.j3 n s (natsL acc) (i : Int) z) (unqR s (scanS (k + 1 + 1) (s[i]'hlt :: s[i + 1]'q1 :: s.data.toList.drop (i + 1 + 1)) acc)) := by
                intro z n1 hz
                refine ev_succ ?_
                simp only [spec_unquoted.j3]
                rw [w1, w2, w3, w4, bt_nat s (i + 1) q1]
                by_cases c4 : (s[i + 1]'q1).toNat = 110
                · simp only [scanS]
                  rw [if_neg c1, if_neg c2, if_neg (fun h => h c3), if_neg n1, if_pos c4]
                  refine ev_pos (hz.2 c4) (ev_pos (hal _ (by omega)) ?_)
                  have := ih (i + 2) (acc ++ [10]) (by omega) (by omega) (by simp; omega)
                  rw [← natsL_snoc] at this
                  exact this
                · refine ev_neg (fun h => c4 (hz.1 h)) ?_
                  by_cases q3 : i + 3 < s.size
                  · have q2 : i + 2 < s.size := by omega
                    refine ev_pos (by omega) (ev_pos (by omega) (ev_pos (by omega) ?_))
                    by_cases c5 : (s[i + 1]'q1).toNat = 120
                    · rw [bt_nat s (i + 2) q2, bt_nat s (i + 3) q3]
                      refine ev_pos (by omega) (ev_pos (by omega) (ev_pos (by omega) (Ev.bind (hex_ev _) ?_)))
                      by_cases c6 : hexV (s[i + 2]'q2) ≥ 0
                      · refine ev_pos c6 (ev_pos (by omega) (Ev.bind (hex_ev _) (J4 _ n1 c4 ?_)))
                        simp only [decide_eq_true_eq]
                        exact ⟨fun h => ⟨q3, c5, c6, h⟩, fun ⟨_, _, _, h⟩ => h⟩
                      · refine ev_neg c6 (J4 _ n1 c4 ?_)
                        exact ⟨fun h => (by cases h), fun ⟨_, _, h, _⟩ => absurd h (by omega)⟩
                    · refine ev_neg (by omega) (J4 _ n1 c4 ?_)
                      exact ⟨fun h => (by cases h), fun ⟨_, h, _⟩ => absurd h c5⟩
                  · refine ev_neg (by omega) (J4 _ n1 c4 ?_)
                    exact ⟨fun h => (by cases h), fun ⟨h, _⟩ => absurd h q3⟩
              have J2 : ∀ z : Bool, (z = true ↔ (s[i + 1]'q1).toNat = 39 ∨ (s[i + 1]'q1).toNat = 92) →
                  Ev (fun n => spec_unquoted.j2 n s (natsL acc) (i : Int) z) (unqR s (scanS (k + 1 + 1) (s[i]'hlt :: s[i + 1]'q1 :: s.data.toList.drop (i + 1 + 1)) acc)) := by
                intro z hz
                refine ev_succ ?_
                simp only [spec_unquoted.j2]
                rw [w1, w2, bt_nat s (i + 1) q1]
                by_cases c4 : (s[i + 1]'q1).toNat = 39 ∨ (s[i + 1]'q1).toNat = 92
                · simp only [scanS]
                  rw [if_neg c1, if_neg c2, if_neg (fun h => h c3), if_pos c4]
                  refine ev_pos (hz.2 c4) (ev_pos (by omega) (ev_pos (by omega) (ev_pos (hal _ (by omega)) ?_)))
                  rw [natsL_snoc]
                  exact ih (i + 2) _ (by omega) (by omega) (by simp; omega)
                · refine ev_neg (fun h => c4 (hz.1 h)) (ev_pos (by omega) (ev_pos (by omega) (J3 _ c4 ?_)))
                  simp
                  omega
              refine ev_pos (by omega) (ev_pos (by omega) ?_)
              by_cases c4 : (s[i + 1]'q1).toNat = 39
              · exact ev_pos (by omega) (J2 true (by simp [c4]))
              · exact ev_neg (by omega) (J2 _ (by simp; omega))
            · refine ev_neg (by omega) (ev_succ ?_)
              rw [drop_end s (i + 1) (by omega)]
              have e : unqR s (scanS (k + 1 + 1) [s[i]'hlt] acc) = (⟨#[]⟩, -1) := by
                simp only [scanS]
                rw [if_neg c1, if_neg c2, if_neg (fun h => h c3)]
                rfl
              rw [e]
              simp only [spec_unquoted.j2]
              rw [w1, w2]
              refine ev_neg (by simp) (ev_neg (by omega) (ev_succ ?_))
              simp only [spec_unquoted.j3]
              rw [w1, w2, w3, w4]
              refine ev_neg (by simp) (ev_neg (by omega) (ev_succ ?_))
              simp only [spec_unquoted.j4]
              exact ev_neg (by simp) (ev_some rfl)
          · refine ev_neg (by omega) (ev_pos (hal _ (by omega)) ?_)
            simp only [scanS]
            rw [if_neg c1, if_neg c2, if_pos c3, natsL_snoc]
            exact ih (i + 1) _ (by omega) (by omega) (by simp; omega)
    · rw [drop_end s i (by omega)]
      exact ev_neg (by omega) (ev_some rfl)
def unqS (s : ByteArray) : ByteArray × Int := if 0 < s.size ∧ bt s 0 = 39 then unqR s (scanS (s.size + 1) (s.data.toList.drop 1) []) else (⟨#[]⟩, -1)
theorem unq_ev (s : ByteArray) (hs : s.size ≤ 1602) : Ev (fun k => spec_unquoted.f k s) (unqS s) := by
  unfold spec_unquoted.f unqS
  refine ev_bind1 rfl ?_
  by_cases h0 : s.size = 0
  · rw [if_neg (by omega)]
    refine ev_pos (by omega) (ev_succ ?_)
    simp only [spec_unquoted.j0]
    exact ev_pos trivial (ev_some rfl)
  · refine ev_neg (by omega) (ev_pos (by omega) (ev_succ ?_))
    simp only [spec_unquoted.j0]
    by_cases h : bt s 0 = 39
    · rw [if_pos ⟨by omega, h⟩]
      exact ev_neg (by simp [h]) (unq_from s hs s.size 1 [] (by omega) (by omega) (by simp))
    · rw [if_neg (fun z => h z.2)]
      exact ev_pos (by simp [h]) (ev_some rfl)
theorem unqS_of (s : ByteArray) (l : List UInt8) (h : s.data.toList = quoteL l) : unqS s = (⟨l.toArray⟩, (s.size : Int)) := by
  have hz : s.size = (quoteL l).length := by rw [← h]; simp
  have hl := quoteL_len l
  have h0 : 0 < s.size := by omega
  have hb : bt s 0 = 39 := by
    have e := bt_nat s 0 h0
    have e2 : s[0]'h0 = 39 := by
      have : s.data.toList.drop 0 = s[0]'h0 :: s.data.toList.drop 1 := drop_at s 0 h0
      rw [List.drop_zero, h] at this
      exact (List.cons.inj this).1.symm
    rw [e2] at e
    exact e
  have e : scanS (s.size + 1) (s.data.toList.drop 1) [] = some (l, 0) := by
    rw [h]
    have := scanS_quoted [] l (s.size + 1) [] (by omega)
    simpa [quoteL] using this
  unfold unqS
  rw [if_pos ⟨h0, hb⟩, e]
  simp [unqR]

/-! ### TextUnquote, both -/
/-- The text whose quoted form this is, if there is one. -/
def tunq (q : ByteArray) (r : ByteArray × Bool) : Prop := (r.2 = true ∧ r.1.size ≤ 400 ∧ q.data.toList = quoteL r.1.data.toList) ∨ (r = (⟨#[]⟩, false) ∧ ∀ l : List UInt8, l.length ≤ 400 → q.data.toList ≠ quoteL l)
theorem tunq_det {q : ByteArray} {r t : ByteArray × Bool} (h : tunq q r) (k : tunq q t) : r = t := by
  rcases h with ⟨a, b, c⟩ | ⟨a, b⟩ <;> rcases k with ⟨d, e, f⟩ | ⟨d, e⟩
  · exact Prod.ext (ba_ext (quoteL_inj (c.symm.trans f))) (a.trans d.symm)
  · exact absurd c (e _ (by rw [ba_len]; exact b))
  · exact absurd f (b _ (by rw [ba_len]; exact e))
  · exact a.trans d.symm
theorem quote_size {q : ByteArray} {l : List UInt8} (h : q.data.toList = quoteL l) : q.size = (quoteL l).length := by rw [← ba_len, h]
theorem specTU_ev (q : ByteArray) (hq : q.size ≤ 1048576) : ∃ r, Ev (fun k => spec_TextUnquote.f k q) r ∧ tunq q r := by
  have hv : ∀ s : ByteArray, spec_validText.f s = some (decide ((s.size : Int) ≤ 400)) := fun _ => rfl
  unfold spec_TextUnquote.f
  by_cases h : (q.size : Int) > 1602
  · refine ⟨_, ev_pos h (ev_some rfl), .inr ⟨rfl, fun l hl e => ?_⟩⟩
    have := quoteL_len l
    have := quote_size e
    omega
  · obtain ⟨o, ho⟩ : ∃ o, o = unqS q := ⟨_, rfl⟩
    have E := unq_ev q (by omega)
    rw [← ho] at E
    have no : ∀ {l : List UInt8}, q.data.toList = quoteL l → o = (⟨l.toArray⟩, (q.size : Int)) := fun e => ho.trans (unqS_of q _ e)
    by_cases h2 : o.2 = (q.size : Int)
    · by_cases h3 : (o.1.size : Int) ≤ 400
      · by_cases h4 : (quoteR o.1).toList = q.toList
        · refine ⟨(o.1, true), ev_neg h (Ev.bind E (ev_pos h2 (ev_bind1 (hv _) (ev_pos (decide_eq_true h3) (Ev.bind (specQuote_ev o.1 (by omega)) (ev_pos h4 (ev_some rfl))))))), .inl ⟨rfl, by simp only []; omega, ?_⟩⟩
          rw [ByteArray.toList_eq, ByteArray.toList_eq] at h4
          exact h4.symm
        · refine ⟨(⟨#[]⟩, false), ev_neg h (Ev.bind E (ev_pos h2 (ev_bind1 (hv _) (ev_pos (decide_eq_true h3) (Ev.bind (specQuote_ev o.1 (by omega)) (ev_neg h4 (ev_some rfl))))))), .inr ⟨rfl, fun l hl e => h4 ?_⟩⟩
          rw [no e, ByteArray.toList_eq, ByteArray.toList_eq, e]
          rfl
      · refine ⟨(⟨#[]⟩, false), ev_neg h (Ev.bind E (ev_pos h2 (ev_bind1 (hv _) (ev_neg (by simpa using h3) (ev_some rfl))))), .inr ⟨rfl, fun l hl e => h3 ?_⟩⟩
        rw [no e]
        show ((⟨l.toArray⟩ : ByteArray).size : Int) ≤ 400
        rw [← ba_len]
        simp
        omega
    · refine ⟨(⟨#[]⟩, false), ev_neg h (Ev.bind E (ev_neg h2 (ev_some rfl))), .inr ⟨rfl, fun l hl e => h2 ?_⟩⟩
      rw [no e]
theorem quoteE_size (q : ByteArray) (hq : 0 < q.size) : ∃ o n b, quoteE q = (o, n, b) := ⟨_, _, _, rfl⟩
theorem implTU_ev (q : ByteArray) (hq : q.size ≤ 1048576) : ∃ r, Ev (fun k => impl_TextUnquote.f k q) r ∧ tunq q r := by
  have first : ∀ {l : List UInt8}, q.data.toList = quoteL l → 0 < q.size ∧ bt q 0 = 39 := by
    intro l h
    have hz := quote_size h
    have hl := quoteL_len l
    have h0 : 0 < q.size := by omega
    refine ⟨h0, ?_⟩
    have e2 : q[0]'h0 = 39 := by
      have : q.data.toList.drop 0 = q[0]'h0 :: q.data.toList.drop 1 := drop_at q 0 h0
      rw [List.drop_zero, h] at this
      exact (List.cons.inj this).1.symm
    have e := bt_nat q 0 h0
    rw [e2] at e
    exact e
  unfold impl_TextUnquote.f
  by_cases h0 : q.toList = ([] : List UInt8)
  · refine ⟨(⟨#[]⟩, false), ev_pos h0 (ev_succ ?_), .inr ⟨rfl, fun l hl e => ?_⟩⟩
    · simp only [impl_TextUnquote.j0]
      exact ev_pos trivial (ev_some rfl)
    · rw [ByteArray.toList_eq, e] at h0
      cases h0
  · have hz : 0 < q.size := by
      apply Nat.pos_of_ne_zero
      intro hz
      apply h0
      rw [ByteArray.toList_eq]
      exact List.eq_nil_of_length_eq_zero (by rw [ba_len]; exact hz)
    by_cases h1 : bt q 0 = 39
    · have hf : impl_quoteEnd.f q 0 = some (quoteE q) := by unfold impl_quoteEnd.f; rw [if_pos ⟨rfl, by omega⟩]
      by_cases h2 : (quoteE q).2.2 = true
      · by_cases h3 : (quoteE q).2.1 = (q.size : Int)
        · have e : quoteE q = ((quoteE q).1, (q.size : Int), true) := by rw [← h3, ← h2]
          obtain ⟨z1, z2⟩ := quoteE_yes q _ e
          refine ⟨((quoteE q).1, true), ev_neg h0 (ev_pos (by omega) (ev_succ ?_)), .inl ⟨rfl, z1, z2⟩⟩
          simp only [impl_TextUnquote.j0]
          exact ev_neg (by simp [h1]) (ev_bind1 hf (ev_pos h2 (ev_pos h3 (ev_some rfl))))
        · refine ⟨(⟨#[]⟩, false), ev_neg h0 (ev_pos (by omega) (ev_succ ?_)), .inr ⟨rfl, fun l hl e => h3 ?_⟩⟩
          · simp only [impl_TextUnquote.j0]
            exact ev_neg (by simp [h1]) (ev_bind1 hf (ev_pos h2 (ev_neg h3 (ev_some rfl))))
          · rw [quoteE_of q l e]
      · refine ⟨(⟨#[]⟩, false), ev_neg h0 (ev_pos (by omega) (ev_succ ?_)), .inr ⟨rfl, fun l hl e => h2 ?_⟩⟩
        · simp only [impl_TextUnquote.j0]
          exact ev_neg (by simp [h1]) (ev_bind1 hf (ev_neg h2 (ev_some rfl)))
        · rw [quoteE_of q l e]
          exact decide_eq_true hl
    · refine ⟨(⟨#[]⟩, false), ev_neg h0 (ev_pos (by omega) (ev_succ ?_)), .inr ⟨rfl, fun l hl e => h1 (first e).2⟩⟩
      simp only [impl_TextUnquote.j0]
      exact ev_pos (by simp [h1]) (ev_some rfl)

theorem FnExactTextUnquote : laws_FnExactTextUnquote.Pure := by
  intro q _
  refine Ev.rounds ?_
  unfold laws_FnExactTextUnquote.f
  by_cases hl : (q.size : Int) > 1048576
  · exact ev_pos hl (ev_some rfl)
  obtain ⟨r, h1, p1⟩ := specTU_ev q (by omega)
  obtain ⟨t, h2, p2⟩ := implTU_ev q (by omega)
  obtain rfl := tunq_det p1 p2
  exact ev_neg hl (Ev.bind h1 (Ev.bind h2 (ev_pos rfl (ev_neg (by simp) (ev_some rfl)))))

end Go.Proofs.Ytkhkbbhkhpekcaa.Pure
