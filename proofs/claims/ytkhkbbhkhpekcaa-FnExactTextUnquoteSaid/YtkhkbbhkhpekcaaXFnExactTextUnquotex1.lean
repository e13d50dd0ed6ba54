/- The functions that FnExactTextUnquote uses, as functions of Lean, and that the Go code comes to their answers. Written by a program of this session. -/
import Derived.Test.YtkhkbbhkhpekcaaXFnExactTextUnquotex0
namespace Go.Proofs.Ytkhkbbhkhpekcaa.XFnExactTextUnquote
open Go.RowKit Go.Proofs.YtkhkbbhkhpekcaaW.PrintWords Go.Proofs.YtkhkbbhkhpekcaaW.PrintLast Go.Proofs.YtkhkbbhkhpekcaaW.PrintMore
attribute [local go_sem] max2_int min2_int max_two min_two max_three min_three max_four min_four   -- for this text's walks alone
set_option linter.unusedVariables false
set_option linter.unusedSimpArgs false

/-! ### impl_quoted: function 35 -/
def hexD (n : Nat) : UInt8 := ([48, 49, 50, 51, 52, 53, 54, 55, 56, 57, 97, 98, 99, 100, 101, 102] : List UInt8).getD n 0
/-- A byte in a text in quotes. -/
def quote1 (b : UInt8) : List UInt8 :=
  if b.toNat = 39 ∨ b.toNat = 92 then [92, b] else if b.toNat = 10 then [92, 110] else if b.toNat < 32 ∨ 126 < b.toNat then [92, 120, hexD (b.toNat / 16), hexD (b.toNat % 16)] else [b]
theorem quote1_len (b : UInt8) : (quote1 b).length ≤ 4 ∧ 1 ≤ (quote1 b).length := by
  unfold quote1; split
  · simp
  · split
    · simp
    · split <;> simp
def quoteL (l : List UInt8) : List UInt8 := 39 :: (l.flatMap quote1 ++ [39])
theorem quote_take (s : ByteArray) (k : Nat) (h : k < s.size) : (s.data.toList.take (k + 1)).flatMap quote1 = (s.data.toList.take k).flatMap quote1 ++ quote1 (s[k]'h) := by
  rw [List.take_succ_eq_append_getElem (by simpa using h), List.flatMap_append]
  simp
  rfl
theorem flat_len : ∀ l : List UInt8, (l.flatMap quote1).length ≤ 4 * l.length
  | [] => by simp
  | b :: l => by
    have := flat_len l
    have := quote1_len b
    rw [List.flatMap_cons, List.length_append, List.length_cons]; omega
def impl_quoted.f (a0 : ByteArray) : Option ByteArray := if a0.size ≤ 1099511627776 then some ⟨(quoteL a0.data.toList).toArray⟩ else none
theorem str2 (x y : UInt8) : Lib.strCells ⟨#[x, y]⟩ = [Value.int .u8 (x.toNat : Int), Value.int .u8 (y.toNat : Int)] := by rw [Lib.strCells_eq]; rfl
theorem hexD_at : ∀ (n : Nat) (h : n < 16), ((⟨#[48, 49, 50, 51, 52, 53, 54, 55, 56, 57, 97, 98, 99, 100, 101, 102]⟩ : ByteArray)[n]'h) = hexD n := by decide
theorem bc1 (acc : List UInt8) (b : UInt8) : Lib.byteCells acc ++ [Value.int .u8 (b.toNat : Int)] = Lib.byteCells (acc ++ [b]) := by simp [Lib.byteCells]
set_option maxHeartbeats 8000000 in
set_option maxRecDepth 100000 in
theorem impl_quoted.calls (a0 : ByteArray) (r : ByteArray) (w : World) (h : impl_quoted.f a0 = some r) :
    Calls Try.prog 35 #[.string a0] w fun e w' => e = .returned (.string r) ∧ Below w.heap.size w w' := by
  unfold impl_quoted.f at h
  by_cases hs : a0.size ≤ 1099511627776
  · rw [if_pos hs] at h
    obtain rfl := Option.some.inj h
    clear h
    have HI := Aside0.mk (Bld.fresh_at (T := 79) (e := 5) (B := w.heap.size) (blk_new w (.cells #[.pointer none, .slice none 0 0] 79)) (Nat.le_refl _))
    have HB := Aside0.mk ((Below.refl w.heap.size w).alloc (Nat.le_refl _) (.cells #[.pointer none, .slice none 0 0] 79))
    go_enter Try.func35, Try.ntmps35
    go_wp2_with (go_at_call 63; refine (Bld.write_byte w.heap.size w.heap.size [] 39 _ HI.out (by simp) (below_size HB.out)).mono ?_; rintro e W1 ⟨rfl, h1, b1, _⟩; have HI1 := Aside0.mk (show Lib.IsBuilderF 79 5 w.heap.size w.heap.size (Lib.byteCells [39]) W1 from Or.inr h1); have HB1 := Aside0.mk (Below.trans HB.out b1); clear h1 b1)
    go_loopw [4, 5, 9] (fun v4 v5 v9 wr => ∃ (k : Nat), k ≤ a0.size ∧ v9 = .int .i64 (k : Int) ∧ Aside0 (Lib.IsBuilderF 79 5 w.heap.size w.heap.size (Lib.byteCells (39 :: (a0.data.toList.take k).flatMap quote1)) wr) ∧ Aside0 (Below w.heap.size w wr)) (fun _ _ v9 _ => a0.size - (intOf v9).toNat)
    case atStart => exact ⟨0, Nat.zero_le _, rfl, HI1, HB1⟩
    case round =>
      clear HI HB HI1 HB1
      obtain ⟨k, hk, rfl, HI, HB⟩ := hrel
      have HN : Aside0 ((39 :: (a0.data.toList.take k).flatMap quote1 : List UInt8).length ≤ 1 + 4 * k) := ⟨by
        have := flat_len (a0.data.toList.take k)
        have h2 : (a0.data.toList.take k).length ≤ k := List.length_take_le _ _
        rw [List.length_cons]; omega⟩
      by_cases hlt : k < a0.size
      · have hlt' : decide ((k : Int) < (a0.size : Int)) = true := decide_eq_true (by omega)
        have HT := Aside0.mk (quote_take a0 k hlt)
        have h0 := (a0[k]'hlt).toNat_lt
        have n2 : (a0[k]'hlt).toNat / 16 < 16 := by omega
        have n3 : (a0[k]'hlt).toNat % 16 < 16 := by omega
        have N2 := Aside0.mk n2
        have N3 := Aside0.mk n3
        by_cases c1 : (a0[k]'hlt).toNat = 39 ∨ (a0[k]'hlt).toNat = 92
        · have HQ : Aside0 (quote1 (a0[k]'hlt) = [92, a0[k]'hlt]) := ⟨by rw [quote1, if_pos c1]⟩
          have C1 := Aside0.mk c1
          by_cases c2 : (a0[k]'hlt).toNat = 39
          · have b1 : (((a0[k]'hlt).toNat : Int) == 39) = true := by simp [c2]
            clear c1 c2 n2 n3 h0
            go_wp2_with (first
            | (go_at_call 63; refine (Bld.write_byte w.heap.size w.heap.size _ _ _ HI.out (by have h4_ := HN.out; simp only [List.length_append, Lib.byteCells_length, List.length_cons, List.length_nil] at h4_ ⊢; omega) (below_size HB.out)).mono ?_; rintro e W1 ⟨rfl, h1, b1, _⟩; have n0_ := Aside0.mk (show Lib.IsBuilderF 79 5 w.heap.size w.heap.size _ W1 from Or.inr h1); have n1_ := Aside0.mk (Below.trans HB.out b1); clear HI HB h1 b1; have HI := n0_; have HB := n1_; clear n0_ n1_)
            | (go_at_call 64; refine (Bld.write_string w.heap.size w.heap.size _ _ _ HI.out (by have h4_ := HN.out; simp only [Lib.byteCells_length, List.length_cons] at h4_ ⊢; show _ + 2 ≤ _; omega) (below_size HB.out)).mono ?_; rintro e W1 ⟨rfl, h1, b1, _⟩; rw [str2] at h1; have n0_ := Aside0.mk (show Lib.IsBuilderF 79 5 w.heap.size w.heap.size _ W1 from Or.inr h1); have n1_ := Aside0.mk (Below.trans HB.out b1); clear HI HB h1 b1; have HI := n0_; have HB := n1_; clear n0_ n1_))
            go_roundw
            case rel =>
              refine ⟨k + 1, by omega, by go_num, ⟨?_⟩, HB⟩
              have hi := HI.out
              rw [HT.out, HQ.out]
              simpa [Lib.byteCells] using hi
            case measure => simp [intOf]; omega
          · have b1 : (((a0[k]'hlt).toNat : Int) == 39) = false := by simp; omega
            have b2 : (((a0[k]'hlt).toNat : Int) == 92) = true := by simp; omega
            clear c1 c2 n2 n3 h0
            go_wp2_with (first
            | (go_at_call 63; refine (Bld.write_byte w.heap.size w.heap.size _ _ _ HI.out (by have h4_ := HN.out; simp only [List.length_append, Lib.byteCells_length, List.length_cons, List.length_nil] at h4_ ⊢; omega) (below_size HB.out)).mono ?_; rintro e W1 ⟨rfl, h1, b1, _⟩; have n0_ := Aside0.mk (show Lib.IsBuilderF 79 5 w.heap.size w.heap.size _ W1 from Or.inr h1); have n1_ := Aside0.mk (Below.trans HB.out b1); clear HI HB h1 b1; have HI := n0_; have HB := n1_; clear n0_ n1_)
            | (go_at_call 64; refine (Bld.write_string w.heap.size w.heap.size _ _ _ HI.out (by have h4_ := HN.out; simp only [Lib.byteCells_length, List.length_cons] at h4_ ⊢; show _ + 2 ≤ _; omega) (below_size HB.out)).mono ?_; rintro e W1 ⟨rfl, h1, b1, _⟩; rw [str2] at h1; have n0_ := Aside0.mk (show Lib.IsBuilderF 79 5 w.heap.size w.heap.size _ W1 from Or.inr h1); have n1_ := Aside0.mk (Below.trans HB.out b1); clear HI HB h1 b1; have HI := n0_; have HB := n1_; clear n0_ n1_))
            go_roundw
            case rel =>
              refine ⟨k + 1, by omega, by go_num, ⟨?_⟩, HB⟩
              have hi := HI.out
              rw [HT.out, HQ.out]
              simpa [Lib.byteCells] using hi
            case measure => simp [intOf]; omega
        · have b1 : (((a0[k]'hlt).toNat : Int) == 39) = false := by simp; omega
          have b2 : (((a0[k]'hlt).toNat : Int) == 92) = false := by simp; omega
          by_cases c3 : (a0[k]'hlt).toNat = 10
          · have HQ : Aside0 (quote1 (a0[k]'hlt) = [92, 110]) := ⟨by rw [quote1, if_neg c1, if_pos c3]⟩
            have b3 : (((a0[k]'hlt).toNat : Int) == 10) = true := by simp [c3]
            clear c1 c3 n2 n3 h0
            go_wp2_with (first
            | (go_at_call 63; refine (Bld.write_byte w.heap.size w.heap.size _ _ _ HI.out (by have h4_ := HN.out; simp only [List.length_append, Lib.byteCells_length, List.length_cons, List.length_nil] at h4_ ⊢; omega) (below_size HB.out)).mono ?_; rintro e W1 ⟨rfl, h1, b1, _⟩; have n0_ := Aside0.mk (show Lib.IsBuilderF 79 5 w.heap.size w.heap.size _ W1 from Or.inr h1); have n1_ := Aside0.mk (Below.trans HB.out b1); clear HI HB h1 b1; have HI := n0_; have HB := n1_; clear n0_ n1_)
            | (go_at_call 64; refine (Bld.write_string w.heap.size w.heap.size _ _ _ HI.out (by have h4_ := HN.out; simp only [Lib.byteCells_length, List.length_cons] at h4_ ⊢; show _ + 2 ≤ _; omega) (below_size HB.out)).mono ?_; rintro e W1 ⟨rfl, h1, b1, _⟩; rw [str2] at h1; have n0_ := Aside0.mk (show Lib.IsBuilderF 79 5 w.heap.size w.heap.size _ W1 from Or.inr h1); have n1_ := Aside0.mk (Below.trans HB.out b1); clear HI HB h1 b1; have HI := n0_; have HB := n1_; clear n0_ n1_))
            go_roundw
            case rel =>
              refine ⟨k + 1, by omega, by go_num, ⟨?_⟩, HB⟩
              have hi := HI.out
              rw [HT.out, HQ.out]
              simpa [Lib.byteCells] using hi
            case measure => simp [intOf]; omega
          · have b3 : (((a0[k]'hlt).toNat : Int) == 10) = false := by simp; omega
            by_cases c4 : (a0[k]'hlt).toNat < 32 ∨ 126 < (a0[k]'hlt).toNat
            · have HQ : Aside0 (quote1 (a0[k]'hlt) = [92, 120, hexD ((a0[k]'hlt).toNat / 16), hexD ((a0[k]'hlt).toNat % 16)]) := ⟨by rw [quote1, if_neg c1, if_neg c3, if_pos c4]⟩
              by_cases c5 : (a0[k]'hlt).toNat < 32
              · have b4 : decide (((a0[k]'hlt).toNat : Int) < 32) = true := decide_eq_true (by omega)
                clear c1 c3 c4 c5
                go_wp2_with (first
            | (go_at_call 63; refine (Bld.write_byte w.heap.size w.heap.size _ _ _ HI.out (by have h4_ := HN.out; simp only [List.length_append, Lib.byteCells_length, List.length_cons, List.length_nil] at h4_ ⊢; omega) (below_size HB.out)).mono ?_; rintro e W1 ⟨rfl, h1, b1, _⟩; have n0_ := Aside0.mk (show Lib.IsBuilderF 79 5 w.heap.size w.heap.size _ W1 from Or.inr h1); have n1_ := Aside0.mk (Below.trans HB.out b1); clear HI HB h1 b1; have HI := n0_; have HB := n1_; clear n0_ n1_)
            | (go_at_call 64; refine (Bld.write_string w.heap.size w.heap.size _ _ _ HI.out (by have h4_ := HN.out; simp only [Lib.byteCells_length, List.length_cons] at h4_ ⊢; show _ + 2 ≤ _; omega) (below_size HB.out)).mono ?_; rintro e W1 ⟨rfl, h1, b1, _⟩; rw [str2] at h1; have n0_ := Aside0.mk (show Lib.IsBuilderF 79 5 w.heap.size w.heap.size _ W1 from Or.inr h1); have n1_ := Aside0.mk (Below.trans HB.out b1); clear HI HB h1 b1; have HI := n0_; have HB := n1_; clear n0_ n1_))
                go_roundw
                case rel =>
                  refine ⟨k + 1, by omega, by go_num, ⟨?_⟩, HB⟩
                  have hi := HI.out
                  rw [hexD_at _ N2.out, hexD_at _ N3.out] at hi
                  rw [HT.out, HQ.out]
                  simpa [Lib.byteCells] using hi
                case measure => simp [intOf]; omega
              · have b4 : decide (((a0[k]'hlt).toNat : Int) < 32) = false := decide_eq_false (by omega)
                have b5 : decide (126 < ((a0[k]'hlt).toNat : Int)) = true := decide_eq_true (by omega)
                clear c1 c3 c4 c5
                go_wp2_with (first
            | (go_at_call 63; refine (Bld.write_byte w.heap.size w.heap.size _ _ _ HI.out (by have h4_ := HN.out; simp only [List.length_append, Lib.byteCells_length, List.length_cons, List.length_nil] at h4_ ⊢; omega) (below_size HB.out)).mono ?_; rintro e W1 ⟨rfl, h1, b1, _⟩; have n0_ := Aside0.mk (show Lib.IsBuilderF 79 5 w.heap.size w.heap.size _ W1 from Or.inr h1); have n1_ := Aside0.mk (Below.trans HB.out b1); clear HI HB h1 b1; have HI := n0_; have HB := n1_; clear n0_ n1_)
            | (go_at_call 64; refine (Bld.write_string w.heap.size w.heap.size _ _ _ HI.out (by have h4_ := HN.out; simp only [Lib.byteCells_length, List.length_cons] at h4_ ⊢; show _ + 2 ≤ _; omega) (below_size HB.out)).mono ?_; rintro e W1 ⟨rfl, h1, b1, _⟩; rw [str2] at h1; have n0_ := Aside0.mk (show Lib.IsBuilderF 79 5 w.heap.size w.heap.size _ W1 from Or.inr h1); have n1_ := Aside0.mk (Below.trans HB.out b1); clear HI HB h1 b1; have HI := n0_; have HB := n1_; clear n0_ n1_))
                go_roundw
                case rel =>
                  refine ⟨k + 1, by omega, by go_num, ⟨?_⟩, HB⟩
                  have hi := HI.out
                  rw [hexD_at _ N2.out, hexD_at _ N3.out] at hi
                  rw [HT.out, HQ.out]
                  simpa [Lib.byteCells] using hi
                case measure => simp [intOf]; omega
            · have HQ : Aside0 (quote1 (a0[k]'hlt) = [a0[k]'hlt]) := ⟨by rw [quote1, if_neg c1, if_neg c3, if_neg c4]⟩
              have b4 : decide (((a0[k]'hlt).toNat : Int) < 32) = false := decide_eq_false (by omega)
              have b5 : decide (126 < ((a0[k]'hlt).toNat : Int)) = false := decide_eq_false (by omega)
              clear c1 c3 c4 n2 n3 h0
              go_wp2_with (first
            | (go_at_call 63; refine (Bld.write_byte w.heap.size w.heap.size _ _ _ HI.out (by have h4_ := HN.out; simp only [List.length_append, Lib.byteCells_length, List.length_cons, List.length_nil] at h4_ ⊢; omega) (below_size HB.out)).mono ?_; rintro e W1 ⟨rfl, h1, b1, _⟩; have n0_ := Aside0.mk (show Lib.IsBuilderF 79 5 w.heap.size w.heap.size _ W1 from Or.inr h1); have n1_ := Aside0.mk (Below.trans HB.out b1); clear HI HB h1 b1; have HI := n0_; have HB := n1_; clear n0_ n1_)
            | (go_at_call 64; refine (Bld.write_string w.heap.size w.heap.size _ _ _ HI.out (by have h4_ := HN.out; simp only [Lib.byteCells_length, List.length_cons] at h4_ ⊢; show _ + 2 ≤ _; omega) (below_size HB.out)).mono ?_; rintro e W1 ⟨rfl, h1, b1, _⟩; rw [str2] at h1; have n0_ := Aside0.mk (show Lib.IsBuilderF 79 5 w.heap.size w.heap.size _ W1 from Or.inr h1); have n1_ := Aside0.mk (Below.trans HB.out b1); clear HI HB h1 b1; have HI := n0_; have HB := n1_; clear n0_ n1_))
              go_roundw
              case rel =>
                refine ⟨k + 1, by omega, by go_num, ⟨?_⟩, HB⟩
                have hi := HI.out
                rw [HT.out, HQ.out]
                simpa [Lib.byteCells] using hi
              case measure => simp [intOf]; omega
      · have hlt' : decide ((k : Int) < (a0.size : Int)) = false := decide_eq_false (by omega)
        have hkl : k = a0.size := by omega
        have HF : Aside0 (quoteL a0.data.toList = 39 :: (a0.data.toList.take k).flatMap quote1 ++ [39]) := ⟨by rw [List.take_of_length_le (by simp; omega)]; rfl⟩
        go_wp2_with (first
          | (go_at_call 63; refine (Bld.write_byte w.heap.size w.heap.size _ 39 _ HI.out (by rw [Lib.byteCells_length]; have := HN.out; omega) (below_size HB.out)).mono ?_; rintro e W1 ⟨rfl, h1, b1, _⟩; have HI1 := Aside0.mk (show Lib.IsBuilderF 79 5 w.heap.size w.heap.size (Lib.byteCells (quoteL a0.data.toList)) W1 by rw [HF.out, Lib.byteCells_append]; exact Or.inr h1); have HB1 := Aside0.mk (Below.trans HB.out b1); clear h1 b1)
          | (go_at_call 65; refine (Try.Builder_String_any_k w.heap.size w.heap.size _ _ HI1.out (below_size HB1.out)).mono ?_; rintro e W2 ⟨rfl, _, b1, _⟩; have HB2 := Aside0.mk (Below.trans HB1.out b1); clear b1))
        go_ret
        exact ⟨rfl, HB2.out⟩
  · rw [if_neg hs] at h; cases h

/-! ### impl_quoteEnd: function 38 -/
/-- The number of a hexadecimal digit, or -1. -/
def hexV (b : UInt8) : Int := Lib.indexByte [48, 49, 50, 51, 52, 53, 54, 55, 56, 57, 97, 98, 99, 100, 101, 102] b
theorem indexByte_bd (c : UInt8) : ∀ l : List UInt8, -1 ≤ Lib.indexByte l c ∧ Lib.indexByte l c < l.length
  | [] => by simp [Lib.indexByte]
  | b :: l => by
    have ih := indexByte_bd c l
    unfold Lib.indexByte
    split
    · simp
    · split
      · simp
        omega
      · rename_i h
        have : Lib.indexByte l c ≠ -1 := by simpa using h
        simp
        omega
theorem hexV_bd (b : UInt8) : -1 ≤ hexV b ∧ hexV b < 16 := indexByte_bd b _
set_option maxRecDepth 100000 in
def scanL : Nat → List UInt8 → List UInt8 → Option (List UInt8 × Nat)
  | 0, _, _ => none
  | _, [], _ => none
  | k + 1, b :: l, acc =>
    if b.toNat = 39 then some (acc, l.length) else if b.toNat ≠ 92 then scanL k l (acc ++ [b]) else
      match l with
      | [] => none
      | c :: l => if c.toNat = 110 then scanL k l (acc ++ [10]) else if c.toNat = 120 then
          (match l with
          | h :: o :: l => if hexV h < 0 ∨ hexV o < 0 then none else scanL k l (acc ++ [UInt8.ofNat (16 * hexV h + hexV o).toNat])
          | _ => none) else scanL k l (acc ++ [c])
theorem scan_close {k : Nat} {b : UInt8} {l acc : List UInt8} (h : b.toNat = 39) : scanL (k + 1) (b :: l) acc = some (acc, l.length) := by simp only [scanL]; rw [if_pos h]
theorem scan_plain {k : Nat} {b : UInt8} {l acc : List UInt8} (h : ¬ b.toNat = 39) (h2 : ¬ b.toNat = 92) : scanL (k + 1) (b :: l) acc = scanL k l (acc ++ [b]) := by simp only [scanL]; rw [if_neg h, if_pos h2]
theorem scan_last {k : Nat} {b : UInt8} {acc : List UInt8} (h2 : b.toNat = 92) : scanL (k + 1) [b] acc = none := by simp only [scanL]; rw [if_neg (by omega), if_neg (fun z => z h2)]
theorem scan_n {k : Nat} {b c : UInt8} {l acc : List UInt8} (h2 : b.toNat = 92) (h : c.toNat = 110) : scanL (k + 1) (b :: c :: l) acc = scanL k l (acc ++ [10]) := by simp only [scanL]; rw [if_neg (by omega), if_neg (fun z => z h2), if_pos h]
theorem scan_other {k : Nat} {b c : UInt8} {l acc : List UInt8} (h2 : b.toNat = 92) (h : ¬ c.toNat = 110) (h3 : ¬ c.toNat = 120) : scanL (k + 1) (b :: c :: l) acc = scanL k l (acc ++ [c]) := by simp only [scanL]; rw [if_neg (by omega), if_neg (fun z => z h2), if_neg h, if_neg h3]
theorem scan_x {k : Nat} {b c : UInt8} {l acc : List UInt8} (h2 : b.toNat = 92) (h3 : c.toNat = 120) (hl : l.length < 2) : scanL (k + 1) (b :: c :: l) acc = none := by
  simp only [scanL]
  rw [if_neg (by omega), if_neg (fun z => z h2), if_neg (by omega), if_pos h3]
  match l, hl with
  | [], _ => rfl
  | [_], _ => rfl
theorem scan_hex {k : Nat} {b c h o : UInt8} {l acc : List UInt8} (h2 : b.toNat = 92) (h3 : c.toNat = 120) : scanL (k + 1) (b :: c :: h :: o :: l) acc = if hexV h < 0 ∨ hexV o < 0 then none else scanL k l (acc ++ [UInt8.ofNat (16 * hexV h + hexV o).toNat]) := by
  simp only [scanL]
  rw [if_neg (by omega), if_neg (fun z => z h2), if_neg (by omega), if_pos h3]
/-- What quoteEnd answers at the first place. -/
def quoteE (s : ByteArray) : ByteArray × Int × Bool :=
  match scanL (s.size + 1) (s.data.toList.drop 1) [] with
  | none => (⟨#[]⟩, 0, false)
  | some (out, left) => (⟨out.toArray⟩, (s.size : Int) - left, decide (out.length ≤ 400) && (quoteL out == (s.extract 0 (s.size - left)).toList))
theorem quoteE_none {s : ByteArray} (h : scanL (s.size + 1) (s.data.toList.drop 1) [] = none) : quoteE s = (⟨#[]⟩, 0, false) := by unfold quoteE; rw [h]
def impl_quoteEnd.f (a0 : ByteArray) (a1 : Int) : Option (ByteArray × Int × Bool) := if a1 = 0 ∧ a0.size ≤ 1099511627776 then some (quoteE a0) else none
theorem drop_at (s : ByteArray) (i : Nat) (h : i < s.size) : s.data.toList.drop i = s[i]'h :: s.data.toList.drop (i + 1) := by
  rw [List.drop_eq_getElem_cons (by simpa using h)]; rfl
theorem drop_end (s : ByteArray) (i : Nat) (h : s.size ≤ i) : s.data.toList.drop i = [] := List.drop_of_length_le (by simpa using h)
set_option maxHeartbeats 8000000 in
set_option maxRecDepth 100000 in
theorem impl_quoteEnd.calls (a0 : ByteArray) (a1 : Int) (r1 : ByteArray) (r2 : Int) (r3 : Bool) (w : World) (h : impl_quoteEnd.f a0 a1 = some (r1, r2, r3)) :
    Calls Try.prog 38 #[.string a0, .int .i64 a1] w fun e w' => e = .returned (.tuple #[.string r1, .int .i64 r2, .bool r3]) ∧ Below w.heap.size w w' := by
  unfold impl_quoteEnd.f at h
  by_cases hs : a1 = 0 ∧ a0.size ≤ 1099511627776
  · rw [if_pos hs] at h
    obtain ⟨rfl, hs⟩ := hs
    have HQ := Aside0.mk (Option.some.inj h)
    clear h
    have HI := Aside0.mk (Bld.fresh_at (T := 79) (e := 5) (B := w.heap.size) (blk_new w (.cells #[.pointer none, .slice none 0 0] 79)) (Nat.le_refl _))
    have HB := Aside0.mk ((Below.refl w.heap.size w).alloc (Nat.le_refl _) (.cells #[.pointer none, .slice none 0 0] 79))
    go_enter Try.func38, Try.ntmps38
    go_wp2_with fail
    go_loopw [8, 9, 10, 11] (fun v8 v9 v10 v11 wr => ∃ (i k : Nat) (acc : List UInt8), v8 = .int .i64 (i : Int) ∧ 1 ≤ i ∧ i ≤ a0.size + 4 ∧ acc.length ≤ i ∧ a0.size < i + k ∧ Aside0 (scanL k (a0.data.toList.drop i) acc = scanL (a0.size + 1) (a0.data.toList.drop 1) []) ∧ Aside0 (Lib.IsBuilderF 79 5 w.heap.size w.heap.size (Lib.byteCells acc) wr) ∧ Aside0 (Below w.heap.size w wr)) (fun v8 _ _ _ _ => a0.size - (intOf v8).toNat)
    case atStart => exact ⟨1, a0.size + 1, [], rfl, by omega, by omega, by simp, by omega, ⟨rfl⟩, HI, HB⟩
    case round =>
      clear HI HB
      obtain ⟨i, k, acc, rfl, hi1, hi4, hal, hk, HS, HI, HB⟩ := hrel
      by_cases hlt : i < a0.size
      · have hlt' : decide ((i : Int) < (a0.size : Int)) = true := decide_eq_true (by omega)
        obtain ⟨k, rfl⟩ : ∃ k', k = k' + 1 := ⟨k - 1, by omega⟩
        have HD := Aside0.mk (drop_at a0 i hlt)
        by_cases c1 : (a0[i]'hlt).toNat = 39
        · have b1 : (((a0[i]'hlt).toNat : Int) == 39) = true := by simp [c1]
          have C1 := Aside0.mk c1
          clear c1
          go_wp2_with (go_at_call 65; refine (Try.Builder_String_any_k w.heap.size w.heap.size acc _ HI.out (below_size HB.out)).mono ?_; rintro e W1 ⟨rfl, _, b1, _⟩; have HB1 := Aside0.mk (Below.trans HB.out b1); clear b1)
          have hz : (⟨acc.toArray⟩ : ByteArray).size = acc.length := by simp [ByteArray.size]
          have HE : Aside0 (quoteE a0 = (⟨acc.toArray⟩, (i : Int) + 1, decide (acc.length ≤ 400) && (quoteL acc == (a0.extract 0 (i + 1)).toList))) := ⟨by
            have h1 := HS.out
            have h2 : (a0[i]'hlt).toNat = 39 := C1.out
            rw [HD.out] at h1
            rw [scan_close h2, List.length_drop, Array.length_toList] at h1
            have h3 : a0.data.size = a0.size := rfl
            unfold quoteE
            rw [← h1]
            simp only
            rw [h3, show a0.size - (a0.size - (i + 1)) = i + 1 by omega, show (a0.size : Int) - ((a0.size - (i + 1) : Nat) : Int) = (i : Int) + 1 by omega]⟩
          have HZ := Aside0.mk hz
          have HQ2 : Aside0 (impl_quoted.f (⟨acc.toArray⟩ : ByteArray) = some ⟨(quoteL acc).toArray⟩) := ⟨by unfold impl_quoted.f; rw [if_pos (by omega)]⟩
          clear hz
          generalize (⟨acc.toArray⟩ : ByteArray) = o at *
          by_cases c4 : acc.length ≤ 400
          · have b4 : decide ((o.size : Int) ≤ 400) = true := decide_eq_true (by have := HZ.out; omega)
            have w1 : IntKind.i64.wrap ((i : Int) + 1) = (i : Int) + 1 := Go.IntWalk.i64_in _ (by omega)
            have g1 : (0 : Int) ≤ (i : Int) + 1 := by omega
            have g2 : (i : Int) + 1 ≤ (a0.size : Int) := by omega
            go_region_held3 (fun w' => True) (trivial) (first | (go_at_call 35; (with_reducible refine (impl_quoted.calls o _ _ HQ2.out).mono ?_); rintro e W2 ⟨rfl, hb2⟩; have HB2 := Aside0.mk (below_step (below_drew1 HB1.out) hb2); clear hb2))
            go_wp2_with fail
            go_ret3
            have h1 := HQ.out
            rw [HE.out, decide_eq_true c4, Bool.true_and] at h1
            obtain ⟨rfl, h2⟩ := Prod.mk.inj h1
            obtain ⟨rfl, rfl⟩ := Prod.mk.inj h2
            exact ⟨rfl, HB2.out⟩
          · have b4 : decide ((o.size : Int) ≤ 400) = false := decide_eq_false (by have := HZ.out; omega)
            go_quiet (fail)
            go_wp2_with fail
            go_ret3
            have h1 := HQ.out
            rw [HE.out, decide_eq_false c4, Bool.false_and] at h1
            obtain ⟨rfl, h2⟩ := Prod.mk.inj h1
            obtain ⟨rfl, rfl⟩ := Prod.mk.inj h2
            exact ⟨rfl, pw_below_drewN HB1.out _⟩
        · have N1 := Aside0.mk c1
          have b1 : (((a0[i]'hlt).toNat : Int) == 39) = false := by simp; omega
          by_cases c2 : (a0[i]'hlt).toNat = 92
          · have C2 := Aside0.mk c2
            have b2 : (((a0[i]'hlt).toNat : Int) != 92) = false := by simp; omega
            clear c1 c2
            by_cases hq1 : i + 1 < a0.size
            · have d1 : decide ((a0.size : Int) ≤ (i : Int) + 1) = false := decide_eq_false (by omega)
              have HD1 := Aside0.mk (drop_at a0 (i + 1) hq1)
              have e1 : ((i : Int) + 1).toNat = i + 1 := by omega
              by_cases c3 : (a0[i + 1]'hq1).toNat = 110
              · have C3 := Aside0.mk c3
                have b3 : (((a0[i + 1]'hq1).toNat : Int) == 110) = true := by simp [c3]
                clear c3
                go_wp2_with (go_at_call 63; refine (Bld.write_byte w.heap.size w.heap.size (Lib.byteCells acc) 10 _ HI.out (by rw [Lib.byteCells_length]; omega) (below_size HB.out)).mono ?_; rintro e W1 ⟨rfl, h1, b1, _⟩; have HI1 := Aside0.mk (show Lib.IsBuilderF 79 5 w.heap.size w.heap.size (Lib.byteCells (acc ++ [10])) W1 by rw [Lib.byteCells_append]; exact Or.inr h1); have HB1 := Aside0.mk (Below.trans HB.out b1); clear h1 b1)
                go_roundw
                case rel => exact ⟨i + 2, k, acc ++ [10], by go_num, by omega, by omega, by simp; omega, by omega, ⟨by have h1 := HS.out; rw [HD.out, HD1.out, scan_n C2.out C3.out] at h1; exact h1⟩, HI1, HB1⟩
                case measure => simp [intOf]; omega
              · have N3 := Aside0.mk c3
                have b3 : (((a0[i + 1]'hq1).toNat : Int) == 110) = false := by simp; omega
                by_cases c4 : (a0[i + 1]'hq1).toNat = 120
                · have C4 := Aside0.mk c4
                  have b4 : (((a0[i + 1]'hq1).toNat : Int) == 120) = true := by simp [c4]
                  clear c3 c4
                  by_cases h3 : i + 3 < a0.size
                  · have d3 : decide ((a0.size : Int) ≤ (i : Int) + 3) = false := decide_eq_false (by omega)
                    have h2 : i + 2 < a0.size := by omega
                    have HD2 := Aside0.mk (drop_at a0 (i + 2) h2)
                    have HD3 := Aside0.mk (drop_at a0 (i + 3) h3)
                    have V2 := hexV_bd (a0[i + 2]'h2)
                    have V3 := hexV_bd (a0[i + 3]'h3)
                    go_wp2_with fail
                    have w2 : IntKind.i64.wrap ((i : Int) + 2) = (i : Int) + 2 := Go.IntWalk.i64_in _ (by omega)
                    have w3 : IntKind.i64.wrap ((i : Int) + 3) = (i : Int) + 3 := Go.IntWalk.i64_in _ (by omega)
                    have g2 : (0 : Int) ≤ (i : Int) + 2 := by omega
                    have g3 : (0 : Int) ≤ (i : Int) + 3 := by omega
                    have g4 : (i : Int) + 2 < (a0.size : Int) := by omega
                    have g5 : (i : Int) + 3 < (a0.size : Int) := by omega
                    have e2 : ((i : Int) + 2).toNat = i + 2 := by omega
                    have e3 : ((i : Int) + 3).toNat = i + 3 := by omega
                    go_quiet ((go_at_call 67; exact Calls.quiet_of_same (Try.strings_IndexByte _ _ _)))
                    have t2 : (((((a0[i + 2]'h2).toNat : Int)).toNat).toUInt8) = a0[i + 2]'h2 := by simp
                    have t3 : (((((a0[i + 3]'h3).toNat : Int)).toNat).toUInt8) = a0[i + 3]'h3 := by simp
                    have u2 : Lib.indexByte [48, 49, 50, 51, 52, 53, 54, 55, 56, 57, 97, 98, 99, 100, 101, 102] (a0[i + 2]'h2) = hexV (a0[i + 2]'h2) := rfl
                    have u3 : Lib.indexByte [48, 49, 50, 51, 52, 53, 54, 55, 56, 57, 97, 98, 99, 100, 101, 102] (a0[i + 3]'h3) = hexV (a0[i + 3]'h3) := rfl
                    simp only [t2, t3, u2, u3]
                    clear t2 t3 u2 u3
                    generalize hh : hexV (a0[i + 2]'h2) = h at V2
                    generalize ho : hexV (a0[i + 3]'h3) = o at V3
                    have HH := Aside0.mk hh
                    have HO := Aside0.mk ho
                    clear hh ho
                    have HI9 := Aside0.mk (show Lib.IsBuilderF 79 5 w.heap.size w.heap.size (Lib.byteCells acc) (wr.drewN nq) from HI.out)
                    have HB9 := Aside0.mk (pw_below_drewN HB.out nq)
                    by_cases hh0 : h < 0
                    · have bh : decide (h < 0) = true := decide_eq_true hh0
                      have HE : Aside0 (quoteE a0 = (⟨#[]⟩, 0, false)) := ⟨quoteE_none (by have h9 := HS.out; rw [HD.out, HD1.out, HD2.out, HD3.out, scan_hex C2.out C4.out, if_pos (by rw [HH.out]; exact .inl hh0)] at h9; exact h9.symm)⟩
                      go_wp2_with fail
                      go_ret3
                      have h9 := HQ.out
                      rw [HE.out] at h9
                      obtain ⟨rfl, h8⟩ := Prod.mk.inj h9
                      obtain ⟨rfl, rfl⟩ := Prod.mk.inj h8
                      exact ⟨rfl, HB9.out⟩
                    have bh : decide (h < 0) = false := decide_eq_false hh0
                    by_cases ho0 : o < 0
                    · have bo : decide (o < 0) = true := decide_eq_true ho0
                      have HE : Aside0 (quoteE a0 = (⟨#[]⟩, 0, false)) := ⟨quoteE_none (by have h9 := HS.out; rw [HD.out, HD1.out, HD2.out, HD3.out, scan_hex C2.out C4.out, if_pos (by rw [HO.out]; exact .inr ho0)] at h9; exact h9.symm)⟩
                      go_wp2_with fail
                      go_ret3
                      have h9 := HQ.out
                      rw [HE.out] at h9
                      obtain ⟨rfl, h8⟩ := Prod.mk.inj h9
                      obtain ⟨rfl, rfl⟩ := Prod.mk.inj h8
                      exact ⟨rfl, HB9.out⟩
                    have bo : decide (o < 0) = false := decide_eq_false ho0
                    have wh : IntKind.i64.wrap (16 * h) = 16 * h := Go.IntWalk.i64_in _ (by omega)
                    have wo : IntKind.i64.wrap (16 * h + o) = 16 * h + o := Go.IntWalk.i64_in _ (by omega)
                    have HV : Aside0 (((UInt8.ofNat (16 * h + o).toNat).toNat : Int) = 16 * h + o) := ⟨by simp; omega⟩
                    have wu : IntKind.u8.wrap (16 * h + o) = ((UInt8.ofNat (16 * h + o).toNat).toNat : Int) := by rw [HV.out, IntKind.wrap_u8]; omega
                    generalize hb : UInt8.ofNat (16 * h + o).toNat = bb at HV wu
                    have HBB := Aside0.mk hb
                    clear hb
                    go_wp2_with (go_at_call 63; refine (Bld.write_byte w.heap.size w.heap.size (Lib.byteCells acc) (bb.toNat : Int) _ HI9.out (by rw [Lib.byteCells_length]; omega) (below_size HB9.out)).mono ?_; rintro e W1 ⟨rfl, h1, b1, _⟩; have HI1 := Aside0.mk (show Lib.IsBuilderF 79 5 w.heap.size w.heap.size (Lib.byteCells (acc ++ [bb])) W1 by rw [Lib.byteCells_append]; exact Or.inr h1); have HB1 := Aside0.mk (Below.trans HB9.out b1); clear h1 b1)
                    go_roundw
                    case rel => exact ⟨i + 4, k, acc ++ [bb], by go_num, by omega, by omega, by simp; omega, by omega, ⟨by have h1 := HS.out; rw [HD.out, HD1.out, HD2.out, HD3.out, scan_hex C2.out C4.out, if_neg (by rw [HH.out, HO.out]; omega), HH.out, HO.out, HBB.out] at h1; exact h1⟩, HI1, HB1⟩
                    case measure => simp [intOf]; omega
                  · have d3 : decide ((a0.size : Int) ≤ (i : Int) + 3) = true := decide_eq_true (by omega)
                    have HE : Aside0 (quoteE a0 = (⟨#[]⟩, 0, false)) := ⟨quoteE_none (by have h9 := HS.out; rw [HD.out, HD1.out, scan_x C2.out C4.out (by rw [List.length_drop, Array.length_toList]; show a0.size - _ < 2; omega)] at h9; exact h9.symm)⟩
                    go_wp2_with fail
                    go_ret3
                    have h9 := HQ.out
                    rw [HE.out] at h9
                    obtain ⟨rfl, h8⟩ := Prod.mk.inj h9
                    obtain ⟨rfl, rfl⟩ := Prod.mk.inj h8
                    exact ⟨rfl, HB.out⟩
                · have N4 := Aside0.mk c4
                  have b4 : (((a0[i + 1]'hq1).toNat : Int) == 120) = false := by simp; omega
                  clear c3 c4
                  go_wp2_with (go_at_call 63; refine (Bld.write_byte w.heap.size w.heap.size (Lib.byteCells acc) ((a0[i + 1]'hq1).toNat : Int) _ HI.out (by rw [Lib.byteCells_length]; omega) (below_size HB.out)).mono ?_; rintro e W1 ⟨rfl, h1, b1, _⟩; have HI1 := Aside0.mk (show Lib.IsBuilderF 79 5 w.heap.size w.heap.size (Lib.byteCells (acc ++ [a0[i + 1]'hq1])) W1 by rw [Lib.byteCells_append]; exact Or.inr h1); have HB1 := Aside0.mk (Below.trans HB.out b1); clear h1 b1)
                  go_roundw
                  case rel => exact ⟨i + 2, k, acc ++ [a0[i + 1]'hq1], by go_num, by omega, by omega, by simp; omega, by omega, ⟨by have h1 := HS.out; rw [HD.out, HD1.out, scan_other C2.out N3.out N4.out] at h1; exact h1⟩, HI1, HB1⟩
                  case measure => simp [intOf]; omega
            · have d1 : decide ((a0.size : Int) ≤ (i : Int) + 1) = true := decide_eq_true (by omega)
              have HE : Aside0 (quoteE a0 = (⟨#[]⟩, 0, false)) := ⟨quoteE_none (by have h9 := HS.out; rw [HD.out, drop_end a0 (i + 1) (by omega), scan_last C2.out] at h9; exact h9.symm)⟩
              go_wp2_with fail
              go_ret3
              have h9 := HQ.out
              rw [HE.out] at h9
              obtain ⟨rfl, h8⟩ := Prod.mk.inj h9
              obtain ⟨rfl, rfl⟩ := Prod.mk.inj h8
              exact ⟨rfl, HB.out⟩
          · have N2 := Aside0.mk c2
            have b2 : (((a0[i]'hlt).toNat : Int) != 92) = true := by simp; omega
            clear c1 c2
            go_wp2_with (go_at_call 63; refine (Bld.write_byte w.heap.size w.heap.size (Lib.byteCells acc) ((a0[i]'hlt).toNat : Int) _ HI.out (by rw [Lib.byteCells_length]; omega) (below_size HB.out)).mono ?_; rintro e W1 ⟨rfl, h1, b1, _⟩; have HI1 := Aside0.mk (show Lib.IsBuilderF 79 5 w.heap.size w.heap.size (Lib.byteCells (acc ++ [a0[i]'hlt])) W1 by rw [Lib.byteCells_append]; exact Or.inr h1); have HB1 := Aside0.mk (Below.trans HB.out b1); clear h1 b1)
            go_roundw
            case rel => exact ⟨i + 1, k, acc ++ [a0[i]'hlt], by go_num, by omega, by omega, by simp; omega, by omega, ⟨by have h1 := HS.out; rw [HD.out, scan_plain N1.out N2.out] at h1; exact h1⟩, HI1, HB1⟩
            case measure => simp [intOf]; omega
      · have hlt' : decide ((i : Int) < (a0.size : Int)) = false := decide_eq_false (by omega)
        have HE : Aside0 (quoteE a0 = (⟨#[]⟩, 0, false)) := ⟨by
          have := HS.out
          rw [drop_end a0 i (by omega)] at this
          unfold quoteE
          rw [← this]
          cases k <;> rfl⟩
        go_wp2_with fail
        go_ret3
        have := HQ.out
        rw [HE.out] at this
        obtain ⟨rfl, h2⟩ := Prod.mk.inj this
        obtain ⟨rfl, rfl⟩ := Prod.mk.inj h2
        exact ⟨rfl, HB.out⟩
  · rw [if_neg hs] at h; cases h

/-! ### impl_TextUnquote: function 14 -/
set_option maxRecDepth 100000 in
def impl_TextUnquote.j0 : Nat → ByteArray → Bool → Option (ByteArray × Bool)
  | 0, _, _ => none
  | k + 1, x0, x13 => if x13 = true then (some ((⟨#[]⟩ : ByteArray), false)) else ((impl_quoteEnd.f x0 0).bind fun bt101 => (if bt101.2.2 = true then (if bt101.2.1 = (x0.size : Int) then (some (bt101.1, true)) else (some ((⟨#[]⟩ : ByteArray), false))) else (some ((⟨#[]⟩ : ByteArray), false))))
def impl_TextUnquote.f (k : Nat) (a0 : ByteArray) : Option (ByteArray × Bool) := if a0.toList = ([] : List UInt8) then (impl_TextUnquote.j0 k a0 true) else (if 0 < (a0.size : Int) then (impl_TextUnquote.j0 k a0 ((bt a0 0) != 39)) else (none))
set_option maxRecDepth 100000 in
theorem impl_TextUnquote.mono_l : ∀ k, (∀ y0 y1, LeO (impl_TextUnquote.j0 k y0 y1) (impl_TextUnquote.j0 (k + 1) y0 y1))
  | 0 => fun _ _ r h => by simp [impl_TextUnquote.j0] at h
  | k + 1 => by
    have ih0 := impl_TextUnquote.mono_l k
    · intro y0 y1
      unfold impl_TextUnquote.j0
      repeat' first
      | (with_reducible exact ih0 _ _)
      | (with_reducible exact LeO.refl _)
      | (with_reducible exact LeO.none _)
      | (with_reducible refine LeO.ite ?_ ?_)
      | (with_reducible refine LeO.bind ?_ (fun _ => ?_))
      | exact ih0 _ _
      | exact LeO.none _
      | refine LeO.ite ?_ ?_
      | refine LeO.bind ?_ (fun _ => ?_)
set_option maxRecDepth 100000 in
theorem impl_TextUnquote.mono : ∀ a0 k, LeO (impl_TextUnquote.f k a0) (impl_TextUnquote.f (k + 1) a0) := by
  intro a0 k
  have ih0 := impl_TextUnquote.mono_l k
  unfold impl_TextUnquote.f
  repeat' first
      | (with_reducible exact ih0 _ _)
      | (with_reducible exact LeO.refl _)
      | (with_reducible exact LeO.none _)
      | (with_reducible refine LeO.ite ?_ ?_)
      | (with_reducible refine LeO.bind ?_ (fun _ => ?_))
      | exact ih0 _ _
      | exact LeO.none _
      | refine LeO.ite ?_ ?_
      | refine LeO.bind ?_ (fun _ => ?_)
set_option maxHeartbeats 8000000 in
set_option maxRecDepth 100000 in
theorem impl_TextUnquote.calls (k : Nat) (a0 : ByteArray) (r1 : ByteArray) (r2 : Bool) (w : World) (h : impl_TextUnquote.f k a0 = some (r1, r2)) :
    Calls Try.prog 14 #[.string a0] w fun e w' => e = .returned (.tuple #[.string r1, .bool r2]) ∧ Below w.heap.size w w' := by
  have HB := Aside0.mk (Below.refl w.heap.size w)
  have H : (if a0.toList = ([] : List UInt8) then (impl_TextUnquote.j0 k a0 true) else (if 0 < (a0.size : Int) then (impl_TextUnquote.j0 k a0 ((bt a0 0) != 39)) else (none))) = some (r1, r2) := h
  clear h
  have HC2 := Aside0.mk H
  clear H
  go_enter Try.func14, Try.ntmps14
  go_upto_region 1 with (fail)
  go_cut [13] (fun v13 wc => ∃ (kq : Nat) (x13_1 : Bool), v13 = .bool x13_1 ∧ Aside0 (impl_TextUnquote.j0 kq a0 x13_1 = some (r1, r2)) ∧ Aside0 (kq ≤ k) ∧ Aside0 (Below w.heap.size w wc))
  case first =>
    have H := HC2.out
    clear HC2
    by_cases c3 : a0.toList = ([] : List UInt8)
    · rw [if_pos c3] at H
      have c3b0 : (a0.toList == ([] : List UInt8)) = true := beq_iff_eq.mpr c3
      have c3b1 : (a0.toList != ([] : List UInt8)) = false := bne_eq_false_iff_eq.mpr c3
      clear c3
      (first | rw [c3b0] | (simp only [i64_w, i32_w]; rw [c3b0]) | skip)
      have H' := Aside0.mk H
      clear H
      go_wp2
      go_meet
      case rel => exact ⟨_, (true), (by first | rfl | (simp; done) | (simp [*]; done)), H', ⟨by first | omega | exact Nat.le_refl _⟩, ⟨by repeat (first | (with_reducible first | exact HB.out | apply below_alloc | apply pw_below_drewN | apply below_drew1) | exact HB.out)⟩⟩
    · rw [if_neg c3] at H
      have c3b0 : (a0.toList == ([] : List UInt8)) = false := beq_eq_false_iff_ne.mpr c3
      have c3b1 : (a0.toList != ([] : List UInt8)) = true := bne_iff_ne.mpr c3
      (first | rw [c3b0] | (simp only [i64_w, i32_w]; rw [c3b0]) | skip)
      by_cases c4 : 0 < (a0.size : Int)
      · rw [if_pos c4] at H
        have c4b0 : decide (0 < (a0.size : Int)) = true := decide_eq_true c4
        have c4b1 : decide (0 < a0.size) = true := decide_eq_true (by omega)
        clear c4
        have H' := Aside0.mk H
        clear H
        have p5 : 0 ≤ (0 : Int) := (by omega)
        have q5 : 0 < a0.size := (by have : (0 : Int) < (a0.size : Int) := of_decide_eq_true (by first | (with_reducible assumption) | assumption); omega)
        have hx5 : ∀ h : 0 < a0.size, ((a0[0]'h).toNat : Int) = bt a0 0 := bt_at a0 0
        clear p5
        have qi5 : (0 < (a0.size : Int)) = True := eq_true (of_decide_eq_true (by first | (with_reducible assumption) | assumption))
        replace q5 := eq_true q5
        go_wp2
        go_meet
        case rel => exact ⟨_, (((bt a0 0) != 39)), (by first | rfl | (simp; done) | (simp [*]; done)), H', ⟨by first | omega | exact Nat.le_refl _⟩, ⟨by repeat (first | (with_reducible first | exact HB.out | apply below_alloc | apply pw_below_drewN | apply below_drew1) | exact HB.out)⟩⟩
      · rw [if_neg c4] at H
        exact absurd H (by simp)
  case rest =>
    clear HC2
    try clear c1
    try clear p2
    try clear c3
    try clear c3b0
    try clear c3b1
    try clear c4
    try clear c4b0
    try clear c4b1
    try clear p5
    try clear q5
    try clear hx5
    try clear qi5
    try clear p5
    try clear q5
    obtain ⟨kq, x13_1, rfl, HA, HJ1, HB⟩ := hcut
    cases kq with
    | zero => exact absurd HA.out (by simp [impl_TextUnquote.j0])
    | succ kj1 =>
      have H := HA.out
      clear HA
      simp only [impl_TextUnquote.j0] at H
      by_cases c6 : x13_1 = true
      · subst c6
        have H1 : (some ((⟨#[]⟩ : ByteArray), false)) = some (r1, r2) := by rw [if_pos rfl] at H; exact H
        clear H
        have H := H1
        clear H1
        simp only [Option.some.injEq, Prod.mk.injEq] at H
        obtain ⟨rfl, rfl⟩ := H
        go_wp2
        go_ret2
        exact ⟨by first | rfl | (simp [errW_none, errW_some] <;> rfl) | (simp [*, errW_none, errW_some] <;> rfl), by repeat (first | (with_reducible first | exact HB.out | apply below_alloc | apply pw_below_drewN | apply below_drew1) | exact HB.out)⟩
      · replace c6 := Bool.eq_false_iff.mpr c6
        subst c6
        have H1 : ((impl_quoteEnd.f a0 0).bind fun bt101 => (if bt101.2.2 = true then (if bt101.2.1 = (a0.size : Int) then (some (bt101.1, true)) else (some ((⟨#[]⟩ : ByteArray), false))) else (some ((⟨#[]⟩ : ByteArray), false)))) = some (r1, r2) := by rw [if_neg (show ¬ (false = true) by decide)] at H; exact H
        clear H
        have H := H1
        clear H1
        replace H := Option.bind_eq_some_iff.mp H
        obtain ⟨⟨t101, t102, t103⟩, A70, H⟩ := H
        replace H : (if t103 = true then (if t102 = (a0.size : Int) then (some (t101, true)) else (some ((⟨#[]⟩ : ByteArray), false))) else (some ((⟨#[]⟩ : ByteArray), false))) = some (r1, r2) := H
        have A7 := Aside0.mk A70
        clear A70
        by_cases c8 : t103 = true
        · subst c8
          have H1 : (if t102 = (a0.size : Int) then (some (t101, true)) else (some ((⟨#[]⟩ : ByteArray), false))) = some (r1, r2) := by rw [if_pos rfl] at H; exact H
          clear H
          have H := H1
          clear H1
          by_cases c9 : t102 = (a0.size : Int)
          · rw [if_pos c9] at H
            have c9b0 : (t102 == (a0.size : Int)) = true := beq_iff_eq.mpr c9
            have c9b1 : (t102 != (a0.size : Int)) = false := bne_eq_false_iff_eq.mpr c9
            clear c9
            simp only [Option.some.injEq, Prod.mk.injEq] at H
            obtain ⟨rfl, rfl⟩ := H
            go_wp2_with (first | ((with_reducible refine gate_callee (f := 38) rfl ?_); refine goesL_ (some 16) rfl rfl Try.func38 (by kernel_rfl) rfl #[.string a0, .int .i64 0] rfl (by (try simp only [List.map_toArray, List.map_cons, List.map_nil]); first | done | rfl | (simp only [List.length_drop, List.length_take]; rfl) | (simp only [List.length_drop, List.length_take]; rw [Nat.min_eq_left (by have z_ := of_eq_true q5; omega)])) ?_; (with_reducible refine (impl_quoteEnd.calls a0 0 t101 t102 true _ A7.out).mono ?_); rintro e w10 ⟨rfl, hb⟩; refine ⟨_, rfl, ?_⟩; have n0_ := Aside0.mk (below_step (by repeat (first | (with_reducible first | exact HB.out | apply below_alloc | apply pw_below_drewN | apply below_drew1) | exact HB.out)) hb); clear HB; have HB := n0_; clear n0_; (try clear hb); (try clear hb2); (try clear hk); (try clear hi)))
            go_ret2
            exact ⟨by first | rfl | (simp [errW_none, errW_some] <;> rfl) | (simp [*, errW_none, errW_some] <;> rfl), by repeat (first | (with_reducible first | exact HB.out | apply below_alloc | apply pw_below_drewN | apply below_drew1) | exact HB.out)⟩
          · rw [if_neg c9] at H
            have c9b0 : (t102 == (a0.size : Int)) = false := beq_eq_false_iff_ne.mpr c9
            have c9b1 : (t102 != (a0.size : Int)) = true := bne_iff_ne.mpr c9
            simp only [Option.some.injEq, Prod.mk.injEq] at H
            obtain ⟨rfl, rfl⟩ := H
            go_wp2_with (first | ((with_reducible refine gate_callee (f := 38) rfl ?_); refine goesL_ (some 16) rfl rfl Try.func38 (by kernel_rfl) rfl #[.string a0, .int .i64 0] rfl (by (try simp only [List.map_toArray, List.map_cons, List.map_nil]); first | done | rfl | (simp only [List.length_drop, List.length_take]; rfl) | (simp only [List.length_drop, List.length_take]; rw [Nat.min_eq_left (by have z_ := of_eq_true q5; omega)])) ?_; (with_reducible refine (impl_quoteEnd.calls a0 0 t101 t102 true _ A7.out).mono ?_); rintro e w11 ⟨rfl, hb⟩; refine ⟨_, rfl, ?_⟩; have n0_ := Aside0.mk (below_step (by repeat (first | (with_reducible first | exact HB.out | apply below_alloc | apply pw_below_drewN | apply below_drew1) | exact HB.out)) hb); clear HB; have HB := n0_; clear n0_; (try clear hb); (try clear hb2); (try clear hk); (try clear hi)))
            go_ret2
            exact ⟨by first | rfl | (simp [errW_none, errW_some] <;> rfl) | (simp [*, errW_none, errW_some] <;> rfl), by repeat (first | (with_reducible first | exact HB.out | apply below_alloc | apply pw_below_drewN | apply below_drew1) | exact HB.out)⟩
        · replace c8 := Bool.eq_false_iff.mpr c8
          subst c8
          have H1 : (some ((⟨#[]⟩ : ByteArray), false)) = some (r1, r2) := by rw [if_neg (show ¬ (false = true) by decide)] at H; exact H
          clear H
          have H := H1
          clear H1
          simp only [Option.some.injEq, Prod.mk.injEq] at H
          obtain ⟨rfl, rfl⟩ := H
          go_wp2_with (first | ((with_reducible refine gate_callee (f := 38) rfl ?_); refine goesL_ (some 16) rfl rfl Try.func38 (by kernel_rfl) rfl #[.string a0, .int .i64 0] rfl (by (try simp only [List.map_toArray, List.map_cons, List.map_nil]); first | done | rfl | (simp only [List.length_drop, List.length_take]; rfl) | (simp only [List.length_drop, List.length_take]; rw [Nat.min_eq_left (by have z_ := of_eq_true q5; omega)])) ?_; (with_reducible refine (impl_quoteEnd.calls a0 0 t101 t102 false _ A7.out).mono ?_); rintro e w12 ⟨rfl, hb⟩; refine ⟨_, rfl, ?_⟩; have n0_ := Aside0.mk (below_step (by repeat (first | (with_reducible first | exact HB.out | apply below_alloc | apply pw_below_drewN | apply below_drew1) | exact HB.out)) hb); clear HB; have HB := n0_; clear n0_; (try clear hb); (try clear hb2); (try clear hk); (try clear hi)))
          go_ret2
          exact ⟨by first | rfl | (simp [errW_none, errW_some] <;> rfl) | (simp [*, errW_none, errW_some] <;> rfl), by repeat (first | (with_reducible first | exact HB.out | apply below_alloc | apply pw_below_drewN | apply below_drew1) | exact HB.out)⟩

/-! ### spec_validText: function 36 -/
def spec_validText.f (a0 : ByteArray) : Option (Bool) := some (decide ((a0.size : Int) ≤ 400))
set_option maxHeartbeats 8000000 in
set_option maxRecDepth 100000 in
theorem spec_validText.calls (a0 : ByteArray) (r : Bool) (w : World) (h : spec_validText.f a0 = some r) :
    Calls Try.prog 36 #[.string a0] w fun e w' => e = .returned (.bool r) ∧ Drawn0 w w' := by
  have H : (some (decide ((a0.size : Int) ≤ 400))) = some r := h
  clear h
  obtain rfl := Option.some.inj H
  go_enter Try.func36, Try.ntmps36
  go_wp2
  go_ret
  exact ⟨by first | rfl | (simp; done) | (simp [*]; done), by repeat (first | exact Drawn0.refl _ | apply Drawn0.step)⟩

/-! ### spec_hexDigit: function 66 -/
def spec_hexDigit.f (a0 : Int) : Option (ByteArray) := if 0 ≤ a0 then (if a0 ≤ (wrap64 (a0 + 1)) then (if (wrap64 (a0 + 1)) ≤ 16 then (some ((⟨#[48, 49, 50, 51, 52, 53, 54, 55, 56, 57, 97, 98, 99, 100, 101, 102]⟩ : ByteArray).extract (a0 : Int).toNat ((wrap64 (a0 + 1)) : Int).toNat)) else (none)) else (none)) else (none)
set_option maxHeartbeats 8000000 in
set_option maxRecDepth 100000 in
theorem spec_hexDigit.calls (a0 : Int) (r : ByteArray) (w : World) (h : spec_hexDigit.f a0 = some r) :
    Calls Try.prog 66 #[.int .i64 a0] w fun e w' => e = .returned (.string r) ∧ Drawn0 w w' := by
  have H : (if 0 ≤ a0 then (if a0 ≤ (wrap64 (a0 + 1)) then (if (wrap64 (a0 + 1)) ≤ 16 then (some ((⟨#[48, 49, 50, 51, 52, 53, 54, 55, 56, 57, 97, 98, 99, 100, 101, 102]⟩ : ByteArray).extract (a0 : Int).toNat ((wrap64 (a0 + 1)) : Int).toNat)) else (none)) else (none)) else (none)) = some r := h
  clear h
  by_cases c2 : 0 ≤ a0
  · rw [if_pos c2] at H
    have c2b0 := eq_true c2
    have c2b1 : decide (0 ≤ a0) = true := decide_eq_true c2
    clear c2
    by_cases c3 : a0 ≤ (wrap64 (a0 + 1))
    · rw [if_pos c3] at H
      have c3b0 := eq_true c3
      have c3b1 : decide (a0 ≤ (wrap64 (a0 + 1))) = true := decide_eq_true c3
      by_cases c4 : (wrap64 (a0 + 1)) ≤ 16
      · rw [if_pos c4] at H
        have c4b0 := eq_true c4
        have c4b1 : decide ((wrap64 (a0 + 1)) ≤ 16) = true := decide_eq_true c4
        obtain rfl := Option.some.inj H
        go_enter Try.func66, Try.ntmps66
        go_wp2
        go_ret
        exact ⟨by first | rfl | (simp; done) | (simp [*]; done), by repeat (first | exact Drawn0.refl _ | apply Drawn0.step)⟩
      · rw [if_neg c4] at H
        exact absurd H (by simp)
    · rw [if_neg c3] at H
      exact absurd H (by simp)
  · rw [if_neg c2] at H
    exact absurd H (by simp)

end Go.Proofs.Ytkhkbbhkhpekcaa.XFnExactTextUnquote
