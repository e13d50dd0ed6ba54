/- The functions that FnExactTextQuote uses, as functions of Lean, and that the Go code comes to their answers. Written by a program of this session. -/
import Derived.Test.YtdloehnjofpbmaaXFnExactTextQuotex0
namespace Go.Proofs.Ytdloehnjofpbmaa.XFnExactTextQuote
open Go.RowKit Go.Proofs.YtdloehnjofpbmaaW.PrintWords Go.Proofs.YtdloehnjofpbmaaW.PrintLast Go.Proofs.YtdloehnjofpbmaaW.PrintMore
attribute [local go_sem] max2_int min2_int max_two min_two max_three min_three max_four min_four   -- for this text's walks alone
set_option linter.unusedVariables false
set_option linter.unusedSimpArgs false

/-! ### impl_shortTexts: function 40 -/
set_option maxRecDepth 100000 in
def impl_shortTexts.l0 : Nat → List ByteArray → Int → Int → Option (Bool)
  | 0, _, _, _ => none
  | k + 1, x5, x6, x7 => if x7 < x6 then (if 0 ≤ x7 then (if x7 < (x5.length : Int) then (if ((rdOf ByteArray.empty x5 x7).size : Int) > 400 then (some false) else (impl_shortTexts.l0 k x5 x6 (wrap64 (x7 + 1)))) else (none)) else (none)) else (some true)
def impl_shortTexts.f (k : Nat) (l0 : List ByteArray) : Option (Bool) := impl_shortTexts.l0 k l0 (l0.length : Int) 0
set_option maxRecDepth 100000 in
theorem impl_shortTexts.mono_l : ∀ k, (∀ y0 y1 y2, LeO (impl_shortTexts.l0 k y0 y1 y2) (impl_shortTexts.l0 (k + 1) y0 y1 y2))
  | 0 => fun _ _ _ r h => by simp [impl_shortTexts.l0] at h
  | k + 1 => by
    have ih0 := impl_shortTexts.mono_l k
    · intro y0 y1 y2
      unfold impl_shortTexts.l0
      repeat' first
      | (with_reducible exact ih0 _ _ _)
      | (with_reducible exact LeO.refl _)
      | (with_reducible exact LeO.none _)
      | (with_reducible refine LeO.ite ?_ ?_)
      | (with_reducible refine LeO.bind ?_ (fun _ => ?_))
      | exact ih0 _ _ _
      | exact LeO.none _
      | refine LeO.ite ?_ ?_
      | refine LeO.bind ?_ (fun _ => ?_)
set_option maxRecDepth 100000 in
theorem impl_shortTexts.mono : ∀ a0 k, LeO (impl_shortTexts.f k a0) (impl_shortTexts.f (k + 1) a0) := by
  intro a0 k
  have ih0 := impl_shortTexts.mono_l k
  unfold impl_shortTexts.f
  repeat' first
      | (with_reducible exact ih0 _ _ _)
      | (with_reducible exact LeO.refl _)
      | (with_reducible exact LeO.none _)
      | (with_reducible refine LeO.ite ?_ ?_)
      | (with_reducible refine LeO.bind ?_ (fun _ => ?_))
      | exact ih0 _ _ _
      | exact LeO.none _
      | refine LeO.ite ?_ ?_
      | refine LeO.bind ?_ (fun _ => ?_)
set_option maxHeartbeats 8000000 in
set_option maxRecDepth 100000 in
theorem impl_shortTexts.calls (k : Nat) (A0 : Option Addr) (c0 : Nat) (l0 : List ByteArray) (r : Bool) (w : World) (hr0 : Kd.C Kd.string w A0 l0.length l0) (hc0 : l0.length ≤ c0) (h : impl_shortTexts.f k l0 = some r) :
    Calls Try.prog 40 #[.slice A0 l0.length c0] w fun e w' => e = .returned (.bool r) ∧ Drawn0 w w' := by
  have HR0 := Aside0.mk hr0
  have HC0 := Aside0.mk hc0
  clear hr0 hc0
  have H : (impl_shortTexts.l0 k l0 (l0.length : Int) 0) = some r := h
  clear h
  have H' := Aside0.mk H
  clear H
  go_enter Try.func40, Try.ntmps40
  go_wp2
  go_loopg [7] k (fun kq v7 w' => ∃ (x7_1 : Int), v7 = .int .i64 x7_1 ∧ Aside0 (impl_shortTexts.l0 kq l0 (l0.length : Int) x7_1 = some r) ∧ Aside0 (kq ≤ k) ∧ Drawn0 w w')
  case atStart => exact ⟨(0), (by first | rfl | (simp; done) | (simp [*]; done)), H', ⟨Nat.le_refl _⟩, by repeat (first | exact Drawn0.refl _ | apply Drawn0.step)⟩
  case round =>
    clear H'
    obtain ⟨x7_1, rfl, HA, HK1, ⟨m1, rfl⟩⟩ := hrel
    cases gk with
    | zero => exact absurd HA.out (by simp [impl_shortTexts.l0])
    | succ k1 =>
      have H := HA.out
      clear HA
      simp only [impl_shortTexts.l0] at H
      by_cases c2 : x7_1 < (l0.length : Int)
      · rw [if_pos c2] at H
        have c2b0 : decide (x7_1 < (l0.length : Int)) = true := decide_eq_true c2
        clear c2
        by_cases c3 : 0 ≤ x7_1
        · rw [if_pos c3] at H
          have c3b0 : decide (0 ≤ x7_1) = true := decide_eq_true c3
          clear c3
          by_cases c4 : x7_1 < (l0.length : Int)
          · rw [if_pos c4] at H
            have c4b0 : decide (x7_1 < (l0.length : Int)) = true := decide_eq_true c4
            clear c4
            by_cases c5 : ((rdOf ByteArray.empty l0 x7_1).size : Int) > 400
            · rw [if_pos c5] at H
              have c5b0 : decide (400 < ((rdOf ByteArray.empty l0 x7_1).size : Int)) = true := decide_eq_true c5
              have c5b1 : decide (400 < (rdOf ByteArray.empty l0 x7_1).size) = true := decide_eq_true (by omega)
              clear c5
              obtain rfl := Option.some.inj H
              have p101 : 0 ≤ (x7_1 : Int) := of_decide_eq_true (by first | (with_reducible assumption) | assumption)
              have q101 : x7_1 < (l0.length : Int) := of_decide_eq_true (by first | (with_reducible assumption) | assumption)
              obtain ⟨ad101, e101, hx101_0⟩ := Kd.at_string HR0.out x7_1 p101 q101
              cases e101
              replace p101 := eq_true p101
              replace q101 := eq_true q101
              go_wp2
              go_ret
              exact ⟨by first | rfl | (simp; done) | (simp [*]; done), by repeat (first | exact Drawn0.refl _ | apply Drawn0.step)⟩
            · rw [if_neg c5] at H
              have c5b0 : decide (400 < ((rdOf ByteArray.empty l0 x7_1).size : Int)) = false := decide_eq_false c5
              have c5b1 : decide (400 < (rdOf ByteArray.empty l0 x7_1).size) = false := decide_eq_false (by omega)
              clear c5
              have H' := Aside0.mk H
              clear H
              have p101 : 0 ≤ (x7_1 : Int) := of_decide_eq_true (by first | (with_reducible assumption) | assumption)
              have q101 : x7_1 < (l0.length : Int) := of_decide_eq_true (by first | (with_reducible assumption) | assumption)
              obtain ⟨ad101, e101, hx101_0⟩ := Kd.at_string HR0.out x7_1 p101 q101
              cases e101
              replace p101 := eq_true p101
              replace q101 := eq_true q101
              go_wp2
              go_roundg k1
              case measure => have := HK1.out; omega
              case rel => exact ⟨(wrap64 (x7_1 + 1)), (by first | rfl | (simp; done) | (simp [*]; done)), H', ⟨by have := HK1.out; omega⟩, by repeat (first | exact Drawn0.refl _ | apply Drawn0.step)⟩
          · rw [if_neg c4] at H
            exact absurd H (by simp)
        · rw [if_neg c3] at H
          exact absurd H (by simp)
      · rw [if_neg c2] at H
        have c2b0 : decide (x7_1 < (l0.length : Int)) = false := decide_eq_false c2
        clear c2
        obtain rfl := Option.some.inj H
        go_wp2
        go_ret
        exact ⟨by first | rfl | (simp; done) | (simp [*]; done), by repeat (first | exact Drawn0.refl _ | apply Drawn0.step)⟩

/-! ### impl_quoted: function 41 -/
def hexD (n : Nat) : UInt8 := ([48, 49, 50, 51, 52, 53, 54, 55, 56, 57, 97, 98, 99, 100, 101, 102] : List UInt8).getD n 0
/-- A byte in a text in quotes. -/
def quote1 (b : UInt8) : List UInt8 :=
  if b.toNat = 39 ∨ b.toNat = 92 then [92, b] else if b.toNat = 10 then [92, 110] else if b.toNat < 32 ∨ 126 < b.toNat then [92, 120, hexD (b.toNat / 16), hexD (b.toNat % 16)] else [b]
theorem quote1_len (b : UInt8) : (quote1 b).length ≤ 4 ∧ 1 ≤ (quote1 b).length := by
  unfold quote1; split
  · simp
  · split
    · simp
    · split <;> simp
def quoteL (l : List UInt8) : List UInt8 := 39 :: (l.flatMap quote1 ++ [39])
theorem quote_take (s : ByteArray) (k : Nat) (h : k < s.size) : (s.data.toList.take (k + 1)).flatMap quote1 = (s.data.toList.take k).flatMap quote1 ++ quote1 (s[k]'h) := by
  rw [List.take_succ_eq_append_getElem (by simpa using h), List.flatMap_append]
  simp
  rfl
theorem flat_len : ∀ l : List UInt8, (l.flatMap quote1).length ≤ 4 * l.length
  | [] => by simp
  | b :: l => by
    have := flat_len l
    have := quote1_len b
    rw [List.flatMap_cons, List.length_append, List.length_cons]; omega
def impl_quoted.f (a0 : ByteArray) : Option ByteArray := if a0.size ≤ 1099511627776 then some ⟨(quoteL a0.data.toList).toArray⟩ else none
theorem str2 (x y : UInt8) : Lib.strCells ⟨#[x, y]⟩ = [Value.int .u8 (x.toNat : Int), Value.int .u8 (y.toNat : Int)] := by rw [Lib.strCells_eq]; rfl
theorem hexD_at : ∀ (n : Nat) (h : n < 16), ((⟨#[48, 49, 50, 51, 52, 53, 54, 55, 56, 57, 97, 98, 99, 100, 101, 102]⟩ : ByteArray)[n]'h) = hexD n := by decide
theorem bc1 (acc : List UInt8) (b : UInt8) : Lib.byteCells acc ++ [Value.int .u8 (b.toNat : Int)] = Lib.byteCells (acc ++ [b]) := by simp [Lib.byteCells]
set_option maxHeartbeats 8000000 in
set_option maxRecDepth 100000 in
theorem impl_quoted.calls (a0 : ByteArray) (r : ByteArray) (w : World) (h : impl_quoted.f a0 = some r) :
    Calls Try.prog 41 #[.string a0] w fun e w' => e = .returned (.string r) ∧ Below w.heap.size w w' := by
  unfold impl_quoted.f at h
  by_cases hs : a0.size ≤ 1099511627776
  · rw [if_pos hs] at h
    obtain rfl := Option.some.inj h
    clear h
    have HI := Aside0.mk (Bld.fresh_at (T := 54) (e := 5) (B := w.heap.size) (blk_new w (.cells #[.pointer none, .slice none 0 0] 54)) (Nat.le_refl _))
    have HB := Aside0.mk ((Below.refl w.heap.size w).alloc (Nat.le_refl _) (.cells #[.pointer none, .slice none 0 0] 54))
    go_enter Try.func41, Try.ntmps41
    go_wp2_with (go_at_call 46; refine (Bld.write_byte w.heap.size w.heap.size [] 39 _ HI.out (by simp) (below_size HB.out)).mono ?_; rintro e W1 ⟨rfl, h1, b1, _⟩; have HI1 := Aside0.mk (show Lib.IsBuilderF 54 5 w.heap.size w.heap.size (Lib.byteCells [39]) W1 from Or.inr h1); have HB1 := Aside0.mk (Below.trans HB.out b1); clear h1 b1)
    go_loopw [4, 5, 9] (fun v4 v5 v9 wr => ∃ (k : Nat), k ≤ a0.size ∧ v9 = .int .i64 (k : Int) ∧ Aside0 (Lib.IsBuilderF 54 5 w.heap.size w.heap.size (Lib.byteCells (39 :: (a0.data.toList.take k).flatMap quote1)) wr) ∧ Aside0 (Below w.heap.size w wr)) (fun _ _ v9 _ => a0.size - (intOf v9).toNat)
    case atStart => exact ⟨0, Nat.zero_le _, rfl, HI1, HB1⟩
    case round =>
      clear HI HB HI1 HB1
      obtain ⟨k, hk, rfl, HI, HB⟩ := hrel
      have HN : Aside0 ((39 :: (a0.data.toList.take k).flatMap quote1 : List UInt8).length ≤ 1 + 4 * k) := ⟨by
        have := flat_len (a0.data.toList.take k)
        have h2 : (a0.data.toList.take k).length ≤ k := List.length_take_le _ _
        rw [List.length_cons]; omega⟩
      by_cases hlt : k < a0.size
      · have hlt' : decide ((k : Int) < (a0.size : Int)) = true := decide_eq_true (by omega)
        have HT := Aside0.mk (quote_take a0 k hlt)
        have h0 := (a0[k]'hlt).toNat_lt
        have n2 : (a0[k]'hlt).toNat / 16 < 16 := by omega
        have n3 : (a0[k]'hlt).toNat % 16 < 16 := by omega
        have N2 := Aside0.mk n2
        have N3 := Aside0.mk n3
        by_cases c1 : (a0[k]'hlt).toNat = 39 ∨ (a0[k]'hlt).toNat = 92
        · have HQ : Aside0 (quote1 (a0[k]'hlt) = [92, a0[k]'hlt]) := ⟨by rw [quote1, if_pos c1]⟩
          have C1 := Aside0.mk c1
          by_cases c2 : (a0[k]'hlt).toNat = 39
          · have b1 : (((a0[k]'hlt).toNat : Int) == 39) = true := by simp [c2]
            clear c1 c2 n2 n3 h0
            go_wp2_with (first
            | (go_at_call 46; refine (Bld.write_byte w.heap.size w.heap.size _ _ _ HI.out (by have h4_ := HN.out; simp only [List.length_append, Lib.byteCells_length, List.length_cons, List.length_nil] at h4_ ⊢; omega) (below_size HB.out)).mono ?_; rintro e W1 ⟨rfl, h1, b1, _⟩; have n0_ := Aside0.mk (show Lib.IsBuilderF 54 5 w.heap.size w.heap.size _ W1 from Or.inr h1); have n1_ := Aside0.mk (Below.trans HB.out b1); clear HI HB h1 b1; have HI := n0_; have HB := n1_; clear n0_ n1_)
            | (go_at_call 68; refine (Bld.write_string w.heap.size w.heap.size _ _ _ HI.out (by have h4_ := HN.out; simp only [Lib.byteCells_length, List.length_cons] at h4_ ⊢; show _ + 2 ≤ _; omega) (below_size HB.out)).mono ?_; rintro e W1 ⟨rfl, h1, b1, _⟩; rw [str2] at h1; have n0_ := Aside0.mk (show Lib.IsBuilderF 54 5 w.heap.size w.heap.size _ W1 from Or.inr h1); have n1_ := Aside0.mk (Below.trans HB.out b1); clear HI HB h1 b1; have HI := n0_; have HB := n1_; clear n0_ n1_))
            go_roundw
            case rel =>
              refine ⟨k + 1, by omega, by go_num, ⟨?_⟩, HB⟩
              have hi := HI.out
              rw [HT.out, HQ.out]
              simpa [Lib.byteCells] using hi
            case measure => simp [intOf]; omega
          · have b1 : (((a0[k]'hlt).toNat : Int) == 39) = false := by simp; omega
            have b2 : (((a0[k]'hlt).toNat : Int) == 92) = true := by simp; omega
            clear c1 c2 n2 n3 h0
            go_wp2_with (first
            | (go_at_call 46; refine (Bld.write_byte w.heap.size w.heap.size _ _ _ HI.out (by have h4_ := HN.out; simp only [List.length_append, Lib.byteCells_length, List.length_cons, List.length_nil] at h4_ ⊢; omega) (below_size HB.out)).mono ?_; rintro e W1 ⟨rfl, h1, b1, _⟩; have n0_ := Aside0.mk (show Lib.IsBuilderF 54 5 w.heap.size w.heap.size _ W1 from Or.inr h1); have n1_ := Aside0.mk (Below.trans HB.out b1); clear HI HB h1 b1; have HI := n0_; have HB := n1_; clear n0_ n1_)
            | (go_at_call 68; refine (Bld.write_string w.heap.size w.heap.size _ _ _ HI.out (by have h4_ := HN.out; simp only [Lib.byteCells_length, List.length_cons] at h4_ ⊢; show _ + 2 ≤ _; omega) (below_size HB.out)).mono ?_; rintro e W1 ⟨rfl, h1, b1, _⟩; rw [str2] at h1; have n0_ := Aside0.mk (show Lib.IsBuilderF 54 5 w.heap.size w.heap.size _ W1 from Or.inr h1); have n1_ := Aside0.mk (Below.trans HB.out b1); clear HI HB h1 b1; have HI := n0_; have HB := n1_; clear n0_ n1_))
            go_roundw
            case rel =>
              refine ⟨k + 1, by omega, by go_num, ⟨?_⟩, HB⟩
              have hi := HI.out
              rw [HT.out, HQ.out]
              simpa [Lib.byteCells] using hi
            case measure => simp [intOf]; omega
        · have b1 : (((a0[k]'hlt).toNat : Int) == 39) = false := by simp; omega
          have b2 : (((a0[k]'hlt).toNat : Int) == 92) = false := by simp; omega
          by_cases c3 : (a0[k]'hlt).toNat = 10
          · have HQ : Aside0 (quote1 (a0[k]'hlt) = [92, 110]) := ⟨by rw [quote1, if_neg c1, if_pos c3]⟩
            have b3 : (((a0[k]'hlt).toNat : Int) == 10) = true := by simp [c3]
            clear c1 c3 n2 n3 h0
            go_wp2_with (first
            | (go_at_call 46; refine (Bld.write_byte w.heap.size w.heap.size _ _ _ HI.out (by have h4_ := HN.out; simp only [List.length_append, Lib.byteCells_length, List.length_cons, List.length_nil] at h4_ ⊢; omega) (below_size HB.out)).mono ?_; rintro e W1 ⟨rfl, h1, b1, _⟩; have n0_ := Aside0.mk (show Lib.IsBuilderF 54 5 w.heap.size w.heap.size _ W1 from Or.inr h1); have n1_ := Aside0.mk (Below.trans HB.out b1); clear HI HB h1 b1; have HI := n0_; have HB := n1_; clear n0_ n1_)
            | (go_at_call 68; refine (Bld.write_string w.heap.size w.heap.size _ _ _ HI.out (by have h4_ := HN.out; simp only [Lib.byteCells_length, List.length_cons] at h4_ ⊢; show _ + 2 ≤ _; omega) (below_size HB.out)).mono ?_; rintro e W1 ⟨rfl, h1, b1, _⟩; rw [str2] at h1; have n0_ := Aside0.mk (show Lib.IsBuilderF 54 5 w.heap.size w.heap.size _ W1 from Or.inr h1); have n1_ := Aside0.mk (Below.trans HB.out b1); clear HI HB h1 b1; have HI := n0_; have HB := n1_; clear n0_ n1_))
            go_roundw
            case rel =>
              refine ⟨k + 1, by omega, by go_num, ⟨?_⟩, HB⟩
              have hi := HI.out
              rw [HT.out, HQ.out]
              simpa [Lib.byteCells] using hi
            case measure => simp [intOf]; omega
          · have b3 : (((a0[k]'hlt).toNat : Int) == 10) = false := by simp; omega
            by_cases c4 : (a0[k]'hlt).toNat < 32 ∨ 126 < (a0[k]'hlt).toNat
            · have HQ : Aside0 (quote1 (a0[k]'hlt) = [92, 120, hexD ((a0[k]'hlt).toNat / 16), hexD ((a0[k]'hlt).toNat % 16)]) := ⟨by rw [quote1, if_neg c1, if_neg c3, if_pos c4]⟩
              by_cases c5 : (a0[k]'hlt).toNat < 32
              · have b4 : decide (((a0[k]'hlt).toNat : Int) < 32) = true := decide_eq_true (by omega)
                clear c1 c3 c4 c5
                go_wp2_with (first
            | (go_at_call 46; refine (Bld.write_byte w.heap.size w.heap.size _ _ _ HI.out (by have h4_ := HN.out; simp only [List.length_append, Lib.byteCells_length, List.length_cons, List.length_nil] at h4_ ⊢; omega) (below_size HB.out)).mono ?_; rintro e W1 ⟨rfl, h1, b1, _⟩; have n0_ := Aside0.mk (show Lib.IsBuilderF 54 5 w.heap.size w.heap.size _ W1 from Or.inr h1); have n1_ := Aside0.mk (Below.trans HB.out b1); clear HI HB h1 b1; have HI := n0_; have HB := n1_; clear n0_ n1_)
            | (go_at_call 68; refine (Bld.write_string w.heap.size w.heap.size _ _ _ HI.out (by have h4_ := HN.out; simp only [Lib.byteCells_length, List.length_cons] at h4_ ⊢; show _ + 2 ≤ _; omega) (below_size HB.out)).mono ?_; rintro e W1 ⟨rfl, h1, b1, _⟩; rw [str2] at h1; have n0_ := Aside0.mk (show Lib.IsBuilderF 54 5 w.heap.size w.heap.size _ W1 from Or.inr h1); have n1_ := Aside0.mk (Below.trans HB.out b1); clear HI HB h1 b1; have HI := n0_; have HB := n1_; clear n0_ n1_))
                go_roundw
                case rel =>
                  refine ⟨k + 1, by omega, by go_num, ⟨?_⟩, HB⟩
                  have hi := HI.out
                  rw [hexD_at _ N2.out, hexD_at _ N3.out] at hi
                  rw [HT.out, HQ.out]
                  simpa [Lib.byteCells] using hi
                case measure => simp [intOf]; omega
              · have b4 : decide (((a0[k]'hlt).toNat : Int) < 32) = false := decide_eq_false (by omega)
                have b5 : decide (126 < ((a0[k]'hlt).toNat : Int)) = true := decide_eq_true (by omega)
                clear c1 c3 c4 c5
                go_wp2_with (first
            | (go_at_call 46; refine (Bld.write_byte w.heap.size w.heap.size _ _ _ HI.out (by have h4_ := HN.out; simp only [List.length_append, Lib.byteCells_length, List.length_cons, List.length_nil] at h4_ ⊢; omega) (below_size HB.out)).mono ?_; rintro e W1 ⟨rfl, h1, b1, _⟩; have n0_ := Aside0.mk (show Lib.IsBuilderF 54 5 w.heap.size w.heap.size _ W1 from Or.inr h1); have n1_ := Aside0.mk (Below.trans HB.out b1); clear HI HB h1 b1; have HI := n0_; have HB := n1_; clear n0_ n1_)
            | (go_at_call 68; refine (Bld.write_string w.heap.size w.heap.size _ _ _ HI.out (by have h4_ := HN.out; simp only [Lib.byteCells_length, List.length_cons] at h4_ ⊢; show _ + 2 ≤ _; omega) (below_size HB.out)).mono ?_; rintro e W1 ⟨rfl, h1, b1, _⟩; rw [str2] at h1; have n0_ := Aside0.mk (show Lib.IsBuilderF 54 5 w.heap.size w.heap.size _ W1 from Or.inr h1); have n1_ := Aside0.mk (Below.trans HB.out b1); clear HI HB h1 b1; have HI := n0_; have HB := n1_; clear n0_ n1_))
                go_roundw
                case rel =>
                  refine ⟨k + 1, by omega, by go_num, ⟨?_⟩, HB⟩
                  have hi := HI.out
                  rw [hexD_at _ N2.out, hexD_at _ N3.out] at hi
                  rw [HT.out, HQ.out]
                  simpa [Lib.byteCells] using hi
                case measure => simp [intOf]; omega
            · have HQ : Aside0 (quote1 (a0[k]'hlt) = [a0[k]'hlt]) := ⟨by rw [quote1, if_neg c1, if_neg c3, if_neg c4]⟩
              have b4 : decide (((a0[k]'hlt).toNat : Int) < 32) = false := decide_eq_false (by omega)
              have b5 : decide (126 < ((a0[k]'hlt).toNat : Int)) = false := decide_eq_false (by omega)
              clear c1 c3 c4 n2 n3 h0
              go_wp2_with (first
            | (go_at_call 46; refine (Bld.write_byte w.heap.size w.heap.size _ _ _ HI.out (by have h4_ := HN.out; simp only [List.length_append, Lib.byteCells_length, List.length_cons, List.length_nil] at h4_ ⊢; omega) (below_size HB.out)).mono ?_; rintro e W1 ⟨rfl, h1, b1, _⟩; have n0_ := Aside0.mk (show Lib.IsBuilderF 54 5 w.heap.size w.heap.size _ W1 from Or.inr h1); have n1_ := Aside0.mk (Below.trans HB.out b1); clear HI HB h1 b1; have HI := n0_; have HB := n1_; clear n0_ n1_)
            | (go_at_call 68; refine (Bld.write_string w.heap.size w.heap.size _ _ _ HI.out (by have h4_ := HN.out; simp only [Lib.byteCells_length, List.length_cons] at h4_ ⊢; show _ + 2 ≤ _; omega) (below_size HB.out)).mono ?_; rintro e W1 ⟨rfl, h1, b1, _⟩; rw [str2] at h1; have n0_ := Aside0.mk (show Lib.IsBuilderF 54 5 w.heap.size w.heap.size _ W1 from Or.inr h1); have n1_ := Aside0.mk (Below.trans HB.out b1); clear HI HB h1 b1; have HI := n0_; have HB := n1_; clear n0_ n1_))
              go_roundw
              case rel =>
                refine ⟨k + 1, by omega, by go_num, ⟨?_⟩, HB⟩
                have hi := HI.out
                rw [HT.out, HQ.out]
                simpa [Lib.byteCells] using hi
              case measure => simp [intOf]; omega
      · have hlt' : decide ((k : Int) < (a0.size : Int)) = false := decide_eq_false (by omega)
        have hkl : k = a0.size := by omega
        have HF : Aside0 (quoteL a0.data.toList = 39 :: (a0.data.toList.take k).flatMap quote1 ++ [39]) := ⟨by rw [List.take_of_length_le (by simp; omega)]; rfl⟩
        go_wp2_with (first
          | (go_at_call 46; refine (Bld.write_byte w.heap.size w.heap.size _ 39 _ HI.out (by rw [Lib.byteCells_length]; have := HN.out; omega) (below_size HB.out)).mono ?_; rintro e W1 ⟨rfl, h1, b1, _⟩; have HI1 := Aside0.mk (show Lib.IsBuilderF 54 5 w.heap.size w.heap.size (Lib.byteCells (quoteL a0.data.toList)) W1 by rw [HF.out, Lib.byteCells_append]; exact Or.inr h1); have HB1 := Aside0.mk (Below.trans HB.out b1); clear h1 b1)
          | (go_at_call 47; refine (Try.Builder_String_any_k w.heap.size w.heap.size _ _ HI1.out (below_size HB1.out)).mono ?_; rintro e W2 ⟨rfl, _, b1, _⟩; have HB2 := Aside0.mk (Below.trans HB1.out b1); clear b1))
        go_ret
        exact ⟨rfl, HB2.out⟩
  · rw [if_neg hs] at h; cases h

/-! ### impl_TextQuote: function 16 -/
def impl_TextQuote.f (k : Nat) (a0 : ByteArray) : Option (ByteArray) := (impl_shortTexts.f k (([a0] : List ByteArray))).bind fun t105 => (if t105 = true then ((impl_quoted.f a0).bind fun t106 => (some t106)) else (some (⟨#[]⟩ : ByteArray)))
set_option maxRecDepth 100000 in
theorem impl_TextQuote.mono : ∀ a0 k, LeO (impl_TextQuote.f k a0) (impl_TextQuote.f (k + 1) a0) := by
  intro a0 k
  unfold impl_TextQuote.f
  repeat' first
      | (with_reducible exact impl_shortTexts.mono _ _)
      | (with_reducible exact LeO.refl _)
      | (with_reducible exact LeO.none _)
      | (with_reducible refine LeO.ite ?_ ?_)
      | (with_reducible refine LeO.bind ?_ (fun _ => ?_))
      | exact impl_shortTexts.mono _ _
      | exact LeO.none _
      | refine LeO.ite ?_ ?_
      | refine LeO.bind ?_ (fun _ => ?_)
set_option maxHeartbeats 8000000 in
set_option maxRecDepth 100000 in
theorem impl_TextQuote.calls (k : Nat) (a0 : ByteArray) (r : ByteArray) (w : World) (h : impl_TextQuote.f k a0 = some r) :
    Calls Try.prog 16 #[.string a0] w fun e w' => e = .returned (.string r) ∧ Below w.heap.size w w' := by
  have HB := Aside0.mk (Below.refl w.heap.size w)
  have H : ((impl_shortTexts.f k (([a0] : List ByteArray))).bind fun t105 => (if t105 = true then ((impl_quoted.f a0).bind fun t106 => (some t106)) else (some (⟨#[]⟩ : ByteArray)))) = some r := h
  clear h
  obtain ⟨y102, hy102⟩ : ∃ y_ : List ByteArray, y_ = (([a0] : List ByteArray)) := ⟨_, rfl⟩
  replace H : ((impl_shortTexts.f k y102).bind fun t105 => (if t105 = true then ((impl_quoted.f a0).bind fun t106 => (some t106)) else (some (⟨#[]⟩ : ByteArray)))) = some r := by first | (rw [hy102]; with_reducible exact H) | (have H2_ := (Option.bind_some _ _).symm.trans H; rw [hy102]; with_reducible exact H2_) | (have H2_ := (Option.bind_some _ _).symm.trans H; with_reducible exact H2_) | with_reducible exact H | (rw [hy102]; exact H) | exact H
  have Ny102 := Aside0.mk hy102
  clear hy102
  replace H := Option.bind_eq_some_iff.mp H
  obtain ⟨t105, A20, H⟩ := H
  replace H : (if t105 = true then ((impl_quoted.f a0).bind fun t106 => (some t106)) else (some (⟨#[]⟩ : ByteArray))) = some r := H
  have A2 := Aside0.mk A20
  clear A20
  by_cases c3 : t105 = true
  · subst c3
    have H1 : ((impl_quoted.f a0).bind fun t106 => (some t106)) = some r := by rw [if_pos rfl] at H; exact H
    clear H
    have H := H1
    clear H1
    replace H := Option.bind_eq_some_iff.mp H
    obtain ⟨t106, A40, H⟩ := H
    replace H : (some t106) = some r := H
    have A4 := Aside0.mk A40
    clear A40
    obtain rfl := Option.some.inj H
    go_enter Try.func16, Try.ntmps16
    go_wp2_with (first | ((with_reducible refine gate_dst (N := 4) rfl ?_); refine Kd.R_lit Kd.string _ 9 ?hg (N := 4) ?hd (xs := ([a0] : List ByteArray)) (inner := [.string a0]) (ok := fun _ => True) (okp := fun _ => True) ?hr ?hp (fun _ hk => hk) trivial (Below.refl _ _) (Nat.le_refl _) (by simp) ?_; (case hd => rfl); (case hg => rfl); (case hr => first | (go_simp; done) | (go_simp; rfl)); (case hp => exact (Reps.one (show Kd.M Kd.string _ _ _ a0 [.string a0] from rfl) (Reps.none _ _))); intro v103 w5 ho6 hb hg_ hnew_; clear hg_ hnew_; (first | rw [← Ny102.out] at ho6 | (simp only [Int.reduceToNat] at ho6; rw [← Ny102.out] at ho6)); have n0_ := Aside0.mk (Kd.R_lower ho6 (below_size (by repeat (first | (with_reducible first | exact HB.out | apply below_alloc | apply pw_below_drewN | apply below_drew1) | exact HB.out)))); have n1_ := Aside0.mk (below_step (by repeat (first | (with_reducible first | exact HB.out | apply below_alloc | apply pw_below_drewN | apply below_drew1) | exact HB.out)) hb); clear HB; have HO104 := n0_; have HB := n1_; clear n0_ n1_; clear hb ho6; obtain ⟨Ao7, co7, eo7⟩ := Kd.R_slice HO104.out; subst eo7) | ((with_reducible refine gate_callee (f := 40) rfl ?_); refine goesL_ (some 5) rfl rfl Try.func40 (by kernel_rfl) rfl #[.slice Ao7 y102.length co7] rfl (by (try simp only [List.map_toArray, List.map_cons, List.map_nil]); first | done | rfl | (simp only [List.length_drop, List.length_take]; rfl)) ?_; (with_reducible refine (impl_shortTexts.calls k _ _ y102 true _ ?side1 ?side2 A2.out).mono ?_); (case side1 => repeat (first | exact (Kd.R_reads' HO104.out).2.2 | (with_reducible refine Kd.C_alloc ?_ _) | (with_reducible refine Kd.C_drewN ?_ _) | (with_reducible refine Kd.C_drew ?_))); (case side2 => exact (Kd.R_reads' HO104.out).2.1); rintro e w' ⟨rfl, ⟨nd, rfl⟩⟩; refine ⟨_, rfl, ?_⟩) | ((with_reducible refine gate_callee (f := 41) rfl ?_); refine goesL_ (some 8) rfl rfl Try.func41 (by kernel_rfl) rfl #[.string a0] rfl (by (try simp only [List.map_toArray, List.map_cons, List.map_nil]); first | done | rfl | (simp only [List.length_drop, List.length_take]; rfl)) ?_; (with_reducible refine (impl_quoted.calls a0 t106 _ A4.out).mono ?_); rintro e w8 ⟨rfl, hb⟩; refine ⟨_, rfl, ?_⟩; have n0_ := Aside0.mk (Kd.R_below (by (with_reducible repeat (first | apply Kd.R_alloc | apply Kd.R_drewN | apply Kd.R_drew)); exact HO104.out) hb); have n1_ := Aside0.mk (below_step (by repeat (first | (with_reducible first | exact HB.out | apply below_alloc | apply pw_below_drewN | apply below_drew1) | exact HB.out)) hb); clear HO104; clear HB; have HO104 := n0_; have HB := n1_; clear n0_ n1_; (try clear hb); (try clear hb2); (try clear hk); (try clear hi)))
    go_ret
    exact ⟨by first | rfl | (simp [errW_none, errW_some] <;> rfl) | (simp [*, errW_none, errW_some] <;> rfl), by repeat (first | (with_reducible first | exact HB.out | apply below_alloc | apply pw_below_drewN | apply below_drew1) | exact HB.out)⟩
  · replace c3 := Bool.eq_false_iff.mpr c3
    subst c3
    have H1 : (some (⟨#[]⟩ : ByteArray)) = some r := by rw [if_neg (show ¬ (false = true) by decide)] at H; exact H
    clear H
    have H := H1
    clear H1
    obtain rfl := Option.some.inj H
    go_enter Try.func16, Try.ntmps16
    go_wp2_with (first | ((with_reducible refine gate_dst (N := 4) rfl ?_); refine Kd.R_lit Kd.string _ 9 ?hg (N := 4) ?hd (xs := ([a0] : List ByteArray)) (inner := [.string a0]) (ok := fun _ => True) (okp := fun _ => True) ?hr ?hp (fun _ hk => hk) trivial (Below.refl _ _) (Nat.le_refl _) (by simp) ?_; (case hd => rfl); (case hg => rfl); (case hr => first | (go_simp; done) | (go_simp; rfl)); (case hp => exact (Reps.one (show Kd.M Kd.string _ _ _ a0 [.string a0] from rfl) (Reps.none _ _))); intro v103 w9 ho10 hb hg_ hnew_; clear hg_ hnew_; (first | rw [← Ny102.out] at ho10 | (simp only [Int.reduceToNat] at ho10; rw [← Ny102.out] at ho10)); have n0_ := Aside0.mk (Kd.R_lower ho10 (below_size (by repeat (first | (with_reducible first | exact HB.out | apply below_alloc | apply pw_below_drewN | apply below_drew1) | exact HB.out)))); have n1_ := Aside0.mk (below_step (by repeat (first | (with_reducible first | exact HB.out | apply below_alloc | apply pw_below_drewN | apply below_drew1) | exact HB.out)) hb); clear HB; have HO104 := n0_; have HB := n1_; clear n0_ n1_; clear hb ho10; obtain ⟨Ao11, co11, eo11⟩ := Kd.R_slice HO104.out; subst eo11) | ((with_reducible refine gate_callee (f := 40) rfl ?_); refine goesL_ (some 5) rfl rfl Try.func40 (by kernel_rfl) rfl #[.slice Ao11 y102.length co11] rfl (by (try simp only [List.map_toArray, List.map_cons, List.map_nil]); first | done | rfl | (simp only [List.length_drop, List.length_take]; rfl)) ?_; (with_reducible refine (impl_shortTexts.calls k _ _ y102 false _ ?side1 ?side2 A2.out).mono ?_); (case side1 => repeat (first | exact (Kd.R_reads' HO104.out).2.2 | (with_reducible refine Kd.C_alloc ?_ _) | (with_reducible refine Kd.C_drewN ?_ _) | (with_reducible refine Kd.C_drew ?_))); (case side2 => exact (Kd.R_reads' HO104.out).2.1); rintro e w' ⟨rfl, ⟨nd, rfl⟩⟩; refine ⟨_, rfl, ?_⟩))
    go_ret
    exact ⟨by first | rfl | (simp [errW_none, errW_some] <;> rfl) | (simp [*, errW_none, errW_some] <;> rfl), by repeat (first | (with_reducible first | exact HB.out | apply below_alloc | apply pw_below_drewN | apply below_drew1) | exact HB.out)⟩

/-! ### spec_validText: function 42 -/
def spec_validText.f (a0 : ByteArray) : Option (Bool) := some (decide ((a0.size : Int) ≤ 400))
set_option maxHeartbeats 8000000 in
set_option maxRecDepth 100000 in
theorem spec_validText.calls (a0 : ByteArray) (r : Bool) (w : World) (h : spec_validText.f a0 = some r) :
    Calls Try.prog 42 #[.string a0] w fun e w' => e = .returned (.bool r) ∧ Drawn0 w w' := by
  have H : (some (decide ((a0.size : Int) ≤ 400))) = some r := h
  clear h
  obtain rfl := Option.some.inj H
  go_enter Try.func42, Try.ntmps42
  go_wp2
  go_ret
  exact ⟨by first | rfl | (simp; done) | (simp [*]; done), by repeat (first | exact Drawn0.refl _ | apply Drawn0.step)⟩

/-! ### spec_hexDigit: function 69 -/
def spec_hexDigit.f (a0 : Int) : Option (ByteArray) := if 0 ≤ a0 then (if a0 ≤ (wrap64 (a0 + 1)) then (if (wrap64 (a0 + 1)) ≤ 16 then (some ((⟨#[48, 49, 50, 51, 52, 53, 54, 55, 56, 57, 97, 98, 99, 100, 101, 102]⟩ : ByteArray).extract (a0 : Int).toNat ((wrap64 (a0 + 1)) : Int).toNat)) else (none)) else (none)) else (none)
set_option maxHeartbeats 8000000 in
set_option maxRecDepth 100000 in
theorem spec_hexDigit.calls (a0 : Int) (r : ByteArray) (w : World) (h : spec_hexDigit.f a0 = some r) :
    Calls Try.prog 69 #[.int .i64 a0] w fun e w' => e = .returned (.string r) ∧ Drawn0 w w' := by
  have H : (if 0 ≤ a0 then (if a0 ≤ (wrap64 (a0 + 1)) then (if (wrap64 (a0 + 1)) ≤ 16 then (some ((⟨#[48, 49, 50, 51, 52, 53, 54, 55, 56, 57, 97, 98, 99, 100, 101, 102]⟩ : ByteArray).extract (a0 : Int).toNat ((wrap64 (a0 + 1)) : Int).toNat)) else (none)) else (none)) else (none)) = some r := h
  clear h
  by_cases c2 : 0 ≤ a0
  · rw [if_pos c2] at H
    have c2b0 := eq_true c2
    have c2b1 : decide (0 ≤ a0) = true := decide_eq_true c2
    clear c2
    by_cases c3 : a0 ≤ (wrap64 (a0 + 1))
    · rw [if_pos c3] at H
      have c3b0 := eq_true c3
      have c3b1 : decide (a0 ≤ (wrap64 (a0 + 1))) = true := decide_eq_true c3
      by_cases c4 : (wrap64 (a0 + 1)) ≤ 16
      · rw [if_pos c4] at H
        have c4b0 := eq_true c4
        have c4b1 : decide ((wrap64 (a0 + 1)) ≤ 16) = true := decide_eq_true c4
        obtain rfl := Option.some.inj H
        go_enter Try.func69, Try.ntmps69
        go_wp2
        go_ret
        exact ⟨by first | rfl | (simp; done) | (simp [*]; done), by repeat (first | exact Drawn0.refl _ | apply Drawn0.step)⟩
      · rw [if_neg c4] at H
        exact absurd H (by simp)
    · rw [if_neg c3] at H
      exact absurd H (by simp)
  · rw [if_neg c2] at H
    exact absurd H (by simp)

end Go.Proofs.Ytdloehnjofpbmaa.XFnExactTextQuote
