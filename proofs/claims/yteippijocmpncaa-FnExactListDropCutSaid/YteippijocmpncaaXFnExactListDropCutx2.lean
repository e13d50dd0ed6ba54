/- The functions that FnExactListDropCut uses, as functions of Lean, and that the Go code comes to their answers. Written by a program of this session. -/
import Derived.Test.YteippijocmpncaaXFnExactListDropCutx0
import Derived.Test.YteippijocmpncaaXFnExactListDropCutx1
namespace Go.Proofs.Yteippijocmpncaa.XFnExactListDropCut
open Go.RowKit Go.Proofs.YteippijocmpncaaW.PrintWords Go.Proofs.YteippijocmpncaaW.PrintLast Go.Proofs.YteippijocmpncaaW.PrintMore
attribute [local go_sem] max2_int min2_int max_two min_two max_three min_three max_four min_four   -- for this text's walks alone
set_option linter.unusedVariables false
set_option linter.unusedSimpArgs false

/-! ### impl_CutRange: function 18 -/
def boundI (n lo hi : Int) (has : Bool) (given missing : Int) : Int := if has then min (max (if given < 0 then wrap64 (given + n) else given) lo) hi else missing
set_option maxHeartbeats 4000000 in
set_option maxRecDepth 100000 in
theorem bound_any (has : Bool) (given missing n lo hi : Int) (bn bl bh : Nat) (w : World)
    (hn : w.cell? ⟨bn, 0, none⟩ = some (.int .i64 n)) (hl : w.cell? ⟨bl, 0, none⟩ = some (.int .i64 lo)) (hh : w.cell? ⟨bh, 0, none⟩ = some (.int .i64 hi)) :
    Calls Try.prog 44 #[.bool has, .int .i64 given, .int .i64 missing, .pointer (some ⟨bn, 0, none⟩), .pointer (some ⟨bl, 0, none⟩), .pointer (some ⟨bh, 0, none⟩)] w
      fun e w' => e = .returned (.int .i64 (boundI n lo hi has given missing)) ∧ ∃ m, w' = w.drewN m := by
  cases has with
  | false =>
    go_enter Try.func44, Try.ntmps44
    go_wp2
    go_ret
    exact ⟨by simp [boundI], (by repeat (first | exact Drawn0.refl _ | apply Drawn0.step) : Drawn0 w _).out⟩
  | true =>
    by_cases hg : given < 0
    · have hg' : decide (given < 0) = true := decide_eq_true hg
      go_enter Try.func44, Try.ntmps44
      go_wp2
      all_goals
        go_ret
        refine ⟨?_, (by repeat (first | exact Drawn0.refl _ | apply Drawn0.step) : Drawn0 w _).out⟩
        refine congrArg (fun z => Ending.returned (Value.int .i64 z)) ?_
        simp only [boundI, if_pos hg, if_true]
        simp only [Int.min_def, Int.max_def]
        split at * <;> (try split) <;> (try split) <;> omega
    · have hg' : decide (given < 0) = false := decide_eq_false hg
      go_enter Try.func44, Try.ntmps44
      go_wp2
      all_goals
        go_ret
        refine ⟨?_, (by repeat (first | exact Drawn0.refl _ | apply Drawn0.step) : Drawn0 w _).out⟩
        have hg2 : ¬ given < 0 := by omega
        refine congrArg (fun z => Ending.returned (Value.int .i64 z)) ?_
        simp only [boundI, if_neg hg2, if_true]
        simp only [Int.min_def, Int.max_def]
        split at * <;> (try split) <;> (try split) <;> omega

/-- How many places a slice selects, from the first one on. -/
def cutCount (s p q : Int) : Int := if 0 < s then (if p < q then (q - p - 1) / s + 1 else 0) else (if q < p then (p - q - 1) / (-s) + 1 else 0)
def cutLo (s : Int) : Int := if s < 0 then -1 else 0
def cutHi (n s : Int) : Int := if s < 0 then n - 1 else n
def cutP (n f s : Int) (hf : Bool) : Int := boundI n (cutLo s) (cutHi n s) hf f (if s < 0 then n - 1 else 0)
def cutQ (n t s : Int) (ht : Bool) : Int := boundI n (cutLo s) (cutHi n s) ht t (if s < 0 then -1 else n)
/-- What CutRange answers at valid arguments. -/
def cutR (n f t s : Int) (hf ht : Bool) : Int × Int := (cutP n f s hf, cutCount s (cutP n f s hf) (cutQ n t s ht))
theorem within_true {a b c : Int} (h : impl_within.f a b c = some true) : b ≤ a ∧ a ≤ c := by
  unfold impl_within.f at h
  by_cases h1 : a ≥ b
  · rw [if_pos h1] at h
    exact ⟨h1, by simpa using h⟩
  · rw [if_neg h1] at h; cases h
theorem within_some (a b c : Int) : impl_within.f a b c = some (decide (b ≤ a ∧ a ≤ c)) := by
  unfold impl_within.f
  by_cases h1 : a ≥ b
  · rw [if_pos h1]; congr 1; simp; omega
  · rw [if_neg h1, decide_eq_false (by omega)]
theorem cutOk_some (f t s : Int) (hf ht : Bool) : impl_CutOk.f f t s hf ht = some (decide (-1000000 ≤ f ∧ f ≤ 1000000 ∧ -1000000 ≤ t ∧ t ≤ 1000000 ∧ -1000000 ≤ s ∧ s ≤ 1000000 ∧ s ≠ 0 ∧ (hf = true ∨ f = 0) ∧ (ht = true ∨ t = 0))) := by
  unfold impl_CutOk.f
  rw [within_some, within_some, within_some]
  simp only [Option.bind_some, decide_eq_true_eq]
  by_cases h1 : -1000000 ≤ f ∧ f ≤ 1000000
  · by_cases h2 : -1000000 ≤ t ∧ t ≤ 1000000
    · by_cases h3 : -1000000 ≤ s ∧ s ≤ 1000000
      · by_cases h4 : s = 0
        · subst h4; simp [h1, h2]
        · by_cases h5 : f = 0 <;> by_cases h6 : t = 0 <;> cases hf <;> cases ht <;> simp [h1, h2, h3, h4, h5, h6]
      · rw [if_pos h1, if_pos h2, if_neg h3, decide_eq_false (by omega)]
    · rw [if_pos h1, if_neg h2, decide_eq_false (by omega)]
  · rw [if_neg h1, decide_eq_false (by omega)]
theorem cutOk_true {f t s : Int} {hf ht : Bool} (h : impl_CutOk.f f t s hf ht = some true) : -1000000 ≤ f ∧ f ≤ 1000000 ∧ -1000000 ≤ t ∧ t ≤ 1000000 ∧ -1000000 ≤ s ∧ s ≤ 1000000 ∧ s ≠ 0 ∧ (hf = true ∨ f = 0) ∧ (ht = true ∨ t = 0) := by
  rw [cutOk_some] at h
  simpa using h
theorem boundI_bd {n lo hi : Int} (h : lo ≤ hi) (has : Bool) {g m : Int} (h1 : lo ≤ m) (h2 : m ≤ hi) : lo ≤ boundI n lo hi has g m ∧ boundI n lo hi has g m ≤ hi := by
  unfold boundI
  cases has
  · exact ⟨h1, h2⟩
  · simp only [if_true]
    simp only [Int.min_def, Int.max_def]
    split <;> split <;> omega
theorem cutP_bd {n f s : Int} (hf : Bool) (h0 : 0 ≤ n) : cutLo s ≤ cutP n f s hf ∧ cutP n f s hf ≤ cutHi n s := by
  unfold cutP
  apply boundI_bd
  all_goals (simp only [cutLo, cutHi])
  all_goals (split <;> omega)
theorem cutQ_bd {n t s : Int} (ht : Bool) (h0 : 0 ≤ n) : cutLo s ≤ cutQ n t s ht ∧ cutQ n t s ht ≤ cutHi n s := by
  unfold cutQ
  apply boundI_bd
  all_goals (simp only [cutLo, cutHi])
  all_goals (split <;> omega)
theorem cut_neg (x s : Int) (hx : 0 ≤ x) (h : s < 0) : -(x.tdiv s) = x / (-s) := by
  rw [← Int.tdiv_neg, Int.tdiv_eq_ediv_of_nonneg hx]
theorem cut_div_le (x s : Int) (hx : 0 ≤ x) (h : 0 < s) : 0 ≤ x / s ∧ x / s ≤ x := ⟨Int.ediv_nonneg hx (by omega), Int.ediv_le_self _ hx⟩

def impl_CutRange.f (a0 : Int) (a1_0 : Int) (a1_1 : Int) (a1_2 : Int) (a1_3 : Bool) (a1_4 : Bool) : Option (Int × Int) := (impl_within.f a0 0 1000000).bind fun b => if b = true then ((impl_CutOk.f a1_0 a1_1 a1_2 a1_3 a1_4).bind fun c => if c = true then some (cutR a0 a1_0 a1_1 a1_2 a1_3 a1_4) else some (0, 0)) else some (0, 0)
set_option maxHeartbeats 4000000 in
set_option maxRecDepth 100000 in
theorem cr_any (a0 a1_0 a1_1 a1_2 : Int) (a1_3 a1_4 : Bool) (w : World) (A1 : impl_within.f a0 0 1000000 = some true) (A2 : impl_CutOk.f a1_0 a1_1 a1_2 a1_3 a1_4 = some true) :
    Calls Try.prog 18 #[.int .i64 a0, .agg #[.int .i64 a1_0, .int .i64 a1_1, .int .i64 a1_2, .bool a1_3, .bool a1_4]] w
      fun e w' => e = .returned (.tuple #[.int .i64 (cutR a0 a1_0 a1_1 a1_2 a1_3 a1_4).1, .int .i64 (cutR a0 a1_0 a1_1 a1_2 a1_3 a1_4).2]) ∧ Below w.heap.size w w' := by
  have hu24 := Try.underlying24
  have A1 := Aside0.mk A1
  have A2 := Aside0.mk A2
  have HB := Aside0.mk (Below.refl w.heap.size w)
  have hmf : ∀ (fn : Fn) (first cap : Array Value) (w : World), (Instr.makeFunc fn first cap).run Try.prog w = .ok (.func fn first cap) w := fun _ _ _ _ => rfl
  go_enter Try.func18, Try.ntmps18
  go_upto_region 3 with (first
    | ((with_reducible refine gate_dst (N := 2) rfl ?_); refine box_event ?hg (N := 2) ?hd (cs := #[.int .i64 a0]) (t := 3) ?hr ?_; (case hd => rfl); (case hg => rfl); (case hr => first | (go_simp; done) | (go_simp; rfl)); intro gn hgn w1 hbn hb1; have BN := Aside0.mk hbn; have B1 := Aside0.mk hb1; have GN := Aside0.mk (Nat.le_of_eq hgn.symm); clear hgn hbn hb1; have hcn : w1.cell? ⟨gn, 0, none⟩ = some (.int .i64 a0) := (blk_cell BN.out 0).trans rfl)
    | ((with_reducible refine gate_dst (N := 3) rfl ?_); refine box_event ?hg (N := 3) ?hd (cs := #[.int .i64 a1_0, .int .i64 a1_1, .int .i64 a1_2, .bool a1_3, .bool a1_4]) (t := 24) ?hr ?_; (case hd => rfl); (case hg => rfl); (case hr => first | (go_simp; done) | (go_simp; rfl)); intro gc hgc w2 hbc hb2; have BN2 := Aside0.mk (blk_below BN.out hb2); have BC := Aside0.mk hbc; have B2 := Aside0.mk (below_step B1.out hb2); clear hgc hbc hb2; have hcn2 : w2.cell? ⟨gn, 0, none⟩ = some (.int .i64 a0) := (blk_cell BN2.out 0).trans rfl; have hc2_0 : w2.cell? ⟨gc, 0, none⟩ = some (.int .i64 a1_0) := (blk_cell BC.out 0).trans rfl; have hc2_1 : w2.cell? ⟨gc, 1, none⟩ = some (.int .i64 a1_1) := (blk_cell BC.out 1).trans rfl; have hc2_2 : w2.cell? ⟨gc, 2, none⟩ = some (.int .i64 a1_2) := (blk_cell BC.out 2).trans rfl; have hc2_3 : w2.cell? ⟨gc, 3, none⟩ = some (.bool a1_3) := (blk_cell BC.out 3).trans rfl; have hc2_4 : w2.cell? ⟨gc, 4, none⟩ = some (.bool a1_4) := (blk_cell BC.out 4).trans rfl)
    | (go_at_call 42; (with_reducible refine (impl_within.calls a0 0 1000000 true _ A1.out).mono ?_); rintro e w' ⟨rfl, ⟨nd, rfl⟩⟩)
    | (go_at_call 16; (with_reducible refine (impl_CutOk.calls a1_0 a1_1 a1_2 a1_3 a1_4 true _ A2.out).mono ?_); rintro e w3 ⟨rfl, hb3⟩; have BN3 := Aside0.mk (blk_below (w := w2.drewN nd) BN2.out hb3); have BC3 := Aside0.mk (blk_below (w := w2.drewN nd) BC.out hb3); have B3 := Aside0.mk (below_step (W := w2.drewN nd) (pw_below_drewN B2.out _) hb3); clear hb3; have hcn3 : w3.cell? ⟨gn, 0, none⟩ = some (.int .i64 a0) := (blk_cell BN3.out 0).trans rfl; have hc3_0 : w3.cell? ⟨gc, 0, none⟩ = some (.int .i64 a1_0) := (blk_cell BC3.out 0).trans rfl; have hc3_1 : w3.cell? ⟨gc, 1, none⟩ = some (.int .i64 a1_1) := (blk_cell BC3.out 1).trans rfl; have hc3_2 : w3.cell? ⟨gc, 2, none⟩ = some (.int .i64 a1_2) := (blk_cell BC3.out 2).trans rfl; have hc3_3 : w3.cell? ⟨gc, 3, none⟩ = some (.bool a1_3) := (blk_cell BC3.out 3).trans rfl; have hc3_4 : w3.cell? ⟨gc, 4, none⟩ = some (.bool a1_4) := (blk_cell BC3.out 4).trans rfl))
  clear hcn hcn2 hc2_0 hc2_1 hc2_2 hc2_3 hc2_4
  go_cut [6, 7] (fun v6 v7 wx => ∃ gl gh : Nat, v6 = .pointer (some ⟨gl, 0, none⟩) ∧ v7 = .pointer (some ⟨gh, 0, none⟩) ∧ Aside0 (gl ≠ gh) ∧ Aside0 (w.heap.size ≤ gl) ∧ Aside0 (w.heap.size ≤ gh) ∧ Aside0 (gl ≠ gn) ∧ Aside0 (gh ≠ gn) ∧ Aside0 (gl ≠ gc) ∧ Aside0 (gh ≠ gc) ∧ Aside0 (wx.heap[gl]? = some (.cells #[.int .i64 0] 3 (0, 0))) ∧ Aside0 (wx.heap[gh]? = some (.cells #[.int .i64 a0] 3 (0, 0))) ∧ Aside0 (wx.heap[gn]? = some (.cells #[.int .i64 a0] 3 (0, 0))) ∧ Aside0 (wx.heap[gc]? = some (.cells #[.int .i64 a1_0, .int .i64 a1_1, .int .i64 a1_2, .bool a1_3, .bool a1_4] 24 (0, 0))) ∧ Aside0 (Below w.heap.size w wx))
  case first =>
    have hA0 : ∀ o1 o2, (((w3.alloc o1).alloc o2)).cell? ⟨gn, 0, none⟩ = some (.int .i64 a0) := fun o1 o2 => (blk_cell (blk_alloc (blk_alloc BN3.out o1) o2) 0).trans rfl
    have hA_1 : ∀ o1, ((w3.alloc o1)).cell? ⟨gn, 0, none⟩ = some (.int .i64 a0) := fun o1 => (blk_cell (blk_alloc BN3.out o1) 0).trans rfl
    go_region
    all_goals (try go_wp2_with fail)
    · go_meet
      case rel =>
        have hg := blk_lt BN3.out
        have hc := blk_lt BC3.out
        have hb := below_size B3.out
        have b1 := blk_new w3 (.cells #[.int .i64 0] 3)
        have b2 := blk_new (w3.alloc (.cells #[.int .i64 0] 3)) (.cells #[.int .i64 a0] 3)
        rw [World.size_alloc] at b2
        exact ⟨w3.heap.size, w3.heap.size + 1, rfl, rfl, ⟨by omega⟩, ⟨by omega⟩, ⟨by omega⟩, ⟨by omega⟩, ⟨by omega⟩, ⟨by omega⟩, ⟨by omega⟩, ⟨blk_drew (blk_alloc b1 _)⟩, ⟨blk_drew b2⟩, ⟨blk_drew (blk_alloc (blk_alloc BN3.out _) _)⟩, ⟨blk_drew (blk_alloc (blk_alloc BC3.out _) _)⟩, ⟨below_drew1 (below_alloc (below_alloc B3.out _) _)⟩⟩
    · go_meet
      case rel =>
        have hg := blk_lt BN3.out
        have hc := blk_lt BC3.out
        have hb := below_size B3.out
        have b1 := blk_new w3 (.cells #[.int .i64 a0] 3)
        have b2 := blk_new (w3.alloc (.cells #[.int .i64 a0] 3)) (.cells #[.int .i64 0] 3)
        rw [World.size_alloc] at b2
        exact ⟨w3.heap.size + 1, w3.heap.size, rfl, rfl, ⟨by omega⟩, ⟨by omega⟩, ⟨by omega⟩, ⟨by omega⟩, ⟨by omega⟩, ⟨by omega⟩, ⟨by omega⟩, ⟨blk_drew b2⟩, ⟨blk_drew (blk_alloc b1 _)⟩, ⟨blk_drew (blk_alloc (blk_alloc BN3.out _) _)⟩, ⟨blk_drew (blk_alloc (blk_alloc BC3.out _) _)⟩, ⟨below_drew1 (below_alloc (below_alloc B3.out _) _)⟩⟩
  case rest =>
    clear hcn3 hc3_0 hc3_1 hc3_2 hc3_3 hc3_4 BN BN2 BN3 BC BC3 B1 B2 B3 HB
    obtain ⟨gl, gh, rfl, rfl, N1, N2, N3, N4, N5, N6, N7, L1, H1, BN, BC, HB⟩ := hcut
    have hn1 : wc.cell? ⟨gn, 0, none⟩ = some (.int .i64 a0) := (blk_cell BN.out 0).trans rfl
    have hl1 : wc.cell? ⟨gl, 0, none⟩ = some (.int .i64 0) := (blk_cell L1.out 0).trans rfl
    have hh1 : wc.cell? ⟨gh, 0, none⟩ = some (.int .i64 a0) := (blk_cell H1.out 0).trans rfl
    have hc_2 : wc.cell? ⟨gc, 2, none⟩ = some (.int .i64 a1_2) := (blk_cell BC.out 2).trans rfl
    go_wp2_with fail
    go_quiet (fail)
    go_upto_if 24 with fail
    go_cut [8, 9] (fun v8 v9 wx => ∃ lo hi f0 t0 : Int, v8 = .int .i64 f0 ∧ v9 = .int .i64 t0 ∧ Aside0 (lo = if a1_2 < 0 then -1 else 0) ∧ Aside0 (hi = if a1_2 < 0 then wrap64 (a0 - 1) else a0) ∧ Aside0 (f0 = if a1_2 < 0 then wrap64 (a0 - 1) else 0) ∧ Aside0 (t0 = if a1_2 < 0 then -1 else a0) ∧ Aside0 (wx.heap[gl]? = some (.cells #[.int .i64 lo] 3 (0, 0))) ∧ Aside0 (wx.heap[gh]? = some (.cells #[.int .i64 hi] 3 (0, 0))) ∧ Aside0 (wx.heap[gn]? = some (.cells #[.int .i64 a0] 3 (0, 0))) ∧ Aside0 (wx.heap[gc]? = some (.cells #[.int .i64 a1_0, .int .i64 a1_1, .int .i64 a1_2, .bool a1_3, .bool a1_4] 24 (0, 0))) ∧ Aside0 (Below w.heap.size w wx))
    case first =>
      by_cases hs : a1_2 < 0
      · have Hs := Aside0.mk hs
        have hs' : decide (a1_2 < 0) = true := decide_eq_true hs
        go_wp2_with fail
        have hl2 : ∀ k, ((wc.drewN k).setCell ⟨gl, 0, none⟩ (.int .i64 (-1))).cell? ⟨gn, 0, none⟩ = some (.int .i64 a0) := fun k => (blk_cell (blk_far (p := ⟨gl, 0, none⟩) (blk_drewN BN.out k) (Ne.symm N4.out) _) 0).trans rfl
        have hh2 : ∀ k, ((wc.drewN k).setCell ⟨gl, 0, none⟩ (.int .i64 (-1))).cell? ⟨gh, 0, none⟩ = some (.int .i64 a0) := fun k => (blk_cell (blk_far (p := ⟨gl, 0, none⟩) (blk_drewN H1.out k) (Ne.symm N1.out) _) 0).trans rfl
        have hf1 : wc.frozen? ⟨gl, 0, none⟩ = false := blk_frozen L1.out 0
        have hf2 : wc.frozen? ⟨gh, 0, none⟩ = false := blk_frozen H1.out 0
        have hf3 : ∀ k, ((wc.drewN k).setCell ⟨gl, 0, none⟩ (.int .i64 (-1))).frozen? ⟨gh, 0, none⟩ = false := fun k => blk_frozen (blk_far (p := ⟨gl, 0, none⟩) (blk_drewN H1.out k) (Ne.symm N1.out) _) 0
        have hn2 : ∀ k, (((wc.drewN k).setCell ⟨gl, 0, none⟩ (.int .i64 (-1))).setCell ⟨gh, 0, none⟩ (.int .i64 (wrap64 (a0 - 1)))).cell? ⟨gn, 0, none⟩ = some (.int .i64 a0) := fun k => (blk_cell (blk_far (p := ⟨gh, 0, none⟩) (blk_far (p := ⟨gl, 0, none⟩) (blk_drewN BN.out k) (Ne.symm N4.out) _) (Ne.symm N5.out) _) 0).trans rfl
        go_region
        all_goals (try go_wp2_with fail)
        go_meet
        case rel => exact ⟨-1, wrap64 (a0 - 1), wrap64 (a0 - 1), -1, rfl, rfl, ⟨(if_pos Hs.out).symm⟩, ⟨(if_pos Hs.out).symm⟩, ⟨(if_pos Hs.out).symm⟩, ⟨(if_pos Hs.out).symm⟩, ⟨blk_far (p := ⟨gh, 0, none⟩) (blk_set (blk_drewN L1.out _) 0 _) N1.out _⟩, ⟨blk_set (blk_far (p := ⟨gl, 0, none⟩) (blk_drewN H1.out _) (Ne.symm N1.out) _) 0 _⟩, ⟨blk_far (p := ⟨gh, 0, none⟩) (blk_far (p := ⟨gl, 0, none⟩) (blk_drewN BN.out _) (Ne.symm N4.out) _) (Ne.symm N5.out) _⟩, ⟨blk_far (p := ⟨gh, 0, none⟩) (blk_far (p := ⟨gl, 0, none⟩) (blk_drewN BC.out _) (Ne.symm N6.out) _) (Ne.symm N7.out) _⟩, ⟨below_set (below_set (pw_below_drewN HB.out _) N2.out) N3.out⟩⟩
      · have Hs := Aside0.mk hs
        have hs' : decide (a1_2 < 0) = false := decide_eq_false hs
        go_wp2_with fail
        have Hs2 : ¬ a1_2 < 0 := by have := Hs.out; omega
        go_meet
        case rel => exact ⟨0, a0, 0, a0, rfl, rfl, ⟨(if_neg Hs2).symm⟩, ⟨(if_neg Hs2).symm⟩, ⟨(if_neg Hs2).symm⟩, ⟨(if_neg Hs2).symm⟩, L1, H1, BN, BC, ⟨pw_below_drewN HB.out _⟩⟩
    case rest =>
      clear hn1 hl1 hh1 hc_2 L1 H1 BN BC HB
      obtain ⟨lo, hi, f0, t0, rfl, rfl, E1, E2, E3, E4, L1, H1, BN, BC, HB⟩ := hcut
      have hn1 : wc.cell? ⟨gn, 0, none⟩ = some (.int .i64 a0) := (blk_cell BN.out 0).trans rfl
      have hl1 : wc.cell? ⟨gl, 0, none⟩ = some (.int .i64 lo) := (blk_cell L1.out 0).trans rfl
      have hh1 : wc.cell? ⟨gh, 0, none⟩ = some (.int .i64 hi) := (blk_cell H1.out 0).trans rfl
      have hc_0 : wc.cell? ⟨gc, 0, none⟩ = some (.int .i64 a1_0) := (blk_cell BC.out 0).trans rfl
      have hc_1 : wc.cell? ⟨gc, 1, none⟩ = some (.int .i64 a1_1) := (blk_cell BC.out 1).trans rfl
      have hc_2 : wc.cell? ⟨gc, 2, none⟩ = some (.int .i64 a1_2) := (blk_cell BC.out 2).trans rfl
      have hc_3 : wc.cell? ⟨gc, 3, none⟩ = some (.bool a1_3) := (blk_cell BC.out 3).trans rfl
      have hc_4 : wc.cell? ⟨gc, 4, none⟩ = some (.bool a1_4) := (blk_cell BC.out 4).trans rfl
      go_wp2_with fail
      go_quiet ((go_at_call 44; refine Calls.quiet_of (bound_any _ _ _ a0 lo hi gn gl gh _ ?_ ?_ ?_) <;> (simp [*]; done)))
      clear hmf hn1 hl1 hh1 hc_0 hc_1 hc_3 hc_4
      have W1 := within_true A1.out
      have W2 := cutOk_true A2.out
      have ew : wrap64 (a0 - 1) = a0 - 1 := by unfold wrap64; omega
      have EP : Aside0 (boundI a0 lo hi a1_3 a1_0 f0 = cutP a0 a1_0 a1_2 a1_3) := ⟨by rw [E1.out, E2.out, E3.out, ew]; rfl⟩
      have EQ : Aside0 (boundI a0 lo hi a1_4 a1_1 t0 = cutQ a0 a1_1 a1_2 a1_4) := ⟨by rw [E1.out, E2.out, E4.out, ew]; rfl⟩
      rw [EP.out, EQ.out]
      have P1 := cutP_bd (f := a1_0) (s := a1_2) a1_3 W1.1
      have Q1 := cutQ_bd (t := a1_1) (s := a1_2) a1_4 W1.1
      have l1 : -1 ≤ cutLo a1_2 := by unfold cutLo; split <;> omega
      have l2 : cutHi a0 a1_2 ≤ 1000000 := by unfold cutHi; split <;> omega
      have PR : Aside0 (cutR a0 a1_0 a1_1 a1_2 a1_3 a1_4 = (cutP a0 a1_0 a1_2 a1_3, cutCount a1_2 (cutP a0 a1_0 a1_2 a1_3) (cutQ a0 a1_1 a1_2 a1_4))) := ⟨rfl⟩
      have p1 : -1 ≤ cutP a0 a1_0 a1_2 a1_3 := by omega
      have p2 : cutP a0 a1_0 a1_2 a1_3 ≤ 1000000 := by omega
      have q1 : -1 ≤ cutQ a0 a1_1 a1_2 a1_4 := by omega
      have q2 : cutQ a0 a1_1 a1_2 a1_4 ≤ 1000000 := by omega
      have s1 := W2.2.2.2.2.1
      have s2 := W2.2.2.2.2.2.1
      have s0 := Aside0.mk W2.2.2.2.2.2.2.1
      clear W1 W2 ew EP EQ P1 Q1 l1 l2 E1 E2 E3 E4
      generalize cutP a0 a1_0 a1_2 a1_3 = p at *
      generalize cutQ a0 a1_1 a1_2 a1_4 = q at *
      have fin : ∀ (c : Int) (E : Ending) (W' : World), c = cutCount a1_2 p q → E = .returned (.tuple #[.int .i64 p, .int .i64 c]) → Below w.heap.size w W' → E = .returned (.tuple #[.int .i64 (cutR a0 a1_0 a1_1 a1_2 a1_3 a1_4).1, .int .i64 (cutR a0 a1_0 a1_1 a1_2 a1_3 a1_4).2]) ∧ Below w.heap.size w W' := by
        intro c E W' hc hE hB
        rw [PR.out, hE, hc]
        exact ⟨rfl, hB⟩
      by_cases hs : 0 < a1_2
      · have hs' : decide (0 < a1_2) = true := decide_eq_true hs
        have hs2 : decide (a1_2 < 0) = false := decide_eq_false (by omega)
        by_cases hpq : p < q
        · have hp' : decide (p < q) = true := decide_eq_true hpq
          have hd := Aside0.mk (cut_div_le (q - p - 1) a1_2 (by omega) hs)
          have fin2 := fin ((q - p - 1) / a1_2 + 1)
          clear fin
          go_wp2
          go_ret2
          refine fin2 _ _ (by rw [cutCount, if_pos hs, if_pos hpq]) ?_ (pw_below_drewN HB.out _)
          have hd1 := hd.out
          refine congrArg (fun z => Ending.returned (.tuple #[.int .i64 p, .int .i64 z])) (?_ : wrap64 ((q - p - 1) / a1_2 + 1) = _)
          unfold wrap64; omega
        · have hp' : decide (p < q) = false := decide_eq_false hpq
          have fin2 := fin 0
          clear fin
          go_wp2
          go_ret2
          exact fin2 _ _ (by rw [cutCount, if_pos hs, if_neg (by omega)]) rfl (pw_below_drewN HB.out _)
      · have hs' : decide (0 < a1_2) = false := decide_eq_false hs
        have hs0 : a1_2 < 0 := by have := s0.out; omega
        have hs2 : decide (a1_2 < 0) = true := decide_eq_true hs0
        by_cases hpq : q < p
        · have hp' : decide (q < p) = true := decide_eq_true hpq
          have hd := Aside0.mk (cut_div_le (p - q - 1) (-a1_2) (by omega) (by omega))
          have hn := Aside0.mk (cut_neg (p - q - 1) a1_2 (by omega) hs0)
          have fin2 := fin ((p - q - 1) / (-a1_2) + 1)
          clear fin
          go_wp2
          go_ret2
          refine fin2 _ _ (by rw [cutCount, if_neg (by omega), if_pos hpq]) ?_ (pw_below_drewN HB.out _)
          have hn1 := hn.out
          have hd1 := hd.out
          refine congrArg (fun z => Ending.returned (.tuple #[.int .i64 p, .int .i64 z])) (?_ : wrap64 (wrap64 (-((p - q - 1).tdiv a1_2)) + 1) = _)
          rw [hn1]; unfold wrap64; omega
        · have hp' : decide (q < p) = false := decide_eq_false hpq
          have fin2 := fin 0
          clear fin
          go_wp2
          go_ret2
          exact fin2 _ _ (by rw [cutCount, if_neg (by omega), if_neg (by omega)]) rfl (pw_below_drewN HB.out _)

set_option maxHeartbeats 4000000 in
set_option maxRecDepth 100000 in
theorem impl_CutRange.calls (a0 : Int) (a1_0 : Int) (a1_1 : Int) (a1_2 : Int) (a1_3 : Bool) (a1_4 : Bool) (r1 : Int) (r2 : Int) (w : World) (h : impl_CutRange.f a0 a1_0 a1_1 a1_2 a1_3 a1_4 = some (r1, r2)) :
    Calls Try.prog 18 #[.int .i64 a0, .agg #[.int .i64 a1_0, .int .i64 a1_1, .int .i64 a1_2, .bool a1_3, .bool a1_4]] w fun e w' => e = .returned (.tuple #[.int .i64 r1, .int .i64 r2]) ∧ Below w.heap.size w w' := by
  unfold impl_CutRange.f at h
  rw [within_some] at h
  simp only [Option.bind_some] at h
  by_cases hw : 0 ≤ a0 ∧ a0 ≤ 1000000
  · rw [if_pos (decide_eq_true hw), cutOk_some] at h
    simp only [Option.bind_some] at h
    have A1 : impl_within.f a0 0 1000000 = some true := by rw [within_some, decide_eq_true hw]
    cases hc : decide (-1000000 ≤ a1_0 ∧ a1_0 ≤ 1000000 ∧ -1000000 ≤ a1_1 ∧ a1_1 ≤ 1000000 ∧ -1000000 ≤ a1_2 ∧ a1_2 ≤ 1000000 ∧ a1_2 ≠ 0 ∧ (a1_3 = true ∨ a1_0 = 0) ∧ (a1_4 = true ∨ a1_1 = 0)) with
    | true =>
      rw [hc, if_pos rfl] at h
      have A2 : impl_CutOk.f a1_0 a1_1 a1_2 a1_3 a1_4 = some true := by rw [cutOk_some, hc]
      have := cr_any a0 a1_0 a1_1 a1_2 a1_3 a1_4 w A1 A2
      rw [Option.some.inj h] at this
      exact this
    | false =>
      rw [hc, if_neg (by simp)] at h
      obtain ⟨rfl, rfl⟩ := Prod.mk.inj (Option.some.inj h)
      have A2 : impl_CutOk.f a1_0 a1_1 a1_2 a1_3 a1_4 = some false := by rw [cutOk_some, hc]
      have hu24 := Try.underlying24
      have A1 := Aside0.mk A1
      have A2 := Aside0.mk A2
      clear h hw hc
      go_enter Try.func18, Try.ntmps18
      go_wp2_with (first
        | ((with_reducible refine gate_dst (N := 2) rfl ?_); refine box_event ?hg (N := 2) ?hd (cs := #[.int .i64 a0]) (t := 3) ?hr ?_; (case hd => rfl); (case hg => rfl); (case hr => first | (go_simp; done) | (go_simp; rfl)); intro gn hgn w1 hbn hb1; have BN := Aside0.mk hbn; have B1 := Aside0.mk hb1; have GN := Aside0.mk (Nat.le_of_eq hgn.symm); clear hgn hbn hb1; have hcn : w1.cell? ⟨gn, 0, none⟩ = some (.int .i64 a0) := (blk_cell BN.out 0).trans rfl)
        | ((with_reducible refine gate_dst (N := 3) rfl ?_); refine box_event ?hg (N := 3) ?hd (cs := #[.int .i64 a1_0, .int .i64 a1_1, .int .i64 a1_2, .bool a1_3, .bool a1_4]) (t := 24) ?hr ?_; (case hd => rfl); (case hg => rfl); (case hr => first | (go_simp; done) | (go_simp; rfl)); intro gc hgc w2 hbc hb2; have BN2 := Aside0.mk (blk_below BN.out hb2); have BC := Aside0.mk hbc; have B2 := Aside0.mk (below_step B1.out hb2); clear hgc hbc hb2; have hcn2 : w2.cell? ⟨gn, 0, none⟩ = some (.int .i64 a0) := (blk_cell BN2.out 0).trans rfl; have hc2_0 : w2.cell? ⟨gc, 0, none⟩ = some (.int .i64 a1_0) := (blk_cell BC.out 0).trans rfl; have hc2_1 : w2.cell? ⟨gc, 1, none⟩ = some (.int .i64 a1_1) := (blk_cell BC.out 1).trans rfl; have hc2_2 : w2.cell? ⟨gc, 2, none⟩ = some (.int .i64 a1_2) := (blk_cell BC.out 2).trans rfl; have hc2_3 : w2.cell? ⟨gc, 3, none⟩ = some (.bool a1_3) := (blk_cell BC.out 3).trans rfl; have hc2_4 : w2.cell? ⟨gc, 4, none⟩ = some (.bool a1_4) := (blk_cell BC.out 4).trans rfl)
        | (go_at_call 42; (with_reducible refine (impl_within.calls a0 0 1000000 true _ A1.out).mono ?_); rintro e w' ⟨rfl, ⟨nd, rfl⟩⟩)
        | (go_at_call 16; (with_reducible refine (impl_CutOk.calls a1_0 a1_1 a1_2 a1_3 a1_4 false _ A2.out).mono ?_); rintro e w3 ⟨rfl, hb3⟩; have B3 := Aside0.mk (below_step (W := w2.drewN nd) (pw_below_drewN B2.out _) hb3); clear hb3))
      go_ret2
      exact ⟨rfl, B3.out⟩
  · rw [if_neg (by simpa using hw)] at h
    obtain ⟨rfl, rfl⟩ := Prod.mk.inj (Option.some.inj h)
    have A1 : impl_within.f a0 0 1000000 = some false := by rw [within_some, decide_eq_false hw]
    have hu24 := Try.underlying24
    have A1 := Aside0.mk A1
    clear h hw
    go_enter Try.func18, Try.ntmps18
    go_wp2_with (first
      | ((with_reducible refine gate_dst (N := 2) rfl ?_); refine box_event ?hg (N := 2) ?hd (cs := #[.int .i64 a0]) (t := 3) ?hr ?_; (case hd => rfl); (case hg => rfl); (case hr => first | (go_simp; done) | (go_simp; rfl)); intro gn hgn w1 hbn hb1; have BN := Aside0.mk hbn; have B1 := Aside0.mk hb1; have GN := Aside0.mk (Nat.le_of_eq hgn.symm); clear hgn hbn hb1; have hcn : w1.cell? ⟨gn, 0, none⟩ = some (.int .i64 a0) := (blk_cell BN.out 0).trans rfl)
      | ((with_reducible refine gate_dst (N := 3) rfl ?_); refine box_event ?hg (N := 3) ?hd (cs := #[.int .i64 a1_0, .int .i64 a1_1, .int .i64 a1_2, .bool a1_3, .bool a1_4]) (t := 24) ?hr ?_; (case hd => rfl); (case hg => rfl); (case hr => first | (go_simp; done) | (go_simp; rfl)); intro gc hgc w2 hbc hb2; have BN2 := Aside0.mk (blk_below BN.out hb2); have B2 := Aside0.mk (below_step B1.out hb2); clear hgc hbc hb2; have hcn2 : w2.cell? ⟨gn, 0, none⟩ = some (.int .i64 a0) := (blk_cell BN2.out 0).trans rfl)
      | (go_at_call 42; (with_reducible refine (impl_within.calls a0 0 1000000 false _ A1.out).mono ?_); rintro e w' ⟨rfl, ⟨nd, rfl⟩⟩))
    go_ret2
    exact ⟨rfl, pw_below_drewN B2.out _⟩

/-! ### impl_places: function 50 -/
theorem cutCount_bd (s p q : Int) (p1 : -1 ≤ p) (p2 : p ≤ 1000000) (q1 : -1 ≤ q) (q2 : q ≤ 1000000) (s0 : s ≠ 0) : 0 ≤ cutCount s p q ∧ cutCount s p q ≤ 1000001 := by
  unfold cutCount
  by_cases hs : 0 < s
  · rw [if_pos hs]
    by_cases h : p < q
    · rw [if_pos h]; have := cut_div_le (q - p - 1) s (by omega) hs; omega
    · rw [if_neg h]; omega
  · rw [if_neg hs]
    by_cases h : q < p
    · rw [if_pos h]; have := cut_div_le (p - q - 1) (-s) (by omega) (by omega); omega
    · rw [if_neg h]; omega
theorem cutRange_bd {n f t s : Int} {hf ht : Bool} {p m : Int} (h : impl_CutRange.f n f t s hf ht = some (p, m)) : 0 ≤ m ∧ m ≤ 1000001 := by
  unfold impl_CutRange.f at h
  rw [within_some, cutOk_some] at h
  simp only [Option.bind_some] at h
  by_cases h1 : 0 ≤ n ∧ n ≤ 1000000
  · rw [if_pos (decide_eq_true h1)] at h
    by_cases h2 : -1000000 ≤ f ∧ f ≤ 1000000 ∧ -1000000 ≤ t ∧ t ≤ 1000000 ∧ -1000000 ≤ s ∧ s ≤ 1000000 ∧ s ≠ 0 ∧ (hf = true ∨ f = 0) ∧ (ht = true ∨ t = 0)
    · rw [if_pos (decide_eq_true h2)] at h
      have P := cutP_bd (n := n) (f := f) (s := s) hf h1.1
      have Q := cutQ_bd (n := n) (t := t) (s := s) ht h1.1
      have l1 : -1 ≤ cutLo s := by unfold cutLo; split <;> omega
      have l2 : cutHi n s ≤ 1000000 := by unfold cutHi; split <;> omega
      have e := congrArg Prod.snd (Option.some.inj h)
      rw [← show _ = m from e]
      exact cutCount_bd s _ _ (by omega) (by omega) (by omega) (by omega) h2.2.2.2.2.2.2.1
    · rw [if_neg (by simpa using h2)] at h
      obtain ⟨rfl, rfl⟩ := Prod.mk.inj (Option.some.inj h)
      omega
  · rw [if_neg (by simpa using h1)] at h
    obtain ⟨rfl, rfl⟩ := Prod.mk.inj (Option.some.inj h)
    omega
/-- The places from one on, so many, a step apart. -/
def placesW (s : Int) : Int → Nat → List Int
  | _, 0 => []
  | p, k + 1 => p :: placesW s (wrap64 (p + s)) k
theorem placesW_length (s : Int) : ∀ (k : Nat) (p : Int), (placesW s p k).length = k
  | 0, _ => rfl
  | k + 1, p => by simp [placesW, placesW_length s k]
def impl_places.f (a0 : Int) (a1_0 : Int) (a1_1 : Int) (a1_2 : Int) (a1_3 : Bool) (a1_4 : Bool) : Option (List Int) := (impl_CutRange.f a0 a1_0 a1_1 a1_2 a1_3 a1_4).bind fun r => some (placesW a1_2 r.1 r.2.toNat)
theorem run_make_cap {P : Program} (t e : TypeId) (i : TypeInfo) (z : Value) (ht : P.underlying t = some (.slice e)) (hi : P.info? e = some i) (hz : i.zero = some z)
    (kl kc : IntKind) (c : Nat) (hbytes : i.bytes * c ≤ 281474976710656) (h63 : c ≤ 9223372036854775807) (w : World) :
    (Instr.makeSlice t (.int kl 0) (.int kc (c : Int))).run P w = .ok (.slice (some ⟨w.heap.size, 0, none⟩) 0 c) (w.alloc (.cells (madeCells z.cells (c * i.size)) e)) := by
  have hb : (i.bytes : Int) * (c : Int) ≤ 281474976710656 := by
    have h : ((i.bytes * c : Nat) : Int) ≤ 281474976710656 := by omega
    rwa [Int.natCast_mul] at h
  have hr := run_make (P := P) w t e i z ht hi hz kl kc (0 : Nat) c (by omega) (by omega) hb (by omega)
  simp only [Int.toNat_natCast] at hr
  exact hr
theorem own_cap (w : World) (base : Nat) (e : TypeId) (z : Value) (c : Nat) (hc : c ≤ maxLen) (hb : base ≤ w.heap.size) :
    (w.alloc (.cells (madeCells #[z] c) e)).ownsRow base e 1 (.slice (some ⟨w.heap.size, 0, none⟩) 0 c) 0 [] :=
  ⟨rfl, .inr ⟨w.heap.size, c, _, rfl, hb, heap_alloc_new w _, by omega, hc, by rw [size_madeCells]; omega, rfl⟩⟩
set_option maxHeartbeats 8000000 in
set_option maxRecDepth 100000 in
theorem impl_places.calls (a0 : Int) (a1_0 : Int) (a1_1 : Int) (a1_2 : Int) (a1_3 : Bool) (a1_4 : Bool) (r : List Int) (w : World) (h : impl_places.f a0 a1_0 a1_1 a1_2 a1_3 a1_4 = some r) :
    Calls Try.prog 50 #[.int .i64 a0, .agg #[.int .i64 a1_0, .int .i64 a1_1, .int .i64 a1_2, .bool a1_3, .bool a1_4]] w fun e w' => ∃ v0_ : Value, e = .returned (v0_) ∧ Kd.R (Kd.int .i64) 3 w' w.heap.size (fun _ => True) v0_ r ∧ Below w.heap.size w w' := by
  unfold impl_places.f at h
  obtain ⟨⟨p, m⟩, A1, h⟩ := Option.bind_eq_some_iff.mp h
  obtain ⟨m0, m1⟩ := cutRange_bd A1
  obtain ⟨m, rfl⟩ := Int.eq_ofNat_of_zero_le m0
  have hr := Option.some.inj h
  simp only [Int.toNat_natCast] at hr
  have HR := Aside0.mk hr
  clear h hr m0
  have A1 := Aside0.mk A1
  have hu24 := Try.underlying24
  obtain ⟨i0, hi, hz0, hz1, hz2⟩ := info_parts info3
  have hmk : ∀ W : World, (Instr.makeSlice 43 (.int .i64 0) (.int .i64 (m : Int))).run Try.prog W = .ok (.slice (some ⟨W.heap.size, 0, none⟩) 0 m) (W.alloc (.cells (madeCells #[.int .i64 0] m) 3)) := fun W => by
    have := run_make_cap (P := Try.prog) 43 3 i0 (.int .i64 0) Try.underlying43 hi hz0 .i64 .i64 m (by rw [hz2]; omega) (by omega) W
    rw [hz1, Nat.mul_one] at this
    exact this
  go_enter Try.func50, Try.ntmps50
  go_wp2_with (first
    | ((with_reducible refine gate_dst (N := 3) rfl ?_); refine box_event ?hg (N := 3) ?hd (cs := #[.int .i64 a1_0, .int .i64 a1_1, .int .i64 a1_2, .bool a1_3, .bool a1_4]) (t := 24) ?hr ?_; (case hd => rfl); (case hg => rfl); (case hr => first | (go_simp; done) | (go_simp; rfl)); intro gc hgc w1 hbc hb1; have BC := Aside0.mk hbc; have B1 := Aside0.mk hb1; have GC := Aside0.mk (Nat.le_of_eq hgc.symm); clear hgc hbc hb1; have hc1_0 : w1.cell? ⟨gc, 0, none⟩ = some (.int .i64 a1_0) := (blk_cell BC.out 0).trans rfl; have hc1_1 : w1.cell? ⟨gc, 1, none⟩ = some (.int .i64 a1_1) := (blk_cell BC.out 1).trans rfl; have hc1_2 : w1.cell? ⟨gc, 2, none⟩ = some (.int .i64 a1_2) := (blk_cell BC.out 2).trans rfl; have hc1_3 : w1.cell? ⟨gc, 3, none⟩ = some (.bool a1_3) := (blk_cell BC.out 3).trans rfl; have hc1_4 : w1.cell? ⟨gc, 4, none⟩ = some (.bool a1_4) := (blk_cell BC.out 4).trans rfl)
    | (go_at_call 18; (with_reducible refine (impl_CutRange.calls a0 a1_0 a1_1 a1_2 a1_3 a1_4 p (m : Int) _ A1.out).mono ?_); rintro e w2 ⟨rfl, hb2⟩; have BC2 := Aside0.mk (blk_below BC.out hb2); have B2 := Aside0.mk (below_step B1.out hb2); clear hb2))
  have HO := Aside0.mk (Kd.R_of_own (enc := Value.int .i64) (h1 := fun _ => rfl) (own_cap w2 w.heap.size 3 (.int .i64 0) m (by unfold maxLen; omega) (below_size B2.out)) (xs := []) (ok := fun _ => True) (fun _ _ => trivial))
  have BC3 := Aside0.mk (blk_alloc BC2.out (.cells (madeCells #[.int .i64 0] m) 3))
  have B3 := Aside0.mk (below_alloc B2.out (.cells (madeCells #[.int .i64 0] m) 3))
  go_loopw [5, 7, 17] (fun v5 v7 v17 wr => ∃ (k : Nat) (cur : Int) (acc : List Int), k ≤ m ∧ v5 = .int .i64 cur ∧ v17 = .int .i64 (k : Int) ∧ Aside0 (acc ++ placesW a1_2 cur (m - k) = r) ∧ Aside0 (acc.length = k) ∧ Aside0 (Kd.R (Kd.int .i64) 3 wr w.heap.size (fun _ => True) v7 acc) ∧ Aside0 (wr.heap[gc]? = some (.cells #[.int .i64 a1_0, .int .i64 a1_1, .int .i64 a1_2, .bool a1_3, .bool a1_4] 24 (0, 0))) ∧ Aside0 (Below w.heap.size w wr)) (fun _ _ v17 _ => m - (intOf v17).toNat)
  case atStart => exact ⟨0, p, [], Nat.zero_le _, rfl, rfl, ⟨by simpa using HR.out⟩, ⟨rfl⟩, HO, BC3, B3⟩
  case round =>
    clear hmk hc1_0 hc1_1 hc1_2 hc1_3 hc1_4 BC BC2 BC3 B1 B2 B3 HO HR
    obtain ⟨k, cur, acc, hk, rfl, rfl, HE, HL, HO, BC, HB⟩ := hrel
    have hc_2 : wr.cell? ⟨gc, 2, none⟩ = some (.int .i64 a1_2) := (blk_cell BC.out 2).trans rfl
    by_cases hlt : k < m
    · have hlt' : decide ((k : Int) < (m : Int)) = true := decide_eq_true (by omega)
      go_wp2_with ((with_reducible refine gate_builtin (b := .append) (xs := #[.tmp 19, .tmp 21]) rfl ?_); at_builtin; refine Kd.R_append (Kd.int .i64) (w0 := w) w.heap.size rfl (.tmp 19) (.tmp 21) 43 3 (.int .i64 0) 8 rfl Try.underlying43 info3 rfl (by decide) (by omega) _ acc cur [.int .i64 cur] (fun _ => True) (fun _ => False) rfl rfl ?aP (fun _ hk => hk.elim) ?aF ?aO ?aB ?aS ?aL ?_; (case aP => exact rfl); (case aB => exact HB.out); (case aF => exact (fun _ _ => trivial)); (case aO => exact HO.out); (case aS => exact (below_size HB.out)); (case aL => have := HL.out; omega); intro v1 wa ho hb hg hat; have BC2 := Aside0.mk (blk_grown BC.out hg (Kd.R_ne HO.out BC.out (by decide))); have HO2 := Aside0.mk ho; have HB2 := Aside0.mk hb; clear ho hb hg hat; have hd_2 : wa.cell? ⟨gc, 2, none⟩ = some (.int .i64 a1_2) := (blk_cell BC2.out 2).trans rfl)
      go_roundw
      case rel =>
        refine ⟨k + 1, wrap64 (cur + a1_2), acc ++ [cur], by omega, rfl, by go_num, ⟨?_⟩, ⟨by rw [List.length_append, HL.out]; rfl⟩, HO2, BC2, HB2⟩
        rw [← HE.out, show m - k = (m - (k + 1)) + 1 by omega, placesW, List.append_assoc]; rfl
      case measure => simp [intOf]; omega
    · have hlt' : decide ((k : Int) < (m : Int)) = false := decide_eq_false (by omega)
      have hkm : k = m := by omega
      have HF : Aside0 (acc = r) := ⟨by have := HE.out; rw [hkm, Nat.sub_self] at this; simpa [placesW] using this⟩
      go_wp2
      go_ret
      rw [← HF.out]
      exact ⟨_, rfl, HO.out, HB.out⟩

/-! ### slices_Index_int_int: function 67 -/
set_option maxRecDepth 100000 in
def slices_Index_int_int.l0 : Nat → List Int → Int → Int → Int → Option (Int)
  | 0, _, _, _, _ => none
  | k + 1, x0, x1, x7, x8 => if x8 < x7 then (if 0 ≤ x8 then (if x8 < (x0.length : Int) then (if x1 = (rd x0 x8) then (some x8) else (slices_Index_int_int.l0 k x0 x1 x7 (wrap64 (x8 + 1)))) else (none)) else (none)) else (some (-1))
def slices_Index_int_int.f (k : Nat) (l0 : List Int) (a1 : Int) : Option (Int) := slices_Index_int_int.l0 k l0 a1 (l0.length : Int) 0
set_option maxRecDepth 100000 in
theorem slices_Index_int_int.mono_l : ∀ k, (∀ y0 y1 y2 y3, LeO (slices_Index_int_int.l0 k y0 y1 y2 y3) (slices_Index_int_int.l0 (k + 1) y0 y1 y2 y3))
  | 0 => fun _ _ _ _ r h => by simp [slices_Index_int_int.l0] at h
  | k + 1 => by
    have ih0 := slices_Index_int_int.mono_l k
    · intro y0 y1 y2 y3
      unfold slices_Index_int_int.l0
      repeat' first
      | (with_reducible exact ih0 _ _ _ _)
      | (with_reducible exact LeO.refl _)
      | (with_reducible exact LeO.none _)
      | (with_reducible refine LeO.ite ?_ ?_)
      | (with_reducible refine LeO.bind ?_ (fun _ => ?_))
      | exact ih0 _ _ _ _
      | exact LeO.none _
      | refine LeO.ite ?_ ?_
      | refine LeO.bind ?_ (fun _ => ?_)
set_option maxRecDepth 100000 in
theorem slices_Index_int_int.mono : ∀ a0 a1 k, LeO (slices_Index_int_int.f k a0 a1) (slices_Index_int_int.f (k + 1) a0 a1) := by
  intro a0 a1 k
  have ih0 := slices_Index_int_int.mono_l k
  unfold slices_Index_int_int.f
  repeat' first
      | (with_reducible exact ih0 _ _ _ _)
      | (with_reducible exact LeO.refl _)
      | (with_reducible exact LeO.none _)
      | (with_reducible refine LeO.ite ?_ ?_)
      | (with_reducible refine LeO.bind ?_ (fun _ => ?_))
      | exact ih0 _ _ _ _
      | exact LeO.none _
      | refine LeO.ite ?_ ?_
      | refine LeO.bind ?_ (fun _ => ?_)
set_option maxHeartbeats 8000000 in
set_option maxRecDepth 100000 in
theorem slices_Index_int_int.calls (k : Nat) (A0 : Option Addr) (c0 : Nat) (l0 : List Int) (a1 : Int) (r : Int) (w : World) (hr0 : Kd.C (Kd.int .i64) w A0 l0.length l0) (hc0 : l0.length ≤ c0) (h : slices_Index_int_int.f k l0 a1 = some r) :
    Calls Try.prog 67 #[.slice A0 l0.length c0, .int .i64 a1] w fun e w' => e = .returned (.int .i64 r) ∧ Drawn0 w w' := by
  have HR0 := Aside0.mk hr0
  have HC0 := Aside0.mk hc0
  clear hr0 hc0
  have H : (slices_Index_int_int.l0 k l0 a1 (l0.length : Int) 0) = some r := h
  clear h
  have H' := Aside0.mk H
  clear H
  go_enter Try.func67, Try.ntmps67
  go_wp2
  go_loopg [8] k (fun kq v8 w' => ∃ (x8_1 : Int), v8 = .int .i64 x8_1 ∧ Aside0 (slices_Index_int_int.l0 kq l0 a1 (l0.length : Int) x8_1 = some r) ∧ Aside0 (kq ≤ k) ∧ Drawn0 w w')
  case atStart => exact ⟨(0), (by first | rfl | (simp; done) | (simp [*]; done)), H', ⟨Nat.le_refl _⟩, by repeat (first | exact Drawn0.refl _ | apply Drawn0.step)⟩
  case round =>
    clear H'
    try clear p2
    obtain ⟨x8_1, rfl, HA, HK1, ⟨m1, rfl⟩⟩ := hrel
    cases gk with
    | zero => exact absurd HA.out (by simp [slices_Index_int_int.l0])
    | succ k1 =>
      have H := HA.out
      clear HA
      simp only [slices_Index_int_int.l0] at H
      by_cases c3 : x8_1 < (l0.length : Int)
      · rw [if_pos c3] at H
        have c3b0 : decide (x8_1 < (l0.length : Int)) = true := decide_eq_true c3
        clear c3
        by_cases c4 : 0 ≤ x8_1
        · rw [if_pos c4] at H
          have c4b0 : decide (0 ≤ x8_1) = true := decide_eq_true c4
          clear c4
          by_cases c5 : x8_1 < (l0.length : Int)
          · rw [if_pos c5] at H
            have c5b0 : decide (x8_1 < (l0.length : Int)) = true := decide_eq_true c5
            clear c5
            by_cases c6 : a1 = (rd l0 x8_1)
            · rw [if_pos c6] at H
              have c6b0 : (a1 == (rd l0 x8_1)) = true := beq_iff_eq.mpr c6
              have c6b1 : (a1 != (rd l0 x8_1)) = false := bne_eq_false_iff_eq.mpr c6
              clear c6
              obtain rfl := Option.some.inj H
              have p117 : 0 ≤ (x8_1 : Int) := of_decide_eq_true (by first | (with_reducible assumption) | assumption)
              have q117 : x8_1 < (l0.length : Int) := of_decide_eq_true (by first | (with_reducible assumption) | assumption)
              obtain ⟨ad117, e117, hx117_0⟩ := Kd.at_int HR0.out x8_1 p117 q117
              cases e117
              replace p117 := eq_true p117
              replace q117 := eq_true q117
              go_wp2
              go_ret
              exact ⟨by first | rfl | (simp; done) | (simp [*]; done), by repeat (first | exact Drawn0.refl _ | apply Drawn0.step)⟩
            · rw [if_neg c6] at H
              have c6b0 : (a1 == (rd l0 x8_1)) = false := beq_eq_false_iff_ne.mpr c6
              have c6b1 : (a1 != (rd l0 x8_1)) = true := bne_iff_ne.mpr c6
              have H' := Aside0.mk H
              clear H
              have p117 : 0 ≤ (x8_1 : Int) := of_decide_eq_true (by first | (with_reducible assumption) | assumption)
              have q117 : x8_1 < (l0.length : Int) := of_decide_eq_true (by first | (with_reducible assumption) | assumption)
              obtain ⟨ad117, e117, hx117_0⟩ := Kd.at_int HR0.out x8_1 p117 q117
              cases e117
              replace p117 := eq_true p117
              replace q117 := eq_true q117
              go_wp2
              go_roundg k1
              case measure => have := HK1.out; omega
              case rel => exact ⟨(wrap64 (x8_1 + 1)), (by first | rfl | (simp; done) | (simp [*]; done)), H', ⟨by have := HK1.out; omega⟩, by repeat (first | exact Drawn0.refl _ | apply Drawn0.step)⟩
          · rw [if_neg c5] at H
            exact absurd H (by simp)
        · rw [if_neg c4] at H
          exact absurd H (by simp)
      · rw [if_neg c3] at H
        have c3b0 : decide (x8_1 < (l0.length : Int)) = false := decide_eq_false c3
        clear c3
        obtain rfl := Option.some.inj H
        go_wp2
        go_ret
        exact ⟨by first | rfl | (simp; done) | (simp [*]; done), by repeat (first | exact Drawn0.refl _ | apply Drawn0.step)⟩

/-! ### slices_Contains_int_int: function 58 -/
def slices_Contains_int_int.f (k : Nat) (l0 : List Int) (a1 : Int) : Option (Bool) := (slices_Index_int_int.f k l0 a1).bind fun t118 => (some (decide (t118 ≥ 0)))
set_option maxRecDepth 100000 in
theorem slices_Contains_int_int.mono : ∀ a0 a1 k, LeO (slices_Contains_int_int.f k a0 a1) (slices_Contains_int_int.f (k + 1) a0 a1) := by
  intro a0 a1 k
  unfold slices_Contains_int_int.f
  repeat' first
      | (with_reducible exact slices_Index_int_int.mono _ _ _)
      | (with_reducible exact LeO.refl _)
      | (with_reducible exact LeO.none _)
      | (with_reducible refine LeO.ite ?_ ?_)
      | (with_reducible refine LeO.bind ?_ (fun _ => ?_))
      | exact slices_Index_int_int.mono _ _ _
      | exact LeO.none _
      | refine LeO.ite ?_ ?_
      | refine LeO.bind ?_ (fun _ => ?_)
set_option maxHeartbeats 8000000 in
set_option maxRecDepth 100000 in
theorem slices_Contains_int_int.calls (k : Nat) (A0 : Option Addr) (c0 : Nat) (l0 : List Int) (a1 : Int) (r : Bool) (w : World) (hr0 : Kd.C (Kd.int .i64) w A0 l0.length l0) (hc0 : l0.length ≤ c0) (h : slices_Contains_int_int.f k l0 a1 = some r) :
    Calls Try.prog 58 #[.slice A0 l0.length c0, .int .i64 a1] w fun e w' => e = .returned (.bool r) ∧ Drawn0 w w' := by
  have HR0 := Aside0.mk hr0
  have HC0 := Aside0.mk hc0
  clear hr0 hc0
  have H : ((slices_Index_int_int.f k l0 a1).bind fun t118 => (some (decide (t118 ≥ 0)))) = some r := h
  clear h
  replace H := Option.bind_eq_some_iff.mp H
  obtain ⟨t118, A30, H⟩ := H
  replace H : (some (decide (t118 ≥ 0))) = some r := H
  have A3 := Aside0.mk A30
  clear A30
  obtain rfl := Option.some.inj H
  go_enter Try.func58, Try.ntmps58
  go_wp2_with (first | ((with_reducible refine gate_callee (f := 67) rfl ?_); refine goesL_ (some 7) rfl rfl Try.func67 (by kernel_rfl) rfl #[.slice A0 l0.length c0, .int .i64 a1] rfl (by (try simp only [List.map_toArray, List.map_cons, List.map_nil]); first | done | rfl | (simp only [List.length_drop, List.length_take]; rfl)) ?_; (with_reducible refine (slices_Index_int_int.calls k _ _ l0 a1 t118 _ ?side1 ?side2 A3.out).mono ?_); (case side1 => repeat (first | exact HR0.out | (with_reducible refine Kd.C_alloc ?_ _) | (with_reducible refine Kd.C_drewN ?_ _) | (with_reducible refine Kd.C_drew ?_))); (case side2 => exact HC0.out); rintro e w' ⟨rfl, ⟨nd, rfl⟩⟩; refine ⟨_, rfl, ?_⟩))
  go_ret
  exact ⟨by first | rfl | (simp; done) | (simp [*]; done), by repeat (first | exact Drawn0.refl _ | apply Drawn0.step)⟩

/-! ### impl_ListDropCut: function 36 -/
set_option maxRecDepth 100000 in
mutual
def impl_ListDropCut.j0 : Nat → List Int → Bool → Int → Int → Int → Bool → Bool → Option (List Int)
  | 0, _, _, _, _, _, _, _ => none
  | k + 1, x0, x16, x120000, x120001, x120002, x120003, x120004 => if x16 = true then (some ([] : List Int)) else ((impl_places.f (x0.length : Int) x120000 x120001 x120002 x120003 x120004).bind fun t121 => (impl_ListDropCut.l0 k t121 ([] : List Int) x0 (x0.length : Int) 0))
def impl_ListDropCut.l0 : Nat → List Int → List Int → List Int → Int → Int → Option (List Int)
  | 0, _, _, _, _, _ => none
  | k + 1, x5, x6, x21, x22, x23 => if x23 < x22 then (if 0 ≤ x23 then (if x23 < (x21.length : Int) then ((slices_Contains_int_int.f k x5 x23).bind fun t125 => (if t125 = true then (impl_ListDropCut.l0 k x5 x6 x21 x22 (wrap64 (x23 + 1))) else (if x6.length < 17592186044416 then (impl_ListDropCut.l0 k x5 (x6 ++ [rd x21 x23]) x21 x22 (wrap64 (x23 + 1))) else (none)))) else (none)) else (none)) else (some x6)
end
def impl_ListDropCut.f (k : Nat) (l0 : List Int) (a1_0 : Int) (a1_1 : Int) (a1_2 : Int) (a1_3 : Bool) (a1_4 : Bool) : Option (List Int) := if (l0.length : Int) > 60 then (impl_ListDropCut.j0 k l0 true a1_0 a1_1 a1_2 a1_3 a1_4) else ((impl_CutOk.f a1_0 a1_1 a1_2 a1_3 a1_4).bind fun t120 => (impl_ListDropCut.j0 k l0 (!t120) a1_0 a1_1 a1_2 a1_3 a1_4))
set_option maxRecDepth 100000 in
theorem impl_ListDropCut.mono_l : ∀ k, (∀ y0 y1 y2 y3 y4 y5 y6, LeO (impl_ListDropCut.j0 k y0 y1 y2 y3 y4 y5 y6) (impl_ListDropCut.j0 (k + 1) y0 y1 y2 y3 y4 y5 y6)) ∧ (∀ y0 y1 y2 y3 y4, LeO (impl_ListDropCut.l0 k y0 y1 y2 y3 y4) (impl_ListDropCut.l0 (k + 1) y0 y1 y2 y3 y4))
  | 0 => ⟨fun _ _ _ _ _ _ _ r h => by simp [impl_ListDropCut.j0] at h, fun _ _ _ _ _ r h => by simp [impl_ListDropCut.l0] at h⟩
  | k + 1 => by
    obtain ⟨ih0, ih1⟩ := impl_ListDropCut.mono_l k
    refine ⟨?_, ?_⟩
    · intro y0 y1 y2 y3 y4 y5 y6
      unfold impl_ListDropCut.j0
      repeat' first
      | (with_reducible exact ih0 _ _ _ _ _ _ _)
      | (with_reducible exact ih1 _ _ _ _ _)
      | (with_reducible exact slices_Contains_int_int.mono _ _ _)
      | (with_reducible exact LeO.refl _)
      | (with_reducible exact LeO.none _)
      | (with_reducible refine LeO.ite ?_ ?_)
      | (with_reducible refine LeO.bind ?_ (fun _ => ?_))
      | exact ih0 _ _ _ _ _ _ _
      | exact ih1 _ _ _ _ _
      | exact slices_Contains_int_int.mono _ _ _
      | exact LeO.none _
      | refine LeO.ite ?_ ?_
      | refine LeO.bind ?_ (fun _ => ?_)
    · intro y0 y1 y2 y3 y4
      unfold impl_ListDropCut.l0
      repeat' first
      | (with_reducible exact ih0 _ _ _ _ _ _ _)
      | (with_reducible exact ih1 _ _ _ _ _)
      | (with_reducible exact slices_Contains_int_int.mono _ _ _)
      | (with_reducible exact LeO.refl _)
      | (with_reducible exact LeO.none _)
      | (with_reducible refine LeO.ite ?_ ?_)
      | (with_reducible refine LeO.bind ?_ (fun _ => ?_))
      | exact ih0 _ _ _ _ _ _ _
      | exact ih1 _ _ _ _ _
      | exact slices_Contains_int_int.mono _ _ _
      | exact LeO.none _
      | refine LeO.ite ?_ ?_
      | refine LeO.bind ?_ (fun _ => ?_)
set_option maxRecDepth 100000 in
theorem impl_ListDropCut.mono : ∀ a0 a1 a2 a3 a4 a5 k, LeO (impl_ListDropCut.f k a0 a1 a2 a3 a4 a5) (impl_ListDropCut.f (k + 1) a0 a1 a2 a3 a4 a5) := by
  intro a0 a1 a2 a3 a4 a5 k
  obtain ⟨ih0, ih1⟩ := impl_ListDropCut.mono_l k
  unfold impl_ListDropCut.f
  repeat' first
      | (with_reducible exact ih0 _ _ _ _ _ _ _)
      | (with_reducible exact ih1 _ _ _ _ _)
      | (with_reducible exact slices_Contains_int_int.mono _ _ _)
      | (with_reducible exact LeO.refl _)
      | (with_reducible exact LeO.none _)
      | (with_reducible refine LeO.ite ?_ ?_)
      | (with_reducible refine LeO.bind ?_ (fun _ => ?_))
      | exact ih0 _ _ _ _ _ _ _
      | exact ih1 _ _ _ _ _
      | exact slices_Contains_int_int.mono _ _ _
      | exact LeO.none _
      | refine LeO.ite ?_ ?_
      | refine LeO.bind ?_ (fun _ => ?_)
set_option maxHeartbeats 8000000 in
set_option maxRecDepth 100000 in
theorem impl_ListDropCut.calls (k : Nat) (A0 : Option Addr) (c0 : Nat) (l0 : List Int) (a1_0 : Int) (a1_1 : Int) (a1_2 : Int) (a1_3 : Bool) (a1_4 : Bool) (r : List Int) (w : World) (hr0 : Kd.C (Kd.int .i64) w A0 l0.length l0) (hc0 : l0.length ≤ c0) (h : impl_ListDropCut.f k l0 a1_0 a1_1 a1_2 a1_3 a1_4 = some r) :
    Calls Try.prog 36 #[.slice A0 l0.length c0, .agg #[.int .i64 a1_0, .int .i64 a1_1, .int .i64 a1_2, .bool a1_3, .bool a1_4]] w fun e w' => ∃ v0_ : Value, e = .returned (v0_) ∧ Kd.R (Kd.int .i64) 3 w' w.heap.size (fun _ => True) v0_ r ∧ Below w.heap.size w w' := by
  have hu24 := Try.underlying24
  have HR0 := Aside0.mk hr0
  have HC0 := Aside0.mk hc0
  clear hr0 hc0
  have HB := Aside0.mk (Below.refl w.heap.size w)
  have H : (if (l0.length : Int) > 60 then (impl_ListDropCut.j0 k l0 true a1_0 a1_1 a1_2 a1_3 a1_4) else ((impl_CutOk.f a1_0 a1_1 a1_2 a1_3 a1_4).bind fun t120 => (impl_ListDropCut.j0 k l0 (!t120) a1_0 a1_1 a1_2 a1_3 a1_4))) = some r := h
  clear h
  have HC3 := Aside0.mk H
  clear H
  go_enter Try.func36, Try.ntmps36
  go_upto_region 1 with (first | ((with_reducible refine gate_dst (N := 3) rfl ?_); refine box_event ?hg (N := 3) ?hd (cs := #[.int .i64 a1_0, .int .i64 a1_1, .int .i64 a1_2, .bool a1_3, .bool a1_4]) (t := 24) ?hr ?_; (case hd => rfl); (case hg => rfl); (case hr => first | (go_simp; done) | (go_simp; rfl)); intro gb119 hg w4 hbox hb; have n0_ := Aside0.mk (below_step (by repeat (first | (with_reducible first | exact HB.out | apply below_alloc | apply pw_below_drewN | apply below_drew1) | exact HB.out)) hb); have n1_ := Aside0.mk (hbox); have n2_ := Aside0.mk ((by rw [hg]; exact (below_size (by repeat (first | (with_reducible first | exact HB.out | apply below_alloc | apply pw_below_drewN | apply below_drew1) | exact HB.out))) : w.heap.size ≤ gb119)); have n3_ := Aside0.mk ((by rw [hg]; exact (below_size (by repeat (first | (with_reducible first | exact HB.out | apply below_alloc | apply pw_below_drewN | apply below_drew1) | exact HB.out))) : w.heap.size ≤ gb119)); clear HB; have HB := n0_; have BK119 := n1_; have GW119 := n2_; have GE119 := n3_; clear n0_ n1_ n2_ n3_; clear hb hbox hg))
  (try simp only [Act.put, List.setIfInBounds_toArray, List.set_cons_zero, List.set_cons_succ])
  go_cut [16] (fun v16 wc => ∃ (kq : Nat) (x16_2 : Bool), v16 = .bool x16_2 ∧ Aside0 (impl_ListDropCut.j0 kq l0 x16_2 a1_0 a1_1 a1_2 a1_3 a1_4 = some r) ∧ Aside0 (kq ≤ k) ∧ Aside0 (wc.heap[gb119]? = some (.cells #[.int .i64 a1_0, .int .i64 a1_1, .int .i64 a1_2, .bool a1_3, .bool a1_4] 24 (0, 0))) ∧ Aside0 (Below w.heap.size w wc))
  case first =>
    have H := HC3.out
    clear HC3
    by_cases c5 : (l0.length : Int) > 60
    · rw [if_pos c5] at H
      have c5b0 : decide (60 < (l0.length : Int)) = true := decide_eq_true c5
      have c5b1 : decide (60 < l0.length) = true := decide_eq_true (by omega)
      clear c5
      (first | rw [c5b0] | (simp only [i64_w, i32_w]; rw [c5b0]) | skip)
      have H' := Aside0.mk H
      clear H
      go_wp2
      go_meet
      case rel => exact ⟨_, (true), (by first | rfl | (simp; done) | (simp [*]; done)), H', ⟨by first | omega | exact Nat.le_refl _⟩, ⟨by (with_reducible repeat (first | refine blk_drewN ?_ _ | refine blk_drew ?_ | refine blk_alloc ?_ _)); exact BK119.out⟩, ⟨by repeat (first | (with_reducible first | exact HB.out | apply below_alloc | apply pw_below_drewN | apply below_drew1 | refine below_set ?_ GE119.out) | exact HB.out)⟩⟩
    · rw [if_neg c5] at H
      have c5b0 : decide (60 < (l0.length : Int)) = false := decide_eq_false c5
      have c5b1 : decide (60 < l0.length) = false := decide_eq_false (by omega)
      clear c5
      (first | rw [c5b0] | (simp only [i64_w, i32_w]; rw [c5b0]) | skip)
      replace H := Option.bind_eq_some_iff.mp H
      obtain ⟨t120, A60, H⟩ := H
      replace H : (impl_ListDropCut.j0 k l0 (!t120) a1_0 a1_1 a1_2 a1_3 a1_4) = some r := H
      have A6 := Aside0.mk A60
      clear A60
      have H' := Aside0.mk H
      clear H
      have hcz7_0 : w4.cell? ⟨gb119, 0, none⟩ = some (.int .i64 a1_0) := (blk_cell BK119.out 0).trans rfl
      have hcz7_1 : w4.cell? ⟨gb119, 1, none⟩ = some (.int .i64 a1_1) := (blk_cell BK119.out 1).trans rfl
      have hcz7_2 : w4.cell? ⟨gb119, 2, none⟩ = some (.int .i64 a1_2) := (blk_cell BK119.out 2).trans rfl
      have hcz7_3 : w4.cell? ⟨gb119, 3, none⟩ = some (.bool a1_3) := (blk_cell BK119.out 3).trans rfl
      have hcz7_4 : w4.cell? ⟨gb119, 4, none⟩ = some (.bool a1_4) := (blk_cell BK119.out 4).trans rfl
      have hfz7_0 := blk_frozen BK119.out 0
      have hfz7_1 := blk_frozen BK119.out 1
      have hfz7_2 := blk_frozen BK119.out 2
      have hfz7_3 := blk_frozen BK119.out 3
      have hfz7_4 := blk_frozen BK119.out 4
      go_wp2_with (first | (go_at_call 16; (with_reducible refine (impl_CutOk.calls a1_0 a1_1 a1_2 a1_3 a1_4 t120 _ A6.out).mono ?_); rintro e w8 ⟨rfl, hb⟩; have n0_ := Aside0.mk (blk_below (g := gb119) (o := .cells #[.int .i64 a1_0, .int .i64 a1_1, .int .i64 a1_2, .bool a1_3, .bool a1_4] 24 (0, 0)) (by (with_reducible repeat (first | refine blk_drewN ?_ _ | refine blk_drew ?_ | refine blk_alloc ?_ _)); exact BK119.out) hb); have n1_ := Aside0.mk (below_step (by repeat (first | (with_reducible first | exact HB.out | apply below_alloc | apply pw_below_drewN | apply below_drew1 | refine below_set ?_ GE119.out) | exact HB.out)) hb); clear BK119; clear HB; have BK119 := n0_; have HB := n1_; clear n0_ n1_; (try clear hb); (try clear hb2); (try clear hk); (try clear hi)))
      go_meet
      case rel => exact ⟨_, (!t120), (by first | rfl | (simp; done) | (simp [*]; done)), H', ⟨by first | omega | exact Nat.le_refl _⟩, ⟨by (with_reducible repeat (first | refine blk_drewN ?_ _ | refine blk_drew ?_ | refine blk_alloc ?_ _)); exact BK119.out⟩, ⟨by repeat (first | (with_reducible first | exact HB.out | apply below_alloc | apply pw_below_drewN | apply below_drew1 | refine below_set ?_ GE119.out) | exact HB.out)⟩⟩
  case rest =>
    clear HC3
    try clear p2
    try clear c3
    try clear c5
    try clear c5b0
    try clear c5b1
    try clear hcz7_0
    try clear hcz7_1
    try clear hcz7_2
    try clear hcz7_3
    try clear hcz7_4
    try clear hfz7_0
    try clear hfz7_1
    try clear hfz7_2
    try clear hfz7_3
    try clear hfz7_4
    obtain ⟨kq, x16_2, rfl, HA, HJ2, BK119, HB⟩ := hcut
    cases kq with
    | zero => exact absurd HA.out (by simp [impl_ListDropCut.j0])
    | succ kj2 =>
      have H := HA.out
      clear HA
      simp only [impl_ListDropCut.j0] at H
      by_cases c9 : x16_2 = true
      · subst c9
        have H1 : (some ([] : List Int)) = some r := by rw [if_pos rfl] at H; exact H
        clear H
        have H := H1
        clear H1
        obtain rfl := Option.some.inj H
        go_wp2
        go_ret
        exact ⟨_, by first | rfl | (simp [errW_none, errW_some] <;> rfl) | (simp [*, errW_none, errW_some] <;> rfl), by first | exact Kd.R_nil _ _ _ _ _ | exact Kd.N_nil _ _ _ _ _ | exact Kd.V_nil _ _ _ _ _ | exact Kd.Q_nil _ _ _ _ _ | exact Kd.S_nil _ _ _ _ _, by repeat (first | (with_reducible first | exact HB.out | apply below_alloc | apply pw_below_drewN | apply below_drew1 | refine below_set ?_ GE119.out) | exact HB.out)⟩
      · replace c9 := Bool.eq_false_iff.mpr c9
        subst c9
        have H1 : ((impl_places.f (l0.length : Int) a1_0 a1_1 a1_2 a1_3 a1_4).bind fun t121 => (impl_ListDropCut.l0 kj2 t121 ([] : List Int) l0 (l0.length : Int) 0)) = some r := by rw [if_neg (show ¬ (false = true) by decide)] at H; exact H
        clear H
        have H := H1
        clear H1
        replace H := Option.bind_eq_some_iff.mp H
        obtain ⟨t121, A100, H⟩ := H
        replace H : (impl_ListDropCut.l0 kj2 t121 ([] : List Int) l0 (l0.length : Int) 0) = some r := H
        have A10 := Aside0.mk A100
        clear A100
        have H' := Aside0.mk H
        clear H
        have hcz11_0 : wc.cell? ⟨gb119, 0, none⟩ = some (.int .i64 a1_0) := (blk_cell BK119.out 0).trans rfl
        have hcz11_1 : wc.cell? ⟨gb119, 1, none⟩ = some (.int .i64 a1_1) := (blk_cell BK119.out 1).trans rfl
        have hcz11_2 : wc.cell? ⟨gb119, 2, none⟩ = some (.int .i64 a1_2) := (blk_cell BK119.out 2).trans rfl
        have hcz11_3 : wc.cell? ⟨gb119, 3, none⟩ = some (.bool a1_3) := (blk_cell BK119.out 3).trans rfl
        have hcz11_4 : wc.cell? ⟨gb119, 4, none⟩ = some (.bool a1_4) := (blk_cell BK119.out 4).trans rfl
        have hfz11_0 := blk_frozen BK119.out 0
        have hfz11_1 := blk_frozen BK119.out 1
        have hfz11_2 := blk_frozen BK119.out 2
        have hfz11_3 := blk_frozen BK119.out 3
        have hfz11_4 := blk_frozen BK119.out 4
        go_wp2_with (first | ((with_reducible refine gate_callee (f := 50) rfl ?_); refine goesL_ (some 20) rfl rfl Try.func50 (by kernel_rfl) rfl #[.int .i64 (l0.length : Int), .agg #[.int .i64 a1_0, .int .i64 a1_1, .int .i64 a1_2, .bool a1_3, .bool a1_4]] rfl (by (try simp only [List.map_toArray, List.map_cons, List.map_nil]); first | done | rfl | (simp only [List.length_drop, List.length_take]; rfl)) ?_; (with_reducible refine (impl_places.calls (l0.length : Int) a1_0 a1_1 a1_2 a1_3 a1_4 t121 _ A10.out).mono ?_); rintro e w12 ⟨v122, rfl, ho0, hb⟩; refine ⟨_, rfl, ?_⟩; have n0_ := Aside0.mk (Kd.R_lower ho0 (below_size (by repeat (first | (with_reducible first | exact HB.out | apply below_alloc | apply pw_below_drewN | apply below_drew1 | refine below_set ?_ GE119.out) | exact HB.out)))); have n1_ := Aside0.mk (blk_below (g := gb119) (o := .cells #[.int .i64 a1_0, .int .i64 a1_1, .int .i64 a1_2, .bool a1_3, .bool a1_4] 24 (0, 0)) (by (with_reducible repeat (first | refine blk_drewN ?_ _ | refine blk_drew ?_ | refine blk_alloc ?_ _)); exact BK119.out) hb); have n2_ := Aside0.mk (below_step (by repeat (first | (with_reducible first | exact HB.out | apply below_alloc | apply pw_below_drewN | apply below_drew1 | refine below_set ?_ GE119.out) | exact HB.out)) hb); clear BK119; clear HB; have HO123 := n0_; have BK119 := n1_; have HB := n2_; clear n0_ n1_ n2_; (try clear hb); (try clear hb2); (try clear hk); (try clear hi); (try clear ho0)))
        go_loopg [6, 23] kj2 (fun kq v6 v23 w' => ∃ (x6_2 : List Int) (x23_2 : Int), v23 = .int .i64 x23_2 ∧ Aside0 (impl_ListDropCut.l0 kq t121 x6_2 l0 (l0.length : Int) x23_2 = some r) ∧ Aside0 (kq ≤ kj2) ∧ Aside0 (Kd.R (Kd.int .i64) 3 w' w.heap.size (fun k_ => some k_ ≠ (v6 : Value).ownBlock) v122 t121) ∧ Aside0 (Kd.R (Kd.int .i64) 3 w' w.heap.size (fun k_ => some k_ ≠ (v122 : Value).ownBlock) v6 x6_2) ∧ Aside0 (w'.heap[gb119]? = some (.cells #[.int .i64 a1_0, .int .i64 a1_1, .int .i64 a1_2, .bool a1_3, .bool a1_4] 24 (0, 0))) ∧ Aside0 (Below w.heap.size w w'))
        case atStart => exact ⟨(([] : List Int)), (0), (by first | rfl | (simp; done) | (simp [*]; done)), H', ⟨Nat.le_refl _⟩, ⟨by (with_reducible repeat (first | apply Kd.R_alloc | apply Kd.R_drewN | apply Kd.R_drew)); exact Kd.R_mono HO123.out (fun _ hk => (by simp [Value.ownBlock]))⟩, ⟨by first | exact Kd.R_nil _ _ _ _ _ | exact Kd.N_nil _ _ _ _ _ | exact Kd.V_nil _ _ _ _ _ | exact Kd.Q_nil _ _ _ _ _ | exact Kd.S_nil _ _ _ _ _⟩, ⟨by (with_reducible repeat (first | refine blk_drewN ?_ _ | refine blk_drew ?_ | refine blk_alloc ?_ _)); exact BK119.out⟩, ⟨by repeat (first | (with_reducible first | exact HB.out | apply below_alloc | apply pw_below_drewN | apply below_drew1 | refine below_set ?_ GE119.out) | exact HB.out)⟩⟩
        case round =>
          clear H'
          try clear p2
          try clear c3
          try clear c5
          try clear c5b0
          try clear c5b1
          try clear c9
          try clear hcz11_0
          try clear hcz11_1
          try clear hcz11_2
          try clear hcz11_3
          try clear hcz11_4
          try clear hcz7_0
          try clear hcz7_1
          try clear hcz7_2
          try clear hcz7_3
          try clear hcz7_4
          try clear hfz11_0
          try clear hfz11_1
          try clear hfz11_2
          try clear hfz11_3
          try clear hfz11_4
          try clear hfz7_0
          try clear hfz7_1
          try clear hfz7_2
          try clear hfz7_3
          try clear hfz7_4
          try clear p2
          obtain ⟨x6_2, x23_2, rfl, HA, HK2, HO_5, HO_6, BK119, HB⟩ := hrel
          cases gk with
          | zero => exact absurd HA.out (by simp [impl_ListDropCut.l0])
          | succ k2 =>
            have H := HA.out
            clear HA
            simp only [impl_ListDropCut.l0] at H
            by_cases c13 : x23_2 < (l0.length : Int)
            · rw [if_pos c13] at H
              have c13b0 : decide (x23_2 < (l0.length : Int)) = true := decide_eq_true c13
              clear c13
              by_cases c14 : 0 ≤ x23_2
              · rw [if_pos c14] at H
                have c14b0 : decide (0 ≤ x23_2) = true := decide_eq_true c14
                clear c14
                by_cases c15 : x23_2 < (l0.length : Int)
                · rw [if_pos c15] at H
                  have c15b0 : decide (x23_2 < (l0.length : Int)) = true := decide_eq_true c15
                  clear c15
                  replace H := Option.bind_eq_some_iff.mp H
                  obtain ⟨t125, A160, H⟩ := H
                  replace H : (if t125 = true then (impl_ListDropCut.l0 k2 t121 x6_2 l0 (l0.length : Int) (wrap64 (x23_2 + 1))) else (if x6_2.length < 17592186044416 then (impl_ListDropCut.l0 k2 t121 (x6_2 ++ [rd l0 x23_2]) l0 (l0.length : Int) (wrap64 (x23_2 + 1))) else (none))) = some r := H
                  have A16 := Aside0.mk A160
                  clear A160
                  by_cases c17 : t125 = true
                  · subst c17
                    have H1 : (impl_ListDropCut.l0 k2 t121 x6_2 l0 (l0.length : Int) (wrap64 (x23_2 + 1))) = some r := by rw [if_pos rfl] at H; exact H
                    clear H
                    have H := H1
                    clear H1
                    have H' := Aside0.mk H
                    clear H
                    have p124 : 0 ≤ (x23_2 : Int) := of_decide_eq_true (by first | (with_reducible assumption) | assumption)
                    have q124 : x23_2 < (l0.length : Int) := of_decide_eq_true (by first | (with_reducible assumption) | assumption)
                    obtain ⟨ad124, e124, hx124_0⟩ := Kd.at_int HR0.out x23_2 p124 q124
                    cases e124
                    replace hx124_0 := (HB.out.cell (World.block_lt_of_cell? w _ hx124_0)).trans hx124_0
                    replace p124 := eq_true p124
                    replace q124 := eq_true q124
                    obtain ⟨Ao18, co18, eo18⟩ := Kd.R_slice HO_5.out
                    subst eo18
                    go_wp2_with (first | ((with_reducible refine gate_callee (f := 58) rfl ?_); refine goesL_ (some 30) rfl rfl Try.func58 (by kernel_rfl) rfl #[.slice Ao18 t121.length co18, .int .i64 x23_2] rfl (by (try simp only [List.map_toArray, List.map_cons, List.map_nil]); first | done | rfl | (simp only [List.length_drop, List.length_take]; rfl) | (simp only [List.length_drop, List.length_take]; rw [Nat.min_eq_left (by have z_ := of_eq_true q124; omega)])) ?_; (with_reducible refine (slices_Contains_int_int.calls k2 _ _ t121 x23_2 true _ ?side1 ?side2 A16.out).mono ?_); (case side1 => repeat (first | exact (Kd.R_reads' HO_5.out).2.2 | (with_reducible refine Kd.C_alloc ?_ _) | (with_reducible refine Kd.C_drewN ?_ _) | (with_reducible refine Kd.C_drew ?_))); (case side2 => exact (Kd.R_reads' HO_5.out).2.1); rintro e w' ⟨rfl, ⟨nd, rfl⟩⟩; refine ⟨_, rfl, ?_⟩))
                    go_roundg k2
                    case measure => have := HJ2.out; have := HK2.out; omega
                    case rel => exact ⟨(x6_2), (wrap64 (x23_2 + 1)), (by first | rfl | (simp; done) | (simp [*]; done)), H', ⟨by have := HJ2.out; have := HK2.out; omega⟩, ⟨by (with_reducible repeat (first | apply Kd.R_alloc | apply Kd.R_drewN | apply Kd.R_drew)); exact HO_5.out⟩, ⟨by (with_reducible repeat (first | apply Kd.R_alloc | apply Kd.R_drewN | apply Kd.R_drew)); exact HO_6.out⟩, ⟨by (with_reducible repeat (first | refine blk_drewN ?_ _ | refine blk_drew ?_ | refine blk_alloc ?_ _)); exact BK119.out⟩, ⟨by repeat (first | (with_reducible first | exact HB.out | apply below_alloc | apply pw_below_drewN | apply below_drew1 | refine below_set ?_ GE119.out) | exact HB.out)⟩⟩
                  · replace c17 := Bool.eq_false_iff.mpr c17
                    subst c17
                    have H1 : (if x6_2.length < 17592186044416 then (impl_ListDropCut.l0 k2 t121 (x6_2 ++ [rd l0 x23_2]) l0 (l0.length : Int) (wrap64 (x23_2 + 1))) else (none)) = some r := by rw [if_neg (show ¬ (false = true) by decide)] at H; exact H
                    clear H
                    have H := H1
                    clear H1
                    by_cases c19 : x6_2.length < 17592186044416
                    · rw [if_pos c19] at H
                      have LMc19 := Aside0.mk c19
                      clear c19
                      obtain ⟨y126, hy126⟩ : ∃ y_ : List Int, y_ = (x6_2 ++ [rd l0 x23_2]) := ⟨_, rfl⟩
                      replace H : (impl_ListDropCut.l0 k2 t121 y126 l0 (l0.length : Int) (wrap64 (x23_2 + 1))) = some r := by first | (rw [hy126]; with_reducible exact H) | (have H2_ := (Option.bind_some _ _).symm.trans H; rw [hy126]; with_reducible exact H2_) | (have H2_ := (Option.bind_some _ _).symm.trans H; with_reducible exact H2_) | with_reducible exact H | (rw [hy126]; exact H) | exact H
                      have Ny126 := Aside0.mk hy126
                      clear hy126
                      have H' := Aside0.mk H
                      clear H
                      have p124 : 0 ≤ (x23_2 : Int) := of_decide_eq_true (by first | (with_reducible assumption) | assumption)
                      have q124 : x23_2 < (l0.length : Int) := of_decide_eq_true (by first | (with_reducible assumption) | assumption)
                      obtain ⟨ad124, e124, hx124_0⟩ := Kd.at_int HR0.out x23_2 p124 q124
                      cases e124
                      replace hx124_0 := (HB.out.cell (World.block_lt_of_cell? w _ hx124_0)).trans hx124_0
                      replace p124 := eq_true p124
                      replace q124 := eq_true q124
                      obtain ⟨Ao20, co20, eo20⟩ := Kd.R_slice HO_5.out
                      subst eo20
                      go_wp2_with (first | ((with_reducible refine gate_callee (f := 58) rfl ?_); refine goesL_ (some 30) rfl rfl Try.func58 (by kernel_rfl) rfl #[.slice Ao20 t121.length co20, .int .i64 x23_2] rfl (by (try simp only [List.map_toArray, List.map_cons, List.map_nil]); first | done | rfl | (simp only [List.length_drop, List.length_take]; rfl) | (simp only [List.length_drop, List.length_take]; rw [Nat.min_eq_left (by have z_ := of_eq_true q124; omega)])) ?_; (with_reducible refine (slices_Contains_int_int.calls k2 _ _ t121 x23_2 false _ ?side1 ?side2 A16.out).mono ?_); (case side1 => repeat (first | exact (Kd.R_reads' HO_5.out).2.2 | (with_reducible refine Kd.C_alloc ?_ _) | (with_reducible refine Kd.C_drewN ?_ _) | (with_reducible refine Kd.C_drew ?_))); (case side2 => exact (Kd.R_reads' HO_5.out).2.1); rintro e w' ⟨rfl, ⟨nd, rfl⟩⟩; refine ⟨_, rfl, ?_⟩) | ((with_reducible refine gate_builtin (b := .append) (xs := #[.tmp 32, .tmp 34]) rfl ?_); at_builtin; refine Kd.R_append (Kd.int .i64) (w0 := w) w.heap.size rfl (.tmp 32) (.tmp 34) 43 3 (.int .i64 0) 8 rfl Try.underlying43 info3 rfl (by decide) (by omega) u6 x6_2 (rd l0 x23_2) [.int .i64 (rd l0 x23_2)] (fun k_ => some k_ ≠ (.slice Ao20 t121.length co20 : Value).ownBlock) (fun _ => False) rfl rfl ?aP (fun _ hk => hk.elim) ?aF ?aO ?aB ?aS ?aL ?_; (case aP => exact rfl); (case aB => exact (by repeat (first | (with_reducible first | exact HB.out | apply below_alloc | apply pw_below_drewN | apply below_drew1 | refine below_set ?_ GE119.out) | exact HB.out))); (case aF => exact (fun k_ hk => Kd.fresh' (Kd.R_lt (by (with_reducible repeat (first | apply Kd.R_alloc | apply Kd.R_drewN | apply Kd.R_drew)); exact HO_5.out)) k_ hk)); (case aO => exact (by (with_reducible repeat (first | apply Kd.R_alloc | apply Kd.R_drewN | apply Kd.R_drew)); exact HO_6.out)); (case aS => exact (below_size (by repeat (first | (with_reducible first | exact HB.out | apply below_alloc | apply pw_below_drewN | apply below_drew1 | refine below_set ?_ GE119.out) | exact HB.out)))); (case aL => have := LMc19.out; omega); intro v127 w21 ho hb hg hat; rw [← Ny126.out] at ho; have n0_ := Aside0.mk (Kd.R_after (ok := (fun _ => True)) (by (with_reducible repeat (first | apply Kd.R_alloc | apply Kd.R_drewN | apply Kd.R_drew)); exact Kd.R_mono HO_5.out (fun _ hk => ⟨trivial, hk⟩)) hg hat); have n1_ := Aside0.mk (blk_grown (g := gb119) (o := .cells #[.int .i64 a1_0, .int .i64 a1_1, .int .i64 a1_2, .bool a1_3, .bool a1_4] 24 (0, 0)) (by (with_reducible repeat (first | refine blk_drewN ?_ _ | refine blk_drew ?_ | refine blk_alloc ?_ _)); exact BK119.out) hg (Kd.R_ne HO_6.out BK119.out (by decide))); have n2_ := Aside0.mk (hb); have n3_ := Aside0.mk (ho); clear HO_5; clear BK119; clear HB; clear HO_6; have HO_5 := n0_; have BK119 := n1_; have HB := n2_; have HO128 := n3_; clear n0_ n1_ n2_ n3_; clear ho hb hg hat))
                      go_roundg k2
                      case measure => have := HJ2.out; have := HK2.out; omega
                      case rel => exact ⟨(y126), (wrap64 (x23_2 + 1)), (by first | rfl | (simp; done) | (simp [*]; done)), H', ⟨by have := HJ2.out; have := HK2.out; omega⟩, ⟨by (with_reducible repeat (first | apply Kd.R_alloc | apply Kd.R_drewN | apply Kd.R_drew)); first | exact Kd.R_mono HO_5.out (fun _ hk => hk.2) | exact Kd.R_mono (Kd.R_far (Kd.R_far1 HO_5.out rfl (fun e_ => HO_5.out.1 _ e_.symm rfl)) (fun _ hk => hk.2) _) (fun _ hk => hk.1) | exact Kd.R_mono (Kd.R_far (Kd.R_far1 HO_5.out rfl (fun e_ => HO_5.out.1 _ e_.symm rfl)) (fun _ hk => hk.2) _) (fun _ hk => hk.1.2) | exact Kd.R_mono (Kd.R_far (Kd.R_drewN (Kd.R_far1 HO_5.out rfl (fun e_ => HO_5.out.1 _ e_.symm rfl)) _) (fun _ hk => hk.2) _) (fun _ hk => hk.1) | exact Kd.R_mono (Kd.R_far (Kd.R_drewN (Kd.R_far1 HO_5.out rfl (fun e_ => HO_5.out.1 _ e_.symm rfl)) _) (fun _ hk => hk.2) _) (fun _ hk => hk.1.2)⟩, ⟨by (with_reducible repeat (first | apply Kd.R_alloc | apply Kd.R_drewN | apply Kd.R_drew)); exact HO128.out⟩, ⟨by (with_reducible repeat (first | refine blk_drewN ?_ _ | refine blk_drew ?_ | refine blk_alloc ?_ _)); exact BK119.out⟩, ⟨by repeat (first | (with_reducible first | exact HB.out | apply below_alloc | apply pw_below_drewN | apply below_drew1 | refine below_set ?_ GE119.out) | exact HB.out)⟩⟩
                    · rw [if_neg c19] at H
                      exact absurd H (by simp)
                · rw [if_neg c15] at H
                  exact absurd H (by simp)
              · rw [if_neg c14] at H
                exact absurd H (by simp)
            · rw [if_neg c13] at H
              have c13b0 : decide (x23_2 < (l0.length : Int)) = false := decide_eq_false c13
              clear c13
              obtain rfl := Option.some.inj H
              go_wp2
              go_ret
              exact ⟨_, by first | rfl | (simp [errW_none, errW_some] <;> rfl) | (simp [*, errW_none, errW_some] <;> rfl), by (with_reducible repeat (first | apply Kd.R_alloc | apply Kd.R_drewN | apply Kd.R_drew)); exact Kd.R_mono HO_6.out (fun _ hk => trivial), by repeat (first | (with_reducible first | exact HB.out | apply below_alloc | apply pw_below_drewN | apply below_drew1 | refine below_set ?_ GE119.out) | exact HB.out)⟩

/-! ### spec_inRange: function 45 -/
def spec_inRange.f (a0 : Int) (a1 : Int) (a2 : Int) : Option (Bool) := if a0 ≥ a1 then (some (decide (a0 ≤ a2))) else (some false)
set_option maxHeartbeats 8000000 in
set_option maxRecDepth 100000 in
theorem spec_inRange.calls (a0 : Int) (a1 : Int) (a2 : Int) (r : Bool) (w : World) (h : spec_inRange.f a0 a1 a2 = some r) :
    Calls Try.prog 45 #[.int .i64 a0, .int .i64 a1, .int .i64 a2] w fun e w' => e = .returned (.bool r) ∧ Drawn0 w w' := by
  have H : (if a0 ≥ a1 then (some (decide (a0 ≤ a2))) else (some false)) = some r := h
  clear h
  by_cases c4 : a0 ≥ a1
  · rw [if_pos c4] at H
    have c4b0 : decide (a1 ≤ a0) = true := decide_eq_true c4
    clear c4
    obtain rfl := Option.some.inj H
    go_enter Try.func45, Try.ntmps45
    go_wp2
    go_ret
    exact ⟨by first | rfl | (simp; done) | (simp [*]; done), by repeat (first | exact Drawn0.refl _ | apply Drawn0.step)⟩
  · rw [if_neg c4] at H
    have c4b0 : decide (a1 ≤ a0) = false := decide_eq_false c4
    clear c4
    obtain rfl := Option.some.inj H
    go_enter Try.func45, Try.ntmps45
    go_wp2
    go_ret
    exact ⟨by first | rfl | (simp; done) | (simp [*]; done), by repeat (first | exact Drawn0.refl _ | apply Drawn0.step)⟩

end Go.Proofs.Yteippijocmpncaa.XFnExactListDropCut
