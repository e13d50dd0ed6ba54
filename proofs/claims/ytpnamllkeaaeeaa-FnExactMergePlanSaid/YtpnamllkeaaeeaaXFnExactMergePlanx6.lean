/- The functions that FnExactMergePlan uses, as functions of Lean, and that the Go code comes to their answers. Written by a program of this session. -/
import Derived.Test.YtpnamllkeaaeeaaXFnExactMergePlanx0
import Derived.Test.YtpnamllkeaaeeaaXFnExactMergePlanx5
namespace Go.Proofs.Ytpnamllkeaaeeaa.XFnExactMergePlan
open Go.RowKit Go.Proofs.YtpnamllkeaaeeaaW.PrintWords Go.Proofs.YtpnamllkeaaeeaaW.PrintLast Go.Proofs.YtpnamllkeaaeeaaW.PrintMore
attribute [local go_sem] max2_int min2_int max_two min_two max_three min_three max_four min_four   -- for this text's walks alone
set_option linter.unusedVariables false
set_option linter.unusedSimpArgs false

/-! ### impl_MergePlan: function 30 -/
def tightB (st : List Int) : Bool := decide ((3 ≤ st.length ∧ rd st ((st.length : Int) - 3) ≤ rd st ((st.length : Int) - 2) + rd st ((st.length : Int) - 1)) ∨ (4 ≤ st.length ∧ rd st ((st.length : Int) - 4) ≤ rd st ((st.length : Int) - 3) + rd st ((st.length : Int) - 2)))
/-- Where the next merge is, or -1. -/
def atL (st : List Int) (fin : Bool) : Int :=
  if st.length < 2 then -1
  else if tightB st = true ∧ rd st ((st.length : Int) - 3) < rd st ((st.length : Int) - 1) then (st.length : Int) - 3
  else if tightB st = true ∨ fin = true ∨ rd st ((st.length : Int) - 2) ≤ rd st ((st.length : Int) - 1) then (st.length : Int) - 2
  else -1
def stepL (st : List Int) (at_ : Nat) : List Int := st.take at_ ++ [rd st (at_ : Int) + rd st ((at_ : Int) + 1)] ++ st.drop (at_ + 2)
def rowL (st : List Int) (a : Int) : List Int := [a, rd st a, rd st (a + 1)]
/-- What MergePlan answers. -/
def okL (l : List Int) : Bool := decide (l.length ≤ 60) && l.all fun x => decide (1 ≤ x ∧ x ≤ 1000000)
set_option maxRecDepth 100000 in
def planI : Nat → List Int → List Int → List (List Int) → List (List Int)
  | 0, _, _, p => p
  | f + 1, rest, st, p =>
    if 0 ≤ atL st false then planI f rest (stepL st (atL st false).toNat) (p ++ [rowL st (atL st false)])
    else match rest with
      | x :: rest => planI f rest (st ++ [x]) p
      | [] => if 0 ≤ atL st true then planI f [] (stepL st (atL st true).toNat) (p ++ [rowL st (atL st true)]) else p
open Go.Lib Go.Sort in
/-- slices.Delete on a row of one's own: the row without the numbers from i up to j; nothing else moves. -/
theorem delete_own (base : Nat) (ok : Nat → Prop) (v : Value) (st : List Int) (i j : Nat) (w : World) (ho : Kd.R (Kd.int .i64) 3 w base ok v st) (hij : i ≤ j) (hj : j ≤ st.length) (h0 : 0 < st.length) :
    Calls Try.prog 64 #[v, .int .i64 i, .int .i64 j] w fun e w' => ∃ (g : Nat) (v' : Value), v.ownBlock = some g ∧ base ≤ g ∧ g < w.heap.size ∧ e = .returned v' ∧ v'.ownBlock = some g ∧ Kd.R (Kd.int .i64) 3 w' base ok v' (st.take i ++ st.drop j) ∧ w.grownBy w' (some g) := by
  have hown := Kd.own_of_R (enc := Value.int .i64) (h1 := fun _ => rfl) ho
  have hok := ho.1
  rcases hown.2 with ⟨_, hn⟩ | ⟨g, cap, cur, rfl, hb, hh, hc, hm, hs, ht⟩
  · omega
  · rw [Nat.mul_one] at ht hs
    have ht' : cur.toList.take st.length = st.map (Value.int .i64) := ht
    have hg : g < w.heap.size := (Array.getElem?_eq_some_iff.1 hh).1
    refine (Try.slices_Delete_int g 0 cap i j st w (holds_of_blockI hh ht') hc (by unfold maxLen at hm; omega) hij hj).mono ?_
    rintro e w' ⟨rfl, q, rfl⟩
    have hts : (st.take i ++ st.drop j ++ List.replicate (j - i) 0).length = st.length := by
      simp only [List.length_append, List.length_take, List.length_drop, List.length_replicate]; omega
    have hcur : (st.take i ++ st.drop j ++ List.replicate (j - i) 0).length ≤ cur.size := by rw [hts, hs]; exact hc
    have G := grownBy_sortedI (w := w) (g := g) (n := q) (os := #[]) (st.take i ++ st.drop j ++ List.replicate (j - i) 0).toArray
    have H := heap_sortedI (n := q) (os := #[]) (st.take i ++ st.drop j ++ List.replicate (j - i) 0).toArray hh
    rw [grow_empty] at G H
    have hlen : (st.take i ++ st.drop j).length = st.length - (j - i) := by
      simp only [List.length_append, List.length_take, List.length_drop]; omega
    refine ⟨g, _, rfl, hb, hg, rfl, rfl, ?_, G⟩
    rw [← hlen]
    refine Kd.R_of_own (enc := Value.int .i64) (h1 := fun _ => rfl) ?_ (fun k hk => hok k hk)
    refine ⟨by simp [encs], .inr ⟨g, cap, _, rfl, hb, H, by rw [hlen]; omega, hm, by simp [putCells, hs], ?_⟩⟩
    have T := take_putCellsI cur (st.take i ++ st.drop j ++ List.replicate (j - i) 0) hcur
    rw [Nat.mul_one]
    have := congrArg (List.take (st.take i ++ st.drop j).length) T
    rw [List.take_take, Nat.min_eq_left (by simp)] at this
    rw [this, List.map_append, List.take_left' (by simp)]
    rfl

theorem store_step0 {P : Program} {ops : Array Oper} {o : Oper} {a : Act} {Q : Exit → Act → World → Prop} {Kc : Act → World → Prop} {W w1 : World} (hw : Region.wanted o (yielded ops a.tmps) = true) (hN : o.dst = none) (hrun : (execOp a.eval o).run P W = .ok .skip w1) (h : Kc a w1) : if Region.wanted o (yielded ops a.tmps) = true then Oper.wp P o a W Kc Q else Kc (a.put none undef) W := by
  rw [if_pos hw]
  unfold Oper.wp
  rw [hrun]
  show Kc (a.put o.dst undef) w1
  rw [hN]
  exact h
def setAt (st : List Int) (a : Nat) : List Int := st.set a (wrap64 (rd st (a : Int) + rd st ((a : Int) + 1)))
/-- What MergePlan's two boxes hold: the plan's rows and the stack. -/
def okP (B g5 g6 : Nat) (v6 : Value) (k : Nat) : Prop := B ≤ k ∧ k ≠ g5 ∧ k ≠ g6 ∧ some k ≠ v6.ownBlock
def okK (B g5 g6 : Nat) (k : Nat) : Prop := B ≤ k ∧ k ≠ g5 ∧ k ≠ g6
def MC_T : Bool × List (List Nat × List Nat) := (true, [([], []), ([], []), ([], []), ([], []), ([2, 3], [2, 3]), ([4], [4]), ([], []), ([], []), ([7], [7]), ([6, 8], [6, 8]), ([9], [9]), ([1, 5, 10], [1, 5, 10]), ([11], [11]), ([0, 12], [0, 12]), ([13, 13, 0, 1, 2, 3, 4, 5, 6, 7, 8, 9, 10, 11, 12, 13], [13])])
def MC_B : List Nat := [0, 0, 0, 0, 12, 28, 0, 0, 128, 448, 960, 2046, 4094, 8191, 16383]
theorem MC_tab : rtab .any (opsOf Try.f63 0) = MC_T := by kernel_rfl
theorem MC_bits : waitsOk MC_T.2 MC_B = true := by kernel_rfl
set_option maxHeartbeats 2000000 in
set_option maxRecDepth 100000 in
theorem merge_calls (a : Nat) (g5 g6 : Nat) (v5 v6 : Value) (plan : List (List Int)) (st : List Int) (B : Nat) (w0 w : World) (hn : g5 ≠ g6) (hb5 : B ≤ g5) (hb6 : B ≤ g6) (hB : Below B w0 w)
    (h5 : w.heap[g5]? = some (.cells #[v5] 32 (0, 0))) (h6 : w.heap[g6]? = some (.cells #[v6] 33 (0, 0))) (o5 : Kd.S (Kd.slice 3 (Kd.int .i64)) 33 w B (okP B g5 g6 v6) v5 plan) (o6 : Kd.R (Kd.int .i64) 3 w B (okK B g5 g6) v6 st) (ha : a + 1 < st.length) (hs : st.length ≤ 1000) (hp : plan.length ≤ 1000) :
    Calls Try.prog 63 #[.int .i64 a, .pointer (some ⟨g5, 0, none⟩), .pointer (some ⟨g6, 0, none⟩)] w fun e w2 => e = .returned (.tuple #[]) ∧ ∃ (v5' v6' : Value), w2.heap[g5]? = some (.cells #[v5'] 32 (0, 0)) ∧ w2.heap[g6]? = some (.cells #[v6'] 33 (0, 0)) ∧ Kd.S (Kd.slice 3 (Kd.int .i64)) 33 w2 B (okP B g5 g6 v6') v5' (plan ++ [[(a : Int), rd st (a : Int), rd st ((a : Int) + 1)]]) ∧ Kd.R (Kd.int .i64) 3 w2 B (okK B g5 g6) v6' ((setAt st a).take (a + 1) ++ (setAt st a).drop (a + 2)) ∧ Below B w0 w2 := by
  have H5 := Aside0.mk h5
  have H6 := Aside0.mk h6
  have O5 := Aside0.mk o5
  have O6 := Aside0.mk o6
  have HB := Aside0.mk hB
  clear h5 h6 o6 o5 hB
  go_enter Try.func63, Try.ntmps63
  go_upto_region 0 with (fail)
  go_cut [] (fun wc => ∃ v5' : Value, Aside0 (wc.heap[g5]? = some (.cells #[v5'] 32 (0, 0))) ∧ Aside0 (wc.heap[g6]? = some (.cells #[v6] 33 (0, 0))) ∧ Aside0 (Kd.S (Kd.slice 3 (Kd.int .i64)) 33 wc B (okP B g5 g6 v6) v5' (plan ++ [[(a : Int), rd st (a : Int), rd st ((a : Int) + 1)]])) ∧ Aside0 (Kd.R (Kd.int .i64) 3 wc B (okK B g5 g6) v6 st) ∧ Aside0 (Below B w0 wc))
  case first =>
    obtain ⟨A6, c6, e6⟩ := Kd.R_slice O6.out
    subst e6
    obtain ⟨go, co, eo, gb, gl, cl, HG⟩ := Kd.R_form O6.out (by omega)
    cases eo
    have n5 : go ≠ g5 := fun e => (O6.out.1 go rfl).2.1 e
    have n6 : go ≠ g6 := fun e => (O6.out.1 go rfl).2.2 e
    have hx5 : w.drew.cell? ⟨g5, 0, none⟩ = some v5 := (blk_cell H5.out 0).trans rfl
    have hx6 : w.drew.cell? ⟨g6, 0, none⟩ = some (.slice (some ⟨go, 0, none⟩) st.length c6) := (blk_cell H6.out 0).trans rfl
    obtain ⟨ca, za⟩ := Kd.R_celln 0 O6.out (a : Int) (by omega) (by omega)
    obtain ⟨cb, zb⟩ := Kd.R_celln 0 O6.out ((a : Int) + 1) (by omega) (by omega)
    have n1 : ((a : Int) + 1).toNat = a + 1 := by omega
    rw [Int.toNat_natCast] at ca za
    rw [n1] at cb
    have w1 : wrap64 ((a : Int) + 1) = (a : Int) + 1 := by unfold wrap64; omega
    have w1' : IntKind.i64.wrap ((a : Int) + 1) = (a : Int) + 1 := (i64_w _).trans w1
    have d3 : (0 ≤ (a : Int)) = True := eq_true (by omega)
    have d4 : (0 ≤ (a : Int) + 1) = True := eq_true (by omega)
    have d5 : ((a : Int) < (st.length : Int)) = True := eq_true (by omega)
    have d6 : ((a : Int) + 1 < (st.length : Int)) = True := eq_true (by omega)
    have O5d := Aside0.mk (Kd.S_drew O5.out)
    have O6d := Aside0.mk (Kd.R_drew O6.out)
    have H5d := Aside0.mk (blk_drew H5.out)
    have H6d := Aside0.mk (blk_drew H6.out)
    have HBd := Aside0.mk (below_drew1 HB.out)
    clear O5 O6 H5 H6 HB HG gl za zb
    show Code.wp _ _ _ _ _
    refine start_ (n := 15) (S := fun w' => w'.cell? ⟨g5, 0, none⟩ = some v5 ∧ w'.cell? ⟨g6, 0, none⟩ = some (.slice (some ⟨go, 0, none⟩) st.length c6) ∧ w'.cell? ⟨go, a, none⟩ = some (.int .i64 (rd st (a : Int))) ∧ w'.cell? ⟨go, a + 1, none⟩ = some (.int .i64 (rd st ((a : Int) + 1)))) (ds := [13, 14]) #[false, false, false, false, false, false, false, false, false, false, false, false, false, false, false] (by kernel_rfl) rfl rfl ⟨hx5, hx6, ca, cb⟩ (fun hHeld => ?_); refine with_tabW MC_tab MC_bits (fun HT_ HW_ => ?_)
    generalize w.drew = wd at O5d O6d H5d H6d HBd hHeld ⊢
    refine pure_ (i := 1) (N := some 5) (v := ?_) (a' := ?_) #[false, true, false, false, false, false, false, false, false, false, false, false, false, false, false] rfl rfl (any_of HT_.out (by kernel_rfl)) (fun _ _ _ h => h) (Or.inl ⟨by rfl, ?_⟩) ?_ ?_
    rotate_left
    · intro w'
      go_simp
      with_reducible rfl
    rotate_left
    · simp only [Act.put, List.setIfInBounds_toArray, List.set_cons_zero, List.set_cons_succ, i64_w, i32_w]
      rfl
    refine pure_ (i := 3) (N := some 7) (v := ?_) (a' := ?_) #[false, true, false, true, false, false, false, false, false, false, false, false, false, false, false] rfl rfl (any_of HT_.out (by kernel_rfl)) (fun _ _ _ h => h) (Or.inl ⟨by rfl, ?_⟩) ?_ ?_
    rotate_left
    · intro w'
      go_simp
      with_reducible rfl
    rotate_left
    · simp only [Act.put, List.setIfInBounds_toArray, List.set_cons_zero, List.set_cons_succ, i64_w, i32_w]
      rfl
    refine pure_ (i := 7) (N := some 11) (v := ?_) (a' := ?_) #[false, true, false, true, false, false, false, true, false, false, false, false, false, false, false] rfl rfl (any_of HT_.out (by kernel_rfl)) (fun _ _ _ h => h) (Or.inl ⟨by rfl, ?_⟩) ?_ ?_
    rotate_left
    · intro w'
      go_simp
      with_reducible rfl
    rotate_left
    · simp only [Act.put, List.setIfInBounds_toArray, List.set_cons_zero, List.set_cons_succ, i64_w, i32_w]
      rfl
    refine pure_ (i := 8) (N := some 12) (v := ?_) (a' := ?_) #[false, true, false, true, false, false, false, true, true, false, false, false, false, false, false] rfl rfl (any_of HT_.out (by kernel_rfl)) (fun _ _ _ h => h) (Or.inl ⟨by rfl, ?_⟩) ?_ ?_
    rotate_left
    · intro w'
      go_simp
      with_reducible rfl
    rotate_left
    · simp only [Act.put, List.setIfInBounds_toArray, List.set_cons_zero, List.set_cons_succ, i64_w, i32_w]
      rfl
    refine take_ (i := 0) (N := some 4) (v := ?_) (a' := ?_) #[true, true, false, true, false, false, false, true, true, false, false, false, false, false, false] rfl rfl (take_ofW HT_.out HW_.out (by kernel_rfl)) (fun _ _ _ h => h) (Or.inl ⟨by rfl, ?_⟩) hHeld ?_ ?_
    rotate_left
    · rintro w' ⟨s0, s1, s2, s3⟩
      go_simp
      with_reducible rfl
    rotate_left
    · simp only [Act.put, List.setIfInBounds_toArray, List.set_cons_zero, List.set_cons_succ, i64_w, i32_w]
      rfl
    refine take_ (i := 2) (N := some 6) (v := ?_) (a' := ?_) #[true, true, true, true, false, false, false, true, true, false, false, false, false, false, false] rfl rfl (take_ofW HT_.out HW_.out (by kernel_rfl)) (fun _ _ _ h => h) (Or.inl ⟨by rfl, ?_⟩) hHeld ?_ ?_
    rotate_left
    · rintro w' ⟨s0, s1, s2, s3⟩
      go_simp
      with_reducible rfl
    rotate_left
    · simp only [Act.put, List.setIfInBounds_toArray, List.set_cons_zero, List.set_cons_succ, i64_w, i32_w]
      rfl
    refine take_ (i := 6) (N := some 10) (v := ?_) (a' := ?_) #[true, true, true, true, false, false, true, true, true, false, false, false, false, false, false] rfl rfl (take_ofW HT_.out HW_.out (by kernel_rfl)) (fun _ _ _ h => h) (Or.inl ⟨by rfl, ?_⟩) hHeld ?_ ?_
    rotate_left
    · rintro w' ⟨s0, s1, s2, s3⟩
      go_simp
      with_reducible rfl
    rotate_left
    · simp only [Act.put, List.setIfInBounds_toArray, List.set_cons_zero, List.set_cons_succ, i64_w, i32_w]
      rfl
    refine pure_ (i := 4) (N := some 8) (v := ?_) (a' := ?_) #[true, true, true, true, true, false, true, true, true, false, false, false, false, false, false] rfl rfl (any_of HT_.out (by kernel_rfl)) (fun _ _ _ h => h) (Or.inl ⟨by rfl, ?_⟩) ?_ ?_
    rotate_left
    · intro w'
      go_simp
      with_reducible rfl
    rotate_left
    · simp only [Act.put, List.setIfInBounds_toArray, List.set_cons_zero, List.set_cons_succ, i64_w, i32_w]
      rfl
    refine pure_ (i := 9) (N := some 13) (v := ?_) (a' := ?_) #[true, true, true, true, true, false, true, true, true, true, false, false, false, false, false] rfl rfl (any_of HT_.out (by kernel_rfl)) (fun _ _ _ h => h) (Or.inl ⟨by rfl, ?_⟩) ?_ ?_
    rotate_left
    · intro w'
      go_simp
      with_reducible rfl
    rotate_left
    · simp only [Act.put, List.setIfInBounds_toArray, List.set_cons_zero, List.set_cons_succ, i64_w, i32_w]
      rfl
    refine take_ (i := 5) (N := some 9) (v := ?_) (a' := ?_) #[true, true, true, true, true, true, true, true, true, true, false, false, false, false, false] rfl rfl (take_ofW HT_.out HW_.out (by kernel_rfl)) (fun _ _ _ h => h) (Or.inl ⟨by rfl, ?_⟩) hHeld ?_ ?_
    rotate_left
    · rintro w' ⟨s0, s1, s2, s3⟩
      go_simp
      with_reducible rfl
    rotate_left
    · simp only [Act.put, List.setIfInBounds_toArray, List.set_cons_zero, List.set_cons_succ, i64_w, i32_w]
      rfl
    refine take_ (i := 10) (N := some 14) (v := ?_) (a' := ?_) #[true, true, true, true, true, true, true, true, true, true, true, false, false, false, false] rfl rfl (take_ofW HT_.out HW_.out (by kernel_rfl)) (fun _ _ _ h => h) (Or.inl ⟨by rfl, ?_⟩) hHeld ?_ ?_
    rotate_left
    · rintro w' ⟨s0, s1, s2, s3⟩
      go_simp
      with_reducible rfl
    rotate_left
    · simp only [Act.put, List.setIfInBounds_toArray, List.set_cons_zero, List.set_cons_succ, i64_w, i32_w]
      rfl
    refine one_ (i := 11) (N := some 15) #[true, true, true, true, true, true, true, true, true, true, true, true, false, false, false] rfl rfl (one_of HT_.out (by kernel_rfl)) (by decide) (fun K hK => ?_)
    refine Kd.R_lit_step (Kd.int .i64) _ 3 ?hg (N := 15) ?hd (xs := ([(a : Int), rd st (a : Int), rd st ((a : Int) + 1)] : List Int)) (inner := [.int .i64 (a : Int), .int .i64 (rd st (a : Int)), .int .i64 (rd st ((a : Int) + 1))]) (ok := fun _ => True) (okp := fun _ => True) ?hr ?hp (fun _ hk => hk) trivial (Below.refl _ _) (Nat.le_refl _) (by simp) ?_
    case hd => rfl
    case hg => rfl
    case hr => first | (go_simp; done) | (go_simp; rfl)
    case hp => exact (Reps.one (show Kd.M (Kd.int .i64) _ _ _ (a : Int) [.int .i64 (a : Int)] from rfl) (Reps.one (show Kd.M (Kd.int .i64) _ _ _ (rd st (a : Int)) [.int .i64 (rd st (a : Int))] from rfl) (Reps.one (show Kd.M (Kd.int .i64) _ _ _ (rd st ((a : Int) + 1)) [.int .i64 (rd st ((a : Int) + 1))] from rfl) (Reps.none _ _))))
    intro v15 w1 hR1 hb1 hg1 hnew1
    refine hK.out _ _ ⟨(hb1.cell (World.block_lt_of_cell? _ _ hHeld.1)).trans hHeld.1, (hb1.cell (World.block_lt_of_cell? _ _ hHeld.2.1)).trans hHeld.2.1, (hb1.cell (World.block_lt_of_cell? _ _ hHeld.2.2.1)).trans hHeld.2.2.1, (hb1.cell (World.block_lt_of_cell? _ _ hHeld.2.2.2)).trans hHeld.2.2.2⟩ (fun hHeld => ?_)
    clear hK K
    obtain ⟨A15, c15, e15⟩ := Kd.R_slice hR1
    subst e15
    refine norm_ (a' := ?_) ?_ ?_
    rotate_left
    · show Act.put _ (some 15) _ = _
      simp only [Act.put, List.setIfInBounds_toArray, List.set_cons_zero, List.set_cons_succ, i64_w, i32_w]
      rfl
    refine one_ (i := 12) (N := some 16) #[true, true, true, true, true, true, true, true, true, true, true, true, true, false, false] rfl rfl (one_of HT_.out (by kernel_rfl)) (by decide) (fun K hK => ?_)
    refine event_step (v := .slice (some ⟨w1.heap.size, 0, none⟩) 1 1) (w1 := w1.alloc (.cells #[.slice A15 3 c15] 33)) ?hg ?hr ?_
    case hg => rfl
    case hr => first | (go_simp; done) | (go_simp; rfl)
    have hba := below_alloc (Below.refl w1.heap.size w1) (.cells #[.slice A15 3 c15] 33)
    refine hK.out _ _ ⟨(hba.cell (World.block_lt_of_cell? _ _ hHeld.1)).trans hHeld.1, (hba.cell (World.block_lt_of_cell? _ _ hHeld.2.1)).trans hHeld.2.1, (hba.cell (World.block_lt_of_cell? _ _ hHeld.2.2.1)).trans hHeld.2.2.1, (hba.cell (World.block_lt_of_cell? _ _ hHeld.2.2.2)).trans hHeld.2.2.2⟩ (fun hHeld => ?_)
    clear hK K
    refine norm_ (a' := ?_) ?_ ?_
    rotate_left
    · show Act.put _ (some 16) _ = _
      simp only [Act.put, List.setIfInBounds_toArray, List.set_cons_zero, List.set_cons_succ, i64_w, i32_w]
      rfl
    refine last_ (i := 13) (N := some 17) #[true, true, true, true, true, true, true, true, true, true, true, true, true, true, false] rfl rfl (one_of HT_.out (by kernel_rfl)) (by decide) (fun K hK => ?_)
    have hsz := hb1.size
    have hBs := HBd.out.size
    have l5 := blk_lt H5d.out
    have l6 := blk_lt H6d.out
    have lv5 := Kd.S_lt O5d.out
    have lv6 := Kd.R_lt O6d.out
    have fr : ∀ k, wd.heap.size ≤ k → okP B g5 g6 (.slice (some ⟨go, 0, none⟩) st.length c6) k := fun k hk => ⟨by omega, by omega, by omega, fun e => by have := lv6 k e.symm; omega⟩
    refine Kd.S_append_step (Kd.slice 3 (Kd.int .i64)) (w0 := w0) B (by rfl) (.tmp 4) (.tmp 16) 32 33 (.slice none 0 0) 24 rfl Try.underlying32 info33 rfl (by decide) (by omega) v5 plan [(a : Int), rd st (a : Int), rd st ((a : Int) + 1)] [.slice A15 3 c15] (okP B g5 g6 (.slice (some ⟨go, 0, none⟩) st.length c6)) (fun k => wd.heap.size ≤ k) rfl rfl ?aM ?aK ?aF ?aO ?aB ?aS ?aL ?_
    case aM => exact ⟨_, rfl, Kd.R_lower (Kd.R_mono (Kd.R_bound hR1) (fun k hk => hk.2.1)) (by omega)⟩
    case aK => exact fun k hk => ⟨fr k hk, fun e => by have := lv5 k e.symm; omega⟩
    case aF => exact fun k hk => fr k (by omega)
    case aO => exact Kd.S_mono (Kd.S_below (Kd.S_bound O5d.out) hb1) (fun k hk => ⟨hk.1, fun h => by have := hk.2.2.1; omega⟩)
    case aB => exact HBd.out.trans ⟨hb1.os, hb1.tape, hb1.output, hb1.size, fun k hk => hb1.block k (by omega)⟩
    case aS => omega
    case aL => omega
    intro v17 w2 hS2 hb2 hg2 hat2
    refine hK.out _ _ ?_
    clear hK K
    obtain ⟨A17, c17, e17⟩ := Kd.S_slice hS2
    subst e17
    refine norm_ (a' := ?_) ?_ ?_
    rotate_left
    · show Act.put _ (some 17) _ = _
      simp only [Act.put, List.setIfInBounds_toArray, List.set_cons_zero, List.set_cons_succ, i64_w, i32_w]
      rfl
    have l5' : g5 < w1.heap.size := by omega
    have l6' : g6 < w1.heap.size := by omega
    have e5 : some g5 ≠ v5.ownBlock := fun e => by
      obtain ⟨cells, hc⟩ := Kd.S_typed O5d.out g5 e.symm
      rw [H5d.out] at hc
      injection hc with hc
      injection hc with _ hc
      exact absurd hc (by decide)
    have e6 : some g6 ≠ v5.ownBlock := fun e => (O5d.out |> Kd.S_R).1 g6 e.symm |>.2.2.1 rfl
    have eo : some go ≠ v5.ownBlock := fun e => (O5d.out |> Kd.S_R).1 go e.symm |>.2.2.2 rfl
    have K5 : w2.heap[g5]? = some (.cells #[v5] 32 (0, 0)) := (hg2.block g5 l5' e5).trans ((hb1.block g5 l5).trans H5d.out)
    have K6 : w2.heap[g6]? = some (.cells #[.slice (some ⟨go, 0, none⟩) st.length c6] 33 (0, 0)) := (hg2.block g6 l6' e6).trans ((hb1.block g6 l6).trans H6d.out)
    have hx5 : w2.cell? ⟨g5, 0, none⟩ = some v5 := (blk_cell K5 0).trans rfl
    have hf5 := blk_frozen K5 0
    refine last_ (i := 14) (N := none) #[true, true, true, true, true, true, true, true, true, true, true, true, true, true, true] rfl rfl (one_of HT_.out (by kernel_rfl)) (by decide) (fun K hK => ?_)
    refine store_step0 (w1 := w2.setCell ⟨g5, 0, none⟩ (.slice A17 (plan ++ [[(a : Int), rd st (a : Int), rd st ((a : Int) + 1)]]).length c17)) (by rfl) rfl ?hr ?_
    case hr => first | (go_simp; done) | (go_simp; rfl)
    refine hK.out _ _ ?_
    clear hK K
    refine done_ (done_of HT_.out (by kernel_rfl)) ?_
    try go_wp2
    go_meet
    case rel =>
      have R2 : Kd.R (Kd.int .i64) 3 w2 B (okK B g5 g6) (.slice (some ⟨go, 0, none⟩) st.length c6) st := Kd.R_mono (Kd.R_grown (Kd.R_below (Kd.R_tight2 rfl O6d.out) hb1) hg2 (fun k hk => by rw [hk.1]; exact eo)) (fun k hk => hk.2)
      exact ⟨.slice A17 (plan ++ [[(a : Int), rd st (a : Int), rd st ((a : Int) + 1)]]).length c17, ⟨blk_set K5 0 _⟩, ⟨blk_far (p := ⟨g5, 0, none⟩) K6 (Ne.symm hn) _⟩, ⟨Kd.S_far hS2 (fun k hk => hk.2.1) _⟩, ⟨Kd.R_far R2 (fun k hk => hk.2.1) _⟩, ⟨hb2.setCell hb5 _⟩⟩
  case rest =>
    clear H5 H6 O6 O5 HB
    obtain ⟨v5', H5, H6, O5, O6, HB⟩ := hcut
    obtain ⟨A6, c6, e6⟩ := Kd.R_slice O6.out
    subst e6
    obtain ⟨go, co, eo, gb, gl, cl, HG⟩ := Kd.R_form O6.out (by omega)
    cases eo
    have n5 : go ≠ g5 := fun e => by
      have h := H5.out
      rw [← e, HG] at h
      injection h with h
      injection h with _ h
      exact absurd h (by decide)
    have n6 : go ≠ g6 := fun e => by
      have h := H6.out
      rw [← e, HG] at h
      injection h with h
      injection h with _ h
      exact absurd h (by decide)
    have K0 := H5
    go_upto_region 1 with (fail)
    go_cut [] (fun wd => Aside0 (wd.heap[g5]? = some (.cells #[v5'] 32 (0, 0))) ∧ Aside0 (wd.heap[g6]? = some (.cells #[.slice (some ⟨go, 0, none⟩) st.length c6] 33 (0, 0))) ∧ Aside0 (Kd.R (Kd.int .i64) 3 wd B (okK B g5 g6) (.slice (some ⟨go, 0, none⟩) st.length c6) (setAt st a)) ∧ Aside0 (wc.grownBy wd (some go)))
    case first =>
      have hx6 : wc.cell? ⟨g6, 0, none⟩ = some (.slice (some ⟨go, 0, none⟩) st.length c6) := (blk_cell H6.out 0).trans rfl
      have hp := Kd.R_putg O6.out (a : Int) (wrap64 (rd st (a : Int) + rd st ((a : Int) + 1)))
      rw [Int.toNat_natCast] at hp
      have HP := Aside0.mk hp
      clear hp
      obtain ⟨ca, za⟩ := Kd.R_celln 0 O6.out (a : Int) (by omega) (by omega)
      obtain ⟨cb, zb⟩ := Kd.R_celln 0 O6.out ((a : Int) + 1) (by omega) (by omega)
      have n1 : ((a : Int) + 1).toNat = a + 1 := by omega
      rw [Int.toNat_natCast] at ca za
      have cb' := cb
      rw [n1] at cb'
      have w1 : wrap64 ((a : Int) + 1) = (a : Int) + 1 := by unfold wrap64; omega
      have w1' : IntKind.i64.wrap ((a : Int) + 1) = (a : Int) + 1 := (i64_w _).trans w1
      have d1 : decide ((a : Int) < (st.length : Int)) = true := decide_eq_true (by omega)
      have d2 : decide ((a : Int) + 1 < (st.length : Int)) = true := decide_eq_true (by omega)
      have d3 : (0 ≤ (a : Int)) = True := eq_true (by omega)
      have d4 : (0 ≤ (a : Int) + 1) = True := eq_true (by omega)
      have d5 : ((a : Int) < (st.length : Int)) = True := eq_true (by omega)
      have d6 : ((a : Int) + 1 < (st.length : Int)) = True := eq_true (by omega)
      go_region
      all_goals (try go_wp2_with fail)
      go_meet
      case rel => exact ⟨⟨blk_drew (blk_far (p := ⟨go, a, none⟩) H5.out (Ne.symm n5) _)⟩, ⟨blk_drew (blk_far (p := ⟨go, a, none⟩) H6.out (Ne.symm n6) _)⟩, ⟨Kd.R_drew HP.out.1⟩, ⟨⟨HP.out.2.os, HP.out.2.tape, HP.out.2.output, HP.out.2.size, HP.out.2.block⟩⟩⟩
    case rest =>
      clear H5 H6 O6 HG
      obtain ⟨H5, H6, O6, HK⟩ := hcut
      have hx6 : wc.cell? ⟨g6, 0, none⟩ = some (.slice (some ⟨go, 0, none⟩) st.length c6) := (blk_cell H6.out 0).trans rfl
      have w1 : wrap64 ((a : Int) + 1) = ((a + 1 : Nat) : Int) := by unfold wrap64; omega
      have w2 : wrap64 ((a : Int) + 2) = ((a + 2 : Nat) : Int) := by unfold wrap64; omega
      have w1' : IntKind.i64.wrap ((a : Int) + 1) = ((a + 1 : Nat) : Int) := (i64_w _).trans w1
      have w2' : IntKind.i64.wrap ((a : Int) + 2) = ((a + 2 : Nat) : Int) := (i64_w _).trans w2
      have hl : (setAt st a).length = st.length := by simp [setAt]
      go_wp2_with (go_at_call 64; fail)
      have D := delete_own B (okK B g5 g6) _ (setAt st a) (a + 1) (a + 2) wc O6.out (by omega) (by omega) (by omega)
      rw [show ((a + 1 : Nat) : Int) = (a : Int) + 1 by omega, show ((a + 2 : Nat) : Int) = (a : Int) + 2 by omega] at D
      refine D.mono ?_
      rintro e w' ⟨g, v', hg, hbg, hgl, rfl, hv', hR, hgr⟩
      cases hg
      have hz : w'.heap[g6]? = some (.cells #[.slice (some ⟨go, 0, none⟩) st.length c6] 33 (0, 0)) := blk_grown H6.out hgr (by simpa using Ne.symm n6)
      have hc6 : w'.cell? ⟨g6, 0, none⟩ = some (.slice (some ⟨go, 0, none⟩) st.length c6) := (blk_cell hz 0).trans rfl
      have hf6 := blk_frozen hz 0
      obtain ⟨A7, c7, e7⟩ := Kd.R_slice hR
      subst e7
      generalize hn7 : ((setAt st a).take (a + 1) ++ (setAt st a).drop (a + 2)).length = n7 at *
      go_wp2
      go_end0
      have k0 : w'.heap[g5]? = some (.cells #[v5'] 32 (0, 0)) := blk_grown H5.out hgr (by simpa using Ne.symm n5)
      have z1 := blk_set hz 0 (Value.slice A7 n7 c7)
      have hkk : ∀ k, okP B g5 g6 (.slice (some ⟨go, 0, none⟩) st.length c6) k → some k ≠ some go := fun k hk => hk.2.2.2
      have S1 := Kd.S_far (p := ⟨g6, 0, none⟩) (Kd.S_grown (Kd.S_grown O5.out HK.out hkk) hgr hkk) (fun k hk => hk.2.2.1) (Value.slice A7 n7 c7)
      have lg5 := blk_lt K0.out
      have b1 := HB.out.grown HK.out (by omega) (fun k hk => by injection hk with hk; omega)
      have b2 := b1.grown hgr (by have := HK.out.size; omega) (fun k hk => by injection hk with hk; omega)
      refine ⟨rfl, v5', _, blk_far (p := ⟨g6, 0, none⟩) k0 hn _, z1, Kd.S_mono S1 (fun k hk => ⟨hk.1, hk.2.1, hk.2.2.1, by rw [hv']; exact hk.2.2.2⟩), Kd.R_far hR (fun k hk => hk.2.2) _, b2.setCell hb6 _⟩
theorem mp_rd (l : List Int) (i : Nat) (h : i < l.length) : rd l (i : Int) = l[i] := by
  unfold rd
  simp [List.getD_eq_getElem?_getD, h]
/-- What is on the stack: each number at least 1, and all of them together at most a bound. -/
def MpS (B : Int) (st : List Int) : Prop := (∀ x ∈ st, 1 ≤ x) ∧ st.sum ≤ B
theorem mp_sum {st : List Int} (h : ∀ x ∈ st, 1 ≤ x) : (st.length : Int) ≤ st.sum ∧ ∀ x ∈ st, x ≤ st.sum := by
  induction st with
  | nil => simp
  | cons y l ih =>
    obtain ⟨h1, h2⟩ := ih (fun x hx => h x (List.mem_cons_of_mem _ hx))
    have hy := h y (List.mem_cons_self ..)
    simp only [List.sum_cons, List.length_cons]
    refine ⟨by omega, fun x hx => ?_⟩
    rcases List.mem_cons.1 hx with rfl | hx
    · omega
    · have := h2 x hx; omega
theorem mp_bd {B : Int} {st : List Int} (h : MpS B st) {i : Nat} (hi : i < st.length) : 1 ≤ rd st (i : Int) ∧ rd st (i : Int) ≤ B := by
  rw [mp_rd st i hi]
  have hm := List.getElem_mem hi
  exact ⟨h.1 _ hm, by have := (mp_sum h.1).2 _ hm; have := h.2; omega⟩
theorem mp_eq {st : List Int} {a : Nat} (h : a + 1 < st.length) : st = st.take a ++ [rd st (a : Int), rd st ((a : Int) + 1)] ++ st.drop (a + 2) := by
  have e : ((a : Int) + 1) = ((a + 1 : Nat) : Int) := by omega
  rw [e, mp_rd st a (by omega), mp_rd st (a + 1) h]
  conv => lhs; rw [← List.take_append_drop a st, List.drop_eq_getElem_cons (show a < st.length by omega), List.drop_eq_getElem_cons h]
  simp
theorem mp_two {B : Int} {st : List Int} (h : MpS B st) {a : Nat} (ha : a + 1 < st.length) : rd st (a : Int) + rd st ((a : Int) + 1) ≤ B := by
  have h1 := h.2
  have hs : st.sum = (st.take a).sum + (rd st (a : Int) + rd st ((a : Int) + 1)) + (st.drop (a + 2)).sum := by
    conv => lhs; rw [mp_eq ha]
    simp only [List.sum_append, List.sum_cons, List.sum_nil]
    omega
  have h2 := (mp_sum (st := st.take a) (fun x hx => h.1 x (List.mem_of_mem_take hx))).1
  have h3 := (mp_sum (st := st.drop (a + 2)) (fun x hx => h.1 x (List.mem_of_mem_drop hx))).1
  omega
theorem mp_len {st : List Int} {a : Nat} (h : a + 1 < st.length) : (stepL st a).length = st.length - 1 := by
  unfold stepL
  simp only [List.length_append, List.length_take, List.length_drop, List.length_cons, List.length_nil]
  omega
theorem mp_step {B : Int} {st : List Int} {a : Nat} (h : a + 1 < st.length) (hs : MpS B st) : MpS B (stepL st a) := by
  have e : ((a : Int) + 1) = ((a + 1 : Nat) : Int) := by omega
  have hsum : (stepL st a).sum = st.sum := by
    conv => rhs; rw [mp_eq h]
    unfold stepL
    simp only [List.sum_append, List.sum_cons, List.sum_nil]
    omega
  refine ⟨fun x hx => ?_, by rw [hsum]; exact hs.2⟩
  unfold stepL at hx
  simp only [List.mem_append, List.mem_singleton] at hx
  rcases hx with (hx | rfl) | hx
  · exact hs.1 x (List.mem_of_mem_take hx)
  · rw [e, mp_rd st a (by omega), mp_rd st (a + 1) h]
    have h1 := hs.1 _ (List.getElem_mem (show a < st.length by omega))
    have h2 := hs.1 _ (List.getElem_mem h)
    omega
  · exact hs.1 x (List.mem_of_mem_drop hx)
theorem mp_push {st : List Int} {i : Nat} {x : Int} (hs : MpS (1000000 * (i : Int)) st) (hx : 1 ≤ x ∧ x ≤ 1000000) : MpS (1000000 * ((i + 1 : Nat) : Int)) (st ++ [x]) := by
  refine ⟨fun y hy => ?_, ?_⟩
  · rcases List.mem_append.1 hy with hy | hy
    · exact hs.1 y hy
    · rw [List.mem_singleton.1 hy]; exact hx.1
  · have := hs.2
    simp only [List.sum_append, List.sum_cons, List.sum_nil]
    omega
/-- The stack behind a merge, as the closure leaves it. -/
theorem mp_set {B : Int} {st : List Int} {a : Nat} (hB : B ≤ 1000000000) (hs : MpS B st) (h : a + 1 < st.length) : (setAt st a).take (a + 1) ++ (setAt st a).drop (a + 2) = stepL st a := by
  have b1 := mp_bd hs (i := a) (by omega)
  have b2 := mp_bd hs h
  have e : ((a : Int) + 1) = ((a + 1 : Nat) : Int) := by omega
  have hw : wrap64 (rd st (a : Int) + rd st ((a : Int) + 1)) = rd st (a : Int) + rd st ((a : Int) + 1) := by rw [e]; unfold wrap64; omega
  unfold setAt stepL
  rw [hw]
  generalize rd st (a : Int) + rd st ((a : Int) + 1) = z
  rw [List.take_set, List.drop_set_of_lt (by omega), List.take_succ_eq_append_getElem (by omega), List.set_append_right _ _ (by simp; omega)]
  simp [Nat.min_eq_left (show a ≤ st.length by omega)]
/-- What MergePlan's two boxes hold, and the rows that they lead to. -/
def StW (B g5 g6 : Nat) (v5 v6 : Value) (plan : List (List Int)) (st : List Int) (w0 w : World) : Prop :=
  w.heap[g5]? = some (.cells #[v5] 32 (0, 0)) ∧ w.heap[g6]? = some (.cells #[v6] 33 (0, 0)) ∧ Kd.S (Kd.slice 3 (Kd.int .i64)) 33 w B (okP B g5 g6 v6) v5 plan ∧ Kd.R (Kd.int .i64) 3 w B (okK B g5 g6) v6 st ∧ Below B w0 w
theorem StW.drew {B g5 g6 : Nat} {v5 v6 : Value} {plan : List (List Int)} {st : List Int} {w0 w : World} (h : StW B g5 g6 v5 v6 plan st w0 w) : StW B g5 g6 v5 v6 plan st w0 w.drew :=
  ⟨blk_drew h.1, blk_drew h.2.1, Kd.S_drew h.2.2.1, Kd.R_drew h.2.2.2.1, below_drew1 h.2.2.2.2⟩
theorem StW.drewN {B g5 g6 : Nat} {v5 v6 : Value} {plan : List (List Int)} {st : List Int} {w0 w : World} (h : StW B g5 g6 v5 v6 plan st w0 w) (n : Nat) : StW B g5 g6 v5 v6 plan st w0 (w.drewN n) :=
  ⟨blk_drewN h.1 n, blk_drewN h.2.1 n, Kd.S_drewN h.2.2.1 n, Kd.R_drewN h.2.2.2.1 n, pw_below_drewN h.2.2.2.2 n⟩
/-- Where the stack lies. -/
theorem StW.form {B g5 g6 : Nat} {v5 v6 : Value} {plan : List (List Int)} {st : List Int} {w0 w : World} (h : StW B g5 g6 v5 v6 plan st w0 w) (hp : 0 < st.length) : ∃ go c6, v6 = .slice (some ⟨go, 0, none⟩) st.length c6 := by
  obtain ⟨go, co, eo, _⟩ := Kd.R_form h.2.2.2.1 hp
  exact ⟨go, co, eo⟩
theorem StW.at {B g5 g6 go c6 : Nat} {v5 : Value} {plan : List (List Int)} {st : List Int} {w0 w : World} (h : StW B g5 g6 v5 (.slice (some ⟨go, 0, none⟩) st.length c6) plan st w0 w) : w.cell? ⟨g6, 0, none⟩ = some (.slice (some ⟨go, 0, none⟩) st.length c6) ∧ ∀ j, j < st.length → w.cell? ⟨go, j, none⟩ = some (.int .i64 (rd st (j : Int))) := by
  refine ⟨(blk_cell h.2.1 0).trans rfl, fun j hj => ?_⟩
  have := (Kd.R_celln 0 h.2.2.2.1 (j : Int) (by omega) (by omega)).1
  rw [Int.toNat_natCast] at this
  exact this
/-- A merge, by the closure. -/
theorem merge_st (a : Nat) {B g5 g6 : Nat} {v5 v6 : Value} {plan : List (List Int)} {st : List Int} {w0 w : World} (hn : g5 ≠ g6) (hb5 : B ≤ g5) (hb6 : B ≤ g6) (h : StW B g5 g6 v5 v6 plan st w0 w) (M : Int) (hM : M ≤ 1000000000) (hS : MpS M st) (ha : a + 1 < st.length) (hs : st.length ≤ 1000) (hp : plan.length ≤ 1000) :
    Calls Try.prog 63 #[.int .i64 a, .pointer (some ⟨g5, 0, none⟩), .pointer (some ⟨g6, 0, none⟩)] w fun e w2 => e = .returned (.tuple #[]) ∧ ∃ (v5' v6' : Value), StW B g5 g6 v5' v6' (plan ++ [rowL st (a : Int)]) (stepL st a) w0 w2 := by
  refine (merge_calls a g5 g6 v5 v6 plan st B w0 w hn hb5 hb6 h.2.2.2.2 h.1 h.2.1 h.2.2.1 h.2.2.2.1 ha hs hp).mono ?_
  rintro e w2 ⟨rfl, v5', v6', k5, k6, s5, r6, b⟩
  rw [mp_set hM hS ha] at r6
  exact ⟨rfl, v5', v6', k5, k6, s5, r6, b⟩
theorem mp_within (a b c : Int) : impl_within.f a b c = some (decide (b ≤ a ∧ a ≤ c)) := by
  unfold impl_within.f
  by_cases h1 : a ≥ b
  · rw [if_pos h1]; congr 1; simp; omega
  · rw [if_neg h1, decide_eq_false (by omega)]
/-! How the program's tests come to the model's words: m1, m2, m3, m4 are the stack's last places. -/
theorem mp_t2 {st : List Int} (h : st.length = 2) : tightB st = false := by
  unfold tightB
  exact decide_eq_false (by omega)
theorem mp_t3 {st : List Int} {m1 m2 m3 : Nat} (h1 : m1 + 1 = st.length) (h2 : m2 + 2 = st.length) (h3 : m3 + 3 = st.length) (h : rd st (m3 : Int) ≤ rd st (m2 : Int) + rd st (m1 : Int)) : tightB st = true := by
  unfold tightB
  rw [show (st.length : Int) - 3 = (m3 : Int) by omega, show (st.length : Int) - 2 = (m2 : Int) by omega, show (st.length : Int) - 1 = (m1 : Int) by omega]
  exact decide_eq_true (.inl ⟨by omega, h⟩)
theorem mp_f3 {st : List Int} {m1 m2 m3 : Nat} (h1 : m1 + 1 = st.length) (h2 : m2 + 2 = st.length) (h3 : m3 + 3 = st.length) (hl : st.length = 3) (h : ¬ rd st (m3 : Int) ≤ rd st (m2 : Int) + rd st (m1 : Int)) : tightB st = false := by
  unfold tightB
  rw [show (st.length : Int) - 3 = (m3 : Int) by omega, show (st.length : Int) - 2 = (m2 : Int) by omega, show (st.length : Int) - 1 = (m1 : Int) by omega]
  exact decide_eq_false (fun hh => hh.elim (fun x => h x.2) (fun x => by omega))
theorem mp_t4 {st : List Int} {m2 m3 m4 : Nat} (h2 : m2 + 2 = st.length) (h3 : m3 + 3 = st.length) (h4 : m4 + 4 = st.length) (h : rd st (m4 : Int) ≤ rd st (m3 : Int) + rd st (m2 : Int)) : tightB st = true := by
  unfold tightB
  rw [show (st.length : Int) - 3 = (m3 : Int) by omega, show (st.length : Int) - 2 = (m2 : Int) by omega, show (st.length : Int) - 4 = (m4 : Int) by omega]
  exact decide_eq_true (.inr ⟨by omega, h⟩)
theorem mp_f4 {st : List Int} {m1 m2 m3 m4 : Nat} (h1 : m1 + 1 = st.length) (h2 : m2 + 2 = st.length) (h3 : m3 + 3 = st.length) (h4 : m4 + 4 = st.length) (h : ¬ rd st (m3 : Int) ≤ rd st (m2 : Int) + rd st (m1 : Int)) (h' : ¬ rd st (m4 : Int) ≤ rd st (m3 : Int) + rd st (m2 : Int)) : tightB st = false := by
  unfold tightB
  rw [show (st.length : Int) - 3 = (m3 : Int) by omega, show (st.length : Int) - 2 = (m2 : Int) by omega, show (st.length : Int) - 1 = (m1 : Int) by omega, show (st.length : Int) - 4 = (m4 : Int) by omega]
  exact decide_eq_false (fun hh => hh.elim (fun x => h x.2) (fun x => h' x.2))
theorem mp_tight3 {st : List Int} (h : tightB st = true) : 3 ≤ st.length := by
  unfold tightB at h
  have := of_decide_eq_true h
  omega
theorem mp_nt {st : List Int} {m1 m2 m3 : Nat} (h1 : m1 + 1 = st.length) (h2 : m2 + 2 = st.length) (h3 : m3 + 3 = st.length) (h : tightB st = false) : rd st (m2 : Int) + rd st (m1 : Int) < rd st (m3 : Int) := by
  rcases Classical.em (rd st (m3 : Int) ≤ rd st (m2 : Int) + rd st (m1 : Int)) with hh | hh
  · rw [mp_t3 h1 h2 h3 hh] at h; cases h
  · omega
theorem mp_a3 {st : List Int} {m1 m3 : Nat} (h1 : m1 + 1 = st.length) (h3 : m3 + 3 = st.length) (ht : tightB st = true) (hd : rd st (m3 : Int) < rd st (m1 : Int)) : atL st false = (m3 : Int) := by
  unfold atL
  rw [show (st.length : Int) - 3 = (m3 : Int) by omega, show (st.length : Int) - 1 = (m1 : Int) by omega, if_neg (by omega), if_pos ⟨ht, hd⟩]
theorem mp_a2 {st : List Int} {m1 m2 m3 : Nat} (h1 : m1 + 1 = st.length) (h2 : m2 + 2 = st.length) (h3 : m3 + 3 = st.length) (ht : tightB st = true) (hd : ¬ rd st (m3 : Int) < rd st (m1 : Int)) : atL st false = (m2 : Int) := by
  unfold atL
  rw [show (st.length : Int) - 3 = (m3 : Int) by omega, show (st.length : Int) - 1 = (m1 : Int) by omega, show (st.length : Int) - 2 = (m2 : Int) by omega, if_neg (by omega), if_neg (fun x => hd x.2), if_pos (.inl ht)]
theorem mp_b2 {st : List Int} {m1 m2 : Nat} (h1 : m1 + 1 = st.length) (h2 : m2 + 2 = st.length) (ht : tightB st = false) (hd : rd st (m2 : Int) ≤ rd st (m1 : Int)) : atL st false = (m2 : Int) := by
  unfold atL
  rw [show (st.length : Int) - 1 = (m1 : Int) by omega, show (st.length : Int) - 2 = (m2 : Int) by omega, if_neg (by omega), if_neg (fun x => by rw [ht] at x; exact absurd x.1 (by simp)), if_pos (.inr (.inr hd))]
theorem mp_no {st : List Int} {m1 m2 : Nat} (h1 : m1 + 1 = st.length) (h2 : m2 + 2 = st.length) (ht : tightB st = false) (hd : ¬ rd st (m2 : Int) ≤ rd st (m1 : Int)) : ¬ 0 ≤ atL st false := by
  unfold atL
  rw [show (st.length : Int) - 1 = (m1 : Int) by omega, show (st.length : Int) - 2 = (m2 : Int) by omega, if_neg (by omega), if_neg (fun x => by rw [ht] at x; exact absurd x.1 (by simp)), if_neg (fun x => by
    rcases x with x | x | x
    · rw [ht] at x; cases x
    · cases x
    · exact hd x)]
  omega
theorem mp_short {st : List Int} (h : st.length < 2) (fin : Bool) : ¬ 0 ≤ atL st fin := by
  unfold atL
  rw [if_pos h]
  omega
/-- No merge is due and there is nothing more to come: the last two are merged. -/
theorem mp_end {st : List Int} {m2 : Nat} (h2 : m2 + 2 = st.length) (h : ¬ 0 ≤ atL st false) : tightB st = false ∧ atL st true = (m2 : Int) := by
  have ht : tightB st = false := by
    rcases hb : tightB st with _ | _
    · rfl
    · exfalso
      apply h
      have := mp_tight3 hb
      unfold atL
      rw [if_neg (by omega)]
      split
      · omega
      · rw [if_pos (.inl hb)]; omega
  refine ⟨ht, ?_⟩
  unfold atL
  rw [show (st.length : Int) - 2 = (m2 : Int) by omega, if_neg (by omega), if_neg (fun x => by rw [ht] at x; exact absurd x.1 (by simp)), if_pos (.inr (.inl rfl))]
theorem mp_I1 {f : Nat} {rest st : List Int} {p R : List (List Int)} {m : Nat} (hf : 0 < f) (h : atL st false = (m : Int)) (hR : planI f rest st p = R) : planI (f - 1) rest (stepL st m) (p ++ [rowL st (m : Int)]) = R := by
  obtain ⟨g, rfl⟩ : ∃ g, f = g + 1 := ⟨f - 1, by omega⟩
  cases rest <;> (rw [planI, h, if_pos (by omega), Int.toNat_natCast] at hR; exact hR)
theorem mp_I2 {f : Nat} {x : Int} {rest st : List Int} {p R : List (List Int)} (hf : 0 < f) (h : ¬ 0 ≤ atL st false) (hR : planI f (x :: rest) st p = R) : planI (f - 1) rest (st ++ [x]) p = R := by
  obtain ⟨g, rfl⟩ : ∃ g, f = g + 1 := ⟨f - 1, by omega⟩
  rw [planI, if_neg h] at hR
  exact hR
theorem mp_I3 {f : Nat} {st : List Int} {p R : List (List Int)} {m : Nat} (hf : 0 < f) (h : ¬ 0 ≤ atL st false) (h' : atL st true = (m : Int)) (hR : planI f [] st p = R) : planI (f - 1) [] (stepL st m) (p ++ [rowL st (m : Int)]) = R := by
  obtain ⟨g, rfl⟩ : ∃ g, f = g + 1 := ⟨f - 1, by omega⟩
  rw [planI, if_neg h] at hR
  simp only [h'] at hR
  rw [if_pos (by omega), Int.toNat_natCast] at hR
  exact hR
theorem mp_I4 {f : Nat} {st : List Int} {p R : List (List Int)} (hs : st.length < 2) (hR : planI f [] st p = R) : p = R := by
  cases f with
  | zero => exact (show planI 0 [] st p = p by simp [planI]).symm.trans hR
  | succ g =>
    rw [planI, if_neg (mp_short hs false)] at hR
    simp only [if_neg (mp_short hs true)] at hR
    exact hR
theorem mp_take (l : List Int) (i : Nat) (h : i < l.length) (h1 : ∀ x ∈ l.take i, 1 ≤ x ∧ x ≤ 1000000) (h2 : 1 ≤ rd l (i : Int) ∧ rd l (i : Int) ≤ 1000000) : ∀ x ∈ l.take (i + 1), 1 ≤ x ∧ x ≤ 1000000 := by
  rw [List.take_succ_eq_append_getElem h]
  intro x hx
  rcases List.mem_append.1 hx with hx | hx
  · exact h1 x hx
  · rw [List.mem_singleton.1 hx, ← mp_rd l i h]; exact h2
theorem mp_bad (l : List Int) (i : Nat) (h : i < l.length) (h2 : ¬ (1 ≤ rd l (i : Int) ∧ rd l (i : Int) ≤ 1000000)) : ¬ okL l = true := by
  intro hk
  unfold okL at hk
  rw [Bool.and_eq_true, List.all_eq_true] at hk
  have := of_decide_eq_true (hk.2 _ (List.getElem_mem h))
  rw [mp_rd l i h] at h2
  exact h2 this
def MM15_T : Bool × List (List Nat × List Nat) := (true, [([], []), ([], []), ([0, 1], [0, 1]), ([2], [2]), ([], []), ([], []), ([5], [5]), ([4, 6], [4, 6]), ([7], [7]), ([3, 0, 1, 2, 3], [3]), ([8, 9, 0, 1, 2, 3, 4, 5, 6, 7, 8, 9], [8])])
def MM15_B : List Nat := [0, 0, 3, 7, 0, 0, 32, 112, 240, 15, 1023]
theorem MM15_tab : rtab .any (opsOf Try.f30 15) = MM15_T := by kernel_rfl
theorem MM15_bits : waitsOk MM15_T.2 MM15_B = true := by kernel_rfl
def MM16_T : Bool × List (List Nat × List Nat) := (true, [([], []), ([0], [0]), ([1], [1]), ([2], [2]), ([2], [2]), ([4, 2], [2, 4]), ([3, 5, 2], [2, 3, 5]), ([6, 2], [2, 6]), ([2], [2]), ([2], [2]), ([8, 9, 2], [2, 8, 9]), ([7, 10, 2], [2, 7, 10]), ([2, 11], [2, 11]), ([12, 2], [12]), ([13], [13]), ([14, 13], [13, 14]), ([15, 13, 13], [13, 15]), ([16], [16]), ([16], [16]), ([18, 16], [16, 18]), ([17, 19, 16], [16, 17, 19]), ([20, 16], [16, 20]), ([16], [16]), ([16], [16]), ([23, 16], [16, 23]), ([22, 24, 16], [16, 22, 24]), ([25, 16], [16, 25]), ([16], [16]), ([26, 27, 16], [16, 26, 27]), ([21, 28, 16], [16, 21, 28]), ([16, 29, 13], [13, 16, 29]), ([13, 30], [13, 30]), ([31, 16, 0, 1, 2, 3, 4, 5, 6, 7, 8, 9, 10, 11, 12, 13, 14, 15, 16, 17, 18, 19, 20, 21, 22, 23, 24, 25, 26, 27, 28, 29, 30, 31], [31])])
def MM16_B : List Nat := [0, 1, 3, 7, 7, 23, 63, 127, 7, 7, 775, 2047, 4095, 8191, 16383, 32767, 65535, 131071, 131071, 393215, 1048575, 2097151, 131071, 131071, 8519679, 29491199, 63045631, 131071, 264372223, 536870911, 1073741823, 2147483647, 4294967295]
theorem MM16_tab : rtab .any (opsOf Try.f30 16) = MM16_T := by kernel_rfl
theorem MM16_bits : waitsOk MM16_T.2 MM16_B = true := by kernel_rfl
def MM22_T : Bool × List (List Nat × List Nat) := (true, [([], []), ([], []), ([], []), ([1, 2], [1, 2]), ([3], [3]), ([4], [4]), ([0, 5], [0, 5]), ([6, 6, 0, 1, 2, 3, 4, 5, 6], [6])])
def MM22_B : List Nat := [0, 0, 0, 6, 14, 30, 63, 127]
theorem MM22_tab : rtab .any (opsOf Try.f30 22) = MM22_T := by kernel_rfl
theorem MM22_bits : waitsOk MM22_T.2 MM22_B = true := by kernel_rfl
def MM26_T : Bool × List (List Nat × List Nat) := (true, [([], []), ([0], [0]), ([1], [1]), ([2], [2]), ([2], [2]), ([4, 2], [2, 4]), ([3, 5, 2], [2, 3, 5]), ([6, 2], [2, 6]), ([2], [2]), ([2], [2]), ([8, 9, 2], [2, 8, 9]), ([10, 2], [2, 10]), ([7, 11, 2], [2, 7, 11]), ([2, 12], [2, 12])])
def MM26_B : List Nat := [0, 1, 3, 7, 7, 23, 63, 127, 7, 7, 775, 1799, 4095, 8191]
theorem MM26_tab : rtab .any (opsOf Try.f30 26) = MM26_T := by kernel_rfl
theorem MM26_bits : waitsOk MM26_T.2 MM26_B = true := by kernel_rfl
set_option maxHeartbeats 4000000 in
set_option maxRecDepth 100000 in
theorem mergePlan_all (A0 : Option Addr) (c0 : Nat) (l0 : List Int) (w : World) (hr0 : Kd.C (Kd.int .i64) w A0 l0.length l0) (hc0 : l0.length ≤ c0) :
    Calls Try.prog 30 #[.slice A0 l0.length c0] w fun e w' => ∃ v0_ : Value, e = .returned (v0_) ∧ Kd.S (Kd.slice 3 (Kd.int .i64)) 33 w' w.heap.size (fun k_ => w.heap.size ≤ k_) v0_ (if okL l0 = true then planI (2 * l0.length) l0 [] [] else []) ∧ Below w.heap.size w w' := by
  have HR0 := Aside0.mk hr0
  have HC0 := Aside0.mk hc0
  clear hr0 hc0
  have hmf : ∀ (fn : Fn) (first cap : Array Value) (w : World), (Instr.makeFunc fn first cap).run Try.prog w = .ok (.func fn first cap) w := fun _ _ _ _ => rfl
  obtain ⟨R, hR⟩ : ∃ R : List (List Int), (if okL l0 = true then planI (2 * l0.length) l0 [] [] else []) = R := ⟨_, rfl⟩
  rw [hR]
  have HR := Aside0.mk hR
  clear hR
  by_cases hl : l0.length ≤ 60
  · have hl' : decide (60 < (l0.length : Int)) = false := decide_eq_false (by omega)
    have HL := Aside0.mk hl
    clear hl
    go_enter Try.func30, Try.ntmps30
    go_upto_block 0 with (fail)
    go_cut [18] (fun v18 wx => Aside0 (∀ x ∈ l0, 1 ≤ x ∧ x ≤ 1000000) ∧ Aside0 (Below w.heap.size w wx))
    case first =>
      go_wp2_with fail
      go_loopw [18] (fun v18 wr => ∃ i : Nat, i ≤ l0.length ∧ v18 = .int .i64 (i : Int) ∧ Aside0 (∀ x ∈ l0.take i, 1 ≤ x ∧ x ≤ 1000000) ∧ Aside0 (Drawn0 w wr)) (fun v18 _ => l0.length - (intOf v18).toNat)
      case atStart => exact ⟨0, Nat.zero_le _, rfl, ⟨by simp⟩, ⟨Drawn0.refl _⟩⟩
      case round =>
        obtain ⟨i, hi, rfl, HA, HD⟩ := hrel
        by_cases hlt : i < l0.length
        · have hlt' : decide ((i : Int) < (l0.length : Int)) = true := decide_eq_true (by omega)
          obtain ⟨ad, e1, hx⟩ := Kd.at_int HR0.out (i : Int) (by omega) (by omega)
          cases e1
          have hw := HD.out
          have hxr : wr.cell? (ad.add ((i : Int)).toNat) = some (.int .i64 (rd l0 (i : Int))) := by
            obtain ⟨nd, rfl⟩ := hw
            exact hx
          have d1 : (0 ≤ (i : Int)) = True := eq_true (by omega)
          have d2 : ((i : Int) < (l0.length : Int)) = True := eq_true (by omega)
          rw [Int.toNat_natCast] at hxr
          clear hx hw
          have wi : wrap64 ((i : Int) + 1) = ((i + 1 : Nat) : Int) := by have := HL.out; unfold wrap64; omega
          have wi' : IntKind.i64.wrap ((i : Int) + 1) = ((i + 1 : Nat) : Int) := (i64_w _).trans wi
          by_cases hin : 1 ≤ rd l0 (i : Int) ∧ rd l0 (i : Int) ≤ 1000000
          · have A := Aside0.mk (show impl_within.f (rd l0 (i : Int)) 1 1000000 = some true by rw [mp_within, decide_eq_true hin])
            have HI := Aside0.mk hin
            clear hin
            go_wp2_with (go_at_call 62; (with_reducible refine (impl_within.calls (rd l0 (i : Int)) 1 1000000 true _ A.out).mono ?_); rintro e w' ⟨rfl, ⟨nd, rfl⟩⟩)
            go_roundw
            case rel => exact ⟨i + 1, by omega, rfl, ⟨mp_take l0 i hlt HA.out HI.out⟩, ⟨HD.out.step nd⟩⟩
            case measure => simp [intOf]; omega
          · have A := Aside0.mk (show impl_within.f (rd l0 (i : Int)) 1 1000000 = some false by rw [mp_within, decide_eq_false hin])
            have hR := HR.out
            rw [if_neg (mp_bad l0 i hlt hin)] at hR
            subst hR
            clear hin HR
            go_wp2_with (go_at_call 62; (with_reducible refine (impl_within.calls (rd l0 (i : Int)) 1 1000000 false _ A.out).mono ?_); rintro e w' ⟨rfl, ⟨nd, rfl⟩⟩)
            go_ret
            have hw := HD.out.step nd
            obtain ⟨m, hm⟩ := hw.out
            exact ⟨_, rfl, Kd.S_nil _ _ _ _ _, by rw [hm]; exact pw_below_drewN (Below.refl _ _) _⟩
        · have hlt' : decide ((i : Int) < (l0.length : Int)) = false := decide_eq_false (by omega)
          go_wp2
          go_meet
          case rel =>
            have ha := HA.out
            rw [List.take_of_length_le (by omega)] at ha
            obtain ⟨m, hm⟩ := HD.out.out
            exact ⟨⟨ha⟩, ⟨by rw [hm]; exact pw_below_drewN (Below.refl _ _) _⟩⟩
    case rest =>
      obtain ⟨HP, HB⟩ := hcut
      have hR := HR.out
      rw [if_pos (by
        unfold okL
        rw [Bool.and_eq_true, List.all_eq_true]
        exact ⟨decide_eq_true HL.out, fun x hx => decide_eq_true (HP.out x hx)⟩)] at hR
      clear HR
      have HR := Aside0.mk hR
      clear hR
      go_upto_block 2 with (first
        | ((with_reducible refine gate_dst (N := 5) rfl ?_); refine box_event ?hg (N := 5) ?hd (cs := #[.slice none 0 0]) (t := 32) ?hr ?_; (case hd => rfl); (case hg => rfl); (case hr => first | (go_simp; done) | (go_simp; rfl)); intro g5 hg5 w1 hb5 hl1; have G5 := Aside0.mk hg5; have B5 := Aside0.mk hb5; have L1 := Aside0.mk hl1; clear hg5 hb5 hl1)
        | ((with_reducible refine gate_dst (N := 6) rfl ?_); refine box_event ?hg (N := 6) ?hd (cs := #[.slice none 0 0]) (t := 33) ?hr ?_; (case hd => rfl); (case hg => rfl); (case hr => first | (go_simp; done) | (go_simp; rfl)); intro g6 hg6 w2 hb6 hl2; have G6 := Aside0.mk hg6; have B6 := Aside0.mk hb6; have L2 := Aside0.mk hl2; clear hg6 hb6 hl2))
      have hne : g5 ≠ g6 := by have := blk_lt B5.out; have := G6.out; omega
      have HNE := Aside0.mk hne
      have hsz := HB.out.size
      have hb5 : w.heap.size ≤ g5 := by have := G5.out; omega
      have hb6 : w.heap.size ≤ g6 := by have := G6.out; have := L1.out.size; omega
      have HB5 := Aside0.mk hb5
      have HB6 := Aside0.mk hb6
      have k5 : w2.heap[g5]? = some (.cells #[.slice none 0 0] 32 (0, 0)) := (L2.out.block g5 (blk_lt B5.out)).trans B5.out
      have HW0 := Aside0.mk (show StW w.heap.size g5 g6 (.slice none 0 0) (.slice none 0 0) [] [] w w2 from ⟨k5, B6.out, Kd.S_nil _ _ _ _ _, Kd.R_nil _ _ _ _ _, below_step (below_step HB.out L1.out) L2.out⟩)
      clear hne hsz hb5 hb6 k5 G5 G6 B5 B6 L1 L2 HB
      go_wp2_with fail
      go_loopg [8] (2 * l0.length) (fun kq v8 wr => ∃ (i : Nat) (plan : List (List Int)) (st : List Int) (v5 v6 : Value), i ≤ l0.length ∧ v8 = .int .i64 (i : Int) ∧ Aside0 (planI kq (l0.drop i) st plan = R) ∧ Aside0 (2 * (l0.length - i) + st.length ≤ kq) ∧ Aside0 (plan.length + st.length = i) ∧ Aside0 (MpS (1000000 * (i : Int)) st) ∧ Aside0 (StW w.heap.size g5 g6 v5 v6 plan st w wr))
      case atStart => exact ⟨0, [], [], _, _, Nat.zero_le _, rfl, HR, ⟨by simp⟩, ⟨rfl⟩, ⟨by simp [MpS]⟩, HW0⟩
      case round =>
        clear HR HW0
        obtain ⟨i, plan, st, v5, v6, hi, rfl, HR, HK, HI, HS, HW⟩ := hrel
        obtain ⟨A6, c6, e6⟩ := Kd.R_slice HW.out.2.2.2.1
        subst e6
        have hx6 : wr.cell? ⟨g6, 0, none⟩ = some (.slice A6 st.length c6) := (blk_cell HW.out.2.1 0).trans rfl
        have hst : st.length ≤ 60 := by have := HL.out; have := HI.out; omega
        have HST := Aside0.mk hst
        obtain ⟨top, w1, HT⟩ : ∃ top : Int, wrap64 ((st.length : Int) - 1) = top ∧ Aside0 (top = (st.length : Int) - 1) := ⟨_, rfl, ⟨by unfold wrap64; omega⟩⟩
        have w1' : IntKind.i64.wrap ((st.length : Int) - 1) = top := (i64_w _).trans w1
        obtain ⟨bt, t1, HBT⟩ : ∃ bt : Bool, decide (1 ≤ top) = bt ∧ Aside0 (bt = decide (2 ≤ st.length)) := ⟨_, rfl, ⟨by have := HT.out; rw [decide_eq_decide]; omega⟩⟩
        clear hst
        go_upto_if 31 with (fail)
        go_cut [] (fun wc => Aside0 (atL st false < 0) ∧ Aside0 (StW w.heap.size g5 g6 v5 (.slice A6 st.length c6) plan st w wc))
        case first =>
          clear hx6 w1 w1' t1
          by_cases hn : 2 ≤ st.length
          · obtain ⟨go, c6', eo⟩ := HW.out.form (by omega)
            cases eo
            obtain ⟨m1, M1⟩ : ∃ m, m + 1 = st.length := ⟨st.length - 1, by omega⟩
            obtain ⟨m2, M2⟩ : ∃ m, m + 2 = st.length := ⟨st.length - 2, by omega⟩
            obtain rfl : top = (m1 : Int) := by have := HT.out; omega
            have M1' := Aside0.mk M1
            have M2' := Aside0.mk M2
            have HN := Aside0.mk hn
            have hst := HST.out
            obtain rfl : bt = true := HBT.out.trans (decide_eq_true hn)
            have w2 : wrap64 ((m1 : Int) - 1) = (m2 : Int) := by unfold wrap64; omega
            have w2' : IntKind.i64.wrap ((m1 : Int) - 1) = (m2 : Int) := (i64_w _).trans w2
            have d1 : (0 ≤ (m1 : Int)) = True := eq_true (by omega)
            have d2 : (0 ≤ (m2 : Int)) = True := eq_true (by omega)
            have d3 : ((m1 : Int) < (st.length : Int)) = True := eq_true (by omega)
            have d4 : ((m2 : Int) < (st.length : Int)) = True := eq_true (by omega)
            have HC : ∀ {W : World}, StW w.heap.size g5 g6 v5 (.slice (some ⟨go, 0, none⟩) st.length c6) plan st w W → W.cell? ⟨g6, 0, none⟩ = some (.slice (some ⟨go, 0, none⟩) st.length c6) ∧ W.cell? ⟨go, m1, none⟩ = some (.int .i64 (rd st (m1 : Int))) ∧ W.cell? ⟨go, m2, none⟩ = some (.int .i64 (rd st (m2 : Int))) := fun h => ⟨h.at.1, h.at.2 m1 (by omega), h.at.2 m2 (by omega)⟩
            have HC := Aside0.mk @HC
            clear hst hn M1 M2
            go_upto_region 15 with (fail)
            go_cut [10, 11] (fun v10 v11 wc => v10 = .int .i64 (rd st (m1 : Int)) ∧ v11 = .int .i64 (rd st (m2 : Int)) ∧ Aside0 (StW w.heap.size g5 g6 v5 (.slice (some ⟨go, 0, none⟩) st.length c6) plan st w wc))
            case first =>
              show Code.wp _ _ _ _ _
              refine start_ (n := 11) (S := fun w' => w'.cell? ⟨g6, 0, none⟩ = some (.slice (some ⟨go, 0, none⟩) st.length c6) ∧ w'.cell? ⟨go, m1, none⟩ = some (.int .i64 (rd st (m1 : Int))) ∧ w'.cell? ⟨go, m2, none⟩ = some (.int .i64 (rd st (m2 : Int)))) (ds := []) #[false, false, false, false, false, false, false, false, false, false, false] (by kernel_rfl) rfl rfl (HC.out HW.out.drew) (fun hHeld => ?_); refine with_tabW MM15_tab MM15_bits (fun HT_ HW_ => ?_)
              generalize hwd : wr.drew = wd at hHeld ⊢
              refine take_ (i := 0) (N := some 32) (v := ?_) (a' := ?_) #[true, false, false, false, false, false, false, false, false, false, false] rfl rfl (take_ofW HT_.out HW_.out (by kernel_rfl)) (fun _ _ _ h => h) (Or.inl ⟨by rfl, ?_⟩) hHeld ?_ ?_
              rotate_left
              · rintro w' ⟨s0, s1, s2⟩
                go_simp
                with_reducible rfl
              rotate_left
              · simp only [Act.put, List.setIfInBounds_toArray, List.set_cons_zero, List.set_cons_succ, i64_w, i32_w]
                rfl
              refine pure_ (i := 1) (N := some 33) (v := ?_) (a' := ?_) #[true, true, false, false, false, false, false, false, false, false, false] rfl rfl (any_of HT_.out (by kernel_rfl)) (fun _ _ _ h => h) (Or.inl ⟨by rfl, ?_⟩) ?_ ?_
              rotate_left
              · intro w'
                go_simp
                with_reducible rfl
              rotate_left
              · simp only [Act.put, List.setIfInBounds_toArray, List.set_cons_zero, List.set_cons_succ, i64_w, i32_w]
                rfl
              refine pure_ (i := 2) (N := some 34) (v := ?_) (a' := ?_) #[true, true, true, false, false, false, false, false, false, false, false] rfl rfl (any_of HT_.out (by kernel_rfl)) (fun _ _ _ h => h) (Or.inl ⟨by rfl, ?_⟩) ?_ ?_
              rotate_left
              · intro w'
                go_simp
                with_reducible rfl
              rotate_left
              · simp only [Act.put, List.setIfInBounds_toArray, List.set_cons_zero, List.set_cons_succ, i64_w, i32_w]
                rfl
              refine take_ (i := 3) (N := some 35) (v := ?_) (a' := ?_) #[true, true, true, true, false, false, false, false, false, false, false] rfl rfl (take_ofW HT_.out HW_.out (by kernel_rfl)) (fun _ _ _ h => h) (Or.inl ⟨by rfl, ?_⟩) hHeld ?_ ?_
              rotate_left
              · rintro w' ⟨s0, s1, s2⟩
                go_simp
                with_reducible rfl
              rotate_left
              · simp only [Act.put, List.setIfInBounds_toArray, List.set_cons_zero, List.set_cons_succ, i64_w, i32_w]
                rfl
              refine take_ (i := 4) (N := some 36) (v := ?_) (a' := ?_) #[true, true, true, true, true, false, false, false, false, false, false] rfl rfl (take_ofW HT_.out HW_.out (by kernel_rfl)) (fun _ _ _ h => h) (Or.inl ⟨by rfl, ?_⟩) hHeld ?_ ?_
              rotate_left
              · rintro w' ⟨s0, s1, s2⟩
                go_simp
                with_reducible rfl
              rotate_left
              · simp only [Act.put, List.setIfInBounds_toArray, List.set_cons_zero, List.set_cons_succ, i64_w, i32_w]
                rfl
              refine pure_ (i := 5) (N := some 37) (v := ?_) (a' := ?_) #[true, true, true, true, true, true, false, false, false, false, false] rfl rfl (any_of HT_.out (by kernel_rfl)) (fun _ _ _ h => h) (Or.inl ⟨by rfl, ?_⟩) ?_ ?_
              rotate_left
              · intro w'
                go_simp
                with_reducible rfl
              rotate_left
              · simp only [Act.put, List.setIfInBounds_toArray, List.set_cons_zero, List.set_cons_succ, i64_w, i32_w]
                rfl
              refine pure_ (i := 6) (N := some 38) (v := ?_) (a' := ?_) #[true, true, true, true, true, true, true, false, false, false, false] rfl rfl (any_of HT_.out (by kernel_rfl)) (fun _ _ _ h => h) (Or.inl ⟨by rfl, ?_⟩) ?_ ?_
              rotate_left
              · intro w'
                go_simp
                with_reducible rfl
              rotate_left
              · simp only [Act.put, List.setIfInBounds_toArray, List.set_cons_zero, List.set_cons_succ, i64_w, i32_w]
                rfl
              refine pure_ (i := 7) (N := some 39) (v := ?_) (a' := ?_) #[true, true, true, true, true, true, true, true, false, false, false] rfl rfl (any_of HT_.out (by kernel_rfl)) (fun _ _ _ h => h) (Or.inl ⟨by rfl, ?_⟩) ?_ ?_
              rotate_left
              · intro w'
                go_simp
                with_reducible rfl
              rotate_left
              · simp only [Act.put, List.setIfInBounds_toArray, List.set_cons_zero, List.set_cons_succ, i64_w, i32_w]
                rfl
              refine take_ (i := 8) (N := some 40) (v := ?_) (a' := ?_) #[true, true, true, true, true, true, true, true, true, false, false] rfl rfl (take_ofW HT_.out HW_.out (by kernel_rfl)) (fun _ _ _ h => h) (Or.inl ⟨by rfl, ?_⟩) hHeld ?_ ?_
              rotate_left
              · rintro w' ⟨s0, s1, s2⟩
                go_simp
                with_reducible rfl
              rotate_left
              · simp only [Act.put, List.setIfInBounds_toArray, List.set_cons_zero, List.set_cons_succ, i64_w, i32_w]
                rfl
              refine pure_ (i := 9) (N := some 10) (v := ?_) (a' := ?_) #[true, true, true, true, true, true, true, true, true, true, false] rfl rfl (any_of HT_.out (by kernel_rfl)) (fun _ _ _ h => h) (Or.inl ⟨by rfl, ?_⟩) ?_ ?_
              rotate_left
              · intro w'
                go_simp
                with_reducible rfl
              rotate_left
              · simp only [Act.put, List.setIfInBounds_toArray, List.set_cons_zero, List.set_cons_succ, i64_w, i32_w]
                rfl
              refine pure_ (i := 10) (N := some 11) (v := ?_) (a' := ?_) #[true, true, true, true, true, true, true, true, true, true, true] rfl rfl (any_of HT_.out (by kernel_rfl)) (fun _ _ _ h => h) (Or.inl ⟨by rfl, ?_⟩) ?_ ?_
              rotate_left
              · intro w'
                go_simp
                with_reducible rfl
              rotate_left
              · simp only [Act.put, List.setIfInBounds_toArray, List.set_cons_zero, List.set_cons_succ, i64_w, i32_w]
                rfl
              refine done_ (done_of HT_.out (by kernel_rfl)) ?_
              try go_wp2
              go_meet
              case rel => exact ⟨rfl, rfl, ⟨by rw [← hwd]; exact HW.out.drew⟩⟩
            case rest =>
              clear HW
              obtain ⟨rfl, rfl, HW⟩ := hcut
              have B1 := Aside0.mk (mp_bd HS.out (i := m1) (by have := M1'.out; omega))
              have B2 := Aside0.mk (mp_bd HS.out (i := m2) (by have := M2'.out; omega))
              have hi60 : (1000000 * (i : Int)) ≤ 60000000 := by have := HL.out; omega
              have HI60 := Aside0.mk hi60
              clear hi60
              go_upto_region 16 with (fail)
              go_cut [12] (fun v12 wc => v12 = .bool (tightB st) ∧ Aside0 (StW w.heap.size g5 g6 v5 (.slice (some ⟨go, 0, none⟩) st.length c6) plan st w wc))
              case first =>
                by_cases hn3 : 3 ≤ st.length
                · obtain ⟨m3, M3⟩ : ∃ m, m + 3 = st.length := ⟨st.length - 3, by omega⟩
                  have M3' := Aside0.mk M3
                  have B3 := Aside0.mk (mp_bd HS.out (i := m3) (by omega))
                  have hst := HST.out
                  have hm1 := M1'.out
                  have g2 : decide (2 ≤ (m1 : Int)) = true := decide_eq_true (by omega)
                  have w3 : wrap64 ((m1 : Int) - 2) = (m3 : Int) := by unfold wrap64; omega
                  have w3' : IntKind.i64.wrap ((m1 : Int) - 2) = (m3 : Int) := (i64_w _).trans w3
                  have d5 : (0 ≤ (m3 : Int)) = True := eq_true (by omega)
                  have d6 : ((m3 : Int) < (st.length : Int)) = True := eq_true (by omega)
                  have wbc : wrap64 (rd st (m2 : Int) + rd st (m1 : Int)) = rd st (m2 : Int) + rd st (m1 : Int) := by have := B1.out; have := B2.out; have := HI60.out; unfold wrap64; omega
                  have wbc' : IntKind.i64.wrap (rd st (m2 : Int) + rd st (m1 : Int)) = rd st (m2 : Int) + rd st (m1 : Int) := (i64_w _).trans wbc
                  have hC3 : ∀ {W : World}, StW w.heap.size g5 g6 v5 (.slice (some ⟨go, 0, none⟩) st.length c6) plan st w W → W.cell? ⟨g6, 0, none⟩ = some (.slice (some ⟨go, 0, none⟩) st.length c6) ∧ W.cell? ⟨go, m1, none⟩ = some (.int .i64 (rd st (m1 : Int))) ∧ W.cell? ⟨go, m2, none⟩ = some (.int .i64 (rd st (m2 : Int))) ∧ W.cell? ⟨go, m3, none⟩ = some (.int .i64 (rd st (m3 : Int))) := fun h => ⟨(HC.out h).1, (HC.out h).2.1, (HC.out h).2.2, h.at.2 m3 (by omega)⟩
                  have HC3 := Aside0.mk @hC3
                  clear hC3 hst hm1 M3
                  by_cases c1 : rd st (m3 : Int) ≤ rd st (m2 : Int) + rd st (m1 : Int)
                  · have HT3 := Aside0.mk (mp_t3 M1'.out M2'.out M3'.out c1)
                    have c1b : decide (rd st (m3 : Int) ≤ rd st (m2 : Int) + rd st (m1 : Int)) = true := decide_eq_true c1
                    clear c1
                    show Code.wp _ _ _ _ _
                    refine start_ (n := 33) (S := fun w' => w'.cell? ⟨g6, 0, none⟩ = some (.slice (some ⟨go, 0, none⟩) st.length c6) ∧ w'.cell? ⟨go, m1, none⟩ = some (.int .i64 (rd st (m1 : Int))) ∧ w'.cell? ⟨go, m2, none⟩ = some (.int .i64 (rd st (m2 : Int))) ∧ w'.cell? ⟨go, m3, none⟩ = some (.int .i64 (rd st (m3 : Int)))) (ds := []) #[false, false, false, false, false, false, false, false, false, false, false, false, false, false, false, false, false, false, false, false, false, false, false, false, false, false, false, false, false, false, false, false, false] (by kernel_rfl) rfl rfl (HC3.out HW.out.drew) (fun hHeld => ?_); refine with_tabW MM16_tab MM16_bits (fun HT_ HW_ => ?_)
                    generalize hwd : wc.drew = wd at hHeld ⊢
                    refine pure_ (i := 0) (N := some 41) (v := ?_) (a' := ?_) #[true, false, false, false, false, false, false, false, false, false, false, false, false, false, false, false, false, false, false, false, false, false, false, false, false, false, false, false, false, false, false, false, false] rfl rfl (any_of HT_.out (by kernel_rfl)) (fun _ _ _ h => h) (Or.inl ⟨by rfl, ?_⟩) ?_ ?_
                    rotate_left
                    · intro w'
                      go_simp
                      with_reducible rfl
                    rotate_left
                    · simp only [Act.put, List.setIfInBounds_toArray, List.set_cons_zero, List.set_cons_succ, i64_w, i32_w]
                      rfl
                    refine pure_ (i := 1) (N := some 42) (v := ?_) (a' := ?_) #[true, true, false, false, false, false, false, false, false, false, false, false, false, false, false, false, false, false, false, false, false, false, false, false, false, false, false, false, false, false, false, false, false] rfl rfl (any_of HT_.out (by kernel_rfl)) (fun _ _ _ h => h) (Or.inl ⟨by rfl, ?_⟩) ?_ ?_
                    rotate_left
                    · intro w'
                      go_simp
                      with_reducible rfl
                    rotate_left
                    · simp only [Act.put, List.setIfInBounds_toArray, List.set_cons_zero, List.set_cons_succ, i64_w, i32_w]
                      rfl
                    refine pure_ (i := 2) (N := some 43) (v := ?_) (a' := ?_) #[true, true, true, false, false, false, false, false, false, false, false, false, false, false, false, false, false, false, false, false, false, false, false, false, false, false, false, false, false, false, false, false, false] rfl rfl (any_of HT_.out (by kernel_rfl)) (fun _ _ _ h => h) (Or.inl ⟨by rfl, ?_⟩) ?_ ?_
                    rotate_left
                    · intro w'
                      go_simp
                      with_reducible rfl
                    rotate_left
                    · simp only [Act.put, List.setIfInBounds_toArray, List.set_cons_zero, List.set_cons_succ, i64_w, i32_w]
                      rfl
                    refine take_ (i := 3) (N := some 44) (v := ?_) (a' := ?_) #[true, true, true, true, false, false, false, false, false, false, false, false, false, false, false, false, false, false, false, false, false, false, false, false, false, false, false, false, false, false, false, false, false] rfl rfl (take_ofW HT_.out HW_.out (by kernel_rfl)) (fun _ _ _ h => h) (Or.inl ⟨by rfl, ?_⟩) hHeld ?_ ?_
                    rotate_left
                    · rintro w' ⟨s0, s1, s2, s3⟩
                      go_simp
                      with_reducible rfl
                    rotate_left
                    · simp only [Act.put, List.setIfInBounds_toArray, List.set_cons_zero, List.set_cons_succ, i64_w, i32_w]
                      rfl
                    refine pure_ (i := 4) (N := some 45) (v := ?_) (a' := ?_) #[true, true, true, true, true, false, false, false, false, false, false, false, false, false, false, false, false, false, false, false, false, false, false, false, false, false, false, false, false, false, false, false, false] rfl rfl (any_of HT_.out (by kernel_rfl)) (fun _ _ _ h => h) (Or.inl ⟨by rfl, ?_⟩) ?_ ?_
                    rotate_left
                    · intro w'
                      go_simp
                      with_reducible rfl
                    rotate_left
                    · simp only [Act.put, List.setIfInBounds_toArray, List.set_cons_zero, List.set_cons_succ, i64_w, i32_w]
                      rfl
                    refine pure_ (i := 5) (N := some 46) (v := ?_) (a' := ?_) #[true, true, true, true, true, true, false, false, false, false, false, false, false, false, false, false, false, false, false, false, false, false, false, false, false, false, false, false, false, false, false, false, false] rfl rfl (any_of HT_.out (by kernel_rfl)) (fun _ _ _ h => h) (Or.inl ⟨by rfl, ?_⟩) ?_ ?_
                    rotate_left
                    · intro w'
                      go_simp
                      with_reducible rfl
                    rotate_left
                    · simp only [Act.put, List.setIfInBounds_toArray, List.set_cons_zero, List.set_cons_succ, i64_w, i32_w]
                      rfl
                    refine pure_ (i := 6) (N := some 47) (v := ?_) (a' := ?_) #[true, true, true, true, true, true, true, false, false, false, false, false, false, false, false, false, false, false, false, false, false, false, false, false, false, false, false, false, false, false, false, false, false] rfl rfl (any_of HT_.out (by kernel_rfl)) (fun _ _ _ h => h) (Or.inl ⟨by rfl, ?_⟩) ?_ ?_
                    rotate_left
                    · intro w'
                      go_simp
                      with_reducible rfl
                    rotate_left
                    · simp only [Act.put, List.setIfInBounds_toArray, List.set_cons_zero, List.set_cons_succ, i64_w, i32_w]
                      rfl
                    refine take_ (i := 7) (N := some 48) (v := ?_) (a' := ?_) #[true, true, true, true, true, true, true, true, false, false, false, false, false, false, false, false, false, false, false, false, false, false, false, false, false, false, false, false, false, false, false, false, false] rfl rfl (take_ofW HT_.out HW_.out (by kernel_rfl)) (fun _ _ _ h => h) (Or.inl ⟨by rfl, ?_⟩) hHeld ?_ ?_
                    rotate_left
                    · rintro w' ⟨s0, s1, s2, s3⟩
                      go_simp
                      with_reducible rfl
                    rotate_left
                    · simp only [Act.put, List.setIfInBounds_toArray, List.set_cons_zero, List.set_cons_succ, i64_w, i32_w]
                      rfl
                    refine pure_ (i := 8) (N := some 49) (v := ?_) (a' := ?_) #[true, true, true, true, true, true, true, true, true, false, false, false, false, false, false, false, false, false, false, false, false, false, false, false, false, false, false, false, false, false, false, false, false] rfl rfl (any_of HT_.out (by kernel_rfl)) (fun _ _ _ h => h) (Or.inl ⟨by rfl, ?_⟩) ?_ ?_
                    rotate_left
                    · intro w'
                      go_simp
                      with_reducible rfl
                    rotate_left
                    · simp only [Act.put, List.setIfInBounds_toArray, List.set_cons_zero, List.set_cons_succ, i64_w, i32_w]
                      rfl
                    refine pure_ (i := 9) (N := some 50) (v := ?_) (a' := ?_) #[true, true, true, true, true, true, true, true, true, true, false, false, false, false, false, false, false, false, false, false, false, false, false, false, false, false, false, false, false, false, false, false, false] rfl rfl (any_of HT_.out (by kernel_rfl)) (fun _ _ _ h => h) (Or.inl ⟨by rfl, ?_⟩) ?_ ?_
                    rotate_left
                    · intro w'
                      go_simp
                      with_reducible rfl
                    rotate_left
                    · simp only [Act.put, List.setIfInBounds_toArray, List.set_cons_zero, List.set_cons_succ, i64_w, i32_w]
                      rfl
                    refine pure_ (i := 10) (N := some 51) (v := ?_) (a' := ?_) #[true, true, true, true, true, true, true, true, true, true, true, false, false, false, false, false, false, false, false, false, false, false, false, false, false, false, false, false, false, false, false, false, false] rfl rfl (any_of HT_.out (by kernel_rfl)) (fun _ _ _ h => h) (Or.inl ⟨by rfl, ?_⟩) ?_ ?_
                    rotate_left
                    · intro w'
                      go_simp
                      with_reducible rfl
                    rotate_left
                    · simp only [Act.put, List.setIfInBounds_toArray, List.set_cons_zero, List.set_cons_succ, i64_w, i32_w]
                      rfl
                    refine pure_ (i := 11) (N := some 52) (v := ?_) (a' := ?_) #[true, true, true, true, true, true, true, true, true, true, true, true, false, false, false, false, false, false, false, false, false, false, false, false, false, false, false, false, false, false, false, false, false] rfl rfl (any_of HT_.out (by kernel_rfl)) (fun _ _ _ h => h) (Or.inl ⟨by rfl, ?_⟩) ?_ ?_
                    rotate_left
                    · intro w'
                      go_simp
                      with_reducible rfl
                    rotate_left
                    · simp only [Act.put, List.setIfInBounds_toArray, List.set_cons_zero, List.set_cons_succ, i64_w, i32_w]
                      rfl
                    refine pure_ (i := 12) (N := some 53) (v := ?_) (a' := ?_) #[true, true, true, true, true, true, true, true, true, true, true, true, true, false, false, false, false, false, false, false, false, false, false, false, false, false, false, false, false, false, false, false, false] rfl rfl (any_of HT_.out (by kernel_rfl)) (fun _ _ _ h => h) (Or.inl ⟨by rfl, ?_⟩) ?_ ?_
                    rotate_left
                    · intro w'
                      go_simp
                      with_reducible rfl
                    rotate_left
                    · simp only [Act.put, List.setIfInBounds_toArray, List.set_cons_zero, List.set_cons_succ, i64_w, i32_w]
                      rfl
                    refine pure_ (i := 13) (N := some 54) (v := ?_) (a' := ?_) #[true, true, true, true, true, true, true, true, true, true, true, true, true, true, false, false, false, false, false, false, false, false, false, false, false, false, false, false, false, false, false, false, false] rfl rfl (any_of HT_.out (by kernel_rfl)) (fun _ _ _ h => h) (Or.inl ⟨by rfl, ?_⟩) ?_ ?_
                    rotate_left
                    · intro w'
                      go_simp
                      with_reducible rfl
                    rotate_left
                    · simp only [Act.put, List.setIfInBounds_toArray, List.set_cons_zero, List.set_cons_succ, i64_w, i32_w]
                      rfl
                    refine pure_ (i := 14) (N := some 55) (v := undef) (a' := ?_) #[true, true, true, true, true, true, true, true, true, true, true, true, true, true, true, false, false, false, false, false, false, false, false, false, false, false, false, false, false, false, false, false, false] rfl rfl (any_of HT_.out (by kernel_rfl)) (fun _ _ _ h => h) (Or.inr ⟨by rfl, rfl⟩) ?_ ?_
                    rotate_left
                    · simp only [Act.put, List.setIfInBounds_toArray, List.set_cons_zero, List.set_cons_succ]
                      rfl
                    refine pure_ (i := 15) (N := some 56) (v := undef) (a' := ?_) #[true, true, true, true, true, true, true, true, true, true, true, true, true, true, true, true, false, false, false, false, false, false, false, false, false, false, false, false, false, false, false, false, false] rfl rfl (any_of HT_.out (by kernel_rfl)) (fun _ _ _ h => h) (Or.inr ⟨by rfl, rfl⟩) ?_ ?_
                    rotate_left
                    · simp only [Act.put, List.setIfInBounds_toArray, List.set_cons_zero, List.set_cons_succ]
                      rfl
                    refine pure_ (i := 16) (N := some 57) (v := undef) (a' := ?_) #[true, true, true, true, true, true, true, true, true, true, true, true, true, true, true, true, true, false, false, false, false, false, false, false, false, false, false, false, false, false, false, false, false] rfl rfl (any_of HT_.out (by kernel_rfl)) (fun _ _ _ h => h) (Or.inr ⟨by rfl, rfl⟩) ?_ ?_
                    rotate_left
                    · simp only [Act.put, List.setIfInBounds_toArray, List.set_cons_zero, List.set_cons_succ]
                      rfl
                    refine pure_ (i := 17) (N := some 58) (v := undef) (a' := ?_) #[true, true, true, true, true, true, true, true, true, true, true, true, true, true, true, true, true, true, false, false, false, false, false, false, false, false, false, false, false, false, false, false, false] rfl rfl (any_of HT_.out (by kernel_rfl)) (fun _ _ _ h => h) (Or.inr ⟨by rfl, rfl⟩) ?_ ?_
                    rotate_left
                    · simp only [Act.put, List.setIfInBounds_toArray, List.set_cons_zero, List.set_cons_succ]
                      rfl
                    refine pure_ (i := 18) (N := some 59) (v := undef) (a' := ?_) #[true, true, true, true, true, true, true, true, true, true, true, true, true, true, true, true, true, true, true, false, false, false, false, false, false, false, false, false, false, false, false, false, false] rfl rfl (any_of HT_.out (by kernel_rfl)) (fun _ _ _ h => h) (Or.inr ⟨by rfl, rfl⟩) ?_ ?_
                    rotate_left
                    · simp only [Act.put, List.setIfInBounds_toArray, List.set_cons_zero, List.set_cons_succ]
                      rfl
                    refine pure_ (i := 19) (N := some 60) (v := undef) (a' := ?_) #[true, true, true, true, true, true, true, true, true, true, true, true, true, true, true, true, true, true, true, true, false, false, false, false, false, false, false, false, false, false, false, false, false] rfl rfl (any_of HT_.out (by kernel_rfl)) (fun _ _ _ h => h) (Or.inr ⟨by rfl, rfl⟩) ?_ ?_
                    rotate_left
                    · simp only [Act.put, List.setIfInBounds_toArray, List.set_cons_zero, List.set_cons_succ]
                      rfl
                    refine pure_ (i := 20) (N := some 61) (v := undef) (a' := ?_) #[true, true, true, true, true, true, true, true, true, true, true, true, true, true, true, true, true, true, true, true, true, false, false, false, false, false, false, false, false, false, false, false, false] rfl rfl (any_of HT_.out (by kernel_rfl)) (fun _ _ _ h => h) (Or.inr ⟨by rfl, rfl⟩) ?_ ?_
                    rotate_left
                    · simp only [Act.put, List.setIfInBounds_toArray, List.set_cons_zero, List.set_cons_succ]
                      rfl
                    refine pure_ (i := 21) (N := some 62) (v := undef) (a' := ?_) #[true, true, true, true, true, true, true, true, true, true, true, true, true, true, true, true, true, true, true, true, true, true, false, false, false, false, false, false, false, false, false, false, false] rfl rfl (any_of HT_.out (by kernel_rfl)) (fun _ _ _ h => h) (Or.inr ⟨by rfl, rfl⟩) ?_ ?_
                    rotate_left
                    · simp only [Act.put, List.setIfInBounds_toArray, List.set_cons_zero, List.set_cons_succ]
                      rfl
                    refine pure_ (i := 22) (N := some 63) (v := undef) (a' := ?_) #[true, true, true, true, true, true, true, true, true, true, true, true, true, true, true, true, true, true, true, true, true, true, true, false, false, false, false, false, false, false, false, false, false] rfl rfl (any_of HT_.out (by kernel_rfl)) (fun _ _ _ h => h) (Or.inr ⟨by rfl, rfl⟩) ?_ ?_
                    rotate_left
                    · simp only [Act.put, List.setIfInBounds_toArray, List.set_cons_zero, List.set_cons_succ]
                      rfl
                    refine pure_ (i := 23) (N := some 64) (v := undef) (a' := ?_) #[true, true, true, true, true, true, true, true, true, true, true, true, true, true, true, true, true, true, true, true, true, true, true, true, false, false, false, false, false, false, false, false, false] rfl rfl (any_of HT_.out (by kernel_rfl)) (fun _ _ _ h => h) (Or.inr ⟨by rfl, rfl⟩) ?_ ?_
                    rotate_left
                    · simp only [Act.put, List.setIfInBounds_toArray, List.set_cons_zero, List.set_cons_succ]
                      rfl
                    refine pure_ (i := 24) (N := some 65) (v := undef) (a' := ?_) #[true, true, true, true, true, true, true, true, true, true, true, true, true, true, true, true, true, true, true, true, true, true, true, true, true, false, false, false, false, false, false, false, false] rfl rfl (any_of HT_.out (by kernel_rfl)) (fun _ _ _ h => h) (Or.inr ⟨by rfl, rfl⟩) ?_ ?_
                    rotate_left
                    · simp only [Act.put, List.setIfInBounds_toArray, List.set_cons_zero, List.set_cons_succ]
                      rfl
                    refine pure_ (i := 25) (N := some 66) (v := undef) (a' := ?_) #[true, true, true, true, true, true, true, true, true, true, true, true, true, true, true, true, true, true, true, true, true, true, true, true, true, true, false, false, false, false, false, false, false] rfl rfl (any_of HT_.out (by kernel_rfl)) (fun _ _ _ h => h) (Or.inr ⟨by rfl, rfl⟩) ?_ ?_
                    rotate_left
                    · simp only [Act.put, List.setIfInBounds_toArray, List.set_cons_zero, List.set_cons_succ]
                      rfl
                    refine pure_ (i := 26) (N := some 67) (v := undef) (a' := ?_) #[true, true, true, true, true, true, true, true, true, true, true, true, true, true, true, true, true, true, true, true, true, true, true, true, true, true, true, false, false, false, false, false, false] rfl rfl (any_of HT_.out (by kernel_rfl)) (fun _ _ _ h => h) (Or.inr ⟨by rfl, rfl⟩) ?_ ?_
                    rotate_left
                    · simp only [Act.put, List.setIfInBounds_toArray, List.set_cons_zero, List.set_cons_succ]
                      rfl
                    refine pure_ (i := 27) (N := some 68) (v := undef) (a' := ?_) #[true, true, true, true, true, true, true, true, true, true, true, true, true, true, true, true, true, true, true, true, true, true, true, true, true, true, true, true, false, false, false, false, false] rfl rfl (any_of HT_.out (by kernel_rfl)) (fun _ _ _ h => h) (Or.inr ⟨by rfl, rfl⟩) ?_ ?_
                    rotate_left
                    · simp only [Act.put, List.setIfInBounds_toArray, List.set_cons_zero, List.set_cons_succ]
                      rfl
                    refine pure_ (i := 28) (N := some 69) (v := undef) (a' := ?_) #[true, true, true, true, true, true, true, true, true, true, true, true, true, true, true, true, true, true, true, true, true, true, true, true, true, true, true, true, true, false, false, false, false] rfl rfl (any_of HT_.out (by kernel_rfl)) (fun _ _ _ h => h) (Or.inr ⟨by rfl, rfl⟩) ?_ ?_
                    rotate_left
                    · simp only [Act.put, List.setIfInBounds_toArray, List.set_cons_zero, List.set_cons_succ]
                      rfl
                    refine pure_ (i := 29) (N := some 70) (v := undef) (a' := ?_) #[true, true, true, true, true, true, true, true, true, true, true, true, true, true, true, true, true, true, true, true, true, true, true, true, true, true, true, true, true, true, false, false, false] rfl rfl (any_of HT_.out (by kernel_rfl)) (fun _ _ _ h => h) (Or.inr ⟨by rfl, rfl⟩) ?_ ?_
                    rotate_left
                    · simp only [Act.put, List.setIfInBounds_toArray, List.set_cons_zero, List.set_cons_succ]
                      rfl
                    refine pure_ (i := 30) (N := some 71) (v := undef) (a' := ?_) #[true, true, true, true, true, true, true, true, true, true, true, true, true, true, true, true, true, true, true, true, true, true, true, true, true, true, true, true, true, true, true, false, false] rfl rfl (any_of HT_.out (by kernel_rfl)) (fun _ _ _ h => h) (Or.inr ⟨by rfl, rfl⟩) ?_ ?_
                    rotate_left
                    · simp only [Act.put, List.setIfInBounds_toArray, List.set_cons_zero, List.set_cons_succ]
                      rfl
                    refine pure_ (i := 31) (N := some 72) (v := ?_) (a' := ?_) #[true, true, true, true, true, true, true, true, true, true, true, true, true, true, true, true, true, true, true, true, true, true, true, true, true, true, true, true, true, true, true, true, false] rfl rfl (any_of HT_.out (by kernel_rfl)) (fun _ _ _ h => h) (Or.inl ⟨by rfl, ?_⟩) ?_ ?_
                    rotate_left
                    · intro w'
                      go_simp
                      with_reducible rfl
                    rotate_left
                    · simp only [Act.put, List.setIfInBounds_toArray, List.set_cons_zero, List.set_cons_succ, i64_w, i32_w]
                      rfl
                    refine pure_ (i := 32) (N := some 12) (v := ?_) (a' := ?_) #[true, true, true, true, true, true, true, true, true, true, true, true, true, true, true, true, true, true, true, true, true, true, true, true, true, true, true, true, true, true, true, true, true] rfl rfl (any_of HT_.out (by kernel_rfl)) (fun _ _ _ h => h) (Or.inl ⟨by rfl, ?_⟩) ?_ ?_
                    rotate_left
                    · intro w'
                      go_simp
                      with_reducible rfl
                    rotate_left
                    · simp only [Act.put, List.setIfInBounds_toArray, List.set_cons_zero, List.set_cons_succ, i64_w, i32_w]
                      rfl
                    refine done_ (done_of HT_.out (by kernel_rfl)) ?_
                    try go_wp2
                    go_meet
                    case rel => exact ⟨by rw [HT3.out], ⟨by rw [← hwd]; exact HW.out.drew⟩⟩
                  · have C1 := Aside0.mk c1
                    have c1b : decide (rd st (m3 : Int) ≤ rd st (m2 : Int) + rd st (m1 : Int)) = false := decide_eq_false c1
                    clear c1
                    by_cases hn4 : 4 ≤ st.length
                    · obtain ⟨m4, M4⟩ : ∃ m, m + 4 = st.length := ⟨st.length - 4, by omega⟩
                      have M4' := Aside0.mk M4
                      have B4 := Aside0.mk (mp_bd HS.out (i := m4) (by omega))
                      have hst := HST.out
                      have hm1 := M1'.out
                      have g3 : decide (3 ≤ (m1 : Int)) = true := decide_eq_true (by omega)
                      have w4 : wrap64 ((m1 : Int) - 3) = (m4 : Int) := by unfold wrap64; omega
                      have w4' : IntKind.i64.wrap ((m1 : Int) - 3) = (m4 : Int) := (i64_w _).trans w4
                      have d7 : (0 ≤ (m4 : Int)) = True := eq_true (by omega)
                      have d8 : ((m4 : Int) < (st.length : Int)) = True := eq_true (by omega)
                      have wdb : wrap64 (rd st (m3 : Int) + rd st (m2 : Int)) = rd st (m3 : Int) + rd st (m2 : Int) := by have := B3.out; have := B2.out; have := HI60.out; unfold wrap64; omega
                      have wdb' : IntKind.i64.wrap (rd st (m3 : Int) + rd st (m2 : Int)) = rd st (m3 : Int) + rd st (m2 : Int) := (i64_w _).trans wdb
                      have hC4 : ∀ {W : World}, StW w.heap.size g5 g6 v5 (.slice (some ⟨go, 0, none⟩) st.length c6) plan st w W → W.cell? ⟨g6, 0, none⟩ = some (.slice (some ⟨go, 0, none⟩) st.length c6) ∧ W.cell? ⟨go, m1, none⟩ = some (.int .i64 (rd st (m1 : Int))) ∧ W.cell? ⟨go, m2, none⟩ = some (.int .i64 (rd st (m2 : Int))) ∧ W.cell? ⟨go, m3, none⟩ = some (.int .i64 (rd st (m3 : Int))) ∧ W.cell? ⟨go, m4, none⟩ = some (.int .i64 (rd st (m4 : Int))) := fun h => ⟨(HC3.out h).1, (HC3.out h).2.1, (HC3.out h).2.2.1, (HC3.out h).2.2.2, h.at.2 m4 (by omega)⟩
                      have HC4 := Aside0.mk @hC4
                      clear hC4 hst hm1 M4
                      by_cases c2 : rd st (m4 : Int) ≤ rd st (m3 : Int) + rd st (m2 : Int)
                      · have HT4 := Aside0.mk (mp_t4 M2'.out M3'.out M4'.out c2)
                        have c2b : decide (rd st (m4 : Int) ≤ rd st (m3 : Int) + rd st (m2 : Int)) = true := decide_eq_true c2
                        clear c2
                        show Code.wp _ _ _ _ _
                        refine start_ (n := 33) (S := fun w' => w'.cell? ⟨g6, 0, none⟩ = some (.slice (some ⟨go, 0, none⟩) st.length c6) ∧ w'.cell? ⟨go, m1, none⟩ = some (.int .i64 (rd st (m1 : Int))) ∧ w'.cell? ⟨go, m2, none⟩ = some (.int .i64 (rd st (m2 : Int))) ∧ w'.cell? ⟨go, m3, none⟩ = some (.int .i64 (rd st (m3 : Int))) ∧ w'.cell? ⟨go, m4, none⟩ = some (.int .i64 (rd st (m4 : Int)))) (ds := []) #[false, false, false, false, false, false, false, false, false, false, false, false, false, false, false, false, false, false, false, false, false, false, false, false, false, false, false, false, false, false, false, false, false] (by kernel_rfl) rfl rfl (HC4.out HW.out.drew) (fun hHeld => ?_); refine with_tabW MM16_tab MM16_bits (fun HT_ HW_ => ?_)
                        generalize hwd : wc.drew = wd at hHeld ⊢
                        refine pure_ (i := 0) (N := some 41) (v := ?_) (a' := ?_) #[true, false, false, false, false, false, false, false, false, false, false, false, false, false, false, false, false, false, false, false, false, false, false, false, false, false, false, false, false, false, false, false, false] rfl rfl (any_of HT_.out (by kernel_rfl)) (fun _ _ _ h => h) (Or.inl ⟨by rfl, ?_⟩) ?_ ?_
                        rotate_left
                        · intro w'
                          go_simp
                          with_reducible rfl
                        rotate_left
                        · simp only [Act.put, List.setIfInBounds_toArray, List.set_cons_zero, List.set_cons_succ, i64_w, i32_w]
                          rfl
                        refine pure_ (i := 1) (N := some 42) (v := ?_) (a' := ?_) #[true, true, false, false, false, false, false, false, false, false, false, false, false, false, false, false, false, false, false, false, false, false, false, false, false, false, false, false, false, false, false, false, false] rfl rfl (any_of HT_.out (by kernel_rfl)) (fun _ _ _ h => h) (Or.inl ⟨by rfl, ?_⟩) ?_ ?_
                        rotate_left
                        · intro w'
                          go_simp
                          with_reducible rfl
                        rotate_left
                        · simp only [Act.put, List.setIfInBounds_toArray, List.set_cons_zero, List.set_cons_succ, i64_w, i32_w]
                          rfl
                        refine pure_ (i := 2) (N := some 43) (v := ?_) (a' := ?_) #[true, true, true, false, false, false, false, false, false, false, false, false, false, false, false, false, false, false, false, false, false, false, false, false, false, false, false, false, false, false, false, false, false] rfl rfl (any_of HT_.out (by kernel_rfl)) (fun _ _ _ h => h) (Or.inl ⟨by rfl, ?_⟩) ?_ ?_
                        rotate_left
                        · intro w'
                          go_simp
                          with_reducible rfl
                        rotate_left
                        · simp only [Act.put, List.setIfInBounds_toArray, List.set_cons_zero, List.set_cons_succ, i64_w, i32_w]
                          rfl
                        refine take_ (i := 3) (N := some 44) (v := ?_) (a' := ?_) #[true, true, true, true, false, false, false, false, false, false, false, false, false, false, false, false, false, false, false, false, false, false, false, false, false, false, false, false, false, false, false, false, false] rfl rfl (take_ofW HT_.out HW_.out (by kernel_rfl)) (fun _ _ _ h => h) (Or.inl ⟨by rfl, ?_⟩) hHeld ?_ ?_
                        rotate_left
                        · rintro w' ⟨s0, s1, s2, s3, s4⟩
                          go_simp
                          with_reducible rfl
                        rotate_left
                        · simp only [Act.put, List.setIfInBounds_toArray, List.set_cons_zero, List.set_cons_succ, i64_w, i32_w]
                          rfl
                        refine pure_ (i := 4) (N := some 45) (v := ?_) (a' := ?_) #[true, true, true, true, true, false, false, false, false, false, false, false, false, false, false, false, false, false, false, false, false, false, false, false, false, false, false, false, false, false, false, false, false] rfl rfl (any_of HT_.out (by kernel_rfl)) (fun _ _ _ h => h) (Or.inl ⟨by rfl, ?_⟩) ?_ ?_
                        rotate_left
                        · intro w'
                          go_simp
                          with_reducible rfl
                        rotate_left
                        · simp only [Act.put, List.setIfInBounds_toArray, List.set_cons_zero, List.set_cons_succ, i64_w, i32_w]
                          rfl
                        refine pure_ (i := 5) (N := some 46) (v := ?_) (a' := ?_) #[true, true, true, true, true, true, false, false, false, false, false, false, false, false, false, false, false, false, false, false, false, false, false, false, false, false, false, false, false, false, false, false, false] rfl rfl (any_of HT_.out (by kernel_rfl)) (fun _ _ _ h => h) (Or.inl ⟨by rfl, ?_⟩) ?_ ?_
                        rotate_left
                        · intro w'
                          go_simp
                          with_reducible rfl
                        rotate_left
                        · simp only [Act.put, List.setIfInBounds_toArray, List.set_cons_zero, List.set_cons_succ, i64_w, i32_w]
                          rfl
                        refine pure_ (i := 6) (N := some 47) (v := ?_) (a' := ?_) #[true, true, true, true, true, true, true, false, false, false, false, false, false, false, false, false, false, false, false, false, false, false, false, false, false, false, false, false, false, false, false, false, false] rfl rfl (any_of HT_.out (by kernel_rfl)) (fun _ _ _ h => h) (Or.inl ⟨by rfl, ?_⟩) ?_ ?_
                        rotate_left
                        · intro w'
                          go_simp
                          with_reducible rfl
                        rotate_left
                        · simp only [Act.put, List.setIfInBounds_toArray, List.set_cons_zero, List.set_cons_succ, i64_w, i32_w]
                          rfl
                        refine take_ (i := 7) (N := some 48) (v := ?_) (a' := ?_) #[true, true, true, true, true, true, true, true, false, false, false, false, false, false, false, false, false, false, false, false, false, false, false, false, false, false, false, false, false, false, false, false, false] rfl rfl (take_ofW HT_.out HW_.out (by kernel_rfl)) (fun _ _ _ h => h) (Or.inl ⟨by rfl, ?_⟩) hHeld ?_ ?_
                        rotate_left
                        · rintro w' ⟨s0, s1, s2, s3, s4⟩
                          go_simp
                          with_reducible rfl
                        rotate_left
                        · simp only [Act.put, List.setIfInBounds_toArray, List.set_cons_zero, List.set_cons_succ, i64_w, i32_w]
                          rfl
                        refine pure_ (i := 8) (N := some 49) (v := ?_) (a' := ?_) #[true, true, true, true, true, true, true, true, true, false, false, false, false, false, false, false, false, false, false, false, false, false, false, false, false, false, false, false, false, false, false, false, false] rfl rfl (any_of HT_.out (by kernel_rfl)) (fun _ _ _ h => h) (Or.inl ⟨by rfl, ?_⟩) ?_ ?_
                        rotate_left
                        · intro w'
                          go_simp
                          with_reducible rfl
                        rotate_left
                        · simp only [Act.put, List.setIfInBounds_toArray, List.set_cons_zero, List.set_cons_succ, i64_w, i32_w]
                          rfl
                        refine pure_ (i := 9) (N := some 50) (v := ?_) (a' := ?_) #[true, true, true, true, true, true, true, true, true, true, false, false, false, false, false, false, false, false, false, false, false, false, false, false, false, false, false, false, false, false, false, false, false] rfl rfl (any_of HT_.out (by kernel_rfl)) (fun _ _ _ h => h) (Or.inl ⟨by rfl, ?_⟩) ?_ ?_
                        rotate_left
                        · intro w'
                          go_simp
                          with_reducible rfl
                        rotate_left
                        · simp only [Act.put, List.setIfInBounds_toArray, List.set_cons_zero, List.set_cons_succ, i64_w, i32_w]
                          rfl
                        refine pure_ (i := 10) (N := some 51) (v := ?_) (a' := ?_) #[true, true, true, true, true, true, true, true, true, true, true, false, false, false, false, false, false, false, false, false, false, false, false, false, false, false, false, false, false, false, false, false, false] rfl rfl (any_of HT_.out (by kernel_rfl)) (fun _ _ _ h => h) (Or.inl ⟨by rfl, ?_⟩) ?_ ?_
                        rotate_left
                        · intro w'
                          go_simp
                          with_reducible rfl
                        rotate_left
                        · simp only [Act.put, List.setIfInBounds_toArray, List.set_cons_zero, List.set_cons_succ, i64_w, i32_w]
                          rfl
                        refine pure_ (i := 11) (N := some 52) (v := ?_) (a' := ?_) #[true, true, true, true, true, true, true, true, true, true, true, true, false, false, false, false, false, false, false, false, false, false, false, false, false, false, false, false, false, false, false, false, false] rfl rfl (any_of HT_.out (by kernel_rfl)) (fun _ _ _ h => h) (Or.inl ⟨by rfl, ?_⟩) ?_ ?_
                        rotate_left
                        · intro w'
                          go_simp
                          with_reducible rfl
                        rotate_left
                        · simp only [Act.put, List.setIfInBounds_toArray, List.set_cons_zero, List.set_cons_succ, i64_w, i32_w]
                          rfl
                        refine pure_ (i := 12) (N := some 53) (v := ?_) (a' := ?_) #[true, true, true, true, true, true, true, true, true, true, true, true, true, false, false, false, false, false, false, false, false, false, false, false, false, false, false, false, false, false, false, false, false] rfl rfl (any_of HT_.out (by kernel_rfl)) (fun _ _ _ h => h) (Or.inl ⟨by rfl, ?_⟩) ?_ ?_
                        rotate_left
                        · intro w'
                          go_simp
                          with_reducible rfl
                        rotate_left
                        · simp only [Act.put, List.setIfInBounds_toArray, List.set_cons_zero, List.set_cons_succ, i64_w, i32_w]
                          rfl
                        refine pure_ (i := 13) (N := some 54) (v := ?_) (a' := ?_) #[true, true, true, true, true, true, true, true, true, true, true, true, true, true, false, false, false, false, false, false, false, false, false, false, false, false, false, false, false, false, false, false, false] rfl rfl (any_of HT_.out (by kernel_rfl)) (fun _ _ _ h => h) (Or.inl ⟨by rfl, ?_⟩) ?_ ?_
                        rotate_left
                        · intro w'
                          go_simp
                          with_reducible rfl
                        rotate_left
                        · simp only [Act.put, List.setIfInBounds_toArray, List.set_cons_zero, List.set_cons_succ, i64_w, i32_w]
                          rfl
                        refine pure_ (i := 14) (N := some 55) (v := ?_) (a' := ?_) #[true, true, true, true, true, true, true, true, true, true, true, true, true, true, true, false, false, false, false, false, false, false, false, false, false, false, false, false, false, false, false, false, false] rfl rfl (any_of HT_.out (by kernel_rfl)) (fun _ _ _ h => h) (Or.inl ⟨by rfl, ?_⟩) ?_ ?_
                        rotate_left
                        · intro w'
                          go_simp
                          with_reducible rfl
                        rotate_left
                        · simp only [Act.put, List.setIfInBounds_toArray, List.set_cons_zero, List.set_cons_succ, i64_w, i32_w]
                          rfl
                        refine pure_ (i := 15) (N := some 56) (v := ?_) (a' := ?_) #[true, true, true, true, true, true, true, true, true, true, true, true, true, true, true, true, false, false, false, false, false, false, false, false, false, false, false, false, false, false, false, false, false] rfl rfl (any_of HT_.out (by kernel_rfl)) (fun _ _ _ h => h) (Or.inl ⟨by rfl, ?_⟩) ?_ ?_
                        rotate_left
                        · intro w'
                          go_simp
                          with_reducible rfl
                        rotate_left
                        · simp only [Act.put, List.setIfInBounds_toArray, List.set_cons_zero, List.set_cons_succ, i64_w, i32_w]
                          rfl
                        refine pure_ (i := 16) (N := some 57) (v := ?_) (a' := ?_) #[true, true, true, true, true, true, true, true, true, true, true, true, true, true, true, true, true, false, false, false, false, false, false, false, false, false, false, false, false, false, false, false, false] rfl rfl (any_of HT_.out (by kernel_rfl)) (fun _ _ _ h => h) (Or.inl ⟨by rfl, ?_⟩) ?_ ?_
                        rotate_left
                        · intro w'
                          go_simp
                          with_reducible rfl
                        rotate_left
                        · simp only [Act.put, List.setIfInBounds_toArray, List.set_cons_zero, List.set_cons_succ, i64_w, i32_w]
                          rfl
                        refine take_ (i := 17) (N := some 58) (v := ?_) (a' := ?_) #[true, true, true, true, true, true, true, true, true, true, true, true, true, true, true, true, true, true, false, false, false, false, false, false, false, false, false, false, false, false, false, false, false] rfl rfl (take_ofW HT_.out HW_.out (by kernel_rfl)) (fun _ _ _ h => h) (Or.inl ⟨by rfl, ?_⟩) hHeld ?_ ?_
                        rotate_left
                        · rintro w' ⟨s0, s1, s2, s3, s4⟩
                          go_simp
                          with_reducible rfl
                        rotate_left
                        · simp only [Act.put, List.setIfInBounds_toArray, List.set_cons_zero, List.set_cons_succ, i64_w, i32_w]
                          rfl
                        refine pure_ (i := 18) (N := some 59) (v := ?_) (a' := ?_) #[true, true, true, true, true, true, true, true, true, true, true, true, true, true, true, true, true, true, true, false, false, false, false, false, false, false, false, false, false, false, false, false, false] rfl rfl (any_of HT_.out (by kernel_rfl)) (fun _ _ _ h => h) (Or.inl ⟨by rfl, ?_⟩) ?_ ?_
                        rotate_left
                        · intro w'
                          go_simp
                          with_reducible rfl
                        rotate_left
                        · simp only [Act.put, List.setIfInBounds_toArray, List.set_cons_zero, List.set_cons_succ, i64_w, i32_w]
                          rfl
                        refine pure_ (i := 19) (N := some 60) (v := ?_) (a' := ?_) #[true, true, true, true, true, true, true, true, true, true, true, true, true, true, true, true, true, true, true, true, false, false, false, false, false, false, false, false, false, false, false, false, false] rfl rfl (any_of HT_.out (by kernel_rfl)) (fun _ _ _ h => h) (Or.inl ⟨by rfl, ?_⟩) ?_ ?_
                        rotate_left
                        · intro w'
                          go_simp
                          with_reducible rfl
                        rotate_left
                        · simp only [Act.put, List.setIfInBounds_toArray, List.set_cons_zero, List.set_cons_succ, i64_w, i32_w]
                          rfl
                        refine pure_ (i := 20) (N := some 61) (v := ?_) (a' := ?_) #[true, true, true, true, true, true, true, true, true, true, true, true, true, true, true, true, true, true, true, true, true, false, false, false, false, false, false, false, false, false, false, false, false] rfl rfl (any_of HT_.out (by kernel_rfl)) (fun _ _ _ h => h) (Or.inl ⟨by rfl, ?_⟩) ?_ ?_
                        rotate_left
                        · intro w'
                          go_simp
                          with_reducible rfl
                        rotate_left
                        · simp only [Act.put, List.setIfInBounds_toArray, List.set_cons_zero, List.set_cons_succ, i64_w, i32_w]
                          rfl
                        refine take_ (i := 21) (N := some 62) (v := ?_) (a' := ?_) #[true, true, true, true, true, true, true, true, true, true, true, true, true, true, true, true, true, true, true, true, true, true, false, false, false, false, false, false, false, false, false, false, false] rfl rfl (take_ofW HT_.out HW_.out (by kernel_rfl)) (fun _ _ _ h => h) (Or.inl ⟨by rfl, ?_⟩) hHeld ?_ ?_
                        rotate_left
                        · rintro w' ⟨s0, s1, s2, s3, s4⟩
                          go_simp
                          with_reducible rfl
                        rotate_left
                        · simp only [Act.put, List.setIfInBounds_toArray, List.set_cons_zero, List.set_cons_succ, i64_w, i32_w]
                          rfl
                        refine take_ (i := 22) (N := some 63) (v := ?_) (a' := ?_) #[true, true, true, true, true, true, true, true, true, true, true, true, true, true, true, true, true, true, true, true, true, true, true, false, false, false, false, false, false, false, false, false, false] rfl rfl (take_ofW HT_.out HW_.out (by kernel_rfl)) (fun _ _ _ h => h) (Or.inl ⟨by rfl, ?_⟩) hHeld ?_ ?_
                        rotate_left
                        · rintro w' ⟨s0, s1, s2, s3, s4⟩
                          go_simp
                          with_reducible rfl
                        rotate_left
                        · simp only [Act.put, List.setIfInBounds_toArray, List.set_cons_zero, List.set_cons_succ, i64_w, i32_w]
                          rfl
                        refine pure_ (i := 23) (N := some 64) (v := ?_) (a' := ?_) #[true, true, true, true, true, true, true, true, true, true, true, true, true, true, true, true, true, true, true, true, true, true, true, true, false, false, false, false, false, false, false, false, false] rfl rfl (any_of HT_.out (by kernel_rfl)) (fun _ _ _ h => h) (Or.inl ⟨by rfl, ?_⟩) ?_ ?_
                        rotate_left
                        · intro w'
                          go_simp
                          with_reducible rfl
                        rotate_left
                        · simp only [Act.put, List.setIfInBounds_toArray, List.set_cons_zero, List.set_cons_succ, i64_w, i32_w]
                          rfl
                        refine pure_ (i := 24) (N := some 65) (v := ?_) (a' := ?_) #[true, true, true, true, true, true, true, true, true, true, true, true, true, true, true, true, true, true, true, true, true, true, true, true, true, false, false, false, false, false, false, false, false] rfl rfl (any_of HT_.out (by kernel_rfl)) (fun _ _ _ h => h) (Or.inl ⟨by rfl, ?_⟩) ?_ ?_
                        rotate_left
                        · intro w'
                          go_simp
                          with_reducible rfl
                        rotate_left
                        · simp only [Act.put, List.setIfInBounds_toArray, List.set_cons_zero, List.set_cons_succ, i64_w, i32_w]
                          rfl
                        refine pure_ (i := 25) (N := some 66) (v := ?_) (a' := ?_) #[true, true, true, true, true, true, true, true, true, true, true, true, true, true, true, true, true, true, true, true, true, true, true, true, true, true, false, false, false, false, false, false, false] rfl rfl (any_of HT_.out (by kernel_rfl)) (fun _ _ _ h => h) (Or.inl ⟨by rfl, ?_⟩) ?_ ?_
                        rotate_left
                        · intro w'
                          go_simp
                          with_reducible rfl
                        rotate_left
                        · simp only [Act.put, List.setIfInBounds_toArray, List.set_cons_zero, List.set_cons_succ, i64_w, i32_w]
                          rfl
                        refine take_ (i := 26) (N := some 67) (v := ?_) (a' := ?_) #[true, true, true, true, true, true, true, true, true, true, true, true, true, true, true, true, true, true, true, true, true, true, true, true, true, true, true, false, false, false, false, false, false] rfl rfl (take_ofW HT_.out HW_.out (by kernel_rfl)) (fun _ _ _ h => h) (Or.inl ⟨by rfl, ?_⟩) hHeld ?_ ?_
                        rotate_left
                        · rintro w' ⟨s0, s1, s2, s3, s4⟩
                          go_simp
                          with_reducible rfl
                        rotate_left
                        · simp only [Act.put, List.setIfInBounds_toArray, List.set_cons_zero, List.set_cons_succ, i64_w, i32_w]
                          rfl
                        refine pure_ (i := 27) (N := some 68) (v := ?_) (a' := ?_) #[true, true, true, true, true, true, true, true, true, true, true, true, true, true, true, true, true, true, true, true, true, true, true, true, true, true, true, true, false, false, false, false, false] rfl rfl (any_of HT_.out (by kernel_rfl)) (fun _ _ _ h => h) (Or.inl ⟨by rfl, ?_⟩) ?_ ?_
                        rotate_left
                        · intro w'
                          go_simp
                          with_reducible rfl
                        rotate_left
                        · simp only [Act.put, List.setIfInBounds_toArray, List.set_cons_zero, List.set_cons_succ, i64_w, i32_w]
                          rfl
                        refine pure_ (i := 28) (N := some 69) (v := ?_) (a' := ?_) #[true, true, true, true, true, true, true, true, true, true, true, true, true, true, true, true, true, true, true, true, true, true, true, true, true, true, true, true, true, false, false, false, false] rfl rfl (any_of HT_.out (by kernel_rfl)) (fun _ _ _ h => h) (Or.inl ⟨by rfl, ?_⟩) ?_ ?_
                        rotate_left
                        · intro w'
                          go_simp
                          with_reducible rfl
                        rotate_left
                        · simp only [Act.put, List.setIfInBounds_toArray, List.set_cons_zero, List.set_cons_succ, i64_w, i32_w]
                          rfl
                        refine pure_ (i := 29) (N := some 70) (v := ?_) (a' := ?_) #[true, true, true, true, true, true, true, true, true, true, true, true, true, true, true, true, true, true, true, true, true, true, true, true, true, true, true, true, true, true, false, false, false] rfl rfl (any_of HT_.out (by kernel_rfl)) (fun _ _ _ h => h) (Or.inl ⟨by rfl, ?_⟩) ?_ ?_
                        rotate_left
                        · intro w'
                          go_simp
                          with_reducible rfl
                        rotate_left
                        · simp only [Act.put, List.setIfInBounds_toArray, List.set_cons_zero, List.set_cons_succ, i64_w, i32_w]
                          rfl
                        refine pure_ (i := 30) (N := some 71) (v := ?_) (a' := ?_) #[true, true, true, true, true, true, true, true, true, true, true, true, true, true, true, true, true, true, true, true, true, true, true, true, true, true, true, true, true, true, true, false, false] rfl rfl (any_of HT_.out (by kernel_rfl)) (fun _ _ _ h => h) (Or.inl ⟨by rfl, ?_⟩) ?_ ?_
                        rotate_left
                        · intro w'
                          go_simp
                          with_reducible rfl
                        rotate_left
                        · simp only [Act.put, List.setIfInBounds_toArray, List.set_cons_zero, List.set_cons_succ, i64_w, i32_w]
                          rfl
                        refine pure_ (i := 31) (N := some 72) (v := ?_) (a' := ?_) #[true, true, true, true, true, true, true, true, true, true, true, true, true, true, true, true, true, true, true, true, true, true, true, true, true, true, true, true, true, true, true, true, false] rfl rfl (any_of HT_.out (by kernel_rfl)) (fun _ _ _ h => h) (Or.inl ⟨by rfl, ?_⟩) ?_ ?_
                        rotate_left
                        · intro w'
                          go_simp
                          with_reducible rfl
                        rotate_left
                        · simp only [Act.put, List.setIfInBounds_toArray, List.set_cons_zero, List.set_cons_succ, i64_w, i32_w]
                          rfl
                        refine pure_ (i := 32) (N := some 12) (v := ?_) (a' := ?_) #[true, true, true, true, true, true, true, true, true, true, true, true, true, true, true, true, true, true, true, true, true, true, true, true, true, true, true, true, true, true, true, true, true] rfl rfl (any_of HT_.out (by kernel_rfl)) (fun _ _ _ h => h) (Or.inl ⟨by rfl, ?_⟩) ?_ ?_
                        rotate_left
                        · intro w'
                          go_simp
                          with_reducible rfl
                        rotate_left
                        · simp only [Act.put, List.setIfInBounds_toArray, List.set_cons_zero, List.set_cons_succ, i64_w, i32_w]
                          rfl
                        refine done_ (done_of HT_.out (by kernel_rfl)) ?_
                        try go_wp2
                        go_meet
                        case rel => exact ⟨by rw [HT4.out], ⟨by rw [← hwd]; exact HW.out.drew⟩⟩
                      · have HT4 := Aside0.mk (mp_f4 M1'.out M2'.out M3'.out M4'.out C1.out c2)
                        have c2b : decide (rd st (m4 : Int) ≤ rd st (m3 : Int) + rd st (m2 : Int)) = false := decide_eq_false c2
                        clear c2
                        show Code.wp _ _ _ _ _
                        refine start_ (n := 33) (S := fun w' => w'.cell? ⟨g6, 0, none⟩ = some (.slice (some ⟨go, 0, none⟩) st.length c6) ∧ w'.cell? ⟨go, m1, none⟩ = some (.int .i64 (rd st (m1 : Int))) ∧ w'.cell? ⟨go, m2, none⟩ = some (.int .i64 (rd st (m2 : Int))) ∧ w'.cell? ⟨go, m3, none⟩ = some (.int .i64 (rd st (m3 : Int))) ∧ w'.cell? ⟨go, m4, none⟩ = some (.int .i64 (rd st (m4 : Int)))) (ds := []) #[false, false, false, false, false, false, false, false, false, false, false, false, false, false, false, false, false, false, false, false, false, false, false, false, false, false, false, false, false, false, false, false, false] (by kernel_rfl) rfl rfl (HC4.out HW.out.drew) (fun hHeld => ?_); refine with_tabW MM16_tab MM16_bits (fun HT_ HW_ => ?_)
                        generalize hwd : wc.drew = wd at hHeld ⊢
                        refine pure_ (i := 0) (N := some 41) (v := ?_) (a' := ?_) #[true, false, false, false, false, false, false, false, false, false, false, false, false, false, false, false, false, false, false, false, false, false, false, false, false, false, false, false, false, false, false, false, false] rfl rfl (any_of HT_.out (by kernel_rfl)) (fun _ _ _ h => h) (Or.inl ⟨by rfl, ?_⟩) ?_ ?_
                        rotate_left
                        · intro w'
                          go_simp
                          with_reducible rfl
                        rotate_left
                        · simp only [Act.put, List.setIfInBounds_toArray, List.set_cons_zero, List.set_cons_succ, i64_w, i32_w]
                          rfl
                        refine pure_ (i := 1) (N := some 42) (v := ?_) (a' := ?_) #[true, true, false, false, false, false, false, false, false, false, false, false, false, false, false, false, false, false, false, false, false, false, false, false, false, false, false, false, false, false, false, false, false] rfl rfl (any_of HT_.out (by kernel_rfl)) (fun _ _ _ h => h) (Or.inl ⟨by rfl, ?_⟩) ?_ ?_
                        rotate_left
                        · intro w'
                          go_simp
                          with_reducible rfl
                        rotate_left
                        · simp only [Act.put, List.setIfInBounds_toArray, List.set_cons_zero, List.set_cons_succ, i64_w, i32_w]
                          rfl
                        refine pure_ (i := 2) (N := some 43) (v := ?_) (a' := ?_) #[true, true, true, false, false, false, false, false, false, false, false, false, false, false, false, false, false, false, false, false, false, false, false, false, false, false, false, false, false, false, false, false, false] rfl rfl (any_of HT_.out (by kernel_rfl)) (fun _ _ _ h => h) (Or.inl ⟨by rfl, ?_⟩) ?_ ?_
                        rotate_left
                        · intro w'
                          go_simp
                          with_reducible rfl
                        rotate_left
                        · simp only [Act.put, List.setIfInBounds_toArray, List.set_cons_zero, List.set_cons_succ, i64_w, i32_w]
                          rfl
                        refine take_ (i := 3) (N := some 44) (v := ?_) (a' := ?_) #[true, true, true, true, false, false, false, false, false, false, false, false, false, false, false, false, false, false, false, false, false, false, false, false, false, false, false, false, false, false, false, false, false] rfl rfl (take_ofW HT_.out HW_.out (by kernel_rfl)) (fun _ _ _ h => h) (Or.inl ⟨by rfl, ?_⟩) hHeld ?_ ?_
                        rotate_left
                        · rintro w' ⟨s0, s1, s2, s3, s4⟩
                          go_simp
                          with_reducible rfl
                        rotate_left
                        · simp only [Act.put, List.setIfInBounds_toArray, List.set_cons_zero, List.set_cons_succ, i64_w, i32_w]
                          rfl
                        refine pure_ (i := 4) (N := some 45) (v := ?_) (a' := ?_) #[true, true, true, true, true, false, false, false, false, false, false, false, false, false, false, false, false, false, false, false, false, false, false, false, false, false, false, false, false, false, false, false, false] rfl rfl (any_of HT_.out (by kernel_rfl)) (fun _ _ _ h => h) (Or.inl ⟨by rfl, ?_⟩) ?_ ?_
                        rotate_left
                        · intro w'
                          go_simp
                          with_reducible rfl
                        rotate_left
                        · simp only [Act.put, List.setIfInBounds_toArray, List.set_cons_zero, List.set_cons_succ, i64_w, i32_w]
                          rfl
                        refine pure_ (i := 5) (N := some 46) (v := ?_) (a' := ?_) #[true, true, true, true, true, true, false, false, false, false, false, false, false, false, false, false, false, false, false, false, false, false, false, false, false, false, false, false, false, false, false, false, false] rfl rfl (any_of HT_.out (by kernel_rfl)) (fun _ _ _ h => h) (Or.inl ⟨by rfl, ?_⟩) ?_ ?_
                        rotate_left
                        · intro w'
                          go_simp
                          with_reducible rfl
                        rotate_left
                        · simp only [Act.put, List.setIfInBounds_toArray, List.set_cons_zero, List.set_cons_succ, i64_w, i32_w]
                          rfl
                        refine pure_ (i := 6) (N := some 47) (v := ?_) (a' := ?_) #[true, true, true, true, true, true, true, false, false, false, false, false, false, false, false, false, false, false, false, false, false, false, false, false, false, false, false, false, false, false, false, false, false] rfl rfl (any_of HT_.out (by kernel_rfl)) (fun _ _ _ h => h) (Or.inl ⟨by rfl, ?_⟩) ?_ ?_
                        rotate_left
                        · intro w'
                          go_simp
                          with_reducible rfl
                        rotate_left
                        · simp only [Act.put, List.setIfInBounds_toArray, List.set_cons_zero, List.set_cons_succ, i64_w, i32_w]
                          rfl
                        refine take_ (i := 7) (N := some 48) (v := ?_) (a' := ?_) #[true, true, true, true, true, true, true, true, false, false, false, false, false, false, false, false, false, false, false, false, false, false, false, false, false, false, false, false, false, false, false, false, false] rfl rfl (take_ofW HT_.out HW_.out (by kernel_rfl)) (fun _ _ _ h => h) (Or.inl ⟨by rfl, ?_⟩) hHeld ?_ ?_
                        rotate_left
                        · rintro w' ⟨s0, s1, s2, s3, s4⟩
                          go_simp
                          with_reducible rfl
                        rotate_left
                        · simp only [Act.put, List.setIfInBounds_toArray, List.set_cons_zero, List.set_cons_succ, i64_w, i32_w]
                          rfl
                        refine pure_ (i := 8) (N := some 49) (v := ?_) (a' := ?_) #[true, true, true, true, true, true, true, true, true, false, false, false, false, false, false, false, false, false, false, false, false, false, false, false, false, false, false, false, false, false, false, false, false] rfl rfl (any_of HT_.out (by kernel_rfl)) (fun _ _ _ h => h) (Or.inl ⟨by rfl, ?_⟩) ?_ ?_
                        rotate_left
                        · intro w'
                          go_simp
                          with_reducible rfl
                        rotate_left
                        · simp only [Act.put, List.setIfInBounds_toArray, List.set_cons_zero, List.set_cons_succ, i64_w, i32_w]
                          rfl
                        refine pure_ (i := 9) (N := some 50) (v := ?_) (a' := ?_) #[true, true, true, true, true, true, true, true, true, true, false, false, false, false, false, false, false, false, false, false, false, false, false, false, false, false, false, false, false, false, false, false, false] rfl rfl (any_of HT_.out (by kernel_rfl)) (fun _ _ _ h => h) (Or.inl ⟨by rfl, ?_⟩) ?_ ?_
                        rotate_left
                        · intro w'
                          go_simp
                          with_reducible rfl
                        rotate_left
                        · simp only [Act.put, List.setIfInBounds_toArray, List.set_cons_zero, List.set_cons_succ, i64_w, i32_w]
                          rfl
                        refine pure_ (i := 10) (N := some 51) (v := ?_) (a' := ?_) #[true, true, true, true, true, true, true, true, true, true, true, false, false, false, false, false, false, false, false, false, false, false, false, false, false, false, false, false, false, false, false, false, false] rfl rfl (any_of HT_.out (by kernel_rfl)) (fun _ _ _ h => h) (Or.inl ⟨by rfl, ?_⟩) ?_ ?_
                        rotate_left
                        · intro w'
                          go_simp
                          with_reducible rfl
                        rotate_left
                        · simp only [Act.put, List.setIfInBounds_toArray, List.set_cons_zero, List.set_cons_succ, i64_w, i32_w]
                          rfl
                        refine pure_ (i := 11) (N := some 52) (v := ?_) (a' := ?_) #[true, true, true, true, true, true, true, true, true, true, true, true, false, false, false, false, false, false, false, false, false, false, false, false, false, false, false, false, false, false, false, false, false] rfl rfl (any_of HT_.out (by kernel_rfl)) (fun _ _ _ h => h) (Or.inl ⟨by rfl, ?_⟩) ?_ ?_
                        rotate_left
                        · intro w'
                          go_simp
                          with_reducible rfl
                        rotate_left
                        · simp only [Act.put, List.setIfInBounds_toArray, List.set_cons_zero, List.set_cons_succ, i64_w, i32_w]
                          rfl
                        refine pure_ (i := 12) (N := some 53) (v := ?_) (a' := ?_) #[true, true, true, true, true, true, true, true, true, true, true, true, true, false, false, false, false, false, false, false, false, false, false, false, false, false, false, false, false, false, false, false, false] rfl rfl (any_of HT_.out (by kernel_rfl)) (fun _ _ _ h => h) (Or.inl ⟨by rfl, ?_⟩) ?_ ?_
                        rotate_left
                        · intro w'
                          go_simp
                          with_reducible rfl
                        rotate_left
                        · simp only [Act.put, List.setIfInBounds_toArray, List.set_cons_zero, List.set_cons_succ, i64_w, i32_w]
                          rfl
                        refine pure_ (i := 13) (N := some 54) (v := ?_) (a' := ?_) #[true, true, true, true, true, true, true, true, true, true, true, true, true, true, false, false, false, false, false, false, false, false, false, false, false, false, false, false, false, false, false, false, false] rfl rfl (any_of HT_.out (by kernel_rfl)) (fun _ _ _ h => h) (Or.inl ⟨by rfl, ?_⟩) ?_ ?_
                        rotate_left
                        · intro w'
                          go_simp
                          with_reducible rfl
                        rotate_left
                        · simp only [Act.put, List.setIfInBounds_toArray, List.set_cons_zero, List.set_cons_succ, i64_w, i32_w]
                          rfl
                        refine pure_ (i := 14) (N := some 55) (v := ?_) (a' := ?_) #[true, true, true, true, true, true, true, true, true, true, true, true, true, true, true, false, false, false, false, false, false, false, false, false, false, false, false, false, false, false, false, false, false] rfl rfl (any_of HT_.out (by kernel_rfl)) (fun _ _ _ h => h) (Or.inl ⟨by rfl, ?_⟩) ?_ ?_
                        rotate_left
                        · intro w'
                          go_simp
                          with_reducible rfl
                        rotate_left
                        · simp only [Act.put, List.setIfInBounds_toArray, List.set_cons_zero, List.set_cons_succ, i64_w, i32_w]
                          rfl
                        refine pure_ (i := 15) (N := some 56) (v := ?_) (a' := ?_) #[true, true, true, true, true, true, true, true, true, true, true, true, true, true, true, true, false, false, false, false, false, false, false, false, false, false, false, false, false, false, false, false, false] rfl rfl (any_of HT_.out (by kernel_rfl)) (fun _ _ _ h => h) (Or.inl ⟨by rfl, ?_⟩) ?_ ?_
                        rotate_left
                        · intro w'
                          go_simp
                          with_reducible rfl
                        rotate_left
                        · simp only [Act.put, List.setIfInBounds_toArray, List.set_cons_zero, List.set_cons_succ, i64_w, i32_w]
                          rfl
                        refine pure_ (i := 16) (N := some 57) (v := ?_) (a' := ?_) #[true, true, true, true, true, true, true, true, true, true, true, true, true, true, true, true, true, false, false, false, false, false, false, false, false, false, false, false, false, false, false, false, false] rfl rfl (any_of HT_.out (by kernel_rfl)) (fun _ _ _ h => h) (Or.inl ⟨by rfl, ?_⟩) ?_ ?_
                        rotate_left
                        · intro w'
                          go_simp
                          with_reducible rfl
                        rotate_left
                        · simp only [Act.put, List.setIfInBounds_toArray, List.set_cons_zero, List.set_cons_succ, i64_w, i32_w]
                          rfl
                        refine take_ (i := 17) (N := some 58) (v := ?_) (a' := ?_) #[true, true, true, true, true, true, true, true, true, true, true, true, true, true, true, true, true, true, false, false, false, false, false, false, false, false, false, false, false, false, false, false, false] rfl rfl (take_ofW HT_.out HW_.out (by kernel_rfl)) (fun _ _ _ h => h) (Or.inl ⟨by rfl, ?_⟩) hHeld ?_ ?_
                        rotate_left
                        · rintro w' ⟨s0, s1, s2, s3, s4⟩
                          go_simp
                          with_reducible rfl
                        rotate_left
                        · simp only [Act.put, List.setIfInBounds_toArray, List.set_cons_zero, List.set_cons_succ, i64_w, i32_w]
                          rfl
                        refine pure_ (i := 18) (N := some 59) (v := ?_) (a' := ?_) #[true, true, true, true, true, true, true, true, true, true, true, true, true, true, true, true, true, true, true, false, false, false, false, false, false, false, false, false, false, false, false, false, false] rfl rfl (any_of HT_.out (by kernel_rfl)) (fun _ _ _ h => h) (Or.inl ⟨by rfl, ?_⟩) ?_ ?_
                        rotate_left
                        · intro w'
                          go_simp
                          with_reducible rfl
                        rotate_left
                        · simp only [Act.put, List.setIfInBounds_toArray, List.set_cons_zero, List.set_cons_succ, i64_w, i32_w]
                          rfl
                        refine pure_ (i := 19) (N := some 60) (v := ?_) (a' := ?_) #[true, true, true, true, true, true, true, true, true, true, true, true, true, true, true, true, true, true, true, true, false, false, false, false, false, false, false, false, false, false, false, false, false] rfl rfl (any_of HT_.out (by kernel_rfl)) (fun _ _ _ h => h) (Or.inl ⟨by rfl, ?_⟩) ?_ ?_
                        rotate_left
                        · intro w'
                          go_simp
                          with_reducible rfl
                        rotate_left
                        · simp only [Act.put, List.setIfInBounds_toArray, List.set_cons_zero, List.set_cons_succ, i64_w, i32_w]
                          rfl
                        refine pure_ (i := 20) (N := some 61) (v := ?_) (a' := ?_) #[true, true, true, true, true, true, true, true, true, true, true, true, true, true, true, true, true, true, true, true, true, false, false, false, false, false, false, false, false, false, false, false, false] rfl rfl (any_of HT_.out (by kernel_rfl)) (fun _ _ _ h => h) (Or.inl ⟨by rfl, ?_⟩) ?_ ?_
                        rotate_left
                        · intro w'
                          go_simp
                          with_reducible rfl
                        rotate_left
                        · simp only [Act.put, List.setIfInBounds_toArray, List.set_cons_zero, List.set_cons_succ, i64_w, i32_w]
                          rfl
                        refine take_ (i := 21) (N := some 62) (v := ?_) (a' := ?_) #[true, true, true, true, true, true, true, true, true, true, true, true, true, true, true, true, true, true, true, true, true, true, false, false, false, false, false, false, false, false, false, false, false] rfl rfl (take_ofW HT_.out HW_.out (by kernel_rfl)) (fun _ _ _ h => h) (Or.inl ⟨by rfl, ?_⟩) hHeld ?_ ?_
                        rotate_left
                        · rintro w' ⟨s0, s1, s2, s3, s4⟩
                          go_simp
                          with_reducible rfl
                        rotate_left
                        · simp only [Act.put, List.setIfInBounds_toArray, List.set_cons_zero, List.set_cons_succ, i64_w, i32_w]
                          rfl
                        refine take_ (i := 22) (N := some 63) (v := ?_) (a' := ?_) #[true, true, true, true, true, true, true, true, true, true, true, true, true, true, true, true, true, true, true, true, true, true, true, false, false, false, false, false, false, false, false, false, false] rfl rfl (take_ofW HT_.out HW_.out (by kernel_rfl)) (fun _ _ _ h => h) (Or.inl ⟨by rfl, ?_⟩) hHeld ?_ ?_
                        rotate_left
                        · rintro w' ⟨s0, s1, s2, s3, s4⟩
                          go_simp
                          with_reducible rfl
                        rotate_left
                        · simp only [Act.put, List.setIfInBounds_toArray, List.set_cons_zero, List.set_cons_succ, i64_w, i32_w]
                          rfl
                        refine pure_ (i := 23) (N := some 64) (v := ?_) (a' := ?_) #[true, true, true, true, true, true, true, true, true, true, true, true, true, true, true, true, true, true, true, true, true, true, true, true, false, false, false, false, false, false, false, false, false] rfl rfl (any_of HT_.out (by kernel_rfl)) (fun _ _ _ h => h) (Or.inl ⟨by rfl, ?_⟩) ?_ ?_
                        rotate_left
                        · intro w'
                          go_simp
                          with_reducible rfl
                        rotate_left
                        · simp only [Act.put, List.setIfInBounds_toArray, List.set_cons_zero, List.set_cons_succ, i64_w, i32_w]
                          rfl
                        refine pure_ (i := 24) (N := some 65) (v := ?_) (a' := ?_) #[true, true, true, true, true, true, true, true, true, true, true, true, true, true, true, true, true, true, true, true, true, true, true, true, true, false, false, false, false, false, false, false, false] rfl rfl (any_of HT_.out (by kernel_rfl)) (fun _ _ _ h => h) (Or.inl ⟨by rfl, ?_⟩) ?_ ?_
                        rotate_left
                        · intro w'
                          go_simp
                          with_reducible rfl
                        rotate_left
                        · simp only [Act.put, List.setIfInBounds_toArray, List.set_cons_zero, List.set_cons_succ, i64_w, i32_w]
                          rfl
                        refine pure_ (i := 25) (N := some 66) (v := ?_) (a' := ?_) #[true, true, true, true, true, true, true, true, true, true, true, true, true, true, true, true, true, true, true, true, true, true, true, true, true, true, false, false, false, false, false, false, false] rfl rfl (any_of HT_.out (by kernel_rfl)) (fun _ _ _ h => h) (Or.inl ⟨by rfl, ?_⟩) ?_ ?_
                        rotate_left
                        · intro w'
                          go_simp
                          with_reducible rfl
                        rotate_left
                        · simp only [Act.put, List.setIfInBounds_toArray, List.set_cons_zero, List.set_cons_succ, i64_w, i32_w]
                          rfl
                        refine take_ (i := 26) (N := some 67) (v := ?_) (a' := ?_) #[true, true, true, true, true, true, true, true, true, true, true, true, true, true, true, true, true, true, true, true, true, true, true, true, true, true, true, false, false, false, false, false, false] rfl rfl (take_ofW HT_.out HW_.out (by kernel_rfl)) (fun _ _ _ h => h) (Or.inl ⟨by rfl, ?_⟩) hHeld ?_ ?_
                        rotate_left
                        · rintro w' ⟨s0, s1, s2, s3, s4⟩
                          go_simp
                          with_reducible rfl
                        rotate_left
                        · simp only [Act.put, List.setIfInBounds_toArray, List.set_cons_zero, List.set_cons_succ, i64_w, i32_w]
                          rfl
                        refine pure_ (i := 27) (N := some 68) (v := ?_) (a' := ?_) #[true, true, true, true, true, true, true, true, true, true, true, true, true, true, true, true, true, true, true, true, true, true, true, true, true, true, true, true, false, false, false, false, false] rfl rfl (any_of HT_.out (by kernel_rfl)) (fun _ _ _ h => h) (Or.inl ⟨by rfl, ?_⟩) ?_ ?_
                        rotate_left
                        · intro w'
                          go_simp
                          with_reducible rfl
                        rotate_left
                        · simp only [Act.put, List.setIfInBounds_toArray, List.set_cons_zero, List.set_cons_succ, i64_w, i32_w]
                          rfl
                        refine pure_ (i := 28) (N := some 69) (v := ?_) (a' := ?_) #[true, true, true, true, true, true, true, true, true, true, true, true, true, true, true, true, true, true, true, true, true, true, true, true, true, true, true, true, true, false, false, false, false] rfl rfl (any_of HT_.out (by kernel_rfl)) (fun _ _ _ h => h) (Or.inl ⟨by rfl, ?_⟩) ?_ ?_
                        rotate_left
                        · intro w'
                          go_simp
                          with_reducible rfl
                        rotate_left
                        · simp only [Act.put, List.setIfInBounds_toArray, List.set_cons_zero, List.set_cons_succ, i64_w, i32_w]
                          rfl
                        refine pure_ (i := 29) (N := some 70) (v := ?_) (a' := ?_) #[true, true, true, true, true, true, true, true, true, true, true, true, true, true, true, true, true, true, true, true, true, true, true, true, true, true, true, true, true, true, false, false, false] rfl rfl (any_of HT_.out (by kernel_rfl)) (fun _ _ _ h => h) (Or.inl ⟨by rfl, ?_⟩) ?_ ?_
                        rotate_left
                        · intro w'
                          go_simp
                          with_reducible rfl
                        rotate_left
                        · simp only [Act.put, List.setIfInBounds_toArray, List.set_cons_zero, List.set_cons_succ, i64_w, i32_w]
                          rfl
                        refine pure_ (i := 30) (N := some 71) (v := ?_) (a' := ?_) #[true, true, true, true, true, true, true, true, true, true, true, true, true, true, true, true, true, true, true, true, true, true, true, true, true, true, true, true, true, true, true, false, false] rfl rfl (any_of HT_.out (by kernel_rfl)) (fun _ _ _ h => h) (Or.inl ⟨by rfl, ?_⟩) ?_ ?_
                        rotate_left
                        · intro w'
                          go_simp
                          with_reducible rfl
                        rotate_left
                        · simp only [Act.put, List.setIfInBounds_toArray, List.set_cons_zero, List.set_cons_succ, i64_w, i32_w]
                          rfl
                        refine pure_ (i := 31) (N := some 72) (v := ?_) (a' := ?_) #[true, true, true, true, true, true, true, true, true, true, true, true, true, true, true, true, true, true, true, true, true, true, true, true, true, true, true, true, true, true, true, true, false] rfl rfl (any_of HT_.out (by kernel_rfl)) (fun _ _ _ h => h) (Or.inl ⟨by rfl, ?_⟩) ?_ ?_
                        rotate_left
                        · intro w'
                          go_simp
                          with_reducible rfl
                        rotate_left
                        · simp only [Act.put, List.setIfInBounds_toArray, List.set_cons_zero, List.set_cons_succ, i64_w, i32_w]
                          rfl
                        refine pure_ (i := 32) (N := some 12) (v := ?_) (a' := ?_) #[true, true, true, true, true, true, true, true, true, true, true, true, true, true, true, true, true, true, true, true, true, true, true, true, true, true, true, true, true, true, true, true, true] rfl rfl (any_of HT_.out (by kernel_rfl)) (fun _ _ _ h => h) (Or.inl ⟨by rfl, ?_⟩) ?_ ?_
                        rotate_left
                        · intro w'
                          go_simp
                          with_reducible rfl
                        rotate_left
                        · simp only [Act.put, List.setIfInBounds_toArray, List.set_cons_zero, List.set_cons_succ, i64_w, i32_w]
                          rfl
                        refine done_ (done_of HT_.out (by kernel_rfl)) ?_
                        try go_wp2
                        go_meet
                        case rel => exact ⟨by rw [HT4.out], ⟨by rw [← hwd]; exact HW.out.drew⟩⟩
                    · have HT3 := Aside0.mk (mp_f3 M1'.out M2'.out M3'.out (by omega) C1.out)
                      have g3 : decide (3 ≤ (m1 : Int)) = false := decide_eq_false (by have := M1'.out; omega)
                      show Code.wp _ _ _ _ _
                      refine start_ (n := 33) (S := fun w' => w'.cell? ⟨g6, 0, none⟩ = some (.slice (some ⟨go, 0, none⟩) st.length c6) ∧ w'.cell? ⟨go, m1, none⟩ = some (.int .i64 (rd st (m1 : Int))) ∧ w'.cell? ⟨go, m2, none⟩ = some (.int .i64 (rd st (m2 : Int))) ∧ w'.cell? ⟨go, m3, none⟩ = some (.int .i64 (rd st (m3 : Int)))) (ds := []) #[false, false, false, false, false, false, false, false, false, false, false, false, false, false, false, false, false, false, false, false, false, false, false, false, false, false, false, false, false, false, false, false, false] (by kernel_rfl) rfl rfl (HC3.out HW.out.drew) (fun hHeld => ?_); refine with_tabW MM16_tab MM16_bits (fun HT_ HW_ => ?_)
                      generalize hwd : wc.drew = wd at hHeld ⊢
                      refine pure_ (i := 0) (N := some 41) (v := ?_) (a' := ?_) #[true, false, false, false, false, false, false, false, false, false, false, false, false, false, false, false, false, false, false, false, false, false, false, false, false, false, false, false, false, false, false, false, false] rfl rfl (any_of HT_.out (by kernel_rfl)) (fun _ _ _ h => h) (Or.inl ⟨by rfl, ?_⟩) ?_ ?_
                      rotate_left
                      · intro w'
                        go_simp
                        with_reducible rfl
                      rotate_left
                      · simp only [Act.put, List.setIfInBounds_toArray, List.set_cons_zero, List.set_cons_succ, i64_w, i32_w]
                        rfl
                      refine pure_ (i := 1) (N := some 42) (v := ?_) (a' := ?_) #[true, true, false, false, false, false, false, false, false, false, false, false, false, false, false, false, false, false, false, false, false, false, false, false, false, false, false, false, false, false, false, false, false] rfl rfl (any_of HT_.out (by kernel_rfl)) (fun _ _ _ h => h) (Or.inl ⟨by rfl, ?_⟩) ?_ ?_
                      rotate_left
                      · intro w'
                        go_simp
                        with_reducible rfl
                      rotate_left
                      · simp only [Act.put, List.setIfInBounds_toArray, List.set_cons_zero, List.set_cons_succ, i64_w, i32_w]
                        rfl
                      refine pure_ (i := 2) (N := some 43) (v := ?_) (a' := ?_) #[true, true, true, false, false, false, false, false, false, false, false, false, false, false, false, false, false, false, false, false, false, false, false, false, false, false, false, false, false, false, false, false, false] rfl rfl (any_of HT_.out (by kernel_rfl)) (fun _ _ _ h => h) (Or.inl ⟨by rfl, ?_⟩) ?_ ?_
                      rotate_left
                      · intro w'
                        go_simp
                        with_reducible rfl
                      rotate_left
                      · simp only [Act.put, List.setIfInBounds_toArray, List.set_cons_zero, List.set_cons_succ, i64_w, i32_w]
                        rfl
                      refine take_ (i := 3) (N := some 44) (v := ?_) (a' := ?_) #[true, true, true, true, false, false, false, false, false, false, false, false, false, false, false, false, false, false, false, false, false, false, false, false, false, false, false, false, false, false, false, false, false] rfl rfl (take_ofW HT_.out HW_.out (by kernel_rfl)) (fun _ _ _ h => h) (Or.inl ⟨by rfl, ?_⟩) hHeld ?_ ?_
                      rotate_left
                      · rintro w' ⟨s0, s1, s2, s3⟩
                        go_simp
                        with_reducible rfl
                      rotate_left
                      · simp only [Act.put, List.setIfInBounds_toArray, List.set_cons_zero, List.set_cons_succ, i64_w, i32_w]
                        rfl
                      refine pure_ (i := 4) (N := some 45) (v := ?_) (a' := ?_) #[true, true, true, true, true, false, false, false, false, false, false, false, false, false, false, false, false, false, false, false, false, false, false, false, false, false, false, false, false, false, false, false, false] rfl rfl (any_of HT_.out (by kernel_rfl)) (fun _ _ _ h => h) (Or.inl ⟨by rfl, ?_⟩) ?_ ?_
                      rotate_left
                      · intro w'
                        go_simp
                        with_reducible rfl
                      rotate_left
                      · simp only [Act.put, List.setIfInBounds_toArray, List.set_cons_zero, List.set_cons_succ, i64_w, i32_w]
                        rfl
                      refine pure_ (i := 5) (N := some 46) (v := ?_) (a' := ?_) #[true, true, true, true, true, true, false, false, false, false, false, false, false, false, false, false, false, false, false, false, false, false, false, false, false, false, false, false, false, false, false, false, false] rfl rfl (any_of HT_.out (by kernel_rfl)) (fun _ _ _ h => h) (Or.inl ⟨by rfl, ?_⟩) ?_ ?_
                      rotate_left
                      · intro w'
                        go_simp
                        with_reducible rfl
                      rotate_left
                      · simp only [Act.put, List.setIfInBounds_toArray, List.set_cons_zero, List.set_cons_succ, i64_w, i32_w]
                        rfl
                      refine pure_ (i := 6) (N := some 47) (v := ?_) (a' := ?_) #[true, true, true, true, true, true, true, false, false, false, false, false, false, false, false, false, false, false, false, false, false, false, false, false, false, false, false, false, false, false, false, false, false] rfl rfl (any_of HT_.out (by kernel_rfl)) (fun _ _ _ h => h) (Or.inl ⟨by rfl, ?_⟩) ?_ ?_
                      rotate_left
                      · intro w'
                        go_simp
                        with_reducible rfl
                      rotate_left
                      · simp only [Act.put, List.setIfInBounds_toArray, List.set_cons_zero, List.set_cons_succ, i64_w, i32_w]
                        rfl
                      refine take_ (i := 7) (N := some 48) (v := ?_) (a' := ?_) #[true, true, true, true, true, true, true, true, false, false, false, false, false, false, false, false, false, false, false, false, false, false, false, false, false, false, false, false, false, false, false, false, false] rfl rfl (take_ofW HT_.out HW_.out (by kernel_rfl)) (fun _ _ _ h => h) (Or.inl ⟨by rfl, ?_⟩) hHeld ?_ ?_
                      rotate_left
                      · rintro w' ⟨s0, s1, s2, s3⟩
                        go_simp
                        with_reducible rfl
                      rotate_left
                      · simp only [Act.put, List.setIfInBounds_toArray, List.set_cons_zero, List.set_cons_succ, i64_w, i32_w]
                        rfl
                      refine pure_ (i := 8) (N := some 49) (v := ?_) (a' := ?_) #[true, true, true, true, true, true, true, true, true, false, false, false, false, false, false, false, false, false, false, false, false, false, false, false, false, false, false, false, false, false, false, false, false] rfl rfl (any_of HT_.out (by kernel_rfl)) (fun _ _ _ h => h) (Or.inl ⟨by rfl, ?_⟩) ?_ ?_
                      rotate_left
                      · intro w'
                        go_simp
                        with_reducible rfl
                      rotate_left
                      · simp only [Act.put, List.setIfInBounds_toArray, List.set_cons_zero, List.set_cons_succ, i64_w, i32_w]
                        rfl
                      refine pure_ (i := 9) (N := some 50) (v := ?_) (a' := ?_) #[true, true, true, true, true, true, true, true, true, true, false, false, false, false, false, false, false, false, false, false, false, false, false, false, false, false, false, false, false, false, false, false, false] rfl rfl (any_of HT_.out (by kernel_rfl)) (fun _ _ _ h => h) (Or.inl ⟨by rfl, ?_⟩) ?_ ?_
                      rotate_left
                      · intro w'
                        go_simp
                        with_reducible rfl
                      rotate_left
                      · simp only [Act.put, List.setIfInBounds_toArray, List.set_cons_zero, List.set_cons_succ, i64_w, i32_w]
                        rfl
                      refine pure_ (i := 10) (N := some 51) (v := ?_) (a' := ?_) #[true, true, true, true, true, true, true, true, true, true, true, false, false, false, false, false, false, false, false, false, false, false, false, false, false, false, false, false, false, false, false, false, false] rfl rfl (any_of HT_.out (by kernel_rfl)) (fun _ _ _ h => h) (Or.inl ⟨by rfl, ?_⟩) ?_ ?_
                      rotate_left
                      · intro w'
                        go_simp
                        with_reducible rfl
                      rotate_left
                      · simp only [Act.put, List.setIfInBounds_toArray, List.set_cons_zero, List.set_cons_succ, i64_w, i32_w]
                        rfl
                      refine pure_ (i := 11) (N := some 52) (v := ?_) (a' := ?_) #[true, true, true, true, true, true, true, true, true, true, true, true, false, false, false, false, false, false, false, false, false, false, false, false, false, false, false, false, false, false, false, false, false] rfl rfl (any_of HT_.out (by kernel_rfl)) (fun _ _ _ h => h) (Or.inl ⟨by rfl, ?_⟩) ?_ ?_
                      rotate_left
                      · intro w'
                        go_simp
                        with_reducible rfl
                      rotate_left
                      · simp only [Act.put, List.setIfInBounds_toArray, List.set_cons_zero, List.set_cons_succ, i64_w, i32_w]
                        rfl
                      refine pure_ (i := 12) (N := some 53) (v := ?_) (a' := ?_) #[true, true, true, true, true, true, true, true, true, true, true, true, true, false, false, false, false, false, false, false, false, false, false, false, false, false, false, false, false, false, false, false, false] rfl rfl (any_of HT_.out (by kernel_rfl)) (fun _ _ _ h => h) (Or.inl ⟨by rfl, ?_⟩) ?_ ?_
                      rotate_left
                      · intro w'
                        go_simp
                        with_reducible rfl
                      rotate_left
                      · simp only [Act.put, List.setIfInBounds_toArray, List.set_cons_zero, List.set_cons_succ, i64_w, i32_w]
                        rfl
                      refine pure_ (i := 13) (N := some 54) (v := ?_) (a' := ?_) #[true, true, true, true, true, true, true, true, true, true, true, true, true, true, false, false, false, false, false, false, false, false, false, false, false, false, false, false, false, false, false, false, false] rfl rfl (any_of HT_.out (by kernel_rfl)) (fun _ _ _ h => h) (Or.inl ⟨by rfl, ?_⟩) ?_ ?_
                      rotate_left
                      · intro w'
                        go_simp
                        with_reducible rfl
                      rotate_left
                      · simp only [Act.put, List.setIfInBounds_toArray, List.set_cons_zero, List.set_cons_succ, i64_w, i32_w]
                        rfl
                      refine pure_ (i := 14) (N := some 55) (v := ?_) (a' := ?_) #[true, true, true, true, true, true, true, true, true, true, true, true, true, true, true, false, false, false, false, false, false, false, false, false, false, false, false, false, false, false, false, false, false] rfl rfl (any_of HT_.out (by kernel_rfl)) (fun _ _ _ h => h) (Or.inl ⟨by rfl, ?_⟩) ?_ ?_
                      rotate_left
                      · intro w'
                        go_simp
                        with_reducible rfl
                      rotate_left
                      · simp only [Act.put, List.setIfInBounds_toArray, List.set_cons_zero, List.set_cons_succ, i64_w, i32_w]
                        rfl
                      refine pure_ (i := 15) (N := some 56) (v := ?_) (a' := ?_) #[true, true, true, true, true, true, true, true, true, true, true, true, true, true, true, true, false, false, false, false, false, false, false, false, false, false, false, false, false, false, false, false, false] rfl rfl (any_of HT_.out (by kernel_rfl)) (fun _ _ _ h => h) (Or.inl ⟨by rfl, ?_⟩) ?_ ?_
                      rotate_left
                      · intro w'
                        go_simp
                        with_reducible rfl
                      rotate_left
                      · simp only [Act.put, List.setIfInBounds_toArray, List.set_cons_zero, List.set_cons_succ, i64_w, i32_w]
                        rfl
                      refine pure_ (i := 16) (N := some 57) (v := ?_) (a' := ?_) #[true, true, true, true, true, true, true, true, true, true, true, true, true, true, true, true, true, false, false, false, false, false, false, false, false, false, false, false, false, false, false, false, false] rfl rfl (any_of HT_.out (by kernel_rfl)) (fun _ _ _ h => h) (Or.inl ⟨by rfl, ?_⟩) ?_ ?_
                      rotate_left
                      · intro w'
                        go_simp
                        with_reducible rfl
                      rotate_left
                      · simp only [Act.put, List.setIfInBounds_toArray, List.set_cons_zero, List.set_cons_succ, i64_w, i32_w]
                        rfl
                      refine pure_ (i := 17) (N := some 58) (v := undef) (a' := ?_) #[true, true, true, true, true, true, true, true, true, true, true, true, true, true, true, true, true, true, false, false, false, false, false, false, false, false, false, false, false, false, false, false, false] rfl rfl (any_of HT_.out (by kernel_rfl)) (fun _ _ _ h => h) (Or.inr ⟨by rfl, rfl⟩) ?_ ?_
                      rotate_left
                      · simp only [Act.put, List.setIfInBounds_toArray, List.set_cons_zero, List.set_cons_succ]
                        rfl
                      refine pure_ (i := 18) (N := some 59) (v := undef) (a' := ?_) #[true, true, true, true, true, true, true, true, true, true, true, true, true, true, true, true, true, true, true, false, false, false, false, false, false, false, false, false, false, false, false, false, false] rfl rfl (any_of HT_.out (by kernel_rfl)) (fun _ _ _ h => h) (Or.inr ⟨by rfl, rfl⟩) ?_ ?_
                      rotate_left
                      · simp only [Act.put, List.setIfInBounds_toArray, List.set_cons_zero, List.set_cons_succ]
                        rfl
                      refine pure_ (i := 19) (N := some 60) (v := undef) (a' := ?_) #[true, true, true, true, true, true, true, true, true, true, true, true, true, true, true, true, true, true, true, true, false, false, false, false, false, false, false, false, false, false, false, false, false] rfl rfl (any_of HT_.out (by kernel_rfl)) (fun _ _ _ h => h) (Or.inr ⟨by rfl, rfl⟩) ?_ ?_
                      rotate_left
                      · simp only [Act.put, List.setIfInBounds_toArray, List.set_cons_zero, List.set_cons_succ]
                        rfl
                      refine pure_ (i := 20) (N := some 61) (v := undef) (a' := ?_) #[true, true, true, true, true, true, true, true, true, true, true, true, true, true, true, true, true, true, true, true, true, false, false, false, false, false, false, false, false, false, false, false, false] rfl rfl (any_of HT_.out (by kernel_rfl)) (fun _ _ _ h => h) (Or.inr ⟨by rfl, rfl⟩) ?_ ?_
                      rotate_left
                      · simp only [Act.put, List.setIfInBounds_toArray, List.set_cons_zero, List.set_cons_succ]
                        rfl
                      refine pure_ (i := 21) (N := some 62) (v := undef) (a' := ?_) #[true, true, true, true, true, true, true, true, true, true, true, true, true, true, true, true, true, true, true, true, true, true, false, false, false, false, false, false, false, false, false, false, false] rfl rfl (any_of HT_.out (by kernel_rfl)) (fun _ _ _ h => h) (Or.inr ⟨by rfl, rfl⟩) ?_ ?_
                      rotate_left
                      · simp only [Act.put, List.setIfInBounds_toArray, List.set_cons_zero, List.set_cons_succ]
                        rfl
                      refine pure_ (i := 22) (N := some 63) (v := undef) (a' := ?_) #[true, true, true, true, true, true, true, true, true, true, true, true, true, true, true, true, true, true, true, true, true, true, true, false, false, false, false, false, false, false, false, false, false] rfl rfl (any_of HT_.out (by kernel_rfl)) (fun _ _ _ h => h) (Or.inr ⟨by rfl, rfl⟩) ?_ ?_
                      rotate_left
                      · simp only [Act.put, List.setIfInBounds_toArray, List.set_cons_zero, List.set_cons_succ]
                        rfl
                      refine pure_ (i := 23) (N := some 64) (v := undef) (a' := ?_) #[true, true, true, true, true, true, true, true, true, true, true, true, true, true, true, true, true, true, true, true, true, true, true, true, false, false, false, false, false, false, false, false, false] rfl rfl (any_of HT_.out (by kernel_rfl)) (fun _ _ _ h => h) (Or.inr ⟨by rfl, rfl⟩) ?_ ?_
                      rotate_left
                      · simp only [Act.put, List.setIfInBounds_toArray, List.set_cons_zero, List.set_cons_succ]
                        rfl
                      refine pure_ (i := 24) (N := some 65) (v := undef) (a' := ?_) #[true, true, true, true, true, true, true, true, true, true, true, true, true, true, true, true, true, true, true, true, true, true, true, true, true, false, false, false, false, false, false, false, false] rfl rfl (any_of HT_.out (by kernel_rfl)) (fun _ _ _ h => h) (Or.inr ⟨by rfl, rfl⟩) ?_ ?_
                      rotate_left
                      · simp only [Act.put, List.setIfInBounds_toArray, List.set_cons_zero, List.set_cons_succ]
                        rfl
                      refine pure_ (i := 25) (N := some 66) (v := undef) (a' := ?_) #[true, true, true, true, true, true, true, true, true, true, true, true, true, true, true, true, true, true, true, true, true, true, true, true, true, true, false, false, false, false, false, false, false] rfl rfl (any_of HT_.out (by kernel_rfl)) (fun _ _ _ h => h) (Or.inr ⟨by rfl, rfl⟩) ?_ ?_
                      rotate_left
                      · simp only [Act.put, List.setIfInBounds_toArray, List.set_cons_zero, List.set_cons_succ]
                        rfl
                      refine pure_ (i := 26) (N := some 67) (v := undef) (a' := ?_) #[true, true, true, true, true, true, true, true, true, true, true, true, true, true, true, true, true, true, true, true, true, true, true, true, true, true, true, false, false, false, false, false, false] rfl rfl (any_of HT_.out (by kernel_rfl)) (fun _ _ _ h => h) (Or.inr ⟨by rfl, rfl⟩) ?_ ?_
                      rotate_left
                      · simp only [Act.put, List.setIfInBounds_toArray, List.set_cons_zero, List.set_cons_succ]
                        rfl
                      refine pure_ (i := 27) (N := some 68) (v := undef) (a' := ?_) #[true, true, true, true, true, true, true, true, true, true, true, true, true, true, true, true, true, true, true, true, true, true, true, true, true, true, true, true, false, false, false, false, false] rfl rfl (any_of HT_.out (by kernel_rfl)) (fun _ _ _ h => h) (Or.inr ⟨by rfl, rfl⟩) ?_ ?_
                      rotate_left
                      · simp only [Act.put, List.setIfInBounds_toArray, List.set_cons_zero, List.set_cons_succ]
                        rfl
                      refine pure_ (i := 28) (N := some 69) (v := undef) (a' := ?_) #[true, true, true, true, true, true, true, true, true, true, true, true, true, true, true, true, true, true, true, true, true, true, true, true, true, true, true, true, true, false, false, false, false] rfl rfl (any_of HT_.out (by kernel_rfl)) (fun _ _ _ h => h) (Or.inr ⟨by rfl, rfl⟩) ?_ ?_
                      rotate_left
                      · simp only [Act.put, List.setIfInBounds_toArray, List.set_cons_zero, List.set_cons_succ]
                        rfl
                      refine pure_ (i := 29) (N := some 70) (v := undef) (a' := ?_) #[true, true, true, true, true, true, true, true, true, true, true, true, true, true, true, true, true, true, true, true, true, true, true, true, true, true, true, true, true, true, false, false, false] rfl rfl (any_of HT_.out (by kernel_rfl)) (fun _ _ _ h => h) (Or.inr ⟨by rfl, rfl⟩) ?_ ?_
                      rotate_left
                      · simp only [Act.put, List.setIfInBounds_toArray, List.set_cons_zero, List.set_cons_succ]
                        rfl
                      refine pure_ (i := 30) (N := some 71) (v := ?_) (a' := ?_) #[true, true, true, true, true, true, true, true, true, true, true, true, true, true, true, true, true, true, true, true, true, true, true, true, true, true, true, true, true, true, true, false, false] rfl rfl (any_of HT_.out (by kernel_rfl)) (fun _ _ _ h => h) (Or.inl ⟨by rfl, ?_⟩) ?_ ?_
                      rotate_left
                      · intro w'
                        go_simp
                        with_reducible rfl
                      rotate_left
                      · simp only [Act.put, List.setIfInBounds_toArray, List.set_cons_zero, List.set_cons_succ, i64_w, i32_w]
                        rfl
                      refine pure_ (i := 31) (N := some 72) (v := ?_) (a' := ?_) #[true, true, true, true, true, true, true, true, true, true, true, true, true, true, true, true, true, true, true, true, true, true, true, true, true, true, true, true, true, true, true, true, false] rfl rfl (any_of HT_.out (by kernel_rfl)) (fun _ _ _ h => h) (Or.inl ⟨by rfl, ?_⟩) ?_ ?_
                      rotate_left
                      · intro w'
                        go_simp
                        with_reducible rfl
                      rotate_left
                      · simp only [Act.put, List.setIfInBounds_toArray, List.set_cons_zero, List.set_cons_succ, i64_w, i32_w]
                        rfl
                      refine pure_ (i := 32) (N := some 12) (v := ?_) (a' := ?_) #[true, true, true, true, true, true, true, true, true, true, true, true, true, true, true, true, true, true, true, true, true, true, true, true, true, true, true, true, true, true, true, true, true] rfl rfl (any_of HT_.out (by kernel_rfl)) (fun _ _ _ h => h) (Or.inl ⟨by rfl, ?_⟩) ?_ ?_
                      rotate_left
                      · intro w'
                        go_simp
                        with_reducible rfl
                      rotate_left
                      · simp only [Act.put, List.setIfInBounds_toArray, List.set_cons_zero, List.set_cons_succ, i64_w, i32_w]
                        rfl
                      refine done_ (done_of HT_.out (by kernel_rfl)) ?_
                      try go_wp2
                      go_meet
                      case rel => exact ⟨by rw [HT3.out], ⟨by rw [← hwd]; exact HW.out.drew⟩⟩
                · have HT3 := Aside0.mk (mp_t2 (st := st) (by have := HN.out; omega))
                  have g2 : decide (2 ≤ (m1 : Int)) = false := decide_eq_false (by have := M1'.out; omega)
                  have g3 : decide (3 ≤ (m1 : Int)) = false := decide_eq_false (by have := M1'.out; omega)
                  show Code.wp _ _ _ _ _
                  refine start_ (n := 33) (S := fun w' => w'.cell? ⟨g6, 0, none⟩ = some (.slice (some ⟨go, 0, none⟩) st.length c6) ∧ w'.cell? ⟨go, m1, none⟩ = some (.int .i64 (rd st (m1 : Int))) ∧ w'.cell? ⟨go, m2, none⟩ = some (.int .i64 (rd st (m2 : Int)))) (ds := []) #[false, false, false, false, false, false, false, false, false, false, false, false, false, false, false, false, false, false, false, false, false, false, false, false, false, false, false, false, false, false, false, false, false] (by kernel_rfl) rfl rfl (HC.out HW.out.drew) (fun hHeld => ?_); refine with_tabW MM16_tab MM16_bits (fun HT_ HW_ => ?_)
                  generalize hwd : wc.drew = wd at hHeld ⊢
                  refine pure_ (i := 0) (N := some 41) (v := ?_) (a' := ?_) #[true, false, false, false, false, false, false, false, false, false, false, false, false, false, false, false, false, false, false, false, false, false, false, false, false, false, false, false, false, false, false, false, false] rfl rfl (any_of HT_.out (by kernel_rfl)) (fun _ _ _ h => h) (Or.inl ⟨by rfl, ?_⟩) ?_ ?_
                  rotate_left
                  · intro w'
                    go_simp
                    with_reducible rfl
                  rotate_left
                  · simp only [Act.put, List.setIfInBounds_toArray, List.set_cons_zero, List.set_cons_succ, i64_w, i32_w]
                    rfl
                  refine pure_ (i := 1) (N := some 42) (v := ?_) (a' := ?_) #[true, true, false, false, false, false, false, false, false, false, false, false, false, false, false, false, false, false, false, false, false, false, false, false, false, false, false, false, false, false, false, false, false] rfl rfl (any_of HT_.out (by kernel_rfl)) (fun _ _ _ h => h) (Or.inl ⟨by rfl, ?_⟩) ?_ ?_
                  rotate_left
                  · intro w'
                    go_simp
                    with_reducible rfl
                  rotate_left
                  · simp only [Act.put, List.setIfInBounds_toArray, List.set_cons_zero, List.set_cons_succ, i64_w, i32_w]
                    rfl
                  refine pure_ (i := 2) (N := some 43) (v := ?_) (a' := ?_) #[true, true, true, false, false, false, false, false, false, false, false, false, false, false, false, false, false, false, false, false, false, false, false, false, false, false, false, false, false, false, false, false, false] rfl rfl (any_of HT_.out (by kernel_rfl)) (fun _ _ _ h => h) (Or.inl ⟨by rfl, ?_⟩) ?_ ?_
                  rotate_left
                  · intro w'
                    go_simp
                    with_reducible rfl
                  rotate_left
                  · simp only [Act.put, List.setIfInBounds_toArray, List.set_cons_zero, List.set_cons_succ, i64_w, i32_w]
                    rfl
                  refine pure_ (i := 3) (N := some 44) (v := undef) (a' := ?_) #[true, true, true, true, false, false, false, false, false, false, false, false, false, false, false, false, false, false, false, false, false, false, false, false, false, false, false, false, false, false, false, false, false] rfl rfl (any_of HT_.out (by kernel_rfl)) (fun _ _ _ h => h) (Or.inr ⟨by rfl, rfl⟩) ?_ ?_
                  rotate_left
                  · simp only [Act.put, List.setIfInBounds_toArray, List.set_cons_zero, List.set_cons_succ]
                    rfl
                  refine pure_ (i := 4) (N := some 45) (v := undef) (a' := ?_) #[true, true, true, true, true, false, false, false, false, false, false, false, false, false, false, false, false, false, false, false, false, false, false, false, false, false, false, false, false, false, false, false, false] rfl rfl (any_of HT_.out (by kernel_rfl)) (fun _ _ _ h => h) (Or.inr ⟨by rfl, rfl⟩) ?_ ?_
                  rotate_left
                  · simp only [Act.put, List.setIfInBounds_toArray, List.set_cons_zero, List.set_cons_succ]
                    rfl
                  refine pure_ (i := 5) (N := some 46) (v := undef) (a' := ?_) #[true, true, true, true, true, true, false, false, false, false, false, false, false, false, false, false, false, false, false, false, false, false, false, false, false, false, false, false, false, false, false, false, false] rfl rfl (any_of HT_.out (by kernel_rfl)) (fun _ _ _ h => h) (Or.inr ⟨by rfl, rfl⟩) ?_ ?_
                  rotate_left
                  · simp only [Act.put, List.setIfInBounds_toArray, List.set_cons_zero, List.set_cons_succ]
                    rfl
                  refine pure_ (i := 6) (N := some 47) (v := undef) (a' := ?_) #[true, true, true, true, true, true, true, false, false, false, false, false, false, false, false, false, false, false, false, false, false, false, false, false, false, false, false, false, false, false, false, false, false] rfl rfl (any_of HT_.out (by kernel_rfl)) (fun _ _ _ h => h) (Or.inr ⟨by rfl, rfl⟩) ?_ ?_
                  rotate_left
                  · simp only [Act.put, List.setIfInBounds_toArray, List.set_cons_zero, List.set_cons_succ]
                    rfl
                  refine pure_ (i := 7) (N := some 48) (v := undef) (a' := ?_) #[true, true, true, true, true, true, true, true, false, false, false, false, false, false, false, false, false, false, false, false, false, false, false, false, false, false, false, false, false, false, false, false, false] rfl rfl (any_of HT_.out (by kernel_rfl)) (fun _ _ _ h => h) (Or.inr ⟨by rfl, rfl⟩) ?_ ?_
                  rotate_left
                  · simp only [Act.put, List.setIfInBounds_toArray, List.set_cons_zero, List.set_cons_succ]
                    rfl
                  refine pure_ (i := 8) (N := some 49) (v := undef) (a' := ?_) #[true, true, true, true, true, true, true, true, true, false, false, false, false, false, false, false, false, false, false, false, false, false, false, false, false, false, false, false, false, false, false, false, false] rfl rfl (any_of HT_.out (by kernel_rfl)) (fun _ _ _ h => h) (Or.inr ⟨by rfl, rfl⟩) ?_ ?_
                  rotate_left
                  · simp only [Act.put, List.setIfInBounds_toArray, List.set_cons_zero, List.set_cons_succ]
                    rfl
                  refine pure_ (i := 9) (N := some 50) (v := undef) (a' := ?_) #[true, true, true, true, true, true, true, true, true, true, false, false, false, false, false, false, false, false, false, false, false, false, false, false, false, false, false, false, false, false, false, false, false] rfl rfl (any_of HT_.out (by kernel_rfl)) (fun _ _ _ h => h) (Or.inr ⟨by rfl, rfl⟩) ?_ ?_
                  rotate_left
                  · simp only [Act.put, List.setIfInBounds_toArray, List.set_cons_zero, List.set_cons_succ]
                    rfl
                  refine pure_ (i := 10) (N := some 51) (v := undef) (a' := ?_) #[true, true, true, true, true, true, true, true, true, true, true, false, false, false, false, false, false, false, false, false, false, false, false, false, false, false, false, false, false, false, false, false, false] rfl rfl (any_of HT_.out (by kernel_rfl)) (fun _ _ _ h => h) (Or.inr ⟨by rfl, rfl⟩) ?_ ?_
                  rotate_left
                  · simp only [Act.put, List.setIfInBounds_toArray, List.set_cons_zero, List.set_cons_succ]
                    rfl
                  refine pure_ (i := 11) (N := some 52) (v := undef) (a' := ?_) #[true, true, true, true, true, true, true, true, true, true, true, true, false, false, false, false, false, false, false, false, false, false, false, false, false, false, false, false, false, false, false, false, false] rfl rfl (any_of HT_.out (by kernel_rfl)) (fun _ _ _ h => h) (Or.inr ⟨by rfl, rfl⟩) ?_ ?_
                  rotate_left
                  · simp only [Act.put, List.setIfInBounds_toArray, List.set_cons_zero, List.set_cons_succ]
                    rfl
                  refine pure_ (i := 12) (N := some 53) (v := ?_) (a' := ?_) #[true, true, true, true, true, true, true, true, true, true, true, true, true, false, false, false, false, false, false, false, false, false, false, false, false, false, false, false, false, false, false, false, false] rfl rfl (any_of HT_.out (by kernel_rfl)) (fun _ _ _ h => h) (Or.inl ⟨by rfl, ?_⟩) ?_ ?_
                  rotate_left
                  · intro w'
                    go_simp
                    with_reducible rfl
                  rotate_left
                  · simp only [Act.put, List.setIfInBounds_toArray, List.set_cons_zero, List.set_cons_succ, i64_w, i32_w]
                    rfl
                  refine pure_ (i := 13) (N := some 54) (v := ?_) (a' := ?_) #[true, true, true, true, true, true, true, true, true, true, true, true, true, true, false, false, false, false, false, false, false, false, false, false, false, false, false, false, false, false, false, false, false] rfl rfl (any_of HT_.out (by kernel_rfl)) (fun _ _ _ h => h) (Or.inl ⟨by rfl, ?_⟩) ?_ ?_
                  rotate_left
                  · intro w'
                    go_simp
                    with_reducible rfl
                  rotate_left
                  · simp only [Act.put, List.setIfInBounds_toArray, List.set_cons_zero, List.set_cons_succ, i64_w, i32_w]
                    rfl
                  refine pure_ (i := 14) (N := some 55) (v := ?_) (a' := ?_) #[true, true, true, true, true, true, true, true, true, true, true, true, true, true, true, false, false, false, false, false, false, false, false, false, false, false, false, false, false, false, false, false, false] rfl rfl (any_of HT_.out (by kernel_rfl)) (fun _ _ _ h => h) (Or.inl ⟨by rfl, ?_⟩) ?_ ?_
                  rotate_left
                  · intro w'
                    go_simp
                    with_reducible rfl
                  rotate_left
                  · simp only [Act.put, List.setIfInBounds_toArray, List.set_cons_zero, List.set_cons_succ, i64_w, i32_w]
                    rfl
                  refine pure_ (i := 15) (N := some 56) (v := ?_) (a' := ?_) #[true, true, true, true, true, true, true, true, true, true, true, true, true, true, true, true, false, false, false, false, false, false, false, false, false, false, false, false, false, false, false, false, false] rfl rfl (any_of HT_.out (by kernel_rfl)) (fun _ _ _ h => h) (Or.inl ⟨by rfl, ?_⟩) ?_ ?_
                  rotate_left
                  · intro w'
                    go_simp
                    with_reducible rfl
                  rotate_left
                  · simp only [Act.put, List.setIfInBounds_toArray, List.set_cons_zero, List.set_cons_succ, i64_w, i32_w]
                    rfl
                  refine pure_ (i := 16) (N := some 57) (v := ?_) (a' := ?_) #[true, true, true, true, true, true, true, true, true, true, true, true, true, true, true, true, true, false, false, false, false, false, false, false, false, false, false, false, false, false, false, false, false] rfl rfl (any_of HT_.out (by kernel_rfl)) (fun _ _ _ h => h) (Or.inl ⟨by rfl, ?_⟩) ?_ ?_
                  rotate_left
                  · intro w'
                    go_simp
                    with_reducible rfl
                  rotate_left
                  · simp only [Act.put, List.setIfInBounds_toArray, List.set_cons_zero, List.set_cons_succ, i64_w, i32_w]
                    rfl
                  refine pure_ (i := 17) (N := some 58) (v := undef) (a' := ?_) #[true, true, true, true, true, true, true, true, true, true, true, true, true, true, true, true, true, true, false, false, false, false, false, false, false, false, false, false, false, false, false, false, false] rfl rfl (any_of HT_.out (by kernel_rfl)) (fun _ _ _ h => h) (Or.inr ⟨by rfl, rfl⟩) ?_ ?_
                  rotate_left
                  · simp only [Act.put, List.setIfInBounds_toArray, List.set_cons_zero, List.set_cons_succ]
                    rfl
                  refine pure_ (i := 18) (N := some 59) (v := undef) (a' := ?_) #[true, true, true, true, true, true, true, true, true, true, true, true, true, true, true, true, true, true, true, false, false, false, false, false, false, false, false, false, false, false, false, false, false] rfl rfl (any_of HT_.out (by kernel_rfl)) (fun _ _ _ h => h) (Or.inr ⟨by rfl, rfl⟩) ?_ ?_
                  rotate_left
                  · simp only [Act.put, List.setIfInBounds_toArray, List.set_cons_zero, List.set_cons_succ]
                    rfl
                  refine pure_ (i := 19) (N := some 60) (v := undef) (a' := ?_) #[true, true, true, true, true, true, true, true, true, true, true, true, true, true, true, true, true, true, true, true, false, false, false, false, false, false, false, false, false, false, false, false, false] rfl rfl (any_of HT_.out (by kernel_rfl)) (fun _ _ _ h => h) (Or.inr ⟨by rfl, rfl⟩) ?_ ?_
                  rotate_left
                  · simp only [Act.put, List.setIfInBounds_toArray, List.set_cons_zero, List.set_cons_succ]
                    rfl
                  refine pure_ (i := 20) (N := some 61) (v := undef) (a' := ?_) #[true, true, true, true, true, true, true, true, true, true, true, true, true, true, true, true, true, true, true, true, true, false, false, false, false, false, false, false, false, false, false, false, false] rfl rfl (any_of HT_.out (by kernel_rfl)) (fun _ _ _ h => h) (Or.inr ⟨by rfl, rfl⟩) ?_ ?_
                  rotate_left
                  · simp only [Act.put, List.setIfInBounds_toArray, List.set_cons_zero, List.set_cons_succ]
                    rfl
                  refine pure_ (i := 21) (N := some 62) (v := undef) (a' := ?_) #[true, true, true, true, true, true, true, true, true, true, true, true, true, true, true, true, true, true, true, true, true, true, false, false, false, false, false, false, false, false, false, false, false] rfl rfl (any_of HT_.out (by kernel_rfl)) (fun _ _ _ h => h) (Or.inr ⟨by rfl, rfl⟩) ?_ ?_
                  rotate_left
                  · simp only [Act.put, List.setIfInBounds_toArray, List.set_cons_zero, List.set_cons_succ]
                    rfl
                  refine pure_ (i := 22) (N := some 63) (v := undef) (a' := ?_) #[true, true, true, true, true, true, true, true, true, true, true, true, true, true, true, true, true, true, true, true, true, true, true, false, false, false, false, false, false, false, false, false, false] rfl rfl (any_of HT_.out (by kernel_rfl)) (fun _ _ _ h => h) (Or.inr ⟨by rfl, rfl⟩) ?_ ?_
                  rotate_left
                  · simp only [Act.put, List.setIfInBounds_toArray, List.set_cons_zero, List.set_cons_succ]
                    rfl
                  refine pure_ (i := 23) (N := some 64) (v := undef) (a' := ?_) #[true, true, true, true, true, true, true, true, true, true, true, true, true, true, true, true, true, true, true, true, true, true, true, true, false, false, false, false, false, false, false, false, false] rfl rfl (any_of HT_.out (by kernel_rfl)) (fun _ _ _ h => h) (Or.inr ⟨by rfl, rfl⟩) ?_ ?_
                  rotate_left
                  · simp only [Act.put, List.setIfInBounds_toArray, List.set_cons_zero, List.set_cons_succ]
                    rfl
                  refine pure_ (i := 24) (N := some 65) (v := undef) (a' := ?_) #[true, true, true, true, true, true, true, true, true, true, true, true, true, true, true, true, true, true, true, true, true, true, true, true, true, false, false, false, false, false, false, false, false] rfl rfl (any_of HT_.out (by kernel_rfl)) (fun _ _ _ h => h) (Or.inr ⟨by rfl, rfl⟩) ?_ ?_
                  rotate_left
                  · simp only [Act.put, List.setIfInBounds_toArray, List.set_cons_zero, List.set_cons_succ]
                    rfl
                  refine pure_ (i := 25) (N := some 66) (v := undef) (a' := ?_) #[true, true, true, true, true, true, true, true, true, true, true, true, true, true, true, true, true, true, true, true, true, true, true, true, true, true, false, false, false, false, false, false, false] rfl rfl (any_of HT_.out (by kernel_rfl)) (fun _ _ _ h => h) (Or.inr ⟨by rfl, rfl⟩) ?_ ?_
                  rotate_left
                  · simp only [Act.put, List.setIfInBounds_toArray, List.set_cons_zero, List.set_cons_succ]
                    rfl
                  refine pure_ (i := 26) (N := some 67) (v := undef) (a' := ?_) #[true, true, true, true, true, true, true, true, true, true, true, true, true, true, true, true, true, true, true, true, true, true, true, true, true, true, true, false, false, false, false, false, false] rfl rfl (any_of HT_.out (by kernel_rfl)) (fun _ _ _ h => h) (Or.inr ⟨by rfl, rfl⟩) ?_ ?_
                  rotate_left
                  · simp only [Act.put, List.setIfInBounds_toArray, List.set_cons_zero, List.set_cons_succ]
                    rfl
                  refine pure_ (i := 27) (N := some 68) (v := undef) (a' := ?_) #[true, true, true, true, true, true, true, true, true, true, true, true, true, true, true, true, true, true, true, true, true, true, true, true, true, true, true, true, false, false, false, false, false] rfl rfl (any_of HT_.out (by kernel_rfl)) (fun _ _ _ h => h) (Or.inr ⟨by rfl, rfl⟩) ?_ ?_
                  rotate_left
                  · simp only [Act.put, List.setIfInBounds_toArray, List.set_cons_zero, List.set_cons_succ]
                    rfl
                  refine pure_ (i := 28) (N := some 69) (v := undef) (a' := ?_) #[true, true, true, true, true, true, true, true, true, true, true, true, true, true, true, true, true, true, true, true, true, true, true, true, true, true, true, true, true, false, false, false, false] rfl rfl (any_of HT_.out (by kernel_rfl)) (fun _ _ _ h => h) (Or.inr ⟨by rfl, rfl⟩) ?_ ?_
                  rotate_left
                  · simp only [Act.put, List.setIfInBounds_toArray, List.set_cons_zero, List.set_cons_succ]
                    rfl
                  refine pure_ (i := 29) (N := some 70) (v := undef) (a' := ?_) #[true, true, true, true, true, true, true, true, true, true, true, true, true, true, true, true, true, true, true, true, true, true, true, true, true, true, true, true, true, true, false, false, false] rfl rfl (any_of HT_.out (by kernel_rfl)) (fun _ _ _ h => h) (Or.inr ⟨by rfl, rfl⟩) ?_ ?_
                  rotate_left
                  · simp only [Act.put, List.setIfInBounds_toArray, List.set_cons_zero, List.set_cons_succ]
                    rfl
                  refine pure_ (i := 30) (N := some 71) (v := ?_) (a' := ?_) #[true, true, true, true, true, true, true, true, true, true, true, true, true, true, true, true, true, true, true, true, true, true, true, true, true, true, true, true, true, true, true, false, false] rfl rfl (any_of HT_.out (by kernel_rfl)) (fun _ _ _ h => h) (Or.inl ⟨by rfl, ?_⟩) ?_ ?_
                  rotate_left
                  · intro w'
                    go_simp
                    with_reducible rfl
                  rotate_left
                  · simp only [Act.put, List.setIfInBounds_toArray, List.set_cons_zero, List.set_cons_succ, i64_w, i32_w]
                    rfl
                  refine pure_ (i := 31) (N := some 72) (v := ?_) (a' := ?_) #[true, true, true, true, true, true, true, true, true, true, true, true, true, true, true, true, true, true, true, true, true, true, true, true, true, true, true, true, true, true, true, true, false] rfl rfl (any_of HT_.out (by kernel_rfl)) (fun _ _ _ h => h) (Or.inl ⟨by rfl, ?_⟩) ?_ ?_
                  rotate_left
                  · intro w'
                    go_simp
                    with_reducible rfl
                  rotate_left
                  · simp only [Act.put, List.setIfInBounds_toArray, List.set_cons_zero, List.set_cons_succ, i64_w, i32_w]
                    rfl
                  refine pure_ (i := 32) (N := some 12) (v := ?_) (a' := ?_) #[true, true, true, true, true, true, true, true, true, true, true, true, true, true, true, true, true, true, true, true, true, true, true, true, true, true, true, true, true, true, true, true, true] rfl rfl (any_of HT_.out (by kernel_rfl)) (fun _ _ _ h => h) (Or.inl ⟨by rfl, ?_⟩) ?_ ?_
                  rotate_left
                  · intro w'
                    go_simp
                    with_reducible rfl
                  rotate_left
                  · simp only [Act.put, List.setIfInBounds_toArray, List.set_cons_zero, List.set_cons_succ, i64_w, i32_w]
                    rfl
                  refine done_ (done_of HT_.out (by kernel_rfl)) ?_
                  try go_wp2
                  go_meet
                  case rel => exact ⟨by rw [HT3.out], ⟨by rw [← hwd]; exact HW.out.drew⟩⟩
              case rest =>
                clear HW
                obtain ⟨rfl, HW⟩ := hcut
                have hx6 : wc.cell? ⟨g6, 0, none⟩ = some (.slice (some ⟨go, 0, none⟩) st.length c6) := (HC.out HW.out).1
                rcases hb : tightB st with _ | _
                · have HTB := Aside0.mk hb
                  clear hb
                  by_cases c1 : rd st (m2 : Int) ≤ rd st (m1 : Int)
                  · have HAT := Aside0.mk (mp_b2 M1'.out M2'.out HTB.out c1)
                    have c1b : decide (rd st (m2 : Int) ≤ rd st (m1 : Int)) = true := decide_eq_true c1
                    clear c1
                    go_wp2_with (go_at_call 63; (with_reducible refine (merge_st m2 HNE.out HB5.out HB6.out HW.out (1000000 * (i : Int)) (by have := HI60.out; omega) HS.out (by have := M1'.out; have := M2'.out; omega) (by have := HST.out; omega) (by have := HI.out; have := HL.out; omega)).mono ?_); rintro e w' ⟨rfl, v5', v6', hW'⟩; have HW' := Aside0.mk hW'; clear hW')
                    have HLEN := Aside0.mk (mp_len (st := st) (a := m2) (by have := M1'.out; have := M2'.out; omega))
                    go_roundg (gk - 1)
                    case measure => have := HK.out; have := M2'.out; omega
                    case rel => exact ⟨i, plan ++ [rowL st (m2 : Int)], stepL st m2, v5', v6', hi, rfl, ⟨mp_I1 (by have := HK.out; have := M2'.out; omega) HAT.out HR.out⟩, ⟨by have := HLEN.out; have := HK.out; have := M2'.out; omega⟩, ⟨by have := HLEN.out; have := HI.out; have := M2'.out; rw [List.length_append, List.length_singleton]; omega⟩, ⟨mp_step (by have := M1'.out; have := M2'.out; omega) HS.out⟩, HW'⟩
                  · have HAT := Aside0.mk (mp_no M1'.out M2'.out HTB.out c1)
                    have c1b : decide (rd st (m2 : Int) ≤ rd st (m1 : Int)) = false := decide_eq_false c1
                    clear c1
                    go_wp2
                    go_meet
                    case rel => exact ⟨⟨by have := HAT.out; omega⟩, HW⟩
                · have HTB := Aside0.mk hb
                  have hn3 := mp_tight3 hb
                  clear hb
                  obtain ⟨m3, M3⟩ : ∃ m, m + 3 = st.length := ⟨st.length - 3, by omega⟩
                  have M3' := Aside0.mk M3
                  have hst := HST.out
                  have hm1 := M1'.out
                  have w3 : wrap64 ((m1 : Int) - 2) = (m3 : Int) := by unfold wrap64; omega
                  have w3' : IntKind.i64.wrap ((m1 : Int) - 2) = (m3 : Int) := (i64_w _).trans w3
                  have d5 : (0 ≤ (m3 : Int)) = True := eq_true (by omega)
                  have d6 : ((m3 : Int) < (st.length : Int)) = True := eq_true (by omega)
                  have hx3 : wc.cell? ⟨go, m3, none⟩ = some (.int .i64 (rd st (m3 : Int))) := HW.out.at.2 m3 (by omega)
                  clear hst hm1 M3
                  by_cases c1 : rd st (m3 : Int) < rd st (m1 : Int)
                  · have HAT := Aside0.mk (mp_a3 M1'.out M3'.out HTB.out c1)
                    have c1b : decide (rd st (m3 : Int) < rd st (m1 : Int)) = true := decide_eq_true c1
                    clear c1
                    go_wp2_with (go_at_call 63; (with_reducible refine (merge_st m3 HNE.out HB5.out HB6.out HW.out (1000000 * (i : Int)) (by have := HI60.out; omega) HS.out (by have := M1'.out; have := M2'.out; have := M3'.out; omega) (by have := HST.out; omega) (by have := HI.out; have := HL.out; omega)).mono ?_); rintro e w' ⟨rfl, v5', v6', hW'⟩; have HW' := Aside0.mk hW'; clear hW')
                    have HLEN := Aside0.mk (mp_len (st := st) (a := m3) (by have := M1'.out; have := M2'.out; have := M3'.out; omega))
                    go_roundg (gk - 1)
                    case measure => have := HK.out; have := M2'.out; omega
                    case rel => exact ⟨i, plan ++ [rowL st (m3 : Int)], stepL st m3, v5', v6', hi, rfl, ⟨mp_I1 (by have := HK.out; have := M2'.out; omega) HAT.out HR.out⟩, ⟨by have := HLEN.out; have := HK.out; have := M2'.out; omega⟩, ⟨by have := HLEN.out; have := HI.out; have := M2'.out; rw [List.length_append, List.length_singleton]; omega⟩, ⟨mp_step (by have := M1'.out; have := M2'.out; have := M3'.out; omega) HS.out⟩, HW'⟩
                  · have HAT := Aside0.mk (mp_a2 M1'.out M2'.out M3'.out HTB.out c1)
                    have c1b : decide (rd st (m3 : Int) < rd st (m1 : Int)) = false := decide_eq_false c1
                    clear c1
                    go_wp2_with (go_at_call 63; (with_reducible refine (merge_st m2 HNE.out HB5.out HB6.out HW.out (1000000 * (i : Int)) (by have := HI60.out; omega) HS.out (by have := M1'.out; have := M2'.out; omega) (by have := HST.out; omega) (by have := HI.out; have := HL.out; omega)).mono ?_); rintro e w' ⟨rfl, v5', v6', hW'⟩; have HW' := Aside0.mk hW'; clear hW')
                    have HLEN := Aside0.mk (mp_len (st := st) (a := m2) (by have := M1'.out; have := M2'.out; omega))
                    go_roundg (gk - 1)
                    case measure => have := HK.out; have := M2'.out; omega
                    case rel => exact ⟨i, plan ++ [rowL st (m2 : Int)], stepL st m2, v5', v6', hi, rfl, ⟨mp_I1 (by have := HK.out; have := M2'.out; omega) HAT.out HR.out⟩, ⟨by have := HLEN.out; have := HK.out; have := M2'.out; omega⟩, ⟨by have := HLEN.out; have := HI.out; have := M2'.out; rw [List.length_append, List.length_singleton]; omega⟩, ⟨mp_step (by have := M1'.out; have := M2'.out; omega) HS.out⟩, HW'⟩
          · obtain rfl : bt = false := HBT.out.trans (decide_eq_false hn)
            go_wp2
            go_meet
            case rel => exact ⟨⟨by have := mp_short (st := st) (by omega) false; omega⟩, HW⟩
        case rest =>
          clear HW hx6
          obtain ⟨HA, HW⟩ := hcut
          have hx6 : wc.cell? ⟨g6, 0, none⟩ = some (.slice A6 st.length c6) := (blk_cell HW.out.2.1 0).trans rfl
          have hx5 : wc.cell? ⟨g5, 0, none⟩ = some v5 := (blk_cell HW.out.1 0).trans rfl
          clear w1 w1' t1
          have HI60 := Aside0.mk (show (1000000 * (i : Int)) ≤ 60000000 by have := HL.out; omega)
          by_cases hil : i < l0.length
          · have q1 : decide ((i : Int) < (l0.length : Int)) = true := decide_eq_true (by omega)
            obtain ⟨ad, e1, hx⟩ := Kd.at_int HR0.out (i : Int) (by omega) (by omega)
            cases e1
            rw [Int.toNat_natCast] at hx
            have hxl : ∀ {W : World}, StW w.heap.size g5 g6 v5 (.slice A6 st.length c6) plan st w W → W.cell? ⟨g6, 0, none⟩ = some (.slice A6 st.length c6) ∧ W.cell? (ad.add i) = some (.int .i64 (rd l0 (i : Int))) := fun h => ⟨(blk_cell h.2.1 0).trans rfl, (h.2.2.2.2.cell (World.block_lt_of_cell? w _ hx)).trans hx⟩
            have HXL := Aside0.mk @hxl
            have HIL := Aside0.mk hil
            have d1 : (0 ≤ (i : Int)) = True := eq_true (by omega)
            have d2 : ((i : Int) < (l0.length : Int)) = True := eq_true (by omega)
            clear hx hxl hil hx5 hx6
            go_upto_region 22 with (fail)
            go_cut [] (fun wc => ∃ v6' : Value, Aside0 (StW w.heap.size g5 g6 v5 v6' plan (st ++ [rd l0 (i : Int)]) w wc))
            case first =>
              show Code.wp _ _ _ _ _
              refine start_ (n := 8) (S := fun w' => w'.cell? ⟨g6, 0, none⟩ = some (.slice A6 st.length c6) ∧ w'.cell? (ad.add i) = some (.int .i64 (rd l0 (i : Int)))) (ds := [6, 7]) #[false, false, false, false, false, false, false, false] (by kernel_rfl) rfl rfl (HXL.out HW.out.drew) (fun hHeld => ?_); refine with_tabW MM22_tab MM22_bits (fun HT_ HW_ => ?_)
              have HWd := Aside0.mk HW.out.drew
              generalize hwd : wc.drew = wd at hHeld HWd ⊢
              refine take_ (i := 0) (N := some 101) (v := ?_) (a' := ?_) #[true, false, false, false, false, false, false, false] rfl rfl (take_ofW HT_.out HW_.out (by kernel_rfl)) (fun _ _ _ h => h) (Or.inl ⟨by rfl, ?_⟩) hHeld ?_ ?_
              rotate_left
              · rintro w' ⟨s0, s1⟩
                go_simp
                with_reducible rfl
              rotate_left
              · simp only [Act.put, List.setIfInBounds_toArray, List.set_cons_zero, List.set_cons_succ, i64_w, i32_w]
                rfl
              refine pure_ (i := 1) (N := some 102) (v := ?_) (a' := ?_) #[true, true, false, false, false, false, false, false] rfl rfl (any_of HT_.out (by kernel_rfl)) (fun _ _ _ h => h) (Or.inl ⟨by rfl, ?_⟩) ?_ ?_
              rotate_left
              · intro w'
                go_simp
                with_reducible rfl
              rotate_left
              · simp only [Act.put, List.setIfInBounds_toArray, List.set_cons_zero, List.set_cons_succ, i64_w, i32_w]
                rfl
              refine pure_ (i := 2) (N := some 103) (v := ?_) (a' := ?_) #[true, true, true, false, false, false, false, false] rfl rfl (any_of HT_.out (by kernel_rfl)) (fun _ _ _ h => h) (Or.inl ⟨by rfl, ?_⟩) ?_ ?_
              rotate_left
              · intro w'
                go_simp
                with_reducible rfl
              rotate_left
              · simp only [Act.put, List.setIfInBounds_toArray, List.set_cons_zero, List.set_cons_succ, i64_w, i32_w]
                rfl
              refine pure_ (i := 3) (N := some 104) (v := ?_) (a' := ?_) #[true, true, true, true, false, false, false, false] rfl rfl (any_of HT_.out (by kernel_rfl)) (fun _ _ _ h => h) (Or.inl ⟨by rfl, ?_⟩) ?_ ?_
              rotate_left
              · intro w'
                go_simp
                with_reducible rfl
              rotate_left
              · simp only [Act.put, List.setIfInBounds_toArray, List.set_cons_zero, List.set_cons_succ, i64_w, i32_w]
                rfl
              refine take_ (i := 4) (N := some 105) (v := ?_) (a' := ?_) #[true, true, true, true, true, false, false, false] rfl rfl (take_ofW HT_.out HW_.out (by kernel_rfl)) (fun _ _ _ h => h) (Or.inl ⟨by rfl, ?_⟩) hHeld ?_ ?_
              rotate_left
              · rintro w' ⟨s0, s1⟩
                go_simp
                with_reducible rfl
              rotate_left
              · simp only [Act.put, List.setIfInBounds_toArray, List.set_cons_zero, List.set_cons_succ, i64_w, i32_w]
                rfl
              refine one_ (i := 5) (N := some 106) #[true, true, true, true, true, true, false, false] rfl rfl (one_of HT_.out (by kernel_rfl)) (by decide) (fun K hK => ?_)
              refine event_step (v := .slice (some ⟨wd.heap.size, 0, none⟩) 1 1) (w1 := wd.alloc (.cells #[.int .i64 (rd l0 (i : Int))] 3)) ?hg ?hr ?_
              case hg => rfl
              case hr => first | (go_simp; done) | (go_simp; rfl)
              have hba := below_alloc (Below.refl wd.heap.size wd) (.cells #[.int .i64 (rd l0 (i : Int))] 3)
              refine hK.out _ _ ⟨(hba.cell (World.block_lt_of_cell? _ _ hHeld.1)).trans hHeld.1, (hba.cell (World.block_lt_of_cell? _ _ hHeld.2)).trans hHeld.2⟩ (fun hHeld => ?_)
              clear hK K
              refine norm_ (a' := ?_) ?_ ?_
              rotate_left
              · show Act.put _ (some 106) _ = _
                simp only [Act.put, List.setIfInBounds_toArray, List.set_cons_zero, List.set_cons_succ, i64_w, i32_w]
                rfl
              refine last_ (i := 6) (N := some 107) #[true, true, true, true, true, true, true, false] rfl rfl (one_of HT_.out (by kernel_rfl)) (by decide) (fun K hK => ?_)
              have l5 := blk_lt HWd.out.1
              have l6 := blk_lt HWd.out.2.1
              have h5 := HB5.out
              have h6 := HB6.out
              have hlen := HST.out
              refine Kd.R_append_step (Kd.int .i64) (w0 := w) w.heap.size (by rfl) (.tmp 101) (.tmp 106) 33 3 (.int .i64 0) 8 rfl Try.underlying33 info3 rfl (by decide) (by omega) (.slice A6 st.length c6) st (rd l0 (i : Int)) [.int .i64 (rd l0 (i : Int))] (okK w.heap.size g5 g6) (fun _ => False) rfl rfl rfl (fun _ h => h.elim) (fun k hk => ⟨by omega, by omega, by omega⟩) HWd.out.2.2.2.1 HWd.out.2.2.2.2 (by omega) (by omega) ?_
              intro v7 w2 hR2 hb2 hg2 hat2
              refine hK.out _ _ ?_
              clear hK K
              obtain ⟨A7, c7, e7⟩ := Kd.R_slice hR2
              subst e7
              refine norm_ (a' := ?_) ?_ ?_
              rotate_left
              · show Act.put _ (some 107) _ = _
                simp only [Act.put, List.setIfInBounds_toArray, List.set_cons_zero, List.set_cons_succ, i64_w, i32_w]
                rfl
              have n6 : some g6 ≠ (Value.slice A6 st.length c6).ownBlock := fun e => (HWd.out.2.2.2.1.1 g6 e.symm).2.2 rfl
              have n5 : some g5 ≠ (Value.slice A6 st.length c6).ownBlock := fun e => (HWd.out.2.2.2.1.1 g5 e.symm).2.1 rfl
              have K5 : w2.heap[g5]? = some (.cells #[v5] 32 (0, 0)) := (hg2.block g5 l5 n5).trans HWd.out.1
              have K6 : w2.heap[g6]? = some (.cells #[.slice A6 st.length c6] 33 (0, 0)) := (hg2.block g6 l6 n6).trans HWd.out.2.1
              have hx6 : w2.cell? ⟨g6, 0, none⟩ = some (.slice A6 st.length c6) := (blk_cell K6 0).trans rfl
              have hf6 := blk_frozen K6 0
              refine last_ (i := 7) (N := none) #[true, true, true, true, true, true, true, true] rfl rfl (one_of HT_.out (by kernel_rfl)) (by decide) (fun K hK => ?_)
              refine store_step0 (w1 := w2.setCell ⟨g6, 0, none⟩ (.slice A7 (st ++ [rd l0 (i : Int)]).length c7)) (by rfl) rfl ?hr ?_
              case hr => first | (go_simp; done) | (go_simp; rfl)
              refine hK.out _ _ ?_
              clear hK K
              refine done_ (done_of HT_.out (by kernel_rfl)) ?_
              try go_wp2
              go_meet
              case rel =>
                have s2 := Kd.S_after (Kd.S_mono (ok' := fun k => (w.heap.size ≤ k ∧ k ≠ g5 ∧ k ≠ g6) ∧ some k ≠ (Value.slice A6 st.length c6).ownBlock) HWd.out.2.2.1 (fun k hk => ⟨⟨hk.1, hk.2.1, hk.2.2.1⟩, hk.2.2.2⟩)) hg2 hat2
                exact ⟨.slice A7 (st ++ [rd l0 (i : Int)]).length c7, ⟨blk_far (p := ⟨g6, 0, none⟩) K5 HNE.out _, blk_set K6 0 _, Kd.S_far (Kd.S_mono s2 (fun k hk => ⟨hk.1.1, hk.1.2.1, hk.1.2.2, hk.2⟩)) (fun k hk => hk.2.2.1) _, Kd.R_far hR2 (fun k hk => hk.2.2) _, hb2.setCell HB6.out _⟩⟩
            case rest =>
              clear HW
              obtain ⟨v6', HW⟩ := hcut
              have wi : wrap64 ((i : Int) + 1) = ((i + 1 : Nat) : Int) := by have := HL.out; unfold wrap64; omega
              have wi' : IntKind.i64.wrap ((i : Int) + 1) = ((i + 1 : Nat) : Int) := (i64_w _).trans wi
              go_wp2
              go_roundg (gk - 1)
              case measure => have := HK.out; have := HIL.out; omega
              case rel =>
                have hil := HIL.out
                have hr := HR.out
                have hk := HK.out
                have hii := HI.out
                rw [List.drop_eq_getElem_cons hil, ← mp_rd l0 i hil] at hr
                have hp := HP.out _ (List.getElem_mem hil)
                rw [← mp_rd l0 i hil] at hp
                exact ⟨i + 1, plan, st ++ [rd l0 (i : Int)], v5, v6', by omega, rfl, ⟨mp_I2 (by omega) (by have := HA.out; omega) hr⟩, ⟨by rw [List.length_append, List.length_singleton]; omega⟩, ⟨by rw [List.length_append, List.length_singleton]; omega⟩, ⟨mp_push HS.out hp⟩, HW⟩
          · have q1 : decide ((i : Int) < (l0.length : Int)) = false := decide_eq_false (by omega)
            have HIL := Aside0.mk (show i = l0.length by omega)
            have hr := HR.out
            rw [HIL.out, List.drop_length] at hr
            have HRR := Aside0.mk hr
            have q1n : decide (i < l0.length) = false := decide_eq_false hil
            clear hr
            by_cases hn : st.length < 2
            · have q2 : decide (top < 1) = true := decide_eq_true (by have := HT.out; omega)
              obtain ⟨A5, c5, e5⟩ := Kd.S_slice HW.out.2.2.1
              subst e5
              have HF := Aside0.mk (mp_I4 hn HRR.out)
              clear hn
              go_wp2
              go_ret
              exact ⟨_, rfl, by rw [← HF.out]; exact Kd.S_mono HW.out.2.2.1 (fun k hk => hk.1), HW.out.2.2.2.2⟩
            · have q2 : decide (top < 1) = false := decide_eq_false (by have := HT.out; omega)
              obtain ⟨go, c6', eo⟩ := HW.out.form (by omega)
              cases eo
              obtain ⟨m1, M1⟩ : ∃ m, m + 1 = st.length := ⟨st.length - 1, by omega⟩
              obtain ⟨m2, M2⟩ : ∃ m, m + 2 = st.length := ⟨st.length - 2, by omega⟩
              obtain rfl : top = (m1 : Int) := by have := HT.out; omega
              have M1' := Aside0.mk M1
              have M2' := Aside0.mk M2
              have HE := Aside0.mk (mp_end M2 (by have := HA.out; omega))
              have hst := HST.out
              have w2 : wrap64 ((m1 : Int) - 1) = (m2 : Int) := by unfold wrap64; omega
              have w2' : IntKind.i64.wrap ((m1 : Int) - 1) = (m2 : Int) := (i64_w _).trans w2
              have HN := Aside0.mk hn
              clear hst hn M1 M2 hx5 hx6
              go_upto_region 26 with (fail)
              go_cut [126] (fun v126 wc => v126 = .bool false ∧ Aside0 (StW w.heap.size g5 g6 v5 (.slice (some ⟨go, 0, none⟩) st.length c6) plan st w wc))
              case first =>
                by_cases hn3 : 3 ≤ st.length
                · obtain ⟨m3, M3⟩ : ∃ m, m + 3 = st.length := ⟨st.length - 3, by omega⟩
                  have M3' := Aside0.mk M3
                  have hst := HST.out
                  have hm1 := M1'.out
                  have g2 : decide (2 ≤ (m1 : Int)) = true := decide_eq_true (by omega)
                  have w3 : wrap64 ((m1 : Int) - 2) = (m3 : Int) := by unfold wrap64; omega
                  have w3' : IntKind.i64.wrap ((m1 : Int) - 2) = (m3 : Int) := (i64_w _).trans w3
                  have d1 : (0 ≤ (m1 : Int)) = True := eq_true (by omega)
                  have d3 : ((m1 : Int) < (st.length : Int)) = True := eq_true (by omega)
                  have d5 : (0 ≤ (m3 : Int)) = True := eq_true (by omega)
                  have d6 : ((m3 : Int) < (st.length : Int)) = True := eq_true (by omega)
                  have c1b : decide (rd st (m3 : Int) < rd st (m1 : Int)) = false := decide_eq_false (by
                    have := mp_nt M1'.out M2'.out M3'.out HE.out.1
                    have := mp_bd HS.out (i := m2) (by have := M2'.out; omega)
                    omega)
                  have hC3 : ∀ {W : World}, StW w.heap.size g5 g6 v5 (.slice (some ⟨go, 0, none⟩) st.length c6) plan st w W → W.cell? ⟨g6, 0, none⟩ = some (.slice (some ⟨go, 0, none⟩) st.length c6) ∧ W.cell? ⟨go, m1, none⟩ = some (.int .i64 (rd st (m1 : Int))) ∧ W.cell? ⟨go, m3, none⟩ = some (.int .i64 (rd st (m3 : Int))) := fun h => ⟨h.at.1, h.at.2 m1 (by omega), h.at.2 m3 (by omega)⟩
                  have HC3 := Aside0.mk @hC3
                  clear hC3 hst hm1 M3
                  show Code.wp _ _ _ _ _
                  refine start_ (n := 14) (S := fun w' => w'.cell? ⟨g6, 0, none⟩ = some (.slice (some ⟨go, 0, none⟩) st.length c6) ∧ w'.cell? ⟨go, m1, none⟩ = some (.int .i64 (rd st (m1 : Int))) ∧ w'.cell? ⟨go, m3, none⟩ = some (.int .i64 (rd st (m3 : Int)))) (ds := []) #[false, false, false, false, false, false, false, false, false, false, false, false, false, false] (by kernel_rfl) rfl rfl (HC3.out HW.out.drew) (fun hHeld => ?_); refine with_tabW MM26_tab MM26_bits (fun HT_ HW_ => ?_)
                  generalize hwd : wc.drew = wd at hHeld ⊢
                  refine pure_ (i := 0) (N := some 113) (v := ?_) (a' := ?_) #[true, false, false, false, false, false, false, false, false, false, false, false, false, false] rfl rfl (any_of HT_.out (by kernel_rfl)) (fun _ _ _ h => h) (Or.inl ⟨by rfl, ?_⟩) ?_ ?_
                  rotate_left
                  · intro w'
                    go_simp
                    with_reducible rfl
                  rotate_left
                  · simp only [Act.put, List.setIfInBounds_toArray, List.set_cons_zero, List.set_cons_succ, i64_w, i32_w]
                    rfl
                  refine pure_ (i := 1) (N := some 114) (v := ?_) (a' := ?_) #[true, true, false, false, false, false, false, false, false, false, false, false, false, false] rfl rfl (any_of HT_.out (by kernel_rfl)) (fun _ _ _ h => h) (Or.inl ⟨by rfl, ?_⟩) ?_ ?_
                  rotate_left
                  · intro w'
                    go_simp
                    with_reducible rfl
                  rotate_left
                  · simp only [Act.put, List.setIfInBounds_toArray, List.set_cons_zero, List.set_cons_succ, i64_w, i32_w]
                    rfl
                  refine pure_ (i := 2) (N := some 115) (v := ?_) (a' := ?_) #[true, true, true, false, false, false, false, false, false, false, false, false, false, false] rfl rfl (any_of HT_.out (by kernel_rfl)) (fun _ _ _ h => h) (Or.inl ⟨by rfl, ?_⟩) ?_ ?_
                  rotate_left
                  · intro w'
                    go_simp
                    with_reducible rfl
                  rotate_left
                  · simp only [Act.put, List.setIfInBounds_toArray, List.set_cons_zero, List.set_cons_succ, i64_w, i32_w]
                    rfl
                  refine take_ (i := 3) (N := some 116) (v := ?_) (a' := ?_) #[true, true, true, true, false, false, false, false, false, false, false, false, false, false] rfl rfl (take_ofW HT_.out HW_.out (by kernel_rfl)) (fun _ _ _ h => h) (Or.inl ⟨by rfl, ?_⟩) hHeld ?_ ?_
                  rotate_left
                  · rintro w' ⟨s0, s1, s2⟩
                    go_simp
                    with_reducible rfl
                  rotate_left
                  · simp only [Act.put, List.setIfInBounds_toArray, List.set_cons_zero, List.set_cons_succ, i64_w, i32_w]
                    rfl
                  refine pure_ (i := 4) (N := some 117) (v := ?_) (a' := ?_) #[true, true, true, true, true, false, false, false, false, false, false, false, false, false] rfl rfl (any_of HT_.out (by kernel_rfl)) (fun _ _ _ h => h) (Or.inl ⟨by rfl, ?_⟩) ?_ ?_
                  rotate_left
                  · intro w'
                    go_simp
                    with_reducible rfl
                  rotate_left
                  · simp only [Act.put, List.setIfInBounds_toArray, List.set_cons_zero, List.set_cons_succ, i64_w, i32_w]
                    rfl
                  refine pure_ (i := 5) (N := some 118) (v := ?_) (a' := ?_) #[true, true, true, true, true, true, false, false, false, false, false, false, false, false] rfl rfl (any_of HT_.out (by kernel_rfl)) (fun _ _ _ h => h) (Or.inl ⟨by rfl, ?_⟩) ?_ ?_
                  rotate_left
                  · intro w'
                    go_simp
                    with_reducible rfl
                  rotate_left
                  · simp only [Act.put, List.setIfInBounds_toArray, List.set_cons_zero, List.set_cons_succ, i64_w, i32_w]
                    rfl
                  refine pure_ (i := 6) (N := some 119) (v := ?_) (a' := ?_) #[true, true, true, true, true, true, true, false, false, false, false, false, false, false] rfl rfl (any_of HT_.out (by kernel_rfl)) (fun _ _ _ h => h) (Or.inl ⟨by rfl, ?_⟩) ?_ ?_
                  rotate_left
                  · intro w'
                    go_simp
                    with_reducible rfl
                  rotate_left
                  · simp only [Act.put, List.setIfInBounds_toArray, List.set_cons_zero, List.set_cons_succ, i64_w, i32_w]
                    rfl
                  refine take_ (i := 7) (N := some 120) (v := ?_) (a' := ?_) #[true, true, true, true, true, true, true, true, false, false, false, false, false, false] rfl rfl (take_ofW HT_.out HW_.out (by kernel_rfl)) (fun _ _ _ h => h) (Or.inl ⟨by rfl, ?_⟩) hHeld ?_ ?_
                  rotate_left
                  · rintro w' ⟨s0, s1, s2⟩
                    go_simp
                    with_reducible rfl
                  rotate_left
                  · simp only [Act.put, List.setIfInBounds_toArray, List.set_cons_zero, List.set_cons_succ, i64_w, i32_w]
                    rfl
                  refine take_ (i := 8) (N := some 121) (v := ?_) (a' := ?_) #[true, true, true, true, true, true, true, true, true, false, false, false, false, false] rfl rfl (take_ofW HT_.out HW_.out (by kernel_rfl)) (fun _ _ _ h => h) (Or.inl ⟨by rfl, ?_⟩) hHeld ?_ ?_
                  rotate_left
                  · rintro w' ⟨s0, s1, s2⟩
                    go_simp
                    with_reducible rfl
                  rotate_left
                  · simp only [Act.put, List.setIfInBounds_toArray, List.set_cons_zero, List.set_cons_succ, i64_w, i32_w]
                    rfl
                  refine pure_ (i := 9) (N := some 122) (v := ?_) (a' := ?_) #[true, true, true, true, true, true, true, true, true, true, false, false, false, false] rfl rfl (any_of HT_.out (by kernel_rfl)) (fun _ _ _ h => h) (Or.inl ⟨by rfl, ?_⟩) ?_ ?_
                  rotate_left
                  · intro w'
                    go_simp
                    with_reducible rfl
                  rotate_left
                  · simp only [Act.put, List.setIfInBounds_toArray, List.set_cons_zero, List.set_cons_succ, i64_w, i32_w]
                    rfl
                  refine pure_ (i := 10) (N := some 123) (v := ?_) (a' := ?_) #[true, true, true, true, true, true, true, true, true, true, true, false, false, false] rfl rfl (any_of HT_.out (by kernel_rfl)) (fun _ _ _ h => h) (Or.inl ⟨by rfl, ?_⟩) ?_ ?_
                  rotate_left
                  · intro w'
                    go_simp
                    with_reducible rfl
                  rotate_left
                  · simp only [Act.put, List.setIfInBounds_toArray, List.set_cons_zero, List.set_cons_succ, i64_w, i32_w]
                    rfl
                  refine take_ (i := 11) (N := some 124) (v := ?_) (a' := ?_) #[true, true, true, true, true, true, true, true, true, true, true, true, false, false] rfl rfl (take_ofW HT_.out HW_.out (by kernel_rfl)) (fun _ _ _ h => h) (Or.inl ⟨by rfl, ?_⟩) hHeld ?_ ?_
                  rotate_left
                  · rintro w' ⟨s0, s1, s2⟩
                    go_simp
                    with_reducible rfl
                  rotate_left
                  · simp only [Act.put, List.setIfInBounds_toArray, List.set_cons_zero, List.set_cons_succ, i64_w, i32_w]
                    rfl
                  refine pure_ (i := 12) (N := some 125) (v := ?_) (a' := ?_) #[true, true, true, true, true, true, true, true, true, true, true, true, true, false] rfl rfl (any_of HT_.out (by kernel_rfl)) (fun _ _ _ h => h) (Or.inl ⟨by rfl, ?_⟩) ?_ ?_
                  rotate_left
                  · intro w'
                    go_simp
                    with_reducible rfl
                  rotate_left
                  · simp only [Act.put, List.setIfInBounds_toArray, List.set_cons_zero, List.set_cons_succ, i64_w, i32_w]
                    rfl
                  refine pure_ (i := 13) (N := some 126) (v := ?_) (a' := ?_) #[true, true, true, true, true, true, true, true, true, true, true, true, true, true] rfl rfl (any_of HT_.out (by kernel_rfl)) (fun _ _ _ h => h) (Or.inl ⟨by rfl, ?_⟩) ?_ ?_
                  rotate_left
                  · intro w'
                    go_simp
                    with_reducible rfl
                  rotate_left
                  · simp only [Act.put, List.setIfInBounds_toArray, List.set_cons_zero, List.set_cons_succ, i64_w, i32_w]
                    rfl
                  refine done_ (done_of HT_.out (by kernel_rfl)) ?_
                  try go_wp2
                  go_meet
                  case rel => exact ⟨rfl, ⟨by rw [← hwd]; exact HW.out.drew⟩⟩
                · have g2 : decide (2 ≤ (m1 : Int)) = false := decide_eq_false (by have := M1'.out; omega)
                  show Code.wp _ _ _ _ _
                  refine start_ (n := 14) (S := fun w' => w'.cell? ⟨g6, 0, none⟩ = some (.slice (some ⟨go, 0, none⟩) st.length c6)) (ds := []) #[false, false, false, false, false, false, false, false, false, false, false, false, false, false] (by kernel_rfl) rfl rfl (HW.out.drew.at.1) (fun hHeld => ?_); refine with_tabW MM26_tab MM26_bits (fun HT_ HW_ => ?_)
                  generalize hwd : wc.drew = wd at hHeld ⊢
                  refine pure_ (i := 0) (N := some 113) (v := ?_) (a' := ?_) #[true, false, false, false, false, false, false, false, false, false, false, false, false, false] rfl rfl (any_of HT_.out (by kernel_rfl)) (fun _ _ _ h => h) (Or.inl ⟨by rfl, ?_⟩) ?_ ?_
                  rotate_left
                  · intro w'
                    go_simp
                    with_reducible rfl
                  rotate_left
                  · simp only [Act.put, List.setIfInBounds_toArray, List.set_cons_zero, List.set_cons_succ, i64_w, i32_w]
                    rfl
                  refine pure_ (i := 1) (N := some 114) (v := ?_) (a' := ?_) #[true, true, false, false, false, false, false, false, false, false, false, false, false, false] rfl rfl (any_of HT_.out (by kernel_rfl)) (fun _ _ _ h => h) (Or.inl ⟨by rfl, ?_⟩) ?_ ?_
                  rotate_left
                  · intro w'
                    go_simp
                    with_reducible rfl
                  rotate_left
                  · simp only [Act.put, List.setIfInBounds_toArray, List.set_cons_zero, List.set_cons_succ, i64_w, i32_w]
                    rfl
                  refine pure_ (i := 2) (N := some 115) (v := ?_) (a' := ?_) #[true, true, true, false, false, false, false, false, false, false, false, false, false, false] rfl rfl (any_of HT_.out (by kernel_rfl)) (fun _ _ _ h => h) (Or.inl ⟨by rfl, ?_⟩) ?_ ?_
                  rotate_left
                  · intro w'
                    go_simp
                    with_reducible rfl
                  rotate_left
                  · simp only [Act.put, List.setIfInBounds_toArray, List.set_cons_zero, List.set_cons_succ, i64_w, i32_w]
                    rfl
                  refine pure_ (i := 3) (N := some 116) (v := undef) (a' := ?_) #[true, true, true, true, false, false, false, false, false, false, false, false, false, false] rfl rfl (any_of HT_.out (by kernel_rfl)) (fun _ _ _ h => h) (Or.inr ⟨by rfl, rfl⟩) ?_ ?_
                  rotate_left
                  · simp only [Act.put, List.setIfInBounds_toArray, List.set_cons_zero, List.set_cons_succ]
                    rfl
                  refine pure_ (i := 4) (N := some 117) (v := undef) (a' := ?_) #[true, true, true, true, true, false, false, false, false, false, false, false, false, false] rfl rfl (any_of HT_.out (by kernel_rfl)) (fun _ _ _ h => h) (Or.inr ⟨by rfl, rfl⟩) ?_ ?_
                  rotate_left
                  · simp only [Act.put, List.setIfInBounds_toArray, List.set_cons_zero, List.set_cons_succ]
                    rfl
                  refine pure_ (i := 5) (N := some 118) (v := undef) (a' := ?_) #[true, true, true, true, true, true, false, false, false, false, false, false, false, false] rfl rfl (any_of HT_.out (by kernel_rfl)) (fun _ _ _ h => h) (Or.inr ⟨by rfl, rfl⟩) ?_ ?_
                  rotate_left
                  · simp only [Act.put, List.setIfInBounds_toArray, List.set_cons_zero, List.set_cons_succ]
                    rfl
                  refine pure_ (i := 6) (N := some 119) (v := undef) (a' := ?_) #[true, true, true, true, true, true, true, false, false, false, false, false, false, false] rfl rfl (any_of HT_.out (by kernel_rfl)) (fun _ _ _ h => h) (Or.inr ⟨by rfl, rfl⟩) ?_ ?_
                  rotate_left
                  · simp only [Act.put, List.setIfInBounds_toArray, List.set_cons_zero, List.set_cons_succ]
                    rfl
                  refine pure_ (i := 7) (N := some 120) (v := undef) (a' := ?_) #[true, true, true, true, true, true, true, true, false, false, false, false, false, false] rfl rfl (any_of HT_.out (by kernel_rfl)) (fun _ _ _ h => h) (Or.inr ⟨by rfl, rfl⟩) ?_ ?_
                  rotate_left
                  · simp only [Act.put, List.setIfInBounds_toArray, List.set_cons_zero, List.set_cons_succ]
                    rfl
                  refine pure_ (i := 8) (N := some 121) (v := undef) (a' := ?_) #[true, true, true, true, true, true, true, true, true, false, false, false, false, false] rfl rfl (any_of HT_.out (by kernel_rfl)) (fun _ _ _ h => h) (Or.inr ⟨by rfl, rfl⟩) ?_ ?_
                  rotate_left
                  · simp only [Act.put, List.setIfInBounds_toArray, List.set_cons_zero, List.set_cons_succ]
                    rfl
                  refine pure_ (i := 9) (N := some 122) (v := undef) (a' := ?_) #[true, true, true, true, true, true, true, true, true, true, false, false, false, false] rfl rfl (any_of HT_.out (by kernel_rfl)) (fun _ _ _ h => h) (Or.inr ⟨by rfl, rfl⟩) ?_ ?_
                  rotate_left
                  · simp only [Act.put, List.setIfInBounds_toArray, List.set_cons_zero, List.set_cons_succ]
                    rfl
                  refine pure_ (i := 10) (N := some 123) (v := undef) (a' := ?_) #[true, true, true, true, true, true, true, true, true, true, true, false, false, false] rfl rfl (any_of HT_.out (by kernel_rfl)) (fun _ _ _ h => h) (Or.inr ⟨by rfl, rfl⟩) ?_ ?_
                  rotate_left
                  · simp only [Act.put, List.setIfInBounds_toArray, List.set_cons_zero, List.set_cons_succ]
                    rfl
                  refine pure_ (i := 11) (N := some 124) (v := undef) (a' := ?_) #[true, true, true, true, true, true, true, true, true, true, true, true, false, false] rfl rfl (any_of HT_.out (by kernel_rfl)) (fun _ _ _ h => h) (Or.inr ⟨by rfl, rfl⟩) ?_ ?_
                  rotate_left
                  · simp only [Act.put, List.setIfInBounds_toArray, List.set_cons_zero, List.set_cons_succ]
                    rfl
                  refine pure_ (i := 12) (N := some 125) (v := undef) (a' := ?_) #[true, true, true, true, true, true, true, true, true, true, true, true, true, false] rfl rfl (any_of HT_.out (by kernel_rfl)) (fun _ _ _ h => h) (Or.inr ⟨by rfl, rfl⟩) ?_ ?_
                  rotate_left
                  · simp only [Act.put, List.setIfInBounds_toArray, List.set_cons_zero, List.set_cons_succ]
                    rfl
                  refine pure_ (i := 13) (N := some 126) (v := ?_) (a' := ?_) #[true, true, true, true, true, true, true, true, true, true, true, true, true, true] rfl rfl (any_of HT_.out (by kernel_rfl)) (fun _ _ _ h => h) (Or.inl ⟨by rfl, ?_⟩) ?_ ?_
                  rotate_left
                  · intro w'
                    go_simp
                    with_reducible rfl
                  rotate_left
                  · simp only [Act.put, List.setIfInBounds_toArray, List.set_cons_zero, List.set_cons_succ, i64_w, i32_w]
                    rfl
                  refine done_ (done_of HT_.out (by kernel_rfl)) ?_
                  try go_wp2
                  go_meet
                  case rel => exact ⟨rfl, ⟨by rw [← hwd]; exact HW.out.drew⟩⟩
              case rest =>
                clear HW
                obtain ⟨rfl, HW⟩ := hcut
                have HAT := Aside0.mk HE.out.2
                go_wp2_with (go_at_call 63; (with_reducible refine (merge_st m2 HNE.out HB5.out HB6.out HW.out (1000000 * (i : Int)) (by have := HI60.out; omega) HS.out (by have := M1'.out; have := M2'.out; omega) (by have := HST.out; omega) (by have := HI.out; have := HL.out; omega)).mono ?_); rintro e w' ⟨rfl, v5', v6', hW'⟩; have HW' := Aside0.mk hW'; clear hW')
                have HLEN := Aside0.mk (mp_len (st := st) (a := m2) (by have := M1'.out; have := M2'.out; omega))
                go_roundg (gk - 1)
                case measure => have := HK.out; have := M2'.out; omega
                case rel => exact ⟨i, plan ++ [rowL st (m2 : Int)], stepL st m2, v5', v6', hi, rfl, ⟨by have hz := mp_I3 (by have := HK.out; have := M2'.out; omega) (by have := HA.out; omega) HAT.out HRR.out; rw [HIL.out, List.drop_length]; exact hz⟩, ⟨by have := HLEN.out; have := HK.out; have := M2'.out; omega⟩, ⟨by have := HLEN.out; have := HI.out; have := M2'.out; rw [List.length_append, List.length_singleton]; omega⟩, ⟨mp_step (by have := M1'.out; have := M2'.out; omega) HS.out⟩, HW'⟩
  · have hl' : decide (60 < (l0.length : Int)) = true := decide_eq_true (by omega)
    have hR := HR.out
    rw [if_neg (by unfold okL; simp; omega)] at hR
    subst hR
    clear HR
    go_enter Try.func30, Try.ntmps30
    go_wp2
    go_ret
    exact ⟨_, rfl, Kd.S_nil _ _ _ _ _, Below.refl _ _⟩
def impl_MergePlan.f (l0 : List Int) : Option (List (List Int)) := some (if okL l0 = true then planI (2 * l0.length) l0 [] [] else [])
theorem impl_MergePlan.calls (A0 : Option Addr) (c0 : Nat) (l0 : List Int) (r : List (List Int)) (w : World) (hr0 : Kd.C (Kd.int .i64) w A0 l0.length l0) (hc0 : l0.length ≤ c0) (h : impl_MergePlan.f l0 = some r) :
    Calls Try.prog 30 #[.slice A0 l0.length c0] w fun e w' => ∃ v0_ : Value, e = .returned (v0_) ∧ Kd.S (Kd.slice 3 (Kd.int .i64)) 33 w' w.heap.size (fun _ => True) v0_ r ∧ Below w.heap.size w w' := by
  obtain rfl := Option.some.inj h
  refine (mergePlan_all A0 c0 l0 w hr0 hc0).mono ?_
  rintro e w' ⟨v0_, rfl, hS, hB⟩
  exact ⟨v0_, rfl, Kd.S_mono hS (fun _ _ => trivial), hB⟩

end Go.Proofs.Ytpnamllkeaaeeaa.XFnExactMergePlan
