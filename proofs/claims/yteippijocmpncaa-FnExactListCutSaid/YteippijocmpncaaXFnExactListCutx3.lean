/- The functions that FnExactListCut uses, as functions of Lean, and that the Go code comes to their answers. Written by a program of this session. -/
import Derived.Test.YteippijocmpncaaXFnExactListCutx0
import Derived.Test.YteippijocmpncaaXFnExactListCutx1
import Derived.Test.YteippijocmpncaaXFnExactListCutx2
namespace Go.Proofs.Yteippijocmpncaa.XFnExactListCut
open Go.RowKit Go.Proofs.YteippijocmpncaaW.PrintWords Go.Proofs.YteippijocmpncaaW.PrintLast Go.Proofs.YteippijocmpncaaW.PrintMore
attribute [local go_sem] max2_int min2_int max_two min_two max_three min_three max_four min_four   -- for this text's walks alone
set_option linter.unusedVariables false
set_option linter.unusedSimpArgs false

/-! ### spec_ListCut: function 28 -/
set_option maxRecDepth 100000 in
mutual
def spec_ListCut.j0 : Nat → List Int → Bool → Int → Int → Int → Bool → Bool → Option (List Int)
  | 0, _, _, _, _, _, _, _ => none
  | k + 1, x0, x16, x112000, x112001, x112002, x112003, x112004 => if x16 = true then (some ([] : List Int)) else ((spec_cutOf.f k (x0.length : Int) x112000 x112001 x112002 x112003 x112004).bind fun bt114 => (spec_ListCut.l0 k x0 bt114.1 bt114.2 (([] : List Int)) 0 x112000 x112001 x112002 x112003 x112004))
def spec_ListCut.l0 : Nat → List Int → Int → Int → List Int → Int → Int → Int → Int → Bool → Bool → Option (List Int)
  | 0, _, _, _, _, _, _, _, _, _, _ => none
  | k + 1, x0, x5, x6, x7, x8, x112000, x112001, x112002, x112003, x112004 => if x8 < x6 then (if 0 ≤ (wrap64 (x5 + (wrap64 (x8 * x112002)))) then (if (wrap64 (x5 + (wrap64 (x8 * x112002)))) < (x0.length : Int) then (if x7.length < 17592186044416 then (spec_ListCut.l0 k x0 x5 x6 (x7 ++ [rd x0 (wrap64 (x5 + (wrap64 (x8 * x112002))))]) (wrap64 (x8 + 1)) x112000 x112001 x112002 x112003 x112004) else (none)) else (none)) else (none)) else (some x7)
end
def spec_ListCut.f (k : Nat) (l0 : List Int) (a1_0 : Int) (a1_1 : Int) (a1_2 : Int) (a1_3 : Bool) (a1_4 : Bool) : Option (List Int) := (spec_validList.f l0).bind fun t112 => (if t112 = true then ((spec_validCut.f a1_0 a1_1 a1_2 a1_3 a1_4).bind fun t113 => (spec_ListCut.j0 k l0 (!t113) a1_0 a1_1 a1_2 a1_3 a1_4)) else (spec_ListCut.j0 k l0 true a1_0 a1_1 a1_2 a1_3 a1_4))
set_option maxRecDepth 100000 in
theorem spec_ListCut.mono_l : ∀ k, (∀ y0 y1 y2 y3 y4 y5 y6, LeO (spec_ListCut.j0 k y0 y1 y2 y3 y4 y5 y6) (spec_ListCut.j0 (k + 1) y0 y1 y2 y3 y4 y5 y6)) ∧ (∀ y0 y1 y2 y3 y4 y5 y6 y7 y8 y9, LeO (spec_ListCut.l0 k y0 y1 y2 y3 y4 y5 y6 y7 y8 y9) (spec_ListCut.l0 (k + 1) y0 y1 y2 y3 y4 y5 y6 y7 y8 y9))
  | 0 => ⟨fun _ _ _ _ _ _ _ r h => by simp [spec_ListCut.j0] at h, fun _ _ _ _ _ _ _ _ _ _ r h => by simp [spec_ListCut.l0] at h⟩
  | k + 1 => by
    obtain ⟨ih0, ih1⟩ := spec_ListCut.mono_l k
    refine ⟨?_, ?_⟩
    · intro y0 y1 y2 y3 y4 y5 y6
      unfold spec_ListCut.j0
      repeat' first
      | (with_reducible exact ih0 _ _ _ _ _ _ _)
      | (with_reducible exact ih1 _ _ _ _ _ _ _ _ _ _)
      | (with_reducible exact spec_cutOf.mono _ _ _ _ _ _ _)
      | (with_reducible exact LeO.refl _)
      | (with_reducible exact LeO.none _)
      | (with_reducible refine LeO.ite ?_ ?_)
      | (with_reducible refine LeO.bind ?_ (fun _ => ?_))
      | exact ih0 _ _ _ _ _ _ _
      | exact ih1 _ _ _ _ _ _ _ _ _ _
      | exact spec_cutOf.mono _ _ _ _ _ _ _
      | exact LeO.none _
      | refine LeO.ite ?_ ?_
      | refine LeO.bind ?_ (fun _ => ?_)
    · intro y0 y1 y2 y3 y4 y5 y6 y7 y8 y9
      unfold spec_ListCut.l0
      repeat' first
      | (with_reducible exact ih0 _ _ _ _ _ _ _)
      | (with_reducible exact ih1 _ _ _ _ _ _ _ _ _ _)
      | (with_reducible exact spec_cutOf.mono _ _ _ _ _ _ _)
      | (with_reducible exact LeO.refl _)
      | (with_reducible exact LeO.none _)
      | (with_reducible refine LeO.ite ?_ ?_)
      | (with_reducible refine LeO.bind ?_ (fun _ => ?_))
      | exact ih0 _ _ _ _ _ _ _
      | exact ih1 _ _ _ _ _ _ _ _ _ _
      | exact spec_cutOf.mono _ _ _ _ _ _ _
      | exact LeO.none _
      | refine LeO.ite ?_ ?_
      | refine LeO.bind ?_ (fun _ => ?_)
set_option maxRecDepth 100000 in
theorem spec_ListCut.mono : ∀ a0 a1 a2 a3 a4 a5 k, LeO (spec_ListCut.f k a0 a1 a2 a3 a4 a5) (spec_ListCut.f (k + 1) a0 a1 a2 a3 a4 a5) := by
  intro a0 a1 a2 a3 a4 a5 k
  obtain ⟨ih0, ih1⟩ := spec_ListCut.mono_l k
  unfold spec_ListCut.f
  repeat' first
      | (with_reducible exact ih0 _ _ _ _ _ _ _)
      | (with_reducible exact ih1 _ _ _ _ _ _ _ _ _ _)
      | (with_reducible exact spec_cutOf.mono _ _ _ _ _ _ _)
      | (with_reducible exact LeO.refl _)
      | (with_reducible exact LeO.none _)
      | (with_reducible refine LeO.ite ?_ ?_)
      | (with_reducible refine LeO.bind ?_ (fun _ => ?_))
      | exact ih0 _ _ _ _ _ _ _
      | exact ih1 _ _ _ _ _ _ _ _ _ _
      | exact spec_cutOf.mono _ _ _ _ _ _ _
      | exact LeO.none _
      | refine LeO.ite ?_ ?_
      | refine LeO.bind ?_ (fun _ => ?_)
set_option maxHeartbeats 8000000 in
set_option maxRecDepth 100000 in
theorem spec_ListCut.calls (k : Nat) (A0 : Option Addr) (c0 : Nat) (l0 : List Int) (a1_0 : Int) (a1_1 : Int) (a1_2 : Int) (a1_3 : Bool) (a1_4 : Bool) (r : List Int) (w : World) (hr0 : Kd.C (Kd.int .i64) w A0 l0.length l0) (hc0 : l0.length ≤ c0) (h : spec_ListCut.f k l0 a1_0 a1_1 a1_2 a1_3 a1_4 = some r) :
    Calls Try.prog 28 #[.slice A0 l0.length c0, .agg #[.int .i64 a1_0, .int .i64 a1_1, .int .i64 a1_2, .bool a1_3, .bool a1_4]] w fun e w' => ∃ v0_ : Value, e = .returned (v0_) ∧ Kd.R (Kd.int .i64) 3 w' w.heap.size (fun _ => True) v0_ r ∧ Below w.heap.size w w' := by
  have hu24 := Try.underlying24
  have HR0 := Aside0.mk hr0
  have HC0 := Aside0.mk hc0
  clear hr0 hc0
  have HB := Aside0.mk (Below.refl w.heap.size w)
  have H : ((spec_validList.f l0).bind fun t112 => (if t112 = true then ((spec_validCut.f a1_0 a1_1 a1_2 a1_3 a1_4).bind fun t113 => (spec_ListCut.j0 k l0 (!t113) a1_0 a1_1 a1_2 a1_3 a1_4)) else (spec_ListCut.j0 k l0 true a1_0 a1_1 a1_2 a1_3 a1_4))) = some r := h
  clear h
  have HC3 := Aside0.mk H
  clear H
  go_enter Try.func28, Try.ntmps28
  go_upto_region 1 with (first | ((with_reducible refine gate_dst (N := 3) rfl ?_); refine box_event ?hg (N := 3) ?hd (cs := #[.int .i64 a1_0, .int .i64 a1_1, .int .i64 a1_2, .bool a1_3, .bool a1_4]) (t := 24) ?hr ?_; (case hd => rfl); (case hg => rfl); (case hr => first | (go_simp; done) | (go_simp; rfl)); intro gb111 hg w4 hbox hb; have n0_ := Aside0.mk (below_step (by repeat (first | (with_reducible first | exact HB.out | apply below_alloc | apply pw_below_drewN | apply below_drew1) | exact HB.out)) hb); have n1_ := Aside0.mk (hbox); have n2_ := Aside0.mk ((by rw [hg]; exact (below_size (by repeat (first | (with_reducible first | exact HB.out | apply below_alloc | apply pw_below_drewN | apply below_drew1) | exact HB.out))) : w.heap.size ≤ gb111)); have n3_ := Aside0.mk ((by rw [hg]; exact (below_size (by repeat (first | (with_reducible first | exact HB.out | apply below_alloc | apply pw_below_drewN | apply below_drew1) | exact HB.out))) : w.heap.size ≤ gb111)); clear HB; have HB := n0_; have BK111 := n1_; have GW111 := n2_; have GE111 := n3_; clear n0_ n1_ n2_ n3_; clear hb hbox hg))
  (try simp only [Act.put, List.setIfInBounds_toArray, List.set_cons_zero, List.set_cons_succ])
  go_cut [16] (fun v16 wc => ∃ (kq : Nat) (x16_2 : Bool), v16 = .bool x16_2 ∧ Aside0 (spec_ListCut.j0 kq l0 x16_2 a1_0 a1_1 a1_2 a1_3 a1_4 = some r) ∧ Aside0 (kq ≤ k) ∧ Aside0 (wc.heap[gb111]? = some (.cells #[.int .i64 a1_0, .int .i64 a1_1, .int .i64 a1_2, .bool a1_3, .bool a1_4] 24 (0, 0))) ∧ Aside0 (Below w.heap.size w wc))
  case first =>
    have H := HC3.out
    clear HC3
    replace H := Option.bind_eq_some_iff.mp H
    obtain ⟨t112, A50, H⟩ := H
    replace H : (if t112 = true then ((spec_validCut.f a1_0 a1_1 a1_2 a1_3 a1_4).bind fun t113 => (spec_ListCut.j0 k l0 (!t113) a1_0 a1_1 a1_2 a1_3 a1_4)) else (spec_ListCut.j0 k l0 true a1_0 a1_1 a1_2 a1_3 a1_4)) = some r := H
    have A5 := Aside0.mk A50
    clear A50
    by_cases c6 : t112 = true
    · subst c6
      have H1 : ((spec_validCut.f a1_0 a1_1 a1_2 a1_3 a1_4).bind fun t113 => (spec_ListCut.j0 k l0 (!t113) a1_0 a1_1 a1_2 a1_3 a1_4)) = some r := by rw [if_pos rfl] at H; exact H
      clear H
      have H := H1
      clear H1
      replace H := Option.bind_eq_some_iff.mp H
      obtain ⟨t113, A70, H⟩ := H
      replace H : (spec_ListCut.j0 k l0 (!t113) a1_0 a1_1 a1_2 a1_3 a1_4) = some r := H
      have A7 := Aside0.mk A70
      clear A70
      have H' := Aside0.mk H
      clear H
      go_wp2_with (first | ((with_reducible refine gate_callee (f := 55) rfl ?_); refine goesL_ (some 10) rfl rfl Try.func55 (by kernel_rfl) rfl #[.slice A0 l0.length c0] rfl (by (try simp only [List.map_toArray, List.map_cons, List.map_nil]); first | done | rfl | (simp only [List.length_drop, List.length_take]; rfl)) ?_; (with_reducible refine (spec_validList.calls _ _ l0 true _ ?side1 ?side2 A5.out).mono ?_); (case side1 => repeat (first | exact (Kd.C_below HR0.out HB.out) | (with_reducible refine Kd.C_alloc ?_ _) | (with_reducible refine Kd.C_drewN ?_ _) | (with_reducible refine Kd.C_drew ?_))); (case side2 => exact HC0.out); rintro e w' ⟨rfl, ⟨nd, rfl⟩⟩; refine ⟨_, rfl, ?_⟩; have hcz8_0 : w4.cell? ⟨gb111, 0, none⟩ = some (.int .i64 a1_0) := (blk_cell BK111.out 0).trans rfl; have hcz8_1 : w4.cell? ⟨gb111, 1, none⟩ = some (.int .i64 a1_1) := (blk_cell BK111.out 1).trans rfl; have hcz8_2 : w4.cell? ⟨gb111, 2, none⟩ = some (.int .i64 a1_2) := (blk_cell BK111.out 2).trans rfl; have hcz8_3 : w4.cell? ⟨gb111, 3, none⟩ = some (.bool a1_3) := (blk_cell BK111.out 3).trans rfl; have hcz8_4 : w4.cell? ⟨gb111, 4, none⟩ = some (.bool a1_4) := (blk_cell BK111.out 4).trans rfl; have hfz8_0 := blk_frozen BK111.out 0; have hfz8_1 := blk_frozen BK111.out 1; have hfz8_2 := blk_frozen BK111.out 2; have hfz8_3 := blk_frozen BK111.out 3; have hfz8_4 := blk_frozen BK111.out 4) | (go_at_call 43; (with_reducible refine (spec_validCut.calls a1_0 a1_1 a1_2 a1_3 a1_4 t113 _ A7.out).mono ?_); rintro e w9 ⟨rfl, hb⟩; have n0_ := Aside0.mk (blk_below (g := gb111) (o := .cells #[.int .i64 a1_0, .int .i64 a1_1, .int .i64 a1_2, .bool a1_3, .bool a1_4] 24 (0, 0)) (by (with_reducible repeat (first | refine blk_drewN ?_ _ | refine blk_drew ?_ | refine blk_alloc ?_ _)); exact BK111.out) hb); have n1_ := Aside0.mk (below_step (by repeat (first | (with_reducible first | exact HB.out | apply below_alloc | apply pw_below_drewN | apply below_drew1 | refine below_set ?_ GE111.out) | exact HB.out)) hb); clear BK111; clear HB; have BK111 := n0_; have HB := n1_; clear n0_ n1_; (try clear hb); (try clear hb2); (try clear hk); (try clear hi)))
      go_meet
      case rel => exact ⟨_, (!t113), (by first | rfl | (simp; done) | (simp [*]; done)), H', ⟨by first | omega | exact Nat.le_refl _⟩, ⟨by (with_reducible repeat (first | refine blk_drewN ?_ _ | refine blk_drew ?_ | refine blk_alloc ?_ _)); exact BK111.out⟩, ⟨by repeat (first | (with_reducible first | exact HB.out | apply below_alloc | apply pw_below_drewN | apply below_drew1 | refine below_set ?_ GE111.out) | exact HB.out)⟩⟩
    · replace c6 := Bool.eq_false_iff.mpr c6
      subst c6
      have H1 : (spec_ListCut.j0 k l0 true a1_0 a1_1 a1_2 a1_3 a1_4) = some r := by rw [if_neg (show ¬ (false = true) by decide)] at H; exact H
      clear H
      have H := H1
      clear H1
      have H' := Aside0.mk H
      clear H
      go_wp2_with (first | ((with_reducible refine gate_callee (f := 55) rfl ?_); refine goesL_ (some 10) rfl rfl Try.func55 (by kernel_rfl) rfl #[.slice A0 l0.length c0] rfl (by (try simp only [List.map_toArray, List.map_cons, List.map_nil]); first | done | rfl | (simp only [List.length_drop, List.length_take]; rfl)) ?_; (with_reducible refine (spec_validList.calls _ _ l0 false _ ?side1 ?side2 A5.out).mono ?_); (case side1 => repeat (first | exact (Kd.C_below HR0.out HB.out) | (with_reducible refine Kd.C_alloc ?_ _) | (with_reducible refine Kd.C_drewN ?_ _) | (with_reducible refine Kd.C_drew ?_))); (case side2 => exact HC0.out); rintro e w' ⟨rfl, ⟨nd, rfl⟩⟩; refine ⟨_, rfl, ?_⟩))
      go_meet
      case rel => exact ⟨_, (true), (by first | rfl | (simp; done) | (simp [*]; done)), H', ⟨by first | omega | exact Nat.le_refl _⟩, ⟨by (with_reducible repeat (first | refine blk_drewN ?_ _ | refine blk_drew ?_ | refine blk_alloc ?_ _)); exact BK111.out⟩, ⟨by repeat (first | (with_reducible first | exact HB.out | apply below_alloc | apply pw_below_drewN | apply below_drew1 | refine below_set ?_ GE111.out) | exact HB.out)⟩⟩
  case rest =>
    clear HC3
    try clear c2
    try clear p2
    try clear c5
    try clear c6
    try clear hcz8_0
    try clear hcz8_1
    try clear hcz8_2
    try clear hcz8_3
    try clear hcz8_4
    try clear hfz8_0
    try clear hfz8_1
    try clear hfz8_2
    try clear hfz8_3
    try clear hfz8_4
    obtain ⟨kq, x16_2, rfl, HA, HJ2, BK111, HB⟩ := hcut
    cases kq with
    | zero => exact absurd HA.out (by simp [spec_ListCut.j0])
    | succ kj2 =>
      have H := HA.out
      clear HA
      simp only [spec_ListCut.j0] at H
      by_cases c10 : x16_2 = true
      · subst c10
        have H1 : (some ([] : List Int)) = some r := by rw [if_pos rfl] at H; exact H
        clear H
        have H := H1
        clear H1
        obtain rfl := Option.some.inj H
        go_wp2
        go_ret
        exact ⟨_, by first | rfl | (simp [errW_none, errW_some] <;> rfl) | (simp [*, errW_none, errW_some] <;> rfl), by first | exact Kd.R_nil _ _ _ _ _ | exact Kd.N_nil _ _ _ _ _ | exact Kd.V_nil _ _ _ _ _ | exact Kd.Q_nil _ _ _ _ _ | exact Kd.S_nil _ _ _ _ _, by repeat (first | (with_reducible first | exact HB.out | apply below_alloc | apply pw_below_drewN | apply below_drew1 | refine below_set ?_ GE111.out) | exact HB.out)⟩
      · replace c10 := Bool.eq_false_iff.mpr c10
        subst c10
        have H1 : ((spec_cutOf.f kj2 (l0.length : Int) a1_0 a1_1 a1_2 a1_3 a1_4).bind fun bt114 => (spec_ListCut.l0 kj2 l0 bt114.1 bt114.2 (([] : List Int)) 0 a1_0 a1_1 a1_2 a1_3 a1_4)) = some r := by rw [if_neg (show ¬ (false = true) by decide)] at H; exact H
        clear H
        have H := H1
        clear H1
        replace H := Option.bind_eq_some_iff.mp H
        obtain ⟨⟨t114, t115⟩, A110, H⟩ := H
        replace H : (spec_ListCut.l0 kj2 l0 t114 t115 (([] : List Int)) 0 a1_0 a1_1 a1_2 a1_3 a1_4) = some r := H
        have A11 := Aside0.mk A110
        clear A110
        obtain ⟨y116, hy116⟩ : ∃ y_ : List Int, y_ = (([] : List Int)) := ⟨_, rfl⟩
        replace H : (spec_ListCut.l0 kj2 l0 t114 t115 y116 0 a1_0 a1_1 a1_2 a1_3 a1_4) = some r := by first | (rw [hy116]; with_reducible exact H) | (have H2_ := (Option.bind_some _ _).symm.trans H; rw [hy116]; with_reducible exact H2_) | (have H2_ := (Option.bind_some _ _).symm.trans H; with_reducible exact H2_) | with_reducible exact H | (rw [hy116]; exact H) | exact H
        have Ny116 := Aside0.mk hy116
        clear hy116
        have H' := Aside0.mk H
        clear H
        have hcz12_0 : wc.cell? ⟨gb111, 0, none⟩ = some (.int .i64 a1_0) := (blk_cell BK111.out 0).trans rfl
        have hcz12_1 : wc.cell? ⟨gb111, 1, none⟩ = some (.int .i64 a1_1) := (blk_cell BK111.out 1).trans rfl
        have hcz12_2 : wc.cell? ⟨gb111, 2, none⟩ = some (.int .i64 a1_2) := (blk_cell BK111.out 2).trans rfl
        have hcz12_3 : wc.cell? ⟨gb111, 3, none⟩ = some (.bool a1_3) := (blk_cell BK111.out 3).trans rfl
        have hcz12_4 : wc.cell? ⟨gb111, 4, none⟩ = some (.bool a1_4) := (blk_cell BK111.out 4).trans rfl
        have hfz12_0 := blk_frozen BK111.out 0
        have hfz12_1 := blk_frozen BK111.out 1
        have hfz12_2 := blk_frozen BK111.out 2
        have hfz12_3 := blk_frozen BK111.out 3
        have hfz12_4 := blk_frozen BK111.out 4
        go_wp2_with (first | ((with_reducible refine gate_callee (f := 46) rfl ?_); refine goesL_ (some 21) rfl rfl Try.func46 (by kernel_rfl) rfl #[.int .i64 (l0.length : Int), .agg #[.int .i64 a1_0, .int .i64 a1_1, .int .i64 a1_2, .bool a1_3, .bool a1_4]] rfl (by (try simp only [List.map_toArray, List.map_cons, List.map_nil]); first | done | rfl | (simp only [List.length_drop, List.length_take]; rfl)) ?_; (with_reducible refine (spec_cutOf.calls kj2 (l0.length : Int) a1_0 a1_1 a1_2 a1_3 a1_4 t114 t115 _ A11.out).mono ?_); rintro e w13 ⟨rfl, hb⟩; refine ⟨_, rfl, ?_⟩; have n0_ := Aside0.mk (blk_below (g := gb111) (o := .cells #[.int .i64 a1_0, .int .i64 a1_1, .int .i64 a1_2, .bool a1_3, .bool a1_4] 24 (0, 0)) (by (with_reducible repeat (first | refine blk_drewN ?_ _ | refine blk_drew ?_ | refine blk_alloc ?_ _)); exact BK111.out) hb); have n1_ := Aside0.mk (below_step (by repeat (first | (with_reducible first | exact HB.out | apply below_alloc | apply pw_below_drewN | apply below_drew1 | refine below_set ?_ GE111.out) | exact HB.out)) hb); clear BK111; clear HB; have BK111 := n0_; have HB := n1_; clear n0_ n1_; (try clear hb); (try clear hb2); (try clear hk); (try clear hi)) | ((with_reducible refine gate_dst (N := 24) rfl ?_); refine Kd.R_lit (Kd.int .i64) _ 3 ?hg (N := 24) ?hd (xs := ([] : List Int)) (inner := []) (ok := fun _ => True) (okp := fun _ => True) ?hr ?hp (fun _ hk => hk) trivial (Below.refl _ _) (Nat.le_refl _) (by simp) ?_; (case hd => rfl); (case hg => rfl); (case hr => first | (go_simp; done) | (go_simp; rfl)); (case hp => exact (Reps.none _ _)); intro v117 w14 ho15 hb hg_ hnew_; clear hg_ hnew_; (first | rw [← Ny116.out] at ho15 | (simp only [Int.reduceToNat] at ho15; rw [← Ny116.out] at ho15)); have n0_ := Aside0.mk (Kd.R_lower ho15 (below_size (by repeat (first | (with_reducible first | exact HB.out | apply below_alloc | apply pw_below_drewN | apply below_drew1 | refine below_set ?_ GE111.out) | exact HB.out)))); have n1_ := Aside0.mk (blk_below (g := gb111) (o := .cells #[.int .i64 a1_0, .int .i64 a1_1, .int .i64 a1_2, .bool a1_3, .bool a1_4] 24 (0, 0)) (by (with_reducible repeat (first | refine blk_drewN ?_ _ | refine blk_drew ?_ | refine blk_alloc ?_ _)); exact BK111.out) hb); have n2_ := Aside0.mk (below_step (by repeat (first | (with_reducible first | exact HB.out | apply below_alloc | apply pw_below_drewN | apply below_drew1 | refine below_set ?_ GE111.out) | exact HB.out)) hb); clear BK111; clear HB; have HO118 := n0_; have BK111 := n1_; have HB := n2_; clear n0_ n1_ n2_; clear hb ho15))
        go_loopg [7, 8] kj2 (fun kq v7 v8 w' => ∃ (x7_2 : List Int) (x8_2 : Int), v8 = .int .i64 x8_2 ∧ Aside0 (spec_ListCut.l0 kq l0 t114 t115 x7_2 x8_2 a1_0 a1_1 a1_2 a1_3 a1_4 = some r) ∧ Aside0 (kq ≤ kj2) ∧ Aside0 (Kd.R (Kd.int .i64) 3 w' w.heap.size (fun _ => True) v7 x7_2) ∧ Aside0 (w'.heap[gb111]? = some (.cells #[.int .i64 a1_0, .int .i64 a1_1, .int .i64 a1_2, .bool a1_3, .bool a1_4] 24 (0, 0))) ∧ Aside0 (Below w.heap.size w w'))
        case atStart => exact ⟨(y116), (0), (by first | rfl | (simp; done) | (simp [*]; done)), H', ⟨Nat.le_refl _⟩, ⟨by (with_reducible repeat (first | apply Kd.R_alloc | apply Kd.R_drewN | apply Kd.R_drew)); exact HO118.out⟩, ⟨by (with_reducible repeat (first | refine blk_drewN ?_ _ | refine blk_drew ?_ | refine blk_alloc ?_ _)); exact BK111.out⟩, ⟨by repeat (first | (with_reducible first | exact HB.out | apply below_alloc | apply pw_below_drewN | apply below_drew1 | refine below_set ?_ GE111.out) | exact HB.out)⟩⟩
        case round =>
          clear H'
          try clear c1
          try clear c2
          try clear p2
          try clear c4
          try clear c5
          try clear c6
          try clear c10
          try clear hcz12_0
          try clear hcz12_1
          try clear hcz12_2
          try clear hcz12_3
          try clear hcz12_4
          try clear hcz8_0
          try clear hcz8_1
          try clear hcz8_2
          try clear hcz8_3
          try clear hcz8_4
          try clear hfz12_0
          try clear hfz12_1
          try clear hfz12_2
          try clear hfz12_3
          try clear hfz12_4
          try clear hfz8_0
          try clear hfz8_1
          try clear hfz8_2
          try clear hfz8_3
          try clear hfz8_4
          try clear p2
          obtain ⟨x7_2, x8_2, rfl, HA, HK2, HO_7, BK111, HB⟩ := hrel
          cases gk with
          | zero => exact absurd HA.out (by simp [spec_ListCut.l0])
          | succ k2 =>
            have H := HA.out
            clear HA
            simp only [spec_ListCut.l0] at H
            by_cases c16 : x8_2 < t115
            · rw [if_pos c16] at H
              have c16b0 : decide (x8_2 < t115) = true := decide_eq_true c16
              clear c16
              obtain ⟨ji17, hji17⟩ : ∃ j_ : Int, (wrap64 (t114 + (wrap64 (x8_2 * a1_2)))) = j_ := ⟨_, rfl⟩
              replace H : (if 0 ≤ (ji17) then (if (ji17) < (l0.length : Int) then (if x7_2.length < 17592186044416 then (spec_ListCut.l0 k2 l0 t114 t115 (x7_2 ++ [rd l0 (ji17)]) (wrap64 (x8_2 + 1)) a1_0 a1_1 a1_2 a1_3 a1_4) else (none)) else (none)) else (none)) = some r := by first | (rw [hji17] at H; exact H) | (simp only [hji17] at H ⊢; exact H)
              have hji17w : (IntKind.i64.wrap (t114 + (wrap64 (x8_2 * a1_2)))) = ji17 := (i64_w _).trans hji17
              by_cases c18 : 0 ≤ (ji17)
              · rw [if_pos c18] at H
                have c18b0 : decide (0 ≤ (ji17)) = true := decide_eq_true c18
                clear c18
                by_cases c19 : (ji17) < (l0.length : Int)
                · rw [if_pos c19] at H
                  have c19b0 : decide ((ji17) < (l0.length : Int)) = true := decide_eq_true c19
                  clear c19
                  by_cases c20 : x7_2.length < 17592186044416
                  · rw [if_pos c20] at H
                    have LMc20 := Aside0.mk c20
                    clear c20
                    obtain ⟨y120, hy120⟩ : ∃ y_ : List Int, y_ = (x7_2 ++ [rd l0 (ji17)]) := ⟨_, rfl⟩
                    replace H : (spec_ListCut.l0 k2 l0 t114 t115 y120 (wrap64 (x8_2 + 1)) a1_0 a1_1 a1_2 a1_3 a1_4) = some r := by first | (rw [hy120]; with_reducible exact H) | (have H2_ := (Option.bind_some _ _).symm.trans H; rw [hy120]; with_reducible exact H2_) | (have H2_ := (Option.bind_some _ _).symm.trans H; with_reducible exact H2_) | with_reducible exact H | (rw [hy120]; exact H) | exact H
                    have Ny120 := Aside0.mk hy120
                    clear hy120
                    have H' := Aside0.mk H
                    clear H
                    have hcz21_0 : wr.cell? ⟨gb111, 0, none⟩ = some (.int .i64 a1_0) := (blk_cell BK111.out 0).trans rfl
                    have hcz21_1 : wr.cell? ⟨gb111, 1, none⟩ = some (.int .i64 a1_1) := (blk_cell BK111.out 1).trans rfl
                    have hcz21_2 : wr.cell? ⟨gb111, 2, none⟩ = some (.int .i64 a1_2) := (blk_cell BK111.out 2).trans rfl
                    have hcz21_3 : wr.cell? ⟨gb111, 3, none⟩ = some (.bool a1_3) := (blk_cell BK111.out 3).trans rfl
                    have hcz21_4 : wr.cell? ⟨gb111, 4, none⟩ = some (.bool a1_4) := (blk_cell BK111.out 4).trans rfl
                    have hfz21_0 := blk_frozen BK111.out 0
                    have hfz21_1 := blk_frozen BK111.out 1
                    have hfz21_2 := blk_frozen BK111.out 2
                    have hfz21_3 := blk_frozen BK111.out 3
                    have hfz21_4 := blk_frozen BK111.out 4
                    have p119 : 0 ≤ ((ji17) : Int) := of_decide_eq_true (by first | (with_reducible assumption) | assumption)
                    have q119 : (ji17) < (l0.length : Int) := of_decide_eq_true (by first | (with_reducible assumption) | assumption)
                    obtain ⟨ad119, e119, hx119_0⟩ := Kd.at_int HR0.out (ji17) p119 q119
                    cases e119
                    replace hx119_0 := (HB.out.cell (World.block_lt_of_cell? w _ hx119_0)).trans hx119_0
                    replace p119 := eq_true p119
                    replace q119 := eq_true q119
                    go_wp2_with (first | ((with_reducible refine gate_builtin (b := .append) (xs := #[.tmp 30, .tmp 40]) rfl ?_); at_builtin; refine Kd.R_append (Kd.int .i64) (w0 := w) w.heap.size rfl (.tmp 30) (.tmp 40) 43 3 (.int .i64 0) 8 rfl Try.underlying43 info3 rfl (by decide) (by omega) u7 x7_2 (rd l0 (ji17)) [.int .i64 (rd l0 (ji17))] (fun _ => True) (fun _ => False) rfl rfl ?aP (fun _ hk => hk.elim) ?aF ?aO ?aB ?aS ?aL ?_; (case aP => exact rfl); (case aB => exact (by repeat (first | (with_reducible first | exact HB.out | apply below_alloc | apply pw_below_drewN | apply below_drew1 | refine below_set ?_ GE111.out) | exact HB.out))); (case aF => exact (fun _ _ => trivial)); (case aO => exact (by (with_reducible repeat (first | apply Kd.R_alloc | apply Kd.R_drewN | apply Kd.R_drew)); exact HO_7.out)); (case aS => exact (below_size (by repeat (first | (with_reducible first | exact HB.out | apply below_alloc | apply pw_below_drewN | apply below_drew1 | refine below_set ?_ GE111.out) | exact HB.out)))); (case aL => have := LMc20.out; omega); intro v121 w22 ho hb hg hat; rw [← Ny120.out] at ho; have n0_ := Aside0.mk (blk_grown (g := gb111) (o := .cells #[.int .i64 a1_0, .int .i64 a1_1, .int .i64 a1_2, .bool a1_3, .bool a1_4] 24 (0, 0)) (by (with_reducible repeat (first | refine blk_drewN ?_ _ | refine blk_drew ?_ | refine blk_alloc ?_ _)); exact BK111.out) hg (Kd.R_ne HO_7.out BK111.out (by decide))); have n1_ := Aside0.mk (hb); have n2_ := Aside0.mk (ho); clear BK111; clear HB; clear HO_7; have BK111 := n0_; have HB := n1_; have HO122 := n2_; clear n0_ n1_ n2_; clear ho hb hg hat))
                    go_roundg k2
                    case measure => have := HJ2.out; have := HK2.out; omega
                    case rel => exact ⟨(y120), (wrap64 (x8_2 + 1)), (by first | rfl | (simp; done) | (simp [*]; done)), H', ⟨by have := HJ2.out; have := HK2.out; omega⟩, ⟨by (with_reducible repeat (first | apply Kd.R_alloc | apply Kd.R_drewN | apply Kd.R_drew)); exact HO122.out⟩, ⟨by (with_reducible repeat (first | refine blk_drewN ?_ _ | refine blk_drew ?_ | refine blk_alloc ?_ _)); exact BK111.out⟩, ⟨by repeat (first | (with_reducible first | exact HB.out | apply below_alloc | apply pw_below_drewN | apply below_drew1 | refine below_set ?_ GE111.out) | exact HB.out)⟩⟩
                  · rw [if_neg c20] at H
                    exact absurd H (by simp)
                · rw [if_neg c19] at H
                  exact absurd H (by simp)
              · rw [if_neg c18] at H
                exact absurd H (by simp)
            · rw [if_neg c16] at H
              have c16b0 : decide (x8_2 < t115) = false := decide_eq_false c16
              clear c16
              obtain rfl := Option.some.inj H
              go_wp2
              go_ret
              exact ⟨_, by first | rfl | (simp [errW_none, errW_some] <;> rfl) | (simp [*, errW_none, errW_some] <;> rfl), by (with_reducible repeat (first | apply Kd.R_alloc | apply Kd.R_drewN | apply Kd.R_drew)); exact HO_7.out, by repeat (first | (with_reducible first | exact HB.out | apply below_alloc | apply pw_below_drewN | apply below_drew1 | refine below_set ?_ GE111.out) | exact HB.out)⟩

/-! ### laws_toIntS: function 29 -/
set_option maxRecDepth 100000 in
def laws_toIntS.l0 : Nat → List Int → List Int → Int → Option (List Int)
  | 0, _, _, _ => none
  | k + 1, x0, x3, x4 => if x4 < (x0.length : Int) then (if 0 ≤ x4 then (if x4 < (x3.length : Int) then (laws_toIntS.l0 k x0 (x3.set (x4 : Int).toNat (rd x0 x4)) (wrap64 (x4 + 1))) else (none)) else (none)) else (some x3)
def laws_toIntS.f (k : Nat) (l0 : List Int) : Option (List Int) := if 0 ≤ (l0.length : Int) then (if ((l0.length : Int) : Int).toNat ≤ 35184372088832 then (laws_toIntS.l0 k l0 (List.replicate ((l0.length : Int) : Int).toNat 0) 0) else (none)) else (none)
set_option maxRecDepth 100000 in
theorem laws_toIntS.mono_l : ∀ k, (∀ y0 y1 y2, LeO (laws_toIntS.l0 k y0 y1 y2) (laws_toIntS.l0 (k + 1) y0 y1 y2))
  | 0 => fun _ _ _ r h => by simp [laws_toIntS.l0] at h
  | k + 1 => by
    have ih0 := laws_toIntS.mono_l k
    · intro y0 y1 y2
      unfold laws_toIntS.l0
      repeat' first
      | (with_reducible exact ih0 _ _ _)
      | (with_reducible exact LeO.refl _)
      | (with_reducible exact LeO.none _)
      | (with_reducible refine LeO.ite ?_ ?_)
      | (with_reducible refine LeO.bind ?_ (fun _ => ?_))
      | exact ih0 _ _ _
      | exact LeO.none _
      | refine LeO.ite ?_ ?_
      | refine LeO.bind ?_ (fun _ => ?_)
set_option maxRecDepth 100000 in
theorem laws_toIntS.mono : ∀ a0 k, LeO (laws_toIntS.f k a0) (laws_toIntS.f (k + 1) a0) := by
  intro a0 k
  have ih0 := laws_toIntS.mono_l k
  unfold laws_toIntS.f
  repeat' first
      | (with_reducible exact ih0 _ _ _)
      | (with_reducible exact LeO.refl _)
      | (with_reducible exact LeO.none _)
      | (with_reducible refine LeO.ite ?_ ?_)
      | (with_reducible refine LeO.bind ?_ (fun _ => ?_))
      | exact ih0 _ _ _
      | exact LeO.none _
      | refine LeO.ite ?_ ?_
      | refine LeO.bind ?_ (fun _ => ?_)
set_option maxHeartbeats 8000000 in
set_option maxRecDepth 100000 in
theorem laws_toIntS.calls (k : Nat) (A0 : Option Addr) (c0 : Nat) (l0 : List Int) (r : List Int) (w : World) (hr0 : Kd.C (Kd.int .i64) w A0 l0.length l0) (hc0 : l0.length ≤ c0) (h : laws_toIntS.f k l0 = some r) :
    Calls Try.prog 29 #[.slice A0 l0.length c0] w fun e w' => ∃ v0_ : Value, e = .returned (v0_) ∧ Kd.R (Kd.int .i64) 3 w' w.heap.size (fun _ => True) v0_ r ∧ Below w.heap.size w w' := by
  have HR0 := Aside0.mk hr0
  have HC0 := Aside0.mk hc0
  clear hr0 hc0
  have HB := Aside0.mk (Below.refl w.heap.size w)
  have H : (if 0 ≤ (l0.length : Int) then (if ((l0.length : Int) : Int).toNat ≤ 35184372088832 then (laws_toIntS.l0 k l0 (List.replicate ((l0.length : Int) : Int).toNat 0) 0) else (none)) else (none)) = some r := h
  clear h
  by_cases c2 : 0 ≤ (l0.length : Int)
  · rw [if_pos c2] at H
    have c2b0 := eq_true c2
    have c2b1 : decide (0 ≤ (l0.length : Int)) = true := decide_eq_true c2
    clear c2
    by_cases c3 : ((l0.length : Int) : Int).toNat ≤ 35184372088832
    · rw [if_pos c3] at H
      have c3b0 := eq_true c3
      have c3b1 : decide (((l0.length : Int) : Int).toNat ≤ 35184372088832) = true := decide_eq_true c3
      clear c3
      obtain ⟨y123, hy123⟩ : ∃ y_ : List Int, y_ = (List.replicate ((l0.length : Int) : Int).toNat 0) := ⟨_, rfl⟩
      replace H : (laws_toIntS.l0 k l0 y123 0) = some r := by first | (rw [hy123]; with_reducible exact H) | (have H2_ := (Option.bind_some _ _).symm.trans H; rw [hy123]; with_reducible exact H2_) | (have H2_ := (Option.bind_some _ _).symm.trans H; with_reducible exact H2_) | with_reducible exact H | (rw [hy123]; exact H) | exact H
      have Ny123 := Aside0.mk hy123
      clear hy123
      have H' := Aside0.mk H
      clear H
      go_enter Try.func29, Try.ntmps29
      go_wp2_with (first | ((with_reducible refine gate_dst (N := 7) rfl ?_); refine Kd.R_make (Kd.int .i64) _ 3 rfl (N := 7) rfl 43 _ _ rfl (l0.length : Int) rfl rfl Try.underlying43 (.int .i64 0) 8 info3 rfl (by decide) (by omega) 0 (ok := fun _ => True) (okp := fun _ => True) rfl (fun _ hk => hk) trivial (of_decide_eq_true (by first | (with_reducible assumption) | assumption)) (Nat.le_trans (Nat.mul_le_mul_right _ (of_decide_eq_true (by first | (with_reducible assumption) | assumption) : (l0.length : Int).toNat ≤ 35184372088832)) (by omega)) (Below.refl _ _) (Nat.le_refl _) ?_; intro v124 w4 ho5 hb hg_ hnew_; clear hg_ hnew_; (first | rw [← Ny123.out] at ho5 | (simp only [Int.reduceToNat] at ho5; rw [← Ny123.out] at ho5)); have n0_ := Aside0.mk (Kd.R_lower ho5 (below_size (by repeat (first | (with_reducible first | exact HB.out | apply below_alloc | apply pw_below_drewN | apply below_drew1) | exact HB.out)))); have n1_ := Aside0.mk (below_step (by repeat (first | (with_reducible first | exact HB.out | apply below_alloc | apply pw_below_drewN | apply below_drew1) | exact HB.out)) hb); clear HB; have HO125 := n0_; have HB := n1_; clear n0_ n1_; clear hb ho5))
      go_loopg [4] k (fun kq v4 w' => ∃ (x3_1 : List Int) (x4_1 : Int), v4 = .int .i64 x4_1 ∧ Aside0 (laws_toIntS.l0 kq l0 x3_1 x4_1 = some r) ∧ Aside0 (kq ≤ k) ∧ Aside0 (Kd.R (Kd.int .i64) 3 w' w.heap.size (fun _ => True) v124 x3_1) ∧ Aside0 (Below w.heap.size w w'))
      case atStart => exact ⟨(y123), (0), (by first | rfl | (simp; done) | (simp [*]; done)), H', ⟨Nat.le_refl _⟩, ⟨by (with_reducible repeat (first | apply Kd.R_alloc | apply Kd.R_drewN | apply Kd.R_drew)); exact HO125.out⟩, ⟨by repeat (first | (with_reducible first | exact HB.out | apply below_alloc | apply pw_below_drewN | apply below_drew1) | exact HB.out)⟩⟩
      case round =>
        clear H'
        try clear c2
        try clear c2b0
        try clear c2b1
        try clear p2
        try clear c3
        try clear c3b0
        try clear c3b1
        obtain ⟨x3_1, x4_1, rfl, HA, HK1, HO_3, HB⟩ := hrel
        cases gk with
        | zero => exact absurd HA.out (by simp [laws_toIntS.l0])
        | succ k1 =>
          have H := HA.out
          clear HA
          simp only [laws_toIntS.l0] at H
          by_cases c6 : x4_1 < (l0.length : Int)
          · rw [if_pos c6] at H
            have c6b0 : decide (x4_1 < (l0.length : Int)) = true := decide_eq_true c6
            clear c6
            by_cases c7 : 0 ≤ x4_1
            · rw [if_pos c7] at H
              have c7b0 : decide (0 ≤ x4_1) = true := decide_eq_true c7
              clear c7
              by_cases c8 : x4_1 < (x3_1.length : Int)
              · rw [if_pos c8] at H
                have c8b0 : decide (x4_1 < (x3_1.length : Int)) = true := decide_eq_true c8
                clear c8
                obtain ⟨y127, hy127⟩ : ∃ y_ : List Int, y_ = (x3_1.set (x4_1 : Int).toNat (rd l0 x4_1)) := ⟨_, rfl⟩
                replace H : (laws_toIntS.l0 k1 l0 y127 (wrap64 (x4_1 + 1))) = some r := by first | (rw [hy127]; with_reducible exact H) | (have H2_ := (Option.bind_some _ _).symm.trans H; rw [hy127]; with_reducible exact H2_) | (have H2_ := (Option.bind_some _ _).symm.trans H; with_reducible exact H2_) | with_reducible exact H | (rw [hy127]; exact H) | exact H
                have Ny127 := Aside0.mk hy127
                clear hy127
                have H' := Aside0.mk H
                clear H
                have p126 : 0 ≤ (x4_1 : Int) := of_decide_eq_true (by first | (with_reducible assumption) | assumption)
                have q126 : x4_1 < (l0.length : Int) := of_decide_eq_true (by first | (with_reducible assumption) | assumption)
                obtain ⟨ad126, e126, hx126_0⟩ := Kd.at_int HR0.out x4_1 p126 q126
                cases e126
                replace hx126_0 := (HB.out.cell (World.block_lt_of_cell? w _ hx126_0)).trans hx126_0
                replace p126 := eq_true p126
                replace q126 := eq_true q126
                have p9 : 0 ≤ (x4_1 : Int) := of_decide_eq_true (by first | (with_reducible assumption) | assumption)
                have q9 : (x4_1 : Int) < ((x3_1.length : Int) : Int) := of_decide_eq_true (by first | (with_reducible assumption) | assumption)
                obtain ⟨go9, co9, eo9, gb9, gl9, cl9, HG9⟩ := Kd.R_form HO_3.out (by omega)
                (first | cases eo9 | (injection eo9 with ea_ en_ ec_; (first | subst ea_ | (injection ea_ with ea_; subst ea_)); subst ec_; clear en_))
                have GB9 := Aside0.mk gb9
                have GG9 := Aside0.mk HG9
                clear gb9 gl9 HG9
                obtain ⟨hx9_0, hf9_0⟩ := Kd.R_celln 0 HO_3.out (x4_1 : Int) p9 q9
                replace p9 := eq_true p9
                replace q9 := eq_true q9
                have HP10 := Kd.R_putg HO_3.out (x4_1 : Int) (rd l0 x4_1)
                go_wp2_with (first | ((with_reducible refine gate_store (t := 3) (p := 20) rfl ?_); refine store_event (t := 3) (p := 20) (v := ?vo_w11) (w1 := (wr.setCell ⟨go9, (x4_1 : Int).toNat, none⟩ (.int .i64 (rd l0 x4_1)))) ?hg ?ho ?hn ?hr ?_; (case ho => rfl); (case hg => rfl); (case hn => rfl); (case hr => first | (go_simp; done) | (go_simp; rfl)); intro w11 hw; have hg : wr.grownBy w11 (some go9) := (by rw [hw]; exact HP10.2); have hp_ : Kd.R (Kd.int .i64) 3 w11 w.heap.size (fun _ => True) (.slice (some ⟨go9, 0, none⟩) x3_1.length co9) y127 := (by rw [hw, Ny127.out]; exact HP10.1); clear HP10; have n0_ := Aside0.mk (hp_); have n1_ := Aside0.mk ((by rw [hw]; exact below_set (HB.out) GB9.out : Below w.heap.size w w11)); clear HO_3; clear HB; have HO_3 := n0_; have HB := n1_; clear n0_ n1_; clear hg hw hp_))
                go_roundg k1
                case measure => have := HK1.out; omega
                case rel => exact ⟨(y127), (wrap64 (x4_1 + 1)), (by first | rfl | (simp; done) | (simp [*]; done)), H', ⟨by have := HK1.out; omega⟩, ⟨by (with_reducible repeat (first | apply Kd.R_alloc | apply Kd.R_drewN | apply Kd.R_drew)); exact HO_3.out⟩, ⟨by repeat (first | (with_reducible first | exact HB.out | apply below_alloc | apply pw_below_drewN | apply below_drew1) | exact HB.out)⟩⟩
              · rw [if_neg c8] at H
                exact absurd H (by simp)
            · rw [if_neg c7] at H
              exact absurd H (by simp)
          · rw [if_neg c6] at H
            have c6b0 : decide (x4_1 < (l0.length : Int)) = false := decide_eq_false c6
            clear c6
            obtain rfl := Option.some.inj H
            go_wp2
            go_ret
            exact ⟨_, by first | rfl | (simp [errW_none, errW_some] <;> rfl) | (simp [*, errW_none, errW_some] <;> rfl), by (with_reducible repeat (first | apply Kd.R_alloc | apply Kd.R_drewN | apply Kd.R_drew)); exact HO_3.out, by repeat (first | (with_reducible first | exact HB.out | apply below_alloc | apply pw_below_drewN | apply below_drew1) | exact HB.out)⟩
    · rw [if_neg c3] at H
      exact absurd H (by simp)
  · rw [if_neg c2] at H
    exact absurd H (by simp)

/-! ### impl_within: function 42 -/
def impl_within.f (a0 : Int) (a1 : Int) (a2 : Int) : Option (Bool) := if a0 ≥ a1 then (some (decide (a0 ≤ a2))) else (some false)
set_option maxHeartbeats 8000000 in
set_option maxRecDepth 100000 in
theorem impl_within.calls (a0 : Int) (a1 : Int) (a2 : Int) (r : Bool) (w : World) (h : impl_within.f a0 a1 a2 = some r) :
    Calls Try.prog 42 #[.int .i64 a0, .int .i64 a1, .int .i64 a2] w fun e w' => e = .returned (.bool r) ∧ Drawn0 w w' := by
  have H : (if a0 ≥ a1 then (some (decide (a0 ≤ a2))) else (some false)) = some r := h
  clear h
  by_cases c4 : a0 ≥ a1
  · rw [if_pos c4] at H
    have c4b0 : decide (a1 ≤ a0) = true := decide_eq_true c4
    clear c4
    obtain rfl := Option.some.inj H
    go_enter Try.func42, Try.ntmps42
    go_wp2
    go_ret
    exact ⟨by first | rfl | (simp; done) | (simp [*]; done), by repeat (first | exact Drawn0.refl _ | apply Drawn0.step)⟩
  · rw [if_neg c4] at H
    have c4b0 : decide (a1 ≤ a0) = false := decide_eq_false c4
    clear c4
    obtain rfl := Option.some.inj H
    go_enter Try.func42, Try.ntmps42
    go_wp2
    go_ret
    exact ⟨by first | rfl | (simp; done) | (simp [*]; done), by repeat (first | exact Drawn0.refl _ | apply Drawn0.step)⟩

/-! ### impl_CutOk: function 16 -/
def impl_CutOk.f (a0_0 : Int) (a0_1 : Int) (a0_2 : Int) (a0_3 : Bool) (a0_4 : Bool) : Option (Bool) := (impl_within.f a0_0 (-1000000) 1000000).bind fun t129 => (if t129 = true then ((impl_within.f a0_1 (-1000000) 1000000).bind fun t130 => (if t130 = true then ((impl_within.f a0_2 (-1000000) 1000000).bind fun t131 => (if t131 = true then (if a0_2 = 0 then (some false) else (if a0_3 = true then (if a0_4 = true then (some true) else (some (a0_1 == 0))) else (if a0_0 = 0 then (if a0_4 = true then (some true) else (some (a0_1 == 0))) else (some false)))) else (some false))) else (some false))) else (some false))
set_option maxHeartbeats 8000000 in
set_option maxRecDepth 100000 in
theorem impl_CutOk.calls (a0_0 : Int) (a0_1 : Int) (a0_2 : Int) (a0_3 : Bool) (a0_4 : Bool) (r : Bool) (w : World) (h : impl_CutOk.f a0_0 a0_1 a0_2 a0_3 a0_4 = some r) :
    Calls Try.prog 16 #[.agg #[.int .i64 a0_0, .int .i64 a0_1, .int .i64 a0_2, .bool a0_3, .bool a0_4]] w fun e w' => e = .returned (.bool r) ∧ Below w.heap.size w w' := by
  have hu24 := Try.underlying24
  have HB := Aside0.mk (Below.refl w.heap.size w)
  have H : ((impl_within.f a0_0 (-1000000) 1000000).bind fun t129 => (if t129 = true then ((impl_within.f a0_1 (-1000000) 1000000).bind fun t130 => (if t130 = true then ((impl_within.f a0_2 (-1000000) 1000000).bind fun t131 => (if t131 = true then (if a0_2 = 0 then (some false) else (if a0_3 = true then (if a0_4 = true then (some true) else (some (a0_1 == 0))) else (if a0_0 = 0 then (if a0_4 = true then (some true) else (some (a0_1 == 0))) else (some false)))) else (some false))) else (some false))) else (some false))) = some r := h
  clear h
  replace H := Option.bind_eq_some_iff.mp H
  obtain ⟨t129, A20, H⟩ := H
  replace H : (if t129 = true then ((impl_within.f a0_1 (-1000000) 1000000).bind fun t130 => (if t130 = true then ((impl_within.f a0_2 (-1000000) 1000000).bind fun t131 => (if t131 = true then (if a0_2 = 0 then (some false) else (if a0_3 = true then (if a0_4 = true then (some true) else (some (a0_1 == 0))) else (if a0_0 = 0 then (if a0_4 = true then (some true) else (some (a0_1 == 0))) else (some false)))) else (some false))) else (some false))) else (some false)) = some r := H
  have A2 := Aside0.mk A20
  clear A20
  by_cases c3 : t129 = true
  · subst c3
    have H1 : ((impl_within.f a0_1 (-1000000) 1000000).bind fun t130 => (if t130 = true then ((impl_within.f a0_2 (-1000000) 1000000).bind fun t131 => (if t131 = true then (if a0_2 = 0 then (some false) else (if a0_3 = true then (if a0_4 = true then (some true) else (some (a0_1 == 0))) else (if a0_0 = 0 then (if a0_4 = true then (some true) else (some (a0_1 == 0))) else (some false)))) else (some false))) else (some false))) = some r := by rw [if_pos rfl] at H; exact H
    clear H
    have H := H1
    clear H1
    replace H := Option.bind_eq_some_iff.mp H
    obtain ⟨t130, A40, H⟩ := H
    replace H : (if t130 = true then ((impl_within.f a0_2 (-1000000) 1000000).bind fun t131 => (if t131 = true then (if a0_2 = 0 then (some false) else (if a0_3 = true then (if a0_4 = true then (some true) else (some (a0_1 == 0))) else (if a0_0 = 0 then (if a0_4 = true then (some true) else (some (a0_1 == 0))) else (some false)))) else (some false))) else (some false)) = some r := H
    have A4 := Aside0.mk A40
    clear A40
    by_cases c5 : t130 = true
    · subst c5
      have H1 : ((impl_within.f a0_2 (-1000000) 1000000).bind fun t131 => (if t131 = true then (if a0_2 = 0 then (some false) else (if a0_3 = true then (if a0_4 = true then (some true) else (some (a0_1 == 0))) else (if a0_0 = 0 then (if a0_4 = true then (some true) else (some (a0_1 == 0))) else (some false)))) else (some false))) = some r := by rw [if_pos rfl] at H; exact H
      clear H
      have H := H1
      clear H1
      replace H := Option.bind_eq_some_iff.mp H
      obtain ⟨t131, A60, H⟩ := H
      replace H : (if t131 = true then (if a0_2 = 0 then (some false) else (if a0_3 = true then (if a0_4 = true then (some true) else (some (a0_1 == 0))) else (if a0_0 = 0 then (if a0_4 = true then (some true) else (some (a0_1 == 0))) else (some false)))) else (some false)) = some r := H
      have A6 := Aside0.mk A60
      clear A60
      by_cases c7 : t131 = true
      · subst c7
        have H1 : (if a0_2 = 0 then (some false) else (if a0_3 = true then (if a0_4 = true then (some true) else (some (a0_1 == 0))) else (if a0_0 = 0 then (if a0_4 = true then (some true) else (some (a0_1 == 0))) else (some false)))) = some r := by rw [if_pos rfl] at H; exact H
        clear H
        have H := H1
        clear H1
        by_cases c8 : a0_2 = 0
        · rw [if_pos c8] at H
          have c8b0 : (a0_2 == 0) = true := beq_iff_eq.mpr c8
          have c8b1 : (a0_2 != 0) = false := bne_eq_false_iff_eq.mpr c8
          clear c8
          obtain rfl := Option.some.inj H
          go_enter Try.func16, Try.ntmps16
          go_wp2_with (first | ((with_reducible refine gate_dst (N := 1) rfl ?_); refine box_event ?hg (N := 1) ?hd (cs := #[.int .i64 a0_0, .int .i64 a0_1, .int .i64 a0_2, .bool a0_3, .bool a0_4]) (t := 24) ?hr ?_; (case hd => rfl); (case hg => rfl); (case hr => first | (go_simp; done) | (go_simp; rfl)); intro gb128 hg w9 hbox hb; have n0_ := Aside0.mk (below_step (by repeat (first | (with_reducible first | exact HB.out | apply below_alloc | apply pw_below_drewN | apply below_drew1) | exact HB.out)) hb); have n1_ := Aside0.mk (hbox); have n2_ := Aside0.mk ((by rw [hg]; exact (below_size (by repeat (first | (with_reducible first | exact HB.out | apply below_alloc | apply pw_below_drewN | apply below_drew1) | exact HB.out))) : w.heap.size ≤ gb128)); have n3_ := Aside0.mk ((by rw [hg]; exact (below_size (by repeat (first | (with_reducible first | exact HB.out | apply below_alloc | apply pw_below_drewN | apply below_drew1) | exact HB.out))) : w.heap.size ≤ gb128)); clear HB; have HB := n0_; have BK128 := n1_; have GW128 := n2_; have GE128 := n3_; clear n0_ n1_ n2_ n3_; clear hb hbox hg; have hcz10_0 : w9.cell? ⟨gb128, 0, none⟩ = some (.int .i64 a0_0) := (blk_cell BK128.out 0).trans rfl; have hcz10_1 : w9.cell? ⟨gb128, 1, none⟩ = some (.int .i64 a0_1) := (blk_cell BK128.out 1).trans rfl; have hcz10_2 : w9.cell? ⟨gb128, 2, none⟩ = some (.int .i64 a0_2) := (blk_cell BK128.out 2).trans rfl; have hcz10_3 : w9.cell? ⟨gb128, 3, none⟩ = some (.bool a0_3) := (blk_cell BK128.out 3).trans rfl; have hcz10_4 : w9.cell? ⟨gb128, 4, none⟩ = some (.bool a0_4) := (blk_cell BK128.out 4).trans rfl; have hfz10_0 := blk_frozen BK128.out 0; have hfz10_1 := blk_frozen BK128.out 1; have hfz10_2 := blk_frozen BK128.out 2; have hfz10_3 := blk_frozen BK128.out 3; have hfz10_4 := blk_frozen BK128.out 4) | ((with_reducible refine gate_callee (f := 42) rfl ?_); refine goesL_ (some 5) rfl rfl Try.func42 (by kernel_rfl) rfl #[.int .i64 a0_0, .int .i64 (-1000000), .int .i64 1000000] rfl (by (try simp only [List.map_toArray, List.map_cons, List.map_nil]); first | done | rfl | (simp only [List.length_drop, List.length_take]; rfl)) ?_; (with_reducible refine (impl_within.calls a0_0 (-1000000) 1000000 true _ A2.out).mono ?_); rintro e w' ⟨rfl, ⟨nd, rfl⟩⟩; refine ⟨_, rfl, ?_⟩) | (go_at_call 42; (with_reducible refine (impl_within.calls a0_1 (-1000000) 1000000 true _ A4.out).mono ?_); rintro e w' ⟨rfl, ⟨nd, rfl⟩⟩) | (go_at_call 42; (with_reducible refine (impl_within.calls a0_2 (-1000000) 1000000 true _ A6.out).mono ?_); rintro e w' ⟨rfl, ⟨nd, rfl⟩⟩))
          go_ret
          exact ⟨by first | rfl | (simp [errW_none, errW_some] <;> rfl) | (simp [*, errW_none, errW_some] <;> rfl), by repeat (first | (with_reducible first | exact HB.out | apply below_alloc | apply pw_below_drewN | apply below_drew1 | refine below_set ?_ GE128.out) | exact HB.out)⟩
        · rw [if_neg c8] at H
          have c8b0 : (a0_2 == 0) = false := beq_eq_false_iff_ne.mpr c8
          have c8b1 : (a0_2 != 0) = true := bne_iff_ne.mpr c8
          by_cases c11 : a0_3 = true
          · subst c11
            have H1 : (if a0_4 = true then (some true) else (some (a0_1 == 0))) = some r := by rw [if_pos rfl] at H; exact H
            clear H
            have H := H1
            clear H1
            by_cases c12 : a0_4 = true
            · subst c12
              have H1 : (some true) = some r := by rw [if_pos rfl] at H; exact H
              clear H
              have H := H1
              clear H1
              obtain rfl := Option.some.inj H
              go_enter Try.func16, Try.ntmps16
              go_wp2_with (first | ((with_reducible refine gate_dst (N := 1) rfl ?_); refine box_event ?hg (N := 1) ?hd (cs := #[.int .i64 a0_0, .int .i64 a0_1, .int .i64 a0_2, .bool true, .bool true]) (t := 24) ?hr ?_; (case hd => rfl); (case hg => rfl); (case hr => first | (go_simp; done) | (go_simp; rfl)); intro gb128 hg w13 hbox hb; have n0_ := Aside0.mk (below_step (by repeat (first | (with_reducible first | exact HB.out | apply below_alloc | apply pw_below_drewN | apply below_drew1) | exact HB.out)) hb); have n1_ := Aside0.mk (hbox); have n2_ := Aside0.mk ((by rw [hg]; exact (below_size (by repeat (first | (with_reducible first | exact HB.out | apply below_alloc | apply pw_below_drewN | apply below_drew1) | exact HB.out))) : w.heap.size ≤ gb128)); have n3_ := Aside0.mk ((by rw [hg]; exact (below_size (by repeat (first | (with_reducible first | exact HB.out | apply below_alloc | apply pw_below_drewN | apply below_drew1) | exact HB.out))) : w.heap.size ≤ gb128)); clear HB; have HB := n0_; have BK128 := n1_; have GW128 := n2_; have GE128 := n3_; clear n0_ n1_ n2_ n3_; clear hb hbox hg; have hcz14_0 : w13.cell? ⟨gb128, 0, none⟩ = some (.int .i64 a0_0) := (blk_cell BK128.out 0).trans rfl; have hcz14_1 : w13.cell? ⟨gb128, 1, none⟩ = some (.int .i64 a0_1) := (blk_cell BK128.out 1).trans rfl; have hcz14_2 : w13.cell? ⟨gb128, 2, none⟩ = some (.int .i64 a0_2) := (blk_cell BK128.out 2).trans rfl; have hcz14_3 : w13.cell? ⟨gb128, 3, none⟩ = some (.bool true) := (blk_cell BK128.out 3).trans rfl; have hcz14_4 : w13.cell? ⟨gb128, 4, none⟩ = some (.bool true) := (blk_cell BK128.out 4).trans rfl; have hfz14_0 := blk_frozen BK128.out 0; have hfz14_1 := blk_frozen BK128.out 1; have hfz14_2 := blk_frozen BK128.out 2; have hfz14_3 := blk_frozen BK128.out 3; have hfz14_4 := blk_frozen BK128.out 4) | ((with_reducible refine gate_callee (f := 42) rfl ?_); refine goesL_ (some 5) rfl rfl Try.func42 (by kernel_rfl) rfl #[.int .i64 a0_0, .int .i64 (-1000000), .int .i64 1000000] rfl (by (try simp only [List.map_toArray, List.map_cons, List.map_nil]); first | done | rfl | (simp only [List.length_drop, List.length_take]; rfl)) ?_; (with_reducible refine (impl_within.calls a0_0 (-1000000) 1000000 true _ A2.out).mono ?_); rintro e w' ⟨rfl, ⟨nd, rfl⟩⟩; refine ⟨_, rfl, ?_⟩) | (go_at_call 42; (with_reducible refine (impl_within.calls a0_1 (-1000000) 1000000 true _ A4.out).mono ?_); rintro e w' ⟨rfl, ⟨nd, rfl⟩⟩) | (go_at_call 42; (with_reducible refine (impl_within.calls a0_2 (-1000000) 1000000 true _ A6.out).mono ?_); rintro e w' ⟨rfl, ⟨nd, rfl⟩⟩))
              go_ret
              exact ⟨by first | rfl | (simp [errW_none, errW_some] <;> rfl) | (simp [*, errW_none, errW_some] <;> rfl), by repeat (first | (with_reducible first | exact HB.out | apply below_alloc | apply pw_below_drewN | apply below_drew1 | refine below_set ?_ GE128.out) | exact HB.out)⟩
            · replace c12 := Bool.eq_false_iff.mpr c12
              subst c12
              have H1 : (some (a0_1 == 0)) = some r := by rw [if_neg (show ¬ (false = true) by decide)] at H; exact H
              clear H
              have H := H1
              clear H1
              obtain rfl := Option.some.inj H
              go_enter Try.func16, Try.ntmps16
              go_wp2_with (first | ((with_reducible refine gate_dst (N := 1) rfl ?_); refine box_event ?hg (N := 1) ?hd (cs := #[.int .i64 a0_0, .int .i64 a0_1, .int .i64 a0_2, .bool true, .bool false]) (t := 24) ?hr ?_; (case hd => rfl); (case hg => rfl); (case hr => first | (go_simp; done) | (go_simp; rfl)); intro gb128 hg w15 hbox hb; have n0_ := Aside0.mk (below_step (by repeat (first | (with_reducible first | exact HB.out | apply below_alloc | apply pw_below_drewN | apply below_drew1) | exact HB.out)) hb); have n1_ := Aside0.mk (hbox); have n2_ := Aside0.mk ((by rw [hg]; exact (below_size (by repeat (first | (with_reducible first | exact HB.out | apply below_alloc | apply pw_below_drewN | apply below_drew1) | exact HB.out))) : w.heap.size ≤ gb128)); have n3_ := Aside0.mk ((by rw [hg]; exact (below_size (by repeat (first | (with_reducible first | exact HB.out | apply below_alloc | apply pw_below_drewN | apply below_drew1) | exact HB.out))) : w.heap.size ≤ gb128)); clear HB; have HB := n0_; have BK128 := n1_; have GW128 := n2_; have GE128 := n3_; clear n0_ n1_ n2_ n3_; clear hb hbox hg; have hcz16_0 : w15.cell? ⟨gb128, 0, none⟩ = some (.int .i64 a0_0) := (blk_cell BK128.out 0).trans rfl; have hcz16_1 : w15.cell? ⟨gb128, 1, none⟩ = some (.int .i64 a0_1) := (blk_cell BK128.out 1).trans rfl; have hcz16_2 : w15.cell? ⟨gb128, 2, none⟩ = some (.int .i64 a0_2) := (blk_cell BK128.out 2).trans rfl; have hcz16_3 : w15.cell? ⟨gb128, 3, none⟩ = some (.bool true) := (blk_cell BK128.out 3).trans rfl; have hcz16_4 : w15.cell? ⟨gb128, 4, none⟩ = some (.bool false) := (blk_cell BK128.out 4).trans rfl; have hfz16_0 := blk_frozen BK128.out 0; have hfz16_1 := blk_frozen BK128.out 1; have hfz16_2 := blk_frozen BK128.out 2; have hfz16_3 := blk_frozen BK128.out 3; have hfz16_4 := blk_frozen BK128.out 4) | ((with_reducible refine gate_callee (f := 42) rfl ?_); refine goesL_ (some 5) rfl rfl Try.func42 (by kernel_rfl) rfl #[.int .i64 a0_0, .int .i64 (-1000000), .int .i64 1000000] rfl (by (try simp only [List.map_toArray, List.map_cons, List.map_nil]); first | done | rfl | (simp only [List.length_drop, List.length_take]; rfl)) ?_; (with_reducible refine (impl_within.calls a0_0 (-1000000) 1000000 true _ A2.out).mono ?_); rintro e w' ⟨rfl, ⟨nd, rfl⟩⟩; refine ⟨_, rfl, ?_⟩) | (go_at_call 42; (with_reducible refine (impl_within.calls a0_1 (-1000000) 1000000 true _ A4.out).mono ?_); rintro e w' ⟨rfl, ⟨nd, rfl⟩⟩) | (go_at_call 42; (with_reducible refine (impl_within.calls a0_2 (-1000000) 1000000 true _ A6.out).mono ?_); rintro e w' ⟨rfl, ⟨nd, rfl⟩⟩))
              go_ret
              exact ⟨by first | rfl | (simp [errW_none, errW_some] <;> rfl) | (simp [*, errW_none, errW_some] <;> rfl), by repeat (first | (with_reducible first | exact HB.out | apply below_alloc | apply pw_below_drewN | apply below_drew1 | refine below_set ?_ GE128.out) | exact HB.out)⟩
          · replace c11 := Bool.eq_false_iff.mpr c11
            subst c11
            have H1 : (if a0_0 = 0 then (if a0_4 = true then (some true) else (some (a0_1 == 0))) else (some false)) = some r := by rw [if_neg (show ¬ (false = true) by decide)] at H; exact H
            clear H
            have H := H1
            clear H1
            by_cases c17 : a0_0 = 0
            · rw [if_pos c17] at H
              have c17b0 : (a0_0 == 0) = true := beq_iff_eq.mpr c17
              have c17b1 : (a0_0 != 0) = false := bne_eq_false_iff_eq.mpr c17
              clear c17
              by_cases c18 : a0_4 = true
              · subst c18
                have H1 : (some true) = some r := by rw [if_pos rfl] at H; exact H
                clear H
                have H := H1
                clear H1
                obtain rfl := Option.some.inj H
                go_enter Try.func16, Try.ntmps16
                go_wp2_with (first | ((with_reducible refine gate_dst (N := 1) rfl ?_); refine box_event ?hg (N := 1) ?hd (cs := #[.int .i64 a0_0, .int .i64 a0_1, .int .i64 a0_2, .bool false, .bool true]) (t := 24) ?hr ?_; (case hd => rfl); (case hg => rfl); (case hr => first | (go_simp; done) | (go_simp; rfl)); intro gb128 hg w19 hbox hb; have n0_ := Aside0.mk (below_step (by repeat (first | (with_reducible first | exact HB.out | apply below_alloc | apply pw_below_drewN | apply below_drew1) | exact HB.out)) hb); have n1_ := Aside0.mk (hbox); have n2_ := Aside0.mk ((by rw [hg]; exact (below_size (by repeat (first | (with_reducible first | exact HB.out | apply below_alloc | apply pw_below_drewN | apply below_drew1) | exact HB.out))) : w.heap.size ≤ gb128)); have n3_ := Aside0.mk ((by rw [hg]; exact (below_size (by repeat (first | (with_reducible first | exact HB.out | apply below_alloc | apply pw_below_drewN | apply below_drew1) | exact HB.out))) : w.heap.size ≤ gb128)); clear HB; have HB := n0_; have BK128 := n1_; have GW128 := n2_; have GE128 := n3_; clear n0_ n1_ n2_ n3_; clear hb hbox hg; have hcz20_0 : w19.cell? ⟨gb128, 0, none⟩ = some (.int .i64 a0_0) := (blk_cell BK128.out 0).trans rfl; have hcz20_1 : w19.cell? ⟨gb128, 1, none⟩ = some (.int .i64 a0_1) := (blk_cell BK128.out 1).trans rfl; have hcz20_2 : w19.cell? ⟨gb128, 2, none⟩ = some (.int .i64 a0_2) := (blk_cell BK128.out 2).trans rfl; have hcz20_3 : w19.cell? ⟨gb128, 3, none⟩ = some (.bool false) := (blk_cell BK128.out 3).trans rfl; have hcz20_4 : w19.cell? ⟨gb128, 4, none⟩ = some (.bool true) := (blk_cell BK128.out 4).trans rfl; have hfz20_0 := blk_frozen BK128.out 0; have hfz20_1 := blk_frozen BK128.out 1; have hfz20_2 := blk_frozen BK128.out 2; have hfz20_3 := blk_frozen BK128.out 3; have hfz20_4 := blk_frozen BK128.out 4) | ((with_reducible refine gate_callee (f := 42) rfl ?_); refine goesL_ (some 5) rfl rfl Try.func42 (by kernel_rfl) rfl #[.int .i64 a0_0, .int .i64 (-1000000), .int .i64 1000000] rfl (by (try simp only [List.map_toArray, List.map_cons, List.map_nil]); first | done | rfl | (simp only [List.length_drop, List.length_take]; rfl)) ?_; (with_reducible refine (impl_within.calls a0_0 (-1000000) 1000000 true _ A2.out).mono ?_); rintro e w' ⟨rfl, ⟨nd, rfl⟩⟩; refine ⟨_, rfl, ?_⟩) | (go_at_call 42; (with_reducible refine (impl_within.calls a0_1 (-1000000) 1000000 true _ A4.out).mono ?_); rintro e w' ⟨rfl, ⟨nd, rfl⟩⟩) | (go_at_call 42; (with_reducible refine (impl_within.calls a0_2 (-1000000) 1000000 true _ A6.out).mono ?_); rintro e w' ⟨rfl, ⟨nd, rfl⟩⟩))
                go_ret
                exact ⟨by first | rfl | (simp [errW_none, errW_some] <;> rfl) | (simp [*, errW_none, errW_some] <;> rfl), by repeat (first | (with_reducible first | exact HB.out | apply below_alloc | apply pw_below_drewN | apply below_drew1 | refine below_set ?_ GE128.out) | exact HB.out)⟩
              · replace c18 := Bool.eq_false_iff.mpr c18
                subst c18
                have H1 : (some (a0_1 == 0)) = some r := by rw [if_neg (show ¬ (false = true) by decide)] at H; exact H
                clear H
                have H := H1
                clear H1
                obtain rfl := Option.some.inj H
                go_enter Try.func16, Try.ntmps16
                go_wp2_with (first | ((with_reducible refine gate_dst (N := 1) rfl ?_); refine box_event ?hg (N := 1) ?hd (cs := #[.int .i64 a0_0, .int .i64 a0_1, .int .i64 a0_2, .bool false, .bool false]) (t := 24) ?hr ?_; (case hd => rfl); (case hg => rfl); (case hr => first | (go_simp; done) | (go_simp; rfl)); intro gb128 hg w21 hbox hb; have n0_ := Aside0.mk (below_step (by repeat (first | (with_reducible first | exact HB.out | apply below_alloc | apply pw_below_drewN | apply below_drew1) | exact HB.out)) hb); have n1_ := Aside0.mk (hbox); have n2_ := Aside0.mk ((by rw [hg]; exact (below_size (by repeat (first | (with_reducible first | exact HB.out | apply below_alloc | apply pw_below_drewN | apply below_drew1) | exact HB.out))) : w.heap.size ≤ gb128)); have n3_ := Aside0.mk ((by rw [hg]; exact (below_size (by repeat (first | (with_reducible first | exact HB.out | apply below_alloc | apply pw_below_drewN | apply below_drew1) | exact HB.out))) : w.heap.size ≤ gb128)); clear HB; have HB := n0_; have BK128 := n1_; have GW128 := n2_; have GE128 := n3_; clear n0_ n1_ n2_ n3_; clear hb hbox hg; have hcz22_0 : w21.cell? ⟨gb128, 0, none⟩ = some (.int .i64 a0_0) := (blk_cell BK128.out 0).trans rfl; have hcz22_1 : w21.cell? ⟨gb128, 1, none⟩ = some (.int .i64 a0_1) := (blk_cell BK128.out 1).trans rfl; have hcz22_2 : w21.cell? ⟨gb128, 2, none⟩ = some (.int .i64 a0_2) := (blk_cell BK128.out 2).trans rfl; have hcz22_3 : w21.cell? ⟨gb128, 3, none⟩ = some (.bool false) := (blk_cell BK128.out 3).trans rfl; have hcz22_4 : w21.cell? ⟨gb128, 4, none⟩ = some (.bool false) := (blk_cell BK128.out 4).trans rfl; have hfz22_0 := blk_frozen BK128.out 0; have hfz22_1 := blk_frozen BK128.out 1; have hfz22_2 := blk_frozen BK128.out 2; have hfz22_3 := blk_frozen BK128.out 3; have hfz22_4 := blk_frozen BK128.out 4) | ((with_reducible refine gate_callee (f := 42) rfl ?_); refine goesL_ (some 5) rfl rfl Try.func42 (by kernel_rfl) rfl #[.int .i64 a0_0, .int .i64 (-1000000), .int .i64 1000000] rfl (by (try simp only [List.map_toArray, List.map_cons, List.map_nil]); first | done | rfl | (simp only [List.length_drop, List.length_take]; rfl)) ?_; (with_reducible refine (impl_within.calls a0_0 (-1000000) 1000000 true _ A2.out).mono ?_); rintro e w' ⟨rfl, ⟨nd, rfl⟩⟩; refine ⟨_, rfl, ?_⟩) | (go_at_call 42; (with_reducible refine (impl_within.calls a0_1 (-1000000) 1000000 true _ A4.out).mono ?_); rintro e w' ⟨rfl, ⟨nd, rfl⟩⟩) | (go_at_call 42; (with_reducible refine (impl_within.calls a0_2 (-1000000) 1000000 true _ A6.out).mono ?_); rintro e w' ⟨rfl, ⟨nd, rfl⟩⟩))
                go_ret
                exact ⟨by first | rfl | (simp [errW_none, errW_some] <;> rfl) | (simp [*, errW_none, errW_some] <;> rfl), by repeat (first | (with_reducible first | exact HB.out | apply below_alloc | apply pw_below_drewN | apply below_drew1 | refine below_set ?_ GE128.out) | exact HB.out)⟩
            · rw [if_neg c17] at H
              have c17b0 : (a0_0 == 0) = false := beq_eq_false_iff_ne.mpr c17
              have c17b1 : (a0_0 != 0) = true := bne_iff_ne.mpr c17
              obtain rfl := Option.some.inj H
              go_enter Try.func16, Try.ntmps16
              go_wp2_with (first | ((with_reducible refine gate_dst (N := 1) rfl ?_); refine box_event ?hg (N := 1) ?hd (cs := #[.int .i64 a0_0, .int .i64 a0_1, .int .i64 a0_2, .bool false, .bool a0_4]) (t := 24) ?hr ?_; (case hd => rfl); (case hg => rfl); (case hr => first | (go_simp; done) | (go_simp; rfl)); intro gb128 hg w23 hbox hb; have n0_ := Aside0.mk (below_step (by repeat (first | (with_reducible first | exact HB.out | apply below_alloc | apply pw_below_drewN | apply below_drew1) | exact HB.out)) hb); have n1_ := Aside0.mk (hbox); have n2_ := Aside0.mk ((by rw [hg]; exact (below_size (by repeat (first | (with_reducible first | exact HB.out | apply below_alloc | apply pw_below_drewN | apply below_drew1) | exact HB.out))) : w.heap.size ≤ gb128)); have n3_ := Aside0.mk ((by rw [hg]; exact (below_size (by repeat (first | (with_reducible first | exact HB.out | apply below_alloc | apply pw_below_drewN | apply below_drew1) | exact HB.out))) : w.heap.size ≤ gb128)); clear HB; have HB := n0_; have BK128 := n1_; have GW128 := n2_; have GE128 := n3_; clear n0_ n1_ n2_ n3_; clear hb hbox hg; have hcz24_0 : w23.cell? ⟨gb128, 0, none⟩ = some (.int .i64 a0_0) := (blk_cell BK128.out 0).trans rfl; have hcz24_1 : w23.cell? ⟨gb128, 1, none⟩ = some (.int .i64 a0_1) := (blk_cell BK128.out 1).trans rfl; have hcz24_2 : w23.cell? ⟨gb128, 2, none⟩ = some (.int .i64 a0_2) := (blk_cell BK128.out 2).trans rfl; have hcz24_3 : w23.cell? ⟨gb128, 3, none⟩ = some (.bool false) := (blk_cell BK128.out 3).trans rfl; have hcz24_4 : w23.cell? ⟨gb128, 4, none⟩ = some (.bool a0_4) := (blk_cell BK128.out 4).trans rfl; have hfz24_0 := blk_frozen BK128.out 0; have hfz24_1 := blk_frozen BK128.out 1; have hfz24_2 := blk_frozen BK128.out 2; have hfz24_3 := blk_frozen BK128.out 3; have hfz24_4 := blk_frozen BK128.out 4) | ((with_reducible refine gate_callee (f := 42) rfl ?_); refine goesL_ (some 5) rfl rfl Try.func42 (by kernel_rfl) rfl #[.int .i64 a0_0, .int .i64 (-1000000), .int .i64 1000000] rfl (by (try simp only [List.map_toArray, List.map_cons, List.map_nil]); first | done | rfl | (simp only [List.length_drop, List.length_take]; rfl)) ?_; (with_reducible refine (impl_within.calls a0_0 (-1000000) 1000000 true _ A2.out).mono ?_); rintro e w' ⟨rfl, ⟨nd, rfl⟩⟩; refine ⟨_, rfl, ?_⟩) | (go_at_call 42; (with_reducible refine (impl_within.calls a0_1 (-1000000) 1000000 true _ A4.out).mono ?_); rintro e w' ⟨rfl, ⟨nd, rfl⟩⟩) | (go_at_call 42; (with_reducible refine (impl_within.calls a0_2 (-1000000) 1000000 true _ A6.out).mono ?_); rintro e w' ⟨rfl, ⟨nd, rfl⟩⟩))
              go_ret
              exact ⟨by first | rfl | (simp [errW_none, errW_some] <;> rfl) | (simp [*, errW_none, errW_some] <;> rfl), by repeat (first | (with_reducible first | exact HB.out | apply below_alloc | apply pw_below_drewN | apply below_drew1 | refine below_set ?_ GE128.out) | exact HB.out)⟩
      · replace c7 := Bool.eq_false_iff.mpr c7
        subst c7
        have H1 : (some false) = some r := by rw [if_neg (show ¬ (false = true) by decide)] at H; exact H
        clear H
        have H := H1
        clear H1
        obtain rfl := Option.some.inj H
        go_enter Try.func16, Try.ntmps16
        go_wp2_with (first | ((with_reducible refine gate_dst (N := 1) rfl ?_); refine box_event ?hg (N := 1) ?hd (cs := #[.int .i64 a0_0, .int .i64 a0_1, .int .i64 a0_2, .bool a0_3, .bool a0_4]) (t := 24) ?hr ?_; (case hd => rfl); (case hg => rfl); (case hr => first | (go_simp; done) | (go_simp; rfl)); intro gb128 hg w25 hbox hb; have n0_ := Aside0.mk (below_step (by repeat (first | (with_reducible first | exact HB.out | apply below_alloc | apply pw_below_drewN | apply below_drew1) | exact HB.out)) hb); have n1_ := Aside0.mk (hbox); have n2_ := Aside0.mk ((by rw [hg]; exact (below_size (by repeat (first | (with_reducible first | exact HB.out | apply below_alloc | apply pw_below_drewN | apply below_drew1) | exact HB.out))) : w.heap.size ≤ gb128)); have n3_ := Aside0.mk ((by rw [hg]; exact (below_size (by repeat (first | (with_reducible first | exact HB.out | apply below_alloc | apply pw_below_drewN | apply below_drew1) | exact HB.out))) : w.heap.size ≤ gb128)); clear HB; have HB := n0_; have BK128 := n1_; have GW128 := n2_; have GE128 := n3_; clear n0_ n1_ n2_ n3_; clear hb hbox hg; have hcz26_0 : w25.cell? ⟨gb128, 0, none⟩ = some (.int .i64 a0_0) := (blk_cell BK128.out 0).trans rfl; have hcz26_1 : w25.cell? ⟨gb128, 1, none⟩ = some (.int .i64 a0_1) := (blk_cell BK128.out 1).trans rfl; have hcz26_2 : w25.cell? ⟨gb128, 2, none⟩ = some (.int .i64 a0_2) := (blk_cell BK128.out 2).trans rfl; have hcz26_3 : w25.cell? ⟨gb128, 3, none⟩ = some (.bool a0_3) := (blk_cell BK128.out 3).trans rfl; have hcz26_4 : w25.cell? ⟨gb128, 4, none⟩ = some (.bool a0_4) := (blk_cell BK128.out 4).trans rfl; have hfz26_0 := blk_frozen BK128.out 0; have hfz26_1 := blk_frozen BK128.out 1; have hfz26_2 := blk_frozen BK128.out 2; have hfz26_3 := blk_frozen BK128.out 3; have hfz26_4 := blk_frozen BK128.out 4) | ((with_reducible refine gate_callee (f := 42) rfl ?_); refine goesL_ (some 5) rfl rfl Try.func42 (by kernel_rfl) rfl #[.int .i64 a0_0, .int .i64 (-1000000), .int .i64 1000000] rfl (by (try simp only [List.map_toArray, List.map_cons, List.map_nil]); first | done | rfl | (simp only [List.length_drop, List.length_take]; rfl)) ?_; (with_reducible refine (impl_within.calls a0_0 (-1000000) 1000000 true _ A2.out).mono ?_); rintro e w' ⟨rfl, ⟨nd, rfl⟩⟩; refine ⟨_, rfl, ?_⟩) | (go_at_call 42; (with_reducible refine (impl_within.calls a0_1 (-1000000) 1000000 true _ A4.out).mono ?_); rintro e w' ⟨rfl, ⟨nd, rfl⟩⟩) | (go_at_call 42; (with_reducible refine (impl_within.calls a0_2 (-1000000) 1000000 false _ A6.out).mono ?_); rintro e w' ⟨rfl, ⟨nd, rfl⟩⟩))
        go_ret
        exact ⟨by first | rfl | (simp [errW_none, errW_some] <;> rfl) | (simp [*, errW_none, errW_some] <;> rfl), by repeat (first | (with_reducible first | exact HB.out | apply below_alloc | apply pw_below_drewN | apply below_drew1 | refine below_set ?_ GE128.out) | exact HB.out)⟩
    · replace c5 := Bool.eq_false_iff.mpr c5
      subst c5
      have H1 : (some false) = some r := by rw [if_neg (show ¬ (false = true) by decide)] at H; exact H
      clear H
      have H := H1
      clear H1
      obtain rfl := Option.some.inj H
      go_enter Try.func16, Try.ntmps16
      go_wp2_with (first | ((with_reducible refine gate_dst (N := 1) rfl ?_); refine box_event ?hg (N := 1) ?hd (cs := #[.int .i64 a0_0, .int .i64 a0_1, .int .i64 a0_2, .bool a0_3, .bool a0_4]) (t := 24) ?hr ?_; (case hd => rfl); (case hg => rfl); (case hr => first | (go_simp; done) | (go_simp; rfl)); intro gb128 hg w27 hbox hb; have n0_ := Aside0.mk (below_step (by repeat (first | (with_reducible first | exact HB.out | apply below_alloc | apply pw_below_drewN | apply below_drew1) | exact HB.out)) hb); have n1_ := Aside0.mk (hbox); have n2_ := Aside0.mk ((by rw [hg]; exact (below_size (by repeat (first | (with_reducible first | exact HB.out | apply below_alloc | apply pw_below_drewN | apply below_drew1) | exact HB.out))) : w.heap.size ≤ gb128)); have n3_ := Aside0.mk ((by rw [hg]; exact (below_size (by repeat (first | (with_reducible first | exact HB.out | apply below_alloc | apply pw_below_drewN | apply below_drew1) | exact HB.out))) : w.heap.size ≤ gb128)); clear HB; have HB := n0_; have BK128 := n1_; have GW128 := n2_; have GE128 := n3_; clear n0_ n1_ n2_ n3_; clear hb hbox hg; have hcz28_0 : w27.cell? ⟨gb128, 0, none⟩ = some (.int .i64 a0_0) := (blk_cell BK128.out 0).trans rfl; have hcz28_1 : w27.cell? ⟨gb128, 1, none⟩ = some (.int .i64 a0_1) := (blk_cell BK128.out 1).trans rfl; have hcz28_2 : w27.cell? ⟨gb128, 2, none⟩ = some (.int .i64 a0_2) := (blk_cell BK128.out 2).trans rfl; have hcz28_3 : w27.cell? ⟨gb128, 3, none⟩ = some (.bool a0_3) := (blk_cell BK128.out 3).trans rfl; have hcz28_4 : w27.cell? ⟨gb128, 4, none⟩ = some (.bool a0_4) := (blk_cell BK128.out 4).trans rfl; have hfz28_0 := blk_frozen BK128.out 0; have hfz28_1 := blk_frozen BK128.out 1; have hfz28_2 := blk_frozen BK128.out 2; have hfz28_3 := blk_frozen BK128.out 3; have hfz28_4 := blk_frozen BK128.out 4) | ((with_reducible refine gate_callee (f := 42) rfl ?_); refine goesL_ (some 5) rfl rfl Try.func42 (by kernel_rfl) rfl #[.int .i64 a0_0, .int .i64 (-1000000), .int .i64 1000000] rfl (by (try simp only [List.map_toArray, List.map_cons, List.map_nil]); first | done | rfl | (simp only [List.length_drop, List.length_take]; rfl)) ?_; (with_reducible refine (impl_within.calls a0_0 (-1000000) 1000000 true _ A2.out).mono ?_); rintro e w' ⟨rfl, ⟨nd, rfl⟩⟩; refine ⟨_, rfl, ?_⟩) | (go_at_call 42; (with_reducible refine (impl_within.calls a0_1 (-1000000) 1000000 false _ A4.out).mono ?_); rintro e w' ⟨rfl, ⟨nd, rfl⟩⟩))
      go_ret
      exact ⟨by first | rfl | (simp [errW_none, errW_some] <;> rfl) | (simp [*, errW_none, errW_some] <;> rfl), by repeat (first | (with_reducible first | exact HB.out | apply below_alloc | apply pw_below_drewN | apply below_drew1 | refine below_set ?_ GE128.out) | exact HB.out)⟩
  · replace c3 := Bool.eq_false_iff.mpr c3
    subst c3
    have H1 : (some false) = some r := by rw [if_neg (show ¬ (false = true) by decide)] at H; exact H
    clear H
    have H := H1
    clear H1
    obtain rfl := Option.some.inj H
    go_enter Try.func16, Try.ntmps16
    go_wp2_with (first | ((with_reducible refine gate_dst (N := 1) rfl ?_); refine box_event ?hg (N := 1) ?hd (cs := #[.int .i64 a0_0, .int .i64 a0_1, .int .i64 a0_2, .bool a0_3, .bool a0_4]) (t := 24) ?hr ?_; (case hd => rfl); (case hg => rfl); (case hr => first | (go_simp; done) | (go_simp; rfl)); intro gb128 hg w29 hbox hb; have n0_ := Aside0.mk (below_step (by repeat (first | (with_reducible first | exact HB.out | apply below_alloc | apply pw_below_drewN | apply below_drew1) | exact HB.out)) hb); have n1_ := Aside0.mk (hbox); have n2_ := Aside0.mk ((by rw [hg]; exact (below_size (by repeat (first | (with_reducible first | exact HB.out | apply below_alloc | apply pw_below_drewN | apply below_drew1) | exact HB.out))) : w.heap.size ≤ gb128)); have n3_ := Aside0.mk ((by rw [hg]; exact (below_size (by repeat (first | (with_reducible first | exact HB.out | apply below_alloc | apply pw_below_drewN | apply below_drew1) | exact HB.out))) : w.heap.size ≤ gb128)); clear HB; have HB := n0_; have BK128 := n1_; have GW128 := n2_; have GE128 := n3_; clear n0_ n1_ n2_ n3_; clear hb hbox hg; have hcz30_0 : w29.cell? ⟨gb128, 0, none⟩ = some (.int .i64 a0_0) := (blk_cell BK128.out 0).trans rfl; have hcz30_1 : w29.cell? ⟨gb128, 1, none⟩ = some (.int .i64 a0_1) := (blk_cell BK128.out 1).trans rfl; have hcz30_2 : w29.cell? ⟨gb128, 2, none⟩ = some (.int .i64 a0_2) := (blk_cell BK128.out 2).trans rfl; have hcz30_3 : w29.cell? ⟨gb128, 3, none⟩ = some (.bool a0_3) := (blk_cell BK128.out 3).trans rfl; have hcz30_4 : w29.cell? ⟨gb128, 4, none⟩ = some (.bool a0_4) := (blk_cell BK128.out 4).trans rfl; have hfz30_0 := blk_frozen BK128.out 0; have hfz30_1 := blk_frozen BK128.out 1; have hfz30_2 := blk_frozen BK128.out 2; have hfz30_3 := blk_frozen BK128.out 3; have hfz30_4 := blk_frozen BK128.out 4) | ((with_reducible refine gate_callee (f := 42) rfl ?_); refine goesL_ (some 5) rfl rfl Try.func42 (by kernel_rfl) rfl #[.int .i64 a0_0, .int .i64 (-1000000), .int .i64 1000000] rfl (by (try simp only [List.map_toArray, List.map_cons, List.map_nil]); first | done | rfl | (simp only [List.length_drop, List.length_take]; rfl)) ?_; (with_reducible refine (impl_within.calls a0_0 (-1000000) 1000000 false _ A2.out).mono ?_); rintro e w' ⟨rfl, ⟨nd, rfl⟩⟩; refine ⟨_, rfl, ?_⟩))
    go_ret
    exact ⟨by first | rfl | (simp [errW_none, errW_some] <;> rfl) | (simp [*, errW_none, errW_some] <;> rfl), by repeat (first | (with_reducible first | exact HB.out | apply below_alloc | apply pw_below_drewN | apply below_drew1 | refine below_set ?_ GE128.out) | exact HB.out)⟩

/-! ### impl_CutRange: function 18 -/
def boundI (n lo hi : Int) (has : Bool) (given missing : Int) : Int := if has then min (max (if given < 0 then wrap64 (given + n) else given) lo) hi else missing
set_option maxHeartbeats 4000000 in
set_option maxRecDepth 100000 in
theorem bound_any (has : Bool) (given missing n lo hi : Int) (bn bl bh : Nat) (w : World)
    (hn : w.cell? ⟨bn, 0, none⟩ = some (.int .i64 n)) (hl : w.cell? ⟨bl, 0, none⟩ = some (.int .i64 lo)) (hh : w.cell? ⟨bh, 0, none⟩ = some (.int .i64 hi)) :
    Calls Try.prog 44 #[.bool has, .int .i64 given, .int .i64 missing, .pointer (some ⟨bn, 0, none⟩), .pointer (some ⟨bl, 0, none⟩), .pointer (some ⟨bh, 0, none⟩)] w
      fun e w' => e = .returned (.int .i64 (boundI n lo hi has given missing)) ∧ ∃ m, w' = w.drewN m := by
  cases has with
  | false =>
    go_enter Try.func44, Try.ntmps44
    go_wp2
    go_ret
    exact ⟨by simp [boundI], (by repeat (first | exact Drawn0.refl _ | apply Drawn0.step) : Drawn0 w _).out⟩
  | true =>
    by_cases hg : given < 0
    · have hg' : decide (given < 0) = true := decide_eq_true hg
      go_enter Try.func44, Try.ntmps44
      go_wp2
      all_goals
        go_ret
        refine ⟨?_, (by repeat (first | exact Drawn0.refl _ | apply Drawn0.step) : Drawn0 w _).out⟩
        refine congrArg (fun z => Ending.returned (Value.int .i64 z)) ?_
        simp only [boundI, if_pos hg, if_true]
        simp only [Int.min_def, Int.max_def]
        split at * <;> (try split) <;> (try split) <;> omega
    · have hg' : decide (given < 0) = false := decide_eq_false hg
      go_enter Try.func44, Try.ntmps44
      go_wp2
      all_goals
        go_ret
        refine ⟨?_, (by repeat (first | exact Drawn0.refl _ | apply Drawn0.step) : Drawn0 w _).out⟩
        have hg2 : ¬ given < 0 := by omega
        refine congrArg (fun z => Ending.returned (Value.int .i64 z)) ?_
        simp only [boundI, if_neg hg2, if_true]
        simp only [Int.min_def, Int.max_def]
        split at * <;> (try split) <;> (try split) <;> omega

/-- How many places a slice selects, from the first one on. -/
def cutCount (s p q : Int) : Int := if 0 < s then (if p < q then (q - p - 1) / s + 1 else 0) else (if q < p then (p - q - 1) / (-s) + 1 else 0)
def cutLo (s : Int) : Int := if s < 0 then -1 else 0
def cutHi (n s : Int) : Int := if s < 0 then n - 1 else n
def cutP (n f s : Int) (hf : Bool) : Int := boundI n (cutLo s) (cutHi n s) hf f (if s < 0 then n - 1 else 0)
def cutQ (n t s : Int) (ht : Bool) : Int := boundI n (cutLo s) (cutHi n s) ht t (if s < 0 then -1 else n)
/-- What CutRange answers at valid arguments. -/
def cutR (n f t s : Int) (hf ht : Bool) : Int × Int := (cutP n f s hf, cutCount s (cutP n f s hf) (cutQ n t s ht))
theorem within_true {a b c : Int} (h : impl_within.f a b c = some true) : b ≤ a ∧ a ≤ c := by
  unfold impl_within.f at h
  by_cases h1 : a ≥ b
  · rw [if_pos h1] at h
    exact ⟨h1, by simpa using h⟩
  · rw [if_neg h1] at h; cases h
theorem within_some (a b c : Int) : impl_within.f a b c = some (decide (b ≤ a ∧ a ≤ c)) := by
  unfold impl_within.f
  by_cases h1 : a ≥ b
  · rw [if_pos h1]; congr 1; simp; omega
  · rw [if_neg h1, decide_eq_false (by omega)]
theorem cutOk_some (f t s : Int) (hf ht : Bool) : impl_CutOk.f f t s hf ht = some (decide (-1000000 ≤ f ∧ f ≤ 1000000 ∧ -1000000 ≤ t ∧ t ≤ 1000000 ∧ -1000000 ≤ s ∧ s ≤ 1000000 ∧ s ≠ 0 ∧ (hf = true ∨ f = 0) ∧ (ht = true ∨ t = 0))) := by
  unfold impl_CutOk.f
  rw [within_some, within_some, within_some]
  simp only [Option.bind_some, decide_eq_true_eq]
  by_cases h1 : -1000000 ≤ f ∧ f ≤ 1000000
  · by_cases h2 : -1000000 ≤ t ∧ t ≤ 1000000
    · by_cases h3 : -1000000 ≤ s ∧ s ≤ 1000000
      · by_cases h4 : s = 0
        · subst h4; simp [h1, h2]
        · by_cases h5 : f = 0 <;> by_cases h6 : t = 0 <;> cases hf <;> cases ht <;> simp [h1, h2, h3, h4, h5, h6]
      · rw [if_pos h1, if_pos h2, if_neg h3, decide_eq_false (by omega)]
    · rw [if_pos h1, if_neg h2, decide_eq_false (by omega)]
  · rw [if_neg h1, decide_eq_false (by omega)]
theorem cutOk_true {f t s : Int} {hf ht : Bool} (h : impl_CutOk.f f t s hf ht = some true) : -1000000 ≤ f ∧ f ≤ 1000000 ∧ -1000000 ≤ t ∧ t ≤ 1000000 ∧ -1000000 ≤ s ∧ s ≤ 1000000 ∧ s ≠ 0 ∧ (hf = true ∨ f = 0) ∧ (ht = true ∨ t = 0) := by
  rw [cutOk_some] at h
  simpa using h
theorem boundI_bd {n lo hi : Int} (h : lo ≤ hi) (has : Bool) {g m : Int} (h1 : lo ≤ m) (h2 : m ≤ hi) : lo ≤ boundI n lo hi has g m ∧ boundI n lo hi has g m ≤ hi := by
  unfold boundI
  cases has
  · exact ⟨h1, h2⟩
  · simp only [if_true]
    simp only [Int.min_def, Int.max_def]
    split <;> split <;> omega
theorem cutP_bd {n f s : Int} (hf : Bool) (h0 : 0 ≤ n) : cutLo s ≤ cutP n f s hf ∧ cutP n f s hf ≤ cutHi n s := by
  unfold cutP
  apply boundI_bd
  all_goals (simp only [cutLo, cutHi])
  all_goals (split <;> omega)
theorem cutQ_bd {n t s : Int} (ht : Bool) (h0 : 0 ≤ n) : cutLo s ≤ cutQ n t s ht ∧ cutQ n t s ht ≤ cutHi n s := by
  unfold cutQ
  apply boundI_bd
  all_goals (simp only [cutLo, cutHi])
  all_goals (split <;> omega)
theorem cut_neg (x s : Int) (hx : 0 ≤ x) (h : s < 0) : -(x.tdiv s) = x / (-s) := by
  rw [← Int.tdiv_neg, Int.tdiv_eq_ediv_of_nonneg hx]
theorem cut_div_le (x s : Int) (hx : 0 ≤ x) (h : 0 < s) : 0 ≤ x / s ∧ x / s ≤ x := ⟨Int.ediv_nonneg hx (by omega), Int.ediv_le_self _ hx⟩

def impl_CutRange.f (a0 : Int) (a1_0 : Int) (a1_1 : Int) (a1_2 : Int) (a1_3 : Bool) (a1_4 : Bool) : Option (Int × Int) := (impl_within.f a0 0 1000000).bind fun b => if b = true then ((impl_CutOk.f a1_0 a1_1 a1_2 a1_3 a1_4).bind fun c => if c = true then some (cutR a0 a1_0 a1_1 a1_2 a1_3 a1_4) else some (0, 0)) else some (0, 0)
set_option maxHeartbeats 4000000 in
set_option maxRecDepth 100000 in
theorem cr_any (a0 a1_0 a1_1 a1_2 : Int) (a1_3 a1_4 : Bool) (w : World) (A1 : impl_within.f a0 0 1000000 = some true) (A2 : impl_CutOk.f a1_0 a1_1 a1_2 a1_3 a1_4 = some true) :
    Calls Try.prog 18 #[.int .i64 a0, .agg #[.int .i64 a1_0, .int .i64 a1_1, .int .i64 a1_2, .bool a1_3, .bool a1_4]] w
      fun e w' => e = .returned (.tuple #[.int .i64 (cutR a0 a1_0 a1_1 a1_2 a1_3 a1_4).1, .int .i64 (cutR a0 a1_0 a1_1 a1_2 a1_3 a1_4).2]) ∧ Below w.heap.size w w' := by
  have hu24 := Try.underlying24
  have A1 := Aside0.mk A1
  have A2 := Aside0.mk A2
  have HB := Aside0.mk (Below.refl w.heap.size w)
  have hmf : ∀ (fn : Fn) (first cap : Array Value) (w : World), (Instr.makeFunc fn first cap).run Try.prog w = .ok (.func fn first cap) w := fun _ _ _ _ => rfl
  go_enter Try.func18, Try.ntmps18
  go_upto_region 3 with (first
    | ((with_reducible refine gate_dst (N := 2) rfl ?_); refine box_event ?hg (N := 2) ?hd (cs := #[.int .i64 a0]) (t := 3) ?hr ?_; (case hd => rfl); (case hg => rfl); (case hr => first | (go_simp; done) | (go_simp; rfl)); intro gn hgn w1 hbn hb1; have BN := Aside0.mk hbn; have B1 := Aside0.mk hb1; have GN := Aside0.mk (Nat.le_of_eq hgn.symm); clear hgn hbn hb1; have hcn : w1.cell? ⟨gn, 0, none⟩ = some (.int .i64 a0) := (blk_cell BN.out 0).trans rfl)
    | ((with_reducible refine gate_dst (N := 3) rfl ?_); refine box_event ?hg (N := 3) ?hd (cs := #[.int .i64 a1_0, .int .i64 a1_1, .int .i64 a1_2, .bool a1_3, .bool a1_4]) (t := 24) ?hr ?_; (case hd => rfl); (case hg => rfl); (case hr => first | (go_simp; done) | (go_simp; rfl)); intro gc hgc w2 hbc hb2; have BN2 := Aside0.mk (blk_below BN.out hb2); have BC := Aside0.mk hbc; have B2 := Aside0.mk (below_step B1.out hb2); clear hgc hbc hb2; have hcn2 : w2.cell? ⟨gn, 0, none⟩ = some (.int .i64 a0) := (blk_cell BN2.out 0).trans rfl; have hc2_0 : w2.cell? ⟨gc, 0, none⟩ = some (.int .i64 a1_0) := (blk_cell BC.out 0).trans rfl; have hc2_1 : w2.cell? ⟨gc, 1, none⟩ = some (.int .i64 a1_1) := (blk_cell BC.out 1).trans rfl; have hc2_2 : w2.cell? ⟨gc, 2, none⟩ = some (.int .i64 a1_2) := (blk_cell BC.out 2).trans rfl; have hc2_3 : w2.cell? ⟨gc, 3, none⟩ = some (.bool a1_3) := (blk_cell BC.out 3).trans rfl; have hc2_4 : w2.cell? ⟨gc, 4, none⟩ = some (.bool a1_4) := (blk_cell BC.out 4).trans rfl)
    | (go_at_call 42; (with_reducible refine (impl_within.calls a0 0 1000000 true _ A1.out).mono ?_); rintro e w' ⟨rfl, ⟨nd, rfl⟩⟩)
    | (go_at_call 16; (with_reducible refine (impl_CutOk.calls a1_0 a1_1 a1_2 a1_3 a1_4 true _ A2.out).mono ?_); rintro e w3 ⟨rfl, hb3⟩; have BN3 := Aside0.mk (blk_below (w := w2.drewN nd) BN2.out hb3); have BC3 := Aside0.mk (blk_below (w := w2.drewN nd) BC.out hb3); have B3 := Aside0.mk (below_step (W := w2.drewN nd) (pw_below_drewN B2.out _) hb3); clear hb3; have hcn3 : w3.cell? ⟨gn, 0, none⟩ = some (.int .i64 a0) := (blk_cell BN3.out 0).trans rfl; have hc3_0 : w3.cell? ⟨gc, 0, none⟩ = some (.int .i64 a1_0) := (blk_cell BC3.out 0).trans rfl; have hc3_1 : w3.cell? ⟨gc, 1, none⟩ = some (.int .i64 a1_1) := (blk_cell BC3.out 1).trans rfl; have hc3_2 : w3.cell? ⟨gc, 2, none⟩ = some (.int .i64 a1_2) := (blk_cell BC3.out 2).trans rfl; have hc3_3 : w3.cell? ⟨gc, 3, none⟩ = some (.bool a1_3) := (blk_cell BC3.out 3).trans rfl; have hc3_4 : w3.cell? ⟨gc, 4, none⟩ = some (.bool a1_4) := (blk_cell BC3.out 4).trans rfl))
  clear hcn hcn2 hc2_0 hc2_1 hc2_2 hc2_3 hc2_4
  go_cut [6, 7] (fun v6 v7 wx => ∃ gl gh : Nat, v6 = .pointer (some ⟨gl, 0, none⟩) ∧ v7 = .pointer (some ⟨gh, 0, none⟩) ∧ Aside0 (gl ≠ gh) ∧ Aside0 (w.heap.size ≤ gl) ∧ Aside0 (w.heap.size ≤ gh) ∧ Aside0 (gl ≠ gn) ∧ Aside0 (gh ≠ gn) ∧ Aside0 (gl ≠ gc) ∧ Aside0 (gh ≠ gc) ∧ Aside0 (wx.heap[gl]? = some (.cells #[.int .i64 0] 3 (0, 0))) ∧ Aside0 (wx.heap[gh]? = some (.cells #[.int .i64 a0] 3 (0, 0))) ∧ Aside0 (wx.heap[gn]? = some (.cells #[.int .i64 a0] 3 (0, 0))) ∧ Aside0 (wx.heap[gc]? = some (.cells #[.int .i64 a1_0, .int .i64 a1_1, .int .i64 a1_2, .bool a1_3, .bool a1_4] 24 (0, 0))) ∧ Aside0 (Below w.heap.size w wx))
  case first =>
    have hA0 : ∀ o1 o2, (((w3.alloc o1).alloc o2)).cell? ⟨gn, 0, none⟩ = some (.int .i64 a0) := fun o1 o2 => (blk_cell (blk_alloc (blk_alloc BN3.out o1) o2) 0).trans rfl
    have hA_1 : ∀ o1, ((w3.alloc o1)).cell? ⟨gn, 0, none⟩ = some (.int .i64 a0) := fun o1 => (blk_cell (blk_alloc BN3.out o1) 0).trans rfl
    go_region
    all_goals (try go_wp2_with fail)
    · go_meet
      case rel =>
        have hg := blk_lt BN3.out
        have hc := blk_lt BC3.out
        have hb := below_size B3.out
        have b1 := blk_new w3 (.cells #[.int .i64 0] 3)
        have b2 := blk_new (w3.alloc (.cells #[.int .i64 0] 3)) (.cells #[.int .i64 a0] 3)
        rw [World.size_alloc] at b2
        exact ⟨w3.heap.size, w3.heap.size + 1, rfl, rfl, ⟨by omega⟩, ⟨by omega⟩, ⟨by omega⟩, ⟨by omega⟩, ⟨by omega⟩, ⟨by omega⟩, ⟨by omega⟩, ⟨blk_drew (blk_alloc b1 _)⟩, ⟨blk_drew b2⟩, ⟨blk_drew (blk_alloc (blk_alloc BN3.out _) _)⟩, ⟨blk_drew (blk_alloc (blk_alloc BC3.out _) _)⟩, ⟨below_drew1 (below_alloc (below_alloc B3.out _) _)⟩⟩
    · go_meet
      case rel =>
        have hg := blk_lt BN3.out
        have hc := blk_lt BC3.out
        have hb := below_size B3.out
        have b1 := blk_new w3 (.cells #[.int .i64 a0] 3)
        have b2 := blk_new (w3.alloc (.cells #[.int .i64 a0] 3)) (.cells #[.int .i64 0] 3)
        rw [World.size_alloc] at b2
        exact ⟨w3.heap.size + 1, w3.heap.size, rfl, rfl, ⟨by omega⟩, ⟨by omega⟩, ⟨by omega⟩, ⟨by omega⟩, ⟨by omega⟩, ⟨by omega⟩, ⟨by omega⟩, ⟨blk_drew b2⟩, ⟨blk_drew (blk_alloc b1 _)⟩, ⟨blk_drew (blk_alloc (blk_alloc BN3.out _) _)⟩, ⟨blk_drew (blk_alloc (blk_alloc BC3.out _) _)⟩, ⟨below_drew1 (below_alloc (below_alloc B3.out _) _)⟩⟩
  case rest =>
    clear hcn3 hc3_0 hc3_1 hc3_2 hc3_3 hc3_4 BN BN2 BN3 BC BC3 B1 B2 B3 HB
    obtain ⟨gl, gh, rfl, rfl, N1, N2, N3, N4, N5, N6, N7, L1, H1, BN, BC, HB⟩ := hcut
    have hn1 : wc.cell? ⟨gn, 0, none⟩ = some (.int .i64 a0) := (blk_cell BN.out 0).trans rfl
    have hl1 : wc.cell? ⟨gl, 0, none⟩ = some (.int .i64 0) := (blk_cell L1.out 0).trans rfl
    have hh1 : wc.cell? ⟨gh, 0, none⟩ = some (.int .i64 a0) := (blk_cell H1.out 0).trans rfl
    have hc_2 : wc.cell? ⟨gc, 2, none⟩ = some (.int .i64 a1_2) := (blk_cell BC.out 2).trans rfl
    go_wp2_with fail
    go_quiet (fail)
    go_upto_if 24 with fail
    go_cut [8, 9] (fun v8 v9 wx => ∃ lo hi f0 t0 : Int, v8 = .int .i64 f0 ∧ v9 = .int .i64 t0 ∧ Aside0 (lo = if a1_2 < 0 then -1 else 0) ∧ Aside0 (hi = if a1_2 < 0 then wrap64 (a0 - 1) else a0) ∧ Aside0 (f0 = if a1_2 < 0 then wrap64 (a0 - 1) else 0) ∧ Aside0 (t0 = if a1_2 < 0 then -1 else a0) ∧ Aside0 (wx.heap[gl]? = some (.cells #[.int .i64 lo] 3 (0, 0))) ∧ Aside0 (wx.heap[gh]? = some (.cells #[.int .i64 hi] 3 (0, 0))) ∧ Aside0 (wx.heap[gn]? = some (.cells #[.int .i64 a0] 3 (0, 0))) ∧ Aside0 (wx.heap[gc]? = some (.cells #[.int .i64 a1_0, .int .i64 a1_1, .int .i64 a1_2, .bool a1_3, .bool a1_4] 24 (0, 0))) ∧ Aside0 (Below w.heap.size w wx))
    case first =>
      by_cases hs : a1_2 < 0
      · have Hs := Aside0.mk hs
        have hs' : decide (a1_2 < 0) = true := decide_eq_true hs
        go_wp2_with fail
        have hl2 : ∀ k, ((wc.drewN k).setCell ⟨gl, 0, none⟩ (.int .i64 (-1))).cell? ⟨gn, 0, none⟩ = some (.int .i64 a0) := fun k => (blk_cell (blk_far (p := ⟨gl, 0, none⟩) (blk_drewN BN.out k) (Ne.symm N4.out) _) 0).trans rfl
        have hh2 : ∀ k, ((wc.drewN k).setCell ⟨gl, 0, none⟩ (.int .i64 (-1))).cell? ⟨gh, 0, none⟩ = some (.int .i64 a0) := fun k => (blk_cell (blk_far (p := ⟨gl, 0, none⟩) (blk_drewN H1.out k) (Ne.symm N1.out) _) 0).trans rfl
        have hf1 : wc.frozen? ⟨gl, 0, none⟩ = false := blk_frozen L1.out 0
        have hf2 : wc.frozen? ⟨gh, 0, none⟩ = false := blk_frozen H1.out 0
        have hf3 : ∀ k, ((wc.drewN k).setCell ⟨gl, 0, none⟩ (.int .i64 (-1))).frozen? ⟨gh, 0, none⟩ = false := fun k => blk_frozen (blk_far (p := ⟨gl, 0, none⟩) (blk_drewN H1.out k) (Ne.symm N1.out) _) 0
        have hn2 : ∀ k, (((wc.drewN k).setCell ⟨gl, 0, none⟩ (.int .i64 (-1))).setCell ⟨gh, 0, none⟩ (.int .i64 (wrap64 (a0 - 1)))).cell? ⟨gn, 0, none⟩ = some (.int .i64 a0) := fun k => (blk_cell (blk_far (p := ⟨gh, 0, none⟩) (blk_far (p := ⟨gl, 0, none⟩) (blk_drewN BN.out k) (Ne.symm N4.out) _) (Ne.symm N5.out) _) 0).trans rfl
        go_region
        all_goals (try go_wp2_with fail)
        go_meet
        case rel => exact ⟨-1, wrap64 (a0 - 1), wrap64 (a0 - 1), -1, rfl, rfl, ⟨(if_pos Hs.out).symm⟩, ⟨(if_pos Hs.out).symm⟩, ⟨(if_pos Hs.out).symm⟩, ⟨(if_pos Hs.out).symm⟩, ⟨blk_far (p := ⟨gh, 0, none⟩) (blk_set (blk_drewN L1.out _) 0 _) N1.out _⟩, ⟨blk_set (blk_far (p := ⟨gl, 0, none⟩) (blk_drewN H1.out _) (Ne.symm N1.out) _) 0 _⟩, ⟨blk_far (p := ⟨gh, 0, none⟩) (blk_far (p := ⟨gl, 0, none⟩) (blk_drewN BN.out _) (Ne.symm N4.out) _) (Ne.symm N5.out) _⟩, ⟨blk_far (p := ⟨gh, 0, none⟩) (blk_far (p := ⟨gl, 0, none⟩) (blk_drewN BC.out _) (Ne.symm N6.out) _) (Ne.symm N7.out) _⟩, ⟨below_set (below_set (pw_below_drewN HB.out _) N2.out) N3.out⟩⟩
      · have Hs := Aside0.mk hs
        have hs' : decide (a1_2 < 0) = false := decide_eq_false hs
        go_wp2_with fail
        have Hs2 : ¬ a1_2 < 0 := by have := Hs.out; omega
        go_meet
        case rel => exact ⟨0, a0, 0, a0, rfl, rfl, ⟨(if_neg Hs2).symm⟩, ⟨(if_neg Hs2).symm⟩, ⟨(if_neg Hs2).symm⟩, ⟨(if_neg Hs2).symm⟩, L1, H1, BN, BC, ⟨pw_below_drewN HB.out _⟩⟩
    case rest =>
      clear hn1 hl1 hh1 hc_2 L1 H1 BN BC HB
      obtain ⟨lo, hi, f0, t0, rfl, rfl, E1, E2, E3, E4, L1, H1, BN, BC, HB⟩ := hcut
      have hn1 : wc.cell? ⟨gn, 0, none⟩ = some (.int .i64 a0) := (blk_cell BN.out 0).trans rfl
      have hl1 : wc.cell? ⟨gl, 0, none⟩ = some (.int .i64 lo) := (blk_cell L1.out 0).trans rfl
      have hh1 : wc.cell? ⟨gh, 0, none⟩ = some (.int .i64 hi) := (blk_cell H1.out 0).trans rfl
      have hc_0 : wc.cell? ⟨gc, 0, none⟩ = some (.int .i64 a1_0) := (blk_cell BC.out 0).trans rfl
      have hc_1 : wc.cell? ⟨gc, 1, none⟩ = some (.int .i64 a1_1) := (blk_cell BC.out 1).trans rfl
      have hc_2 : wc.cell? ⟨gc, 2, none⟩ = some (.int .i64 a1_2) := (blk_cell BC.out 2).trans rfl
      have hc_3 : wc.cell? ⟨gc, 3, none⟩ = some (.bool a1_3) := (blk_cell BC.out 3).trans rfl
      have hc_4 : wc.cell? ⟨gc, 4, none⟩ = some (.bool a1_4) := (blk_cell BC.out 4).trans rfl
      go_wp2_with fail
      go_quiet ((go_at_call 44; refine Calls.quiet_of (bound_any _ _ _ a0 lo hi gn gl gh _ ?_ ?_ ?_) <;> (simp [*]; done)))
      clear hmf hn1 hl1 hh1 hc_0 hc_1 hc_3 hc_4
      have W1 := within_true A1.out
      have W2 := cutOk_true A2.out
      have ew : wrap64 (a0 - 1) = a0 - 1 := by unfold wrap64; omega
      have EP : Aside0 (boundI a0 lo hi a1_3 a1_0 f0 = cutP a0 a1_0 a1_2 a1_3) := ⟨by rw [E1.out, E2.out, E3.out, ew]; rfl⟩
      have EQ : Aside0 (boundI a0 lo hi a1_4 a1_1 t0 = cutQ a0 a1_1 a1_2 a1_4) := ⟨by rw [E1.out, E2.out, E4.out, ew]; rfl⟩
      rw [EP.out, EQ.out]
      have P1 := cutP_bd (f := a1_0) (s := a1_2) a1_3 W1.1
      have Q1 := cutQ_bd (t := a1_1) (s := a1_2) a1_4 W1.1
      have l1 : -1 ≤ cutLo a1_2 := by unfold cutLo; split <;> omega
      have l2 : cutHi a0 a1_2 ≤ 1000000 := by unfold cutHi; split <;> omega
      have PR : Aside0 (cutR a0 a1_0 a1_1 a1_2 a1_3 a1_4 = (cutP a0 a1_0 a1_2 a1_3, cutCount a1_2 (cutP a0 a1_0 a1_2 a1_3) (cutQ a0 a1_1 a1_2 a1_4))) := ⟨rfl⟩
      have p1 : -1 ≤ cutP a0 a1_0 a1_2 a1_3 := by omega
      have p2 : cutP a0 a1_0 a1_2 a1_3 ≤ 1000000 := by omega
      have q1 : -1 ≤ cutQ a0 a1_1 a1_2 a1_4 := by omega
      have q2 : cutQ a0 a1_1 a1_2 a1_4 ≤ 1000000 := by omega
      have s1 := W2.2.2.2.2.1
      have s2 := W2.2.2.2.2.2.1
      have s0 := Aside0.mk W2.2.2.2.2.2.2.1
      clear W1 W2 ew EP EQ P1 Q1 l1 l2 E1 E2 E3 E4
      generalize cutP a0 a1_0 a1_2 a1_3 = p at *
      generalize cutQ a0 a1_1 a1_2 a1_4 = q at *
      have fin : ∀ (c : Int) (E : Ending) (W' : World), c = cutCount a1_2 p q → E = .returned (.tuple #[.int .i64 p, .int .i64 c]) → Below w.heap.size w W' → E = .returned (.tuple #[.int .i64 (cutR a0 a1_0 a1_1 a1_2 a1_3 a1_4).1, .int .i64 (cutR a0 a1_0 a1_1 a1_2 a1_3 a1_4).2]) ∧ Below w.heap.size w W' := by
        intro c E W' hc hE hB
        rw [PR.out, hE, hc]
        exact ⟨rfl, hB⟩
      by_cases hs : 0 < a1_2
      · have hs' : decide (0 < a1_2) = true := decide_eq_true hs
        have hs2 : decide (a1_2 < 0) = false := decide_eq_false (by omega)
        by_cases hpq : p < q
        · have hp' : decide (p < q) = true := decide_eq_true hpq
          have hd := Aside0.mk (cut_div_le (q - p - 1) a1_2 (by omega) hs)
          have fin2 := fin ((q - p - 1) / a1_2 + 1)
          clear fin
          go_wp2
          go_ret2
          refine fin2 _ _ (by rw [cutCount, if_pos hs, if_pos hpq]) ?_ (pw_below_drewN HB.out _)
          have hd1 := hd.out
          refine congrArg (fun z => Ending.returned (.tuple #[.int .i64 p, .int .i64 z])) (?_ : wrap64 ((q - p - 1) / a1_2 + 1) = _)
          unfold wrap64; omega
        · have hp' : decide (p < q) = false := decide_eq_false hpq
          have fin2 := fin 0
          clear fin
          go_wp2
          go_ret2
          exact fin2 _ _ (by rw [cutCount, if_pos hs, if_neg (by omega)]) rfl (pw_below_drewN HB.out _)
      · have hs' : decide (0 < a1_2) = false := decide_eq_false hs
        have hs0 : a1_2 < 0 := by have := s0.out; omega
        have hs2 : decide (a1_2 < 0) = true := decide_eq_true hs0
        by_cases hpq : q < p
        · have hp' : decide (q < p) = true := decide_eq_true hpq
          have hd := Aside0.mk (cut_div_le (p - q - 1) (-a1_2) (by omega) (by omega))
          have hn := Aside0.mk (cut_neg (p - q - 1) a1_2 (by omega) hs0)
          have fin2 := fin ((p - q - 1) / (-a1_2) + 1)
          clear fin
          go_wp2
          go_ret2
          refine fin2 _ _ (by rw [cutCount, if_neg (by omega), if_pos hpq]) ?_ (pw_below_drewN HB.out _)
          have hn1 := hn.out
          have hd1 := hd.out
          refine congrArg (fun z => Ending.returned (.tuple #[.int .i64 p, .int .i64 z])) (?_ : wrap64 (wrap64 (-((p - q - 1).tdiv a1_2)) + 1) = _)
          rw [hn1]; unfold wrap64; omega
        · have hp' : decide (q < p) = false := decide_eq_false hpq
          have fin2 := fin 0
          clear fin
          go_wp2
          go_ret2
          exact fin2 _ _ (by rw [cutCount, if_neg (by omega), if_neg (by omega)]) rfl (pw_below_drewN HB.out _)

set_option maxHeartbeats 4000000 in
set_option maxRecDepth 100000 in
theorem impl_CutRange.calls (a0 : Int) (a1_0 : Int) (a1_1 : Int) (a1_2 : Int) (a1_3 : Bool) (a1_4 : Bool) (r1 : Int) (r2 : Int) (w : World) (h : impl_CutRange.f a0 a1_0 a1_1 a1_2 a1_3 a1_4 = some (r1, r2)) :
    Calls Try.prog 18 #[.int .i64 a0, .agg #[.int .i64 a1_0, .int .i64 a1_1, .int .i64 a1_2, .bool a1_3, .bool a1_4]] w fun e w' => e = .returned (.tuple #[.int .i64 r1, .int .i64 r2]) ∧ Below w.heap.size w w' := by
  unfold impl_CutRange.f at h
  rw [within_some] at h
  simp only [Option.bind_some] at h
  by_cases hw : 0 ≤ a0 ∧ a0 ≤ 1000000
  · rw [if_pos (decide_eq_true hw), cutOk_some] at h
    simp only [Option.bind_some] at h
    have A1 : impl_within.f a0 0 1000000 = some true := by rw [within_some, decide_eq_true hw]
    cases hc : decide (-1000000 ≤ a1_0 ∧ a1_0 ≤ 1000000 ∧ -1000000 ≤ a1_1 ∧ a1_1 ≤ 1000000 ∧ -1000000 ≤ a1_2 ∧ a1_2 ≤ 1000000 ∧ a1_2 ≠ 0 ∧ (a1_3 = true ∨ a1_0 = 0) ∧ (a1_4 = true ∨ a1_1 = 0)) with
    | true =>
      rw [hc, if_pos rfl] at h
      have A2 : impl_CutOk.f a1_0 a1_1 a1_2 a1_3 a1_4 = some true := by rw [cutOk_some, hc]
      have := cr_any a0 a1_0 a1_1 a1_2 a1_3 a1_4 w A1 A2
      rw [Option.some.inj h] at this
      exact this
    | false =>
      rw [hc, if_neg (by simp)] at h
      obtain ⟨rfl, rfl⟩ := Prod.mk.inj (Option.some.inj h)
      have A2 : impl_CutOk.f a1_0 a1_1 a1_2 a1_3 a1_4 = some false := by rw [cutOk_some, hc]
      have hu24 := Try.underlying24
      have A1 := Aside0.mk A1
      have A2 := Aside0.mk A2
      clear h hw hc
      go_enter Try.func18, Try.ntmps18
      go_wp2_with (first
        | ((with_reducible refine gate_dst (N := 2) rfl ?_); refine box_event ?hg (N := 2) ?hd (cs := #[.int .i64 a0]) (t := 3) ?hr ?_; (case hd => rfl); (case hg => rfl); (case hr => first | (go_simp; done) | (go_simp; rfl)); intro gn hgn w1 hbn hb1; have BN := Aside0.mk hbn; have B1 := Aside0.mk hb1; have GN := Aside0.mk (Nat.le_of_eq hgn.symm); clear hgn hbn hb1; have hcn : w1.cell? ⟨gn, 0, none⟩ = some (.int .i64 a0) := (blk_cell BN.out 0).trans rfl)
        | ((with_reducible refine gate_dst (N := 3) rfl ?_); refine box_event ?hg (N := 3) ?hd (cs := #[.int .i64 a1_0, .int .i64 a1_1, .int .i64 a1_2, .bool a1_3, .bool a1_4]) (t := 24) ?hr ?_; (case hd => rfl); (case hg => rfl); (case hr => first | (go_simp; done) | (go_simp; rfl)); intro gc hgc w2 hbc hb2; have BN2 := Aside0.mk (blk_below BN.out hb2); have BC := Aside0.mk hbc; have B2 := Aside0.mk (below_step B1.out hb2); clear hgc hbc hb2; have hcn2 : w2.cell? ⟨gn, 0, none⟩ = some (.int .i64 a0) := (blk_cell BN2.out 0).trans rfl; have hc2_0 : w2.cell? ⟨gc, 0, none⟩ = some (.int .i64 a1_0) := (blk_cell BC.out 0).trans rfl; have hc2_1 : w2.cell? ⟨gc, 1, none⟩ = some (.int .i64 a1_1) := (blk_cell BC.out 1).trans rfl; have hc2_2 : w2.cell? ⟨gc, 2, none⟩ = some (.int .i64 a1_2) := (blk_cell BC.out 2).trans rfl; have hc2_3 : w2.cell? ⟨gc, 3, none⟩ = some (.bool a1_3) := (blk_cell BC.out 3).trans rfl; have hc2_4 : w2.cell? ⟨gc, 4, none⟩ = some (.bool a1_4) := (blk_cell BC.out 4).trans rfl)
        | (go_at_call 42; (with_reducible refine (impl_within.calls a0 0 1000000 true _ A1.out).mono ?_); rintro e w' ⟨rfl, ⟨nd, rfl⟩⟩)
        | (go_at_call 16; (with_reducible refine (impl_CutOk.calls a1_0 a1_1 a1_2 a1_3 a1_4 false _ A2.out).mono ?_); rintro e w3 ⟨rfl, hb3⟩; have B3 := Aside0.mk (below_step (W := w2.drewN nd) (pw_below_drewN B2.out _) hb3); clear hb3))
      go_ret2
      exact ⟨rfl, B3.out⟩
  · rw [if_neg (by simpa using hw)] at h
    obtain ⟨rfl, rfl⟩ := Prod.mk.inj (Option.some.inj h)
    have A1 : impl_within.f a0 0 1000000 = some false := by rw [within_some, decide_eq_false hw]
    have hu24 := Try.underlying24
    have A1 := Aside0.mk A1
    clear h hw
    go_enter Try.func18, Try.ntmps18
    go_wp2_with (first
      | ((with_reducible refine gate_dst (N := 2) rfl ?_); refine box_event ?hg (N := 2) ?hd (cs := #[.int .i64 a0]) (t := 3) ?hr ?_; (case hd => rfl); (case hg => rfl); (case hr => first | (go_simp; done) | (go_simp; rfl)); intro gn hgn w1 hbn hb1; have BN := Aside0.mk hbn; have B1 := Aside0.mk hb1; have GN := Aside0.mk (Nat.le_of_eq hgn.symm); clear hgn hbn hb1; have hcn : w1.cell? ⟨gn, 0, none⟩ = some (.int .i64 a0) := (blk_cell BN.out 0).trans rfl)
      | ((with_reducible refine gate_dst (N := 3) rfl ?_); refine box_event ?hg (N := 3) ?hd (cs := #[.int .i64 a1_0, .int .i64 a1_1, .int .i64 a1_2, .bool a1_3, .bool a1_4]) (t := 24) ?hr ?_; (case hd => rfl); (case hg => rfl); (case hr => first | (go_simp; done) | (go_simp; rfl)); intro gc hgc w2 hbc hb2; have BN2 := Aside0.mk (blk_below BN.out hb2); have B2 := Aside0.mk (below_step B1.out hb2); clear hgc hbc hb2; have hcn2 : w2.cell? ⟨gn, 0, none⟩ = some (.int .i64 a0) := (blk_cell BN2.out 0).trans rfl)
      | (go_at_call 42; (with_reducible refine (impl_within.calls a0 0 1000000 false _ A1.out).mono ?_); rintro e w' ⟨rfl, ⟨nd, rfl⟩⟩))
    go_ret2
    exact ⟨rfl, pw_below_drewN B2.out _⟩

end Go.Proofs.Yteippijocmpncaa.XFnExactListCut
