/- The functions that FnExactListPutCut uses, as functions of Lean, and that the Go code comes to their answers. Written by a program of this session. -/
import Derived.Test.YtkhkbbhkhpekcaaXFnExactListPutCutx0
import Derived.Test.YtkhkbbhkhpekcaaXFnExactListPutCutx3
namespace Go.Proofs.Ytkhkbbhkhpekcaa.XFnExactListPutCut
open Go.RowKit Go.Proofs.YtkhkbbhkhpekcaaW.PrintWords Go.Proofs.YtkhkbbhkhpekcaaW.PrintLast Go.Proofs.YtkhkbbhkhpekcaaW.PrintMore
attribute [local go_sem] max2_int min2_int max_two min_two max_three min_three max_four min_four   -- for this text's walks alone
set_option linter.unusedVariables false
set_option linter.unusedSimpArgs false

/-! ### impl_CutOk: function 57 -/
def impl_CutOk.f (a0_0 : Int) (a0_1 : Int) (a0_2 : Int) (a0_3 : Bool) (a0_4 : Bool) : Option (Bool) := (impl_within.f a0_0 (-1000000) 1000000).bind fun t146 => (if t146 = true then ((impl_within.f a0_1 (-1000000) 1000000).bind fun t147 => (if t147 = true then ((impl_within.f a0_2 (-1000000) 1000000).bind fun t148 => (if t148 = true then (if a0_2 = 0 then (some false) else (if a0_3 = true then (if a0_4 = true then (some true) else (some (a0_1 == 0))) else (if a0_0 = 0 then (if a0_4 = true then (some true) else (some (a0_1 == 0))) else (some false)))) else (some false))) else (some false))) else (some false))
set_option maxHeartbeats 8000000 in
set_option maxRecDepth 100000 in
theorem impl_CutOk.calls (a0_0 : Int) (a0_1 : Int) (a0_2 : Int) (a0_3 : Bool) (a0_4 : Bool) (r : Bool) (w : World) (h : impl_CutOk.f a0_0 a0_1 a0_2 a0_3 a0_4 = some r) :
    Calls Try.prog 57 #[.agg #[.int .i64 a0_0, .int .i64 a0_1, .int .i64 a0_2, .bool a0_3, .bool a0_4]] w fun e w' => e = .returned (.bool r) ∧ Below w.heap.size w w' := by
  have hu42 := Try.underlying42
  have HB := Aside0.mk (Below.refl w.heap.size w)
  have H : ((impl_within.f a0_0 (-1000000) 1000000).bind fun t146 => (if t146 = true then ((impl_within.f a0_1 (-1000000) 1000000).bind fun t147 => (if t147 = true then ((impl_within.f a0_2 (-1000000) 1000000).bind fun t148 => (if t148 = true then (if a0_2 = 0 then (some false) else (if a0_3 = true then (if a0_4 = true then (some true) else (some (a0_1 == 0))) else (if a0_0 = 0 then (if a0_4 = true then (some true) else (some (a0_1 == 0))) else (some false)))) else (some false))) else (some false))) else (some false))) = some r := h
  clear h
  replace H := Option.bind_eq_some_iff.mp H
  obtain ⟨t146, A20, H⟩ := H
  replace H : (if t146 = true then ((impl_within.f a0_1 (-1000000) 1000000).bind fun t147 => (if t147 = true then ((impl_within.f a0_2 (-1000000) 1000000).bind fun t148 => (if t148 = true then (if a0_2 = 0 then (some false) else (if a0_3 = true then (if a0_4 = true then (some true) else (some (a0_1 == 0))) else (if a0_0 = 0 then (if a0_4 = true then (some true) else (some (a0_1 == 0))) else (some false)))) else (some false))) else (some false))) else (some false)) = some r := H
  have A2 := Aside0.mk A20
  clear A20
  by_cases c3 : t146 = true
  · subst c3
    have H1 : ((impl_within.f a0_1 (-1000000) 1000000).bind fun t147 => (if t147 = true then ((impl_within.f a0_2 (-1000000) 1000000).bind fun t148 => (if t148 = true then (if a0_2 = 0 then (some false) else (if a0_3 = true then (if a0_4 = true then (some true) else (some (a0_1 == 0))) else (if a0_0 = 0 then (if a0_4 = true then (some true) else (some (a0_1 == 0))) else (some false)))) else (some false))) else (some false))) = some r := by rw [if_pos rfl] at H; exact H
    clear H
    have H := H1
    clear H1
    replace H := Option.bind_eq_some_iff.mp H
    obtain ⟨t147, A40, H⟩ := H
    replace H : (if t147 = true then ((impl_within.f a0_2 (-1000000) 1000000).bind fun t148 => (if t148 = true then (if a0_2 = 0 then (some false) else (if a0_3 = true then (if a0_4 = true then (some true) else (some (a0_1 == 0))) else (if a0_0 = 0 then (if a0_4 = true then (some true) else (some (a0_1 == 0))) else (some false)))) else (some false))) else (some false)) = some r := H
    have A4 := Aside0.mk A40
    clear A40
    by_cases c5 : t147 = true
    · subst c5
      have H1 : ((impl_within.f a0_2 (-1000000) 1000000).bind fun t148 => (if t148 = true then (if a0_2 = 0 then (some false) else (if a0_3 = true then (if a0_4 = true then (some true) else (some (a0_1 == 0))) else (if a0_0 = 0 then (if a0_4 = true then (some true) else (some (a0_1 == 0))) else (some false)))) else (some false))) = some r := by rw [if_pos rfl] at H; exact H
      clear H
      have H := H1
      clear H1
      replace H := Option.bind_eq_some_iff.mp H
      obtain ⟨t148, A60, H⟩ := H
      replace H : (if t148 = true then (if a0_2 = 0 then (some false) else (if a0_3 = true then (if a0_4 = true then (some true) else (some (a0_1 == 0))) else (if a0_0 = 0 then (if a0_4 = true then (some true) else (some (a0_1 == 0))) else (some false)))) else (some false)) = some r := H
      have A6 := Aside0.mk A60
      clear A60
      by_cases c7 : t148 = true
      · subst c7
        have H1 : (if a0_2 = 0 then (some false) else (if a0_3 = true then (if a0_4 = true then (some true) else (some (a0_1 == 0))) else (if a0_0 = 0 then (if a0_4 = true then (some true) else (some (a0_1 == 0))) else (some false)))) = some r := by rw [if_pos rfl] at H; exact H
        clear H
        have H := H1
        clear H1
        by_cases c8 : a0_2 = 0
        · rw [if_pos c8] at H
          have c8b0 : (a0_2 == 0) = true := beq_iff_eq.mpr c8
          have c8b1 : (a0_2 != 0) = false := bne_eq_false_iff_eq.mpr c8
          clear c8
          obtain rfl := Option.some.inj H
          go_enter Try.func57, Try.ntmps57
          go_wp2_with (first | ((with_reducible refine gate_dst (N := 1) rfl ?_); refine box_event ?hg (N := 1) ?hd (cs := #[.int .i64 a0_0, .int .i64 a0_1, .int .i64 a0_2, .bool a0_3, .bool a0_4]) (t := 42) ?hr ?_; (case hd => rfl); (case hg => rfl); (case hr => first | (go_simp; done) | (go_simp; rfl)); intro gb145 hg w9 hbox hb; have n0_ := Aside0.mk (below_step (by repeat (first | (with_reducible first | exact HB.out | apply below_alloc | apply pw_below_drewN | apply below_drew1) | exact HB.out)) hb); have n1_ := Aside0.mk (hbox); have n2_ := Aside0.mk ((by rw [hg]; exact (below_size (by repeat (first | (with_reducible first | exact HB.out | apply below_alloc | apply pw_below_drewN | apply below_drew1) | exact HB.out))) : w.heap.size ≤ gb145)); have n3_ := Aside0.mk ((by rw [hg]; exact (below_size (by repeat (first | (with_reducible first | exact HB.out | apply below_alloc | apply pw_below_drewN | apply below_drew1) | exact HB.out))) : w.heap.size ≤ gb145)); clear HB; have HB := n0_; have BK145 := n1_; have GW145 := n2_; have GE145 := n3_; clear n0_ n1_ n2_ n3_; clear hb hbox hg; have hcz10_0 : w9.cell? ⟨gb145, 0, none⟩ = some (.int .i64 a0_0) := (blk_cell BK145.out 0).trans rfl; have hcz10_1 : w9.cell? ⟨gb145, 1, none⟩ = some (.int .i64 a0_1) := (blk_cell BK145.out 1).trans rfl; have hcz10_2 : w9.cell? ⟨gb145, 2, none⟩ = some (.int .i64 a0_2) := (blk_cell BK145.out 2).trans rfl; have hcz10_3 : w9.cell? ⟨gb145, 3, none⟩ = some (.bool a0_3) := (blk_cell BK145.out 3).trans rfl; have hcz10_4 : w9.cell? ⟨gb145, 4, none⟩ = some (.bool a0_4) := (blk_cell BK145.out 4).trans rfl; have hfz10_0 := blk_frozen BK145.out 0; have hfz10_1 := blk_frozen BK145.out 1; have hfz10_2 := blk_frozen BK145.out 2; have hfz10_3 := blk_frozen BK145.out 3; have hfz10_4 := blk_frozen BK145.out 4) | ((with_reducible refine gate_callee (f := 82) rfl ?_); refine goesL_ (some 5) rfl rfl Try.func82 (by kernel_rfl) rfl #[.int .i64 a0_0, .int .i64 (-1000000), .int .i64 1000000] rfl (by (try simp only [List.map_toArray, List.map_cons, List.map_nil]); first | done | rfl | (simp only [List.length_drop, List.length_take]; rfl)) ?_; (with_reducible refine (impl_within.calls a0_0 (-1000000) 1000000 true _ A2.out).mono ?_); rintro e w' ⟨rfl, ⟨nd, rfl⟩⟩; refine ⟨_, rfl, ?_⟩) | (go_at_call 82; (with_reducible refine (impl_within.calls a0_1 (-1000000) 1000000 true _ A4.out).mono ?_); rintro e w' ⟨rfl, ⟨nd, rfl⟩⟩) | (go_at_call 82; (with_reducible refine (impl_within.calls a0_2 (-1000000) 1000000 true _ A6.out).mono ?_); rintro e w' ⟨rfl, ⟨nd, rfl⟩⟩))
          go_ret
          exact ⟨by first | rfl | (simp [errW_none, errW_some] <;> rfl) | (simp [*, errW_none, errW_some] <;> rfl), by repeat (first | (with_reducible first | exact HB.out | apply below_alloc | apply pw_below_drewN | apply below_drew1 | refine below_set ?_ GE145.out) | exact HB.out)⟩
        · rw [if_neg c8] at H
          have c8b0 : (a0_2 == 0) = false := beq_eq_false_iff_ne.mpr c8
          have c8b1 : (a0_2 != 0) = true := bne_iff_ne.mpr c8
          by_cases c11 : a0_3 = true
          · subst c11
            have H1 : (if a0_4 = true then (some true) else (some (a0_1 == 0))) = some r := by rw [if_pos rfl] at H; exact H
            clear H
            have H := H1
            clear H1
            by_cases c12 : a0_4 = true
            · subst c12
              have H1 : (some true) = some r := by rw [if_pos rfl] at H; exact H
              clear H
              have H := H1
              clear H1
              obtain rfl := Option.some.inj H
              go_enter Try.func57, Try.ntmps57
              go_wp2_with (first | ((with_reducible refine gate_dst (N := 1) rfl ?_); refine box_event ?hg (N := 1) ?hd (cs := #[.int .i64 a0_0, .int .i64 a0_1, .int .i64 a0_2, .bool true, .bool true]) (t := 42) ?hr ?_; (case hd => rfl); (case hg => rfl); (case hr => first | (go_simp; done) | (go_simp; rfl)); intro gb145 hg w13 hbox hb; have n0_ := Aside0.mk (below_step (by repeat (first | (with_reducible first | exact HB.out | apply below_alloc | apply pw_below_drewN | apply below_drew1) | exact HB.out)) hb); have n1_ := Aside0.mk (hbox); have n2_ := Aside0.mk ((by rw [hg]; exact (below_size (by repeat (first | (with_reducible first | exact HB.out | apply below_alloc | apply pw_below_drewN | apply below_drew1) | exact HB.out))) : w.heap.size ≤ gb145)); have n3_ := Aside0.mk ((by rw [hg]; exact (below_size (by repeat (first | (with_reducible first | exact HB.out | apply below_alloc | apply pw_below_drewN | apply below_drew1) | exact HB.out))) : w.heap.size ≤ gb145)); clear HB; have HB := n0_; have BK145 := n1_; have GW145 := n2_; have GE145 := n3_; clear n0_ n1_ n2_ n3_; clear hb hbox hg; have hcz14_0 : w13.cell? ⟨gb145, 0, none⟩ = some (.int .i64 a0_0) := (blk_cell BK145.out 0).trans rfl; have hcz14_1 : w13.cell? ⟨gb145, 1, none⟩ = some (.int .i64 a0_1) := (blk_cell BK145.out 1).trans rfl; have hcz14_2 : w13.cell? ⟨gb145, 2, none⟩ = some (.int .i64 a0_2) := (blk_cell BK145.out 2).trans rfl; have hcz14_3 : w13.cell? ⟨gb145, 3, none⟩ = some (.bool true) := (blk_cell BK145.out 3).trans rfl; have hcz14_4 : w13.cell? ⟨gb145, 4, none⟩ = some (.bool true) := (blk_cell BK145.out 4).trans rfl; have hfz14_0 := blk_frozen BK145.out 0; have hfz14_1 := blk_frozen BK145.out 1; have hfz14_2 := blk_frozen BK145.out 2; have hfz14_3 := blk_frozen BK145.out 3; have hfz14_4 := blk_frozen BK145.out 4) | ((with_reducible refine gate_callee (f := 82) rfl ?_); refine goesL_ (some 5) rfl rfl Try.func82 (by kernel_rfl) rfl #[.int .i64 a0_0, .int .i64 (-1000000), .int .i64 1000000] rfl (by (try simp only [List.map_toArray, List.map_cons, List.map_nil]); first | done | rfl | (simp only [List.length_drop, List.length_take]; rfl)) ?_; (with_reducible refine (impl_within.calls a0_0 (-1000000) 1000000 true _ A2.out).mono ?_); rintro e w' ⟨rfl, ⟨nd, rfl⟩⟩; refine ⟨_, rfl, ?_⟩) | (go_at_call 82; (with_reducible refine (impl_within.calls a0_1 (-1000000) 1000000 true _ A4.out).mono ?_); rintro e w' ⟨rfl, ⟨nd, rfl⟩⟩) | (go_at_call 82; (with_reducible refine (impl_within.calls a0_2 (-1000000) 1000000 true _ A6.out).mono ?_); rintro e w' ⟨rfl, ⟨nd, rfl⟩⟩))
              go_ret
              exact ⟨by first | rfl | (simp [errW_none, errW_some] <;> rfl) | (simp [*, errW_none, errW_some] <;> rfl), by repeat (first | (with_reducible first | exact HB.out | apply below_alloc | apply pw_below_drewN | apply below_drew1 | refine below_set ?_ GE145.out) | exact HB.out)⟩
            · replace c12 := Bool.eq_false_iff.mpr c12
              subst c12
              have H1 : (some (a0_1 == 0)) = some r := by rw [if_neg (show ¬ (false = true) by decide)] at H; exact H
              clear H
              have H := H1
              clear H1
              obtain rfl := Option.some.inj H
              go_enter Try.func57, Try.ntmps57
              go_wp2_with (first | ((with_reducible refine gate_dst (N := 1) rfl ?_); refine box_event ?hg (N := 1) ?hd (cs := #[.int .i64 a0_0, .int .i64 a0_1, .int .i64 a0_2, .bool true, .bool false]) (t := 42) ?hr ?_; (case hd => rfl); (case hg => rfl); (case hr => first | (go_simp; done) | (go_simp; rfl)); intro gb145 hg w15 hbox hb; have n0_ := Aside0.mk (below_step (by repeat (first | (with_reducible first | exact HB.out | apply below_alloc | apply pw_below_drewN | apply below_drew1) | exact HB.out)) hb); have n1_ := Aside0.mk (hbox); have n2_ := Aside0.mk ((by rw [hg]; exact (below_size (by repeat (first | (with_reducible first | exact HB.out | apply below_alloc | apply pw_below_drewN | apply below_drew1) | exact HB.out))) : w.heap.size ≤ gb145)); have n3_ := Aside0.mk ((by rw [hg]; exact (below_size (by repeat (first | (with_reducible first | exact HB.out | apply below_alloc | apply pw_below_drewN | apply below_drew1) | exact HB.out))) : w.heap.size ≤ gb145)); clear HB; have HB := n0_; have BK145 := n1_; have GW145 := n2_; have GE145 := n3_; clear n0_ n1_ n2_ n3_; clear hb hbox hg; have hcz16_0 : w15.cell? ⟨gb145, 0, none⟩ = some (.int .i64 a0_0) := (blk_cell BK145.out 0).trans rfl; have hcz16_1 : w15.cell? ⟨gb145, 1, none⟩ = some (.int .i64 a0_1) := (blk_cell BK145.out 1).trans rfl; have hcz16_2 : w15.cell? ⟨gb145, 2, none⟩ = some (.int .i64 a0_2) := (blk_cell BK145.out 2).trans rfl; have hcz16_3 : w15.cell? ⟨gb145, 3, none⟩ = some (.bool true) := (blk_cell BK145.out 3).trans rfl; have hcz16_4 : w15.cell? ⟨gb145, 4, none⟩ = some (.bool false) := (blk_cell BK145.out 4).trans rfl; have hfz16_0 := blk_frozen BK145.out 0; have hfz16_1 := blk_frozen BK145.out 1; have hfz16_2 := blk_frozen BK145.out 2; have hfz16_3 := blk_frozen BK145.out 3; have hfz16_4 := blk_frozen BK145.out 4) | ((with_reducible refine gate_callee (f := 82) rfl ?_); refine goesL_ (some 5) rfl rfl Try.func82 (by kernel_rfl) rfl #[.int .i64 a0_0, .int .i64 (-1000000), .int .i64 1000000] rfl (by (try simp only [List.map_toArray, List.map_cons, List.map_nil]); first | done | rfl | (simp only [List.length_drop, List.length_take]; rfl)) ?_; (with_reducible refine (impl_within.calls a0_0 (-1000000) 1000000 true _ A2.out).mono ?_); rintro e w' ⟨rfl, ⟨nd, rfl⟩⟩; refine ⟨_, rfl, ?_⟩) | (go_at_call 82; (with_reducible refine (impl_within.calls a0_1 (-1000000) 1000000 true _ A4.out).mono ?_); rintro e w' ⟨rfl, ⟨nd, rfl⟩⟩) | (go_at_call 82; (with_reducible refine (impl_within.calls a0_2 (-1000000) 1000000 true _ A6.out).mono ?_); rintro e w' ⟨rfl, ⟨nd, rfl⟩⟩))
              go_ret
              exact ⟨by first | rfl | (simp [errW_none, errW_some] <;> rfl) | (simp [*, errW_none, errW_some] <;> rfl), by repeat (first | (with_reducible first | exact HB.out | apply below_alloc | apply pw_below_drewN | apply below_drew1 | refine below_set ?_ GE145.out) | exact HB.out)⟩
          · replace c11 := Bool.eq_false_iff.mpr c11
            subst c11
            have H1 : (if a0_0 = 0 then (if a0_4 = true then (some true) else (some (a0_1 == 0))) else (some false)) = some r := by rw [if_neg (show ¬ (false = true) by decide)] at H; exact H
            clear H
            have H := H1
            clear H1
            by_cases c17 : a0_0 = 0
            · rw [if_pos c17] at H
              have c17b0 : (a0_0 == 0) = true := beq_iff_eq.mpr c17
              have c17b1 : (a0_0 != 0) = false := bne_eq_false_iff_eq.mpr c17
              clear c17
              by_cases c18 : a0_4 = true
              · subst c18
                have H1 : (some true) = some r := by rw [if_pos rfl] at H; exact H
                clear H
                have H := H1
                clear H1
                obtain rfl := Option.some.inj H
                go_enter Try.func57, Try.ntmps57
                go_wp2_with (first | ((with_reducible refine gate_dst (N := 1) rfl ?_); refine box_event ?hg (N := 1) ?hd (cs := #[.int .i64 a0_0, .int .i64 a0_1, .int .i64 a0_2, .bool false, .bool true]) (t := 42) ?hr ?_; (case hd => rfl); (case hg => rfl); (case hr => first | (go_simp; done) | (go_simp; rfl)); intro gb145 hg w19 hbox hb; have n0_ := Aside0.mk (below_step (by repeat (first | (with_reducible first | exact HB.out | apply below_alloc | apply pw_below_drewN | apply below_drew1) | exact HB.out)) hb); have n1_ := Aside0.mk (hbox); have n2_ := Aside0.mk ((by rw [hg]; exact (below_size (by repeat (first | (with_reducible first | exact HB.out | apply below_alloc | apply pw_below_drewN | apply below_drew1) | exact HB.out))) : w.heap.size ≤ gb145)); have n3_ := Aside0.mk ((by rw [hg]; exact (below_size (by repeat (first | (with_reducible first | exact HB.out | apply below_alloc | apply pw_below_drewN | apply below_drew1) | exact HB.out))) : w.heap.size ≤ gb145)); clear HB; have HB := n0_; have BK145 := n1_; have GW145 := n2_; have GE145 := n3_; clear n0_ n1_ n2_ n3_; clear hb hbox hg; have hcz20_0 : w19.cell? ⟨gb145, 0, none⟩ = some (.int .i64 a0_0) := (blk_cell BK145.out 0).trans rfl; have hcz20_1 : w19.cell? ⟨gb145, 1, none⟩ = some (.int .i64 a0_1) := (blk_cell BK145.out 1).trans rfl; have hcz20_2 : w19.cell? ⟨gb145, 2, none⟩ = some (.int .i64 a0_2) := (blk_cell BK145.out 2).trans rfl; have hcz20_3 : w19.cell? ⟨gb145, 3, none⟩ = some (.bool false) := (blk_cell BK145.out 3).trans rfl; have hcz20_4 : w19.cell? ⟨gb145, 4, none⟩ = some (.bool true) := (blk_cell BK145.out 4).trans rfl; have hfz20_0 := blk_frozen BK145.out 0; have hfz20_1 := blk_frozen BK145.out 1; have hfz20_2 := blk_frozen BK145.out 2; have hfz20_3 := blk_frozen BK145.out 3; have hfz20_4 := blk_frozen BK145.out 4) | ((with_reducible refine gate_callee (f := 82) rfl ?_); refine goesL_ (some 5) rfl rfl Try.func82 (by kernel_rfl) rfl #[.int .i64 a0_0, .int .i64 (-1000000), .int .i64 1000000] rfl (by (try simp only [List.map_toArray, List.map_cons, List.map_nil]); first | done | rfl | (simp only [List.length_drop, List.length_take]; rfl)) ?_; (with_reducible refine (impl_within.calls a0_0 (-1000000) 1000000 true _ A2.out).mono ?_); rintro e w' ⟨rfl, ⟨nd, rfl⟩⟩; refine ⟨_, rfl, ?_⟩) | (go_at_call 82; (with_reducible refine (impl_within.calls a0_1 (-1000000) 1000000 true _ A4.out).mono ?_); rintro e w' ⟨rfl, ⟨nd, rfl⟩⟩) | (go_at_call 82; (with_reducible refine (impl_within.calls a0_2 (-1000000) 1000000 true _ A6.out).mono ?_); rintro e w' ⟨rfl, ⟨nd, rfl⟩⟩))
                go_ret
                exact ⟨by first | rfl | (simp [errW_none, errW_some] <;> rfl) | (simp [*, errW_none, errW_some] <;> rfl), by repeat (first | (with_reducible first | exact HB.out | apply below_alloc | apply pw_below_drewN | apply below_drew1 | refine below_set ?_ GE145.out) | exact HB.out)⟩
              · replace c18 := Bool.eq_false_iff.mpr c18
                subst c18
                have H1 : (some (a0_1 == 0)) = some r := by rw [if_neg (show ¬ (false = true) by decide)] at H; exact H
                clear H
                have H := H1
                clear H1
                obtain rfl := Option.some.inj H
                go_enter Try.func57, Try.ntmps57
                go_wp2_with (first | ((with_reducible refine gate_dst (N := 1) rfl ?_); refine box_event ?hg (N := 1) ?hd (cs := #[.int .i64 a0_0, .int .i64 a0_1, .int .i64 a0_2, .bool false, .bool false]) (t := 42) ?hr ?_; (case hd => rfl); (case hg => rfl); (case hr => first | (go_simp; done) | (go_simp; rfl)); intro gb145 hg w21 hbox hb; have n0_ := Aside0.mk (below_step (by repeat (first | (with_reducible first | exact HB.out | apply below_alloc | apply pw_below_drewN | apply below_drew1) | exact HB.out)) hb); have n1_ := Aside0.mk (hbox); have n2_ := Aside0.mk ((by rw [hg]; exact (below_size (by repeat (first | (with_reducible first | exact HB.out | apply below_alloc | apply pw_below_drewN | apply below_drew1) | exact HB.out))) : w.heap.size ≤ gb145)); have n3_ := Aside0.mk ((by rw [hg]; exact (below_size (by repeat (first | (with_reducible first | exact HB.out | apply below_alloc | apply pw_below_drewN | apply below_drew1) | exact HB.out))) : w.heap.size ≤ gb145)); clear HB; have HB := n0_; have BK145 := n1_; have GW145 := n2_; have GE145 := n3_; clear n0_ n1_ n2_ n3_; clear hb hbox hg; have hcz22_0 : w21.cell? ⟨gb145, 0, none⟩ = some (.int .i64 a0_0) := (blk_cell BK145.out 0).trans rfl; have hcz22_1 : w21.cell? ⟨gb145, 1, none⟩ = some (.int .i64 a0_1) := (blk_cell BK145.out 1).trans rfl; have hcz22_2 : w21.cell? ⟨gb145, 2, none⟩ = some (.int .i64 a0_2) := (blk_cell BK145.out 2).trans rfl; have hcz22_3 : w21.cell? ⟨gb145, 3, none⟩ = some (.bool false) := (blk_cell BK145.out 3).trans rfl; have hcz22_4 : w21.cell? ⟨gb145, 4, none⟩ = some (.bool false) := (blk_cell BK145.out 4).trans rfl; have hfz22_0 := blk_frozen BK145.out 0; have hfz22_1 := blk_frozen BK145.out 1; have hfz22_2 := blk_frozen BK145.out 2; have hfz22_3 := blk_frozen BK145.out 3; have hfz22_4 := blk_frozen BK145.out 4) | ((with_reducible refine gate_callee (f := 82) rfl ?_); refine goesL_ (some 5) rfl rfl Try.func82 (by kernel_rfl) rfl #[.int .i64 a0_0, .int .i64 (-1000000), .int .i64 1000000] rfl (by (try simp only [List.map_toArray, List.map_cons, List.map_nil]); first | done | rfl | (simp only [List.length_drop, List.length_take]; rfl)) ?_; (with_reducible refine (impl_within.calls a0_0 (-1000000) 1000000 true _ A2.out).mono ?_); rintro e w' ⟨rfl, ⟨nd, rfl⟩⟩; refine ⟨_, rfl, ?_⟩) | (go_at_call 82; (with_reducible refine (impl_within.calls a0_1 (-1000000) 1000000 true _ A4.out).mono ?_); rintro e w' ⟨rfl, ⟨nd, rfl⟩⟩) | (go_at_call 82; (with_reducible refine (impl_within.calls a0_2 (-1000000) 1000000 true _ A6.out).mono ?_); rintro e w' ⟨rfl, ⟨nd, rfl⟩⟩))
                go_ret
                exact ⟨by first | rfl | (simp [errW_none, errW_some] <;> rfl) | (simp [*, errW_none, errW_some] <;> rfl), by repeat (first | (with_reducible first | exact HB.out | apply below_alloc | apply pw_below_drewN | apply below_drew1 | refine below_set ?_ GE145.out) | exact HB.out)⟩
            · rw [if_neg c17] at H
              have c17b0 : (a0_0 == 0) = false := beq_eq_false_iff_ne.mpr c17
              have c17b1 : (a0_0 != 0) = true := bne_iff_ne.mpr c17
              obtain rfl := Option.some.inj H
              go_enter Try.func57, Try.ntmps57
              go_wp2_with (first | ((with_reducible refine gate_dst (N := 1) rfl ?_); refine box_event ?hg (N := 1) ?hd (cs := #[.int .i64 a0_0, .int .i64 a0_1, .int .i64 a0_2, .bool false, .bool a0_4]) (t := 42) ?hr ?_; (case hd => rfl); (case hg => rfl); (case hr => first | (go_simp; done) | (go_simp; rfl)); intro gb145 hg w23 hbox hb; have n0_ := Aside0.mk (below_step (by repeat (first | (with_reducible first | exact HB.out | apply below_alloc | apply pw_below_drewN | apply below_drew1) | exact HB.out)) hb); have n1_ := Aside0.mk (hbox); have n2_ := Aside0.mk ((by rw [hg]; exact (below_size (by repeat (first | (with_reducible first | exact HB.out | apply below_alloc | apply pw_below_drewN | apply below_drew1) | exact HB.out))) : w.heap.size ≤ gb145)); have n3_ := Aside0.mk ((by rw [hg]; exact (below_size (by repeat (first | (with_reducible first | exact HB.out | apply below_alloc | apply pw_below_drewN | apply below_drew1) | exact HB.out))) : w.heap.size ≤ gb145)); clear HB; have HB := n0_; have BK145 := n1_; have GW145 := n2_; have GE145 := n3_; clear n0_ n1_ n2_ n3_; clear hb hbox hg; have hcz24_0 : w23.cell? ⟨gb145, 0, none⟩ = some (.int .i64 a0_0) := (blk_cell BK145.out 0).trans rfl; have hcz24_1 : w23.cell? ⟨gb145, 1, none⟩ = some (.int .i64 a0_1) := (blk_cell BK145.out 1).trans rfl; have hcz24_2 : w23.cell? ⟨gb145, 2, none⟩ = some (.int .i64 a0_2) := (blk_cell BK145.out 2).trans rfl; have hcz24_3 : w23.cell? ⟨gb145, 3, none⟩ = some (.bool false) := (blk_cell BK145.out 3).trans rfl; have hcz24_4 : w23.cell? ⟨gb145, 4, none⟩ = some (.bool a0_4) := (blk_cell BK145.out 4).trans rfl; have hfz24_0 := blk_frozen BK145.out 0; have hfz24_1 := blk_frozen BK145.out 1; have hfz24_2 := blk_frozen BK145.out 2; have hfz24_3 := blk_frozen BK145.out 3; have hfz24_4 := blk_frozen BK145.out 4) | ((with_reducible refine gate_callee (f := 82) rfl ?_); refine goesL_ (some 5) rfl rfl Try.func82 (by kernel_rfl) rfl #[.int .i64 a0_0, .int .i64 (-1000000), .int .i64 1000000] rfl (by (try simp only [List.map_toArray, List.map_cons, List.map_nil]); first | done | rfl | (simp only [List.length_drop, List.length_take]; rfl)) ?_; (with_reducible refine (impl_within.calls a0_0 (-1000000) 1000000 true _ A2.out).mono ?_); rintro e w' ⟨rfl, ⟨nd, rfl⟩⟩; refine ⟨_, rfl, ?_⟩) | (go_at_call 82; (with_reducible refine (impl_within.calls a0_1 (-1000000) 1000000 true _ A4.out).mono ?_); rintro e w' ⟨rfl, ⟨nd, rfl⟩⟩) | (go_at_call 82; (with_reducible refine (impl_within.calls a0_2 (-1000000) 1000000 true _ A6.out).mono ?_); rintro e w' ⟨rfl, ⟨nd, rfl⟩⟩))
              go_ret
              exact ⟨by first | rfl | (simp [errW_none, errW_some] <;> rfl) | (simp [*, errW_none, errW_some] <;> rfl), by repeat (first | (with_reducible first | exact HB.out | apply below_alloc | apply pw_below_drewN | apply below_drew1 | refine below_set ?_ GE145.out) | exact HB.out)⟩
      · replace c7 := Bool.eq_false_iff.mpr c7
        subst c7
        have H1 : (some false) = some r := by rw [if_neg (show ¬ (false = true) by decide)] at H; exact H
        clear H
        have H := H1
        clear H1
        obtain rfl := Option.some.inj H
        go_enter Try.func57, Try.ntmps57
        go_wp2_with (first | ((with_reducible refine gate_dst (N := 1) rfl ?_); refine box_event ?hg (N := 1) ?hd (cs := #[.int .i64 a0_0, .int .i64 a0_1, .int .i64 a0_2, .bool a0_3, .bool a0_4]) (t := 42) ?hr ?_; (case hd => rfl); (case hg => rfl); (case hr => first | (go_simp; done) | (go_simp; rfl)); intro gb145 hg w25 hbox hb; have n0_ := Aside0.mk (below_step (by repeat (first | (with_reducible first | exact HB.out | apply below_alloc | apply pw_below_drewN | apply below_drew1) | exact HB.out)) hb); have n1_ := Aside0.mk (hbox); have n2_ := Aside0.mk ((by rw [hg]; exact (below_size (by repeat (first | (with_reducible first | exact HB.out | apply below_alloc | apply pw_below_drewN | apply below_drew1) | exact HB.out))) : w.heap.size ≤ gb145)); have n3_ := Aside0.mk ((by rw [hg]; exact (below_size (by repeat (first | (with_reducible first | exact HB.out | apply below_alloc | apply pw_below_drewN | apply below_drew1) | exact HB.out))) : w.heap.size ≤ gb145)); clear HB; have HB := n0_; have BK145 := n1_; have GW145 := n2_; have GE145 := n3_; clear n0_ n1_ n2_ n3_; clear hb hbox hg; have hcz26_0 : w25.cell? ⟨gb145, 0, none⟩ = some (.int .i64 a0_0) := (blk_cell BK145.out 0).trans rfl; have hcz26_1 : w25.cell? ⟨gb145, 1, none⟩ = some (.int .i64 a0_1) := (blk_cell BK145.out 1).trans rfl; have hcz26_2 : w25.cell? ⟨gb145, 2, none⟩ = some (.int .i64 a0_2) := (blk_cell BK145.out 2).trans rfl; have hcz26_3 : w25.cell? ⟨gb145, 3, none⟩ = some (.bool a0_3) := (blk_cell BK145.out 3).trans rfl; have hcz26_4 : w25.cell? ⟨gb145, 4, none⟩ = some (.bool a0_4) := (blk_cell BK145.out 4).trans rfl; have hfz26_0 := blk_frozen BK145.out 0; have hfz26_1 := blk_frozen BK145.out 1; have hfz26_2 := blk_frozen BK145.out 2; have hfz26_3 := blk_frozen BK145.out 3; have hfz26_4 := blk_frozen BK145.out 4) | ((with_reducible refine gate_callee (f := 82) rfl ?_); refine goesL_ (some 5) rfl rfl Try.func82 (by kernel_rfl) rfl #[.int .i64 a0_0, .int .i64 (-1000000), .int .i64 1000000] rfl (by (try simp only [List.map_toArray, List.map_cons, List.map_nil]); first | done | rfl | (simp only [List.length_drop, List.length_take]; rfl)) ?_; (with_reducible refine (impl_within.calls a0_0 (-1000000) 1000000 true _ A2.out).mono ?_); rintro e w' ⟨rfl, ⟨nd, rfl⟩⟩; refine ⟨_, rfl, ?_⟩) | (go_at_call 82; (with_reducible refine (impl_within.calls a0_1 (-1000000) 1000000 true _ A4.out).mono ?_); rintro e w' ⟨rfl, ⟨nd, rfl⟩⟩) | (go_at_call 82; (with_reducible refine (impl_within.calls a0_2 (-1000000) 1000000 false _ A6.out).mono ?_); rintro e w' ⟨rfl, ⟨nd, rfl⟩⟩))
        go_ret
        exact ⟨by first | rfl | (simp [errW_none, errW_some] <;> rfl) | (simp [*, errW_none, errW_some] <;> rfl), by repeat (first | (with_reducible first | exact HB.out | apply below_alloc | apply pw_below_drewN | apply below_drew1 | refine below_set ?_ GE145.out) | exact HB.out)⟩
    · replace c5 := Bool.eq_false_iff.mpr c5
      subst c5
      have H1 : (some false) = some r := by rw [if_neg (show ¬ (false = true) by decide)] at H; exact H
      clear H
      have H := H1
      clear H1
      obtain rfl := Option.some.inj H
      go_enter Try.func57, Try.ntmps57
      go_wp2_with (first | ((with_reducible refine gate_dst (N := 1) rfl ?_); refine box_event ?hg (N := 1) ?hd (cs := #[.int .i64 a0_0, .int .i64 a0_1, .int .i64 a0_2, .bool a0_3, .bool a0_4]) (t := 42) ?hr ?_; (case hd => rfl); (case hg => rfl); (case hr => first | (go_simp; done) | (go_simp; rfl)); intro gb145 hg w27 hbox hb; have n0_ := Aside0.mk (below_step (by repeat (first | (with_reducible first | exact HB.out | apply below_alloc | apply pw_below_drewN | apply below_drew1) | exact HB.out)) hb); have n1_ := Aside0.mk (hbox); have n2_ := Aside0.mk ((by rw [hg]; exact (below_size (by repeat (first | (with_reducible first | exact HB.out | apply below_alloc | apply pw_below_drewN | apply below_drew1) | exact HB.out))) : w.heap.size ≤ gb145)); have n3_ := Aside0.mk ((by rw [hg]; exact (below_size (by repeat (first | (with_reducible first | exact HB.out | apply below_alloc | apply pw_below_drewN | apply below_drew1) | exact HB.out))) : w.heap.size ≤ gb145)); clear HB; have HB := n0_; have BK145 := n1_; have GW145 := n2_; have GE145 := n3_; clear n0_ n1_ n2_ n3_; clear hb hbox hg; have hcz28_0 : w27.cell? ⟨gb145, 0, none⟩ = some (.int .i64 a0_0) := (blk_cell BK145.out 0).trans rfl; have hcz28_1 : w27.cell? ⟨gb145, 1, none⟩ = some (.int .i64 a0_1) := (blk_cell BK145.out 1).trans rfl; have hcz28_2 : w27.cell? ⟨gb145, 2, none⟩ = some (.int .i64 a0_2) := (blk_cell BK145.out 2).trans rfl; have hcz28_3 : w27.cell? ⟨gb145, 3, none⟩ = some (.bool a0_3) := (blk_cell BK145.out 3).trans rfl; have hcz28_4 : w27.cell? ⟨gb145, 4, none⟩ = some (.bool a0_4) := (blk_cell BK145.out 4).trans rfl; have hfz28_0 := blk_frozen BK145.out 0; have hfz28_1 := blk_frozen BK145.out 1; have hfz28_2 := blk_frozen BK145.out 2; have hfz28_3 := blk_frozen BK145.out 3; have hfz28_4 := blk_frozen BK145.out 4) | ((with_reducible refine gate_callee (f := 82) rfl ?_); refine goesL_ (some 5) rfl rfl Try.func82 (by kernel_rfl) rfl #[.int .i64 a0_0, .int .i64 (-1000000), .int .i64 1000000] rfl (by (try simp only [List.map_toArray, List.map_cons, List.map_nil]); first | done | rfl | (simp only [List.length_drop, List.length_take]; rfl)) ?_; (with_reducible refine (impl_within.calls a0_0 (-1000000) 1000000 true _ A2.out).mono ?_); rintro e w' ⟨rfl, ⟨nd, rfl⟩⟩; refine ⟨_, rfl, ?_⟩) | (go_at_call 82; (with_reducible refine (impl_within.calls a0_1 (-1000000) 1000000 false _ A4.out).mono ?_); rintro e w' ⟨rfl, ⟨nd, rfl⟩⟩))
      go_ret
      exact ⟨by first | rfl | (simp [errW_none, errW_some] <;> rfl) | (simp [*, errW_none, errW_some] <;> rfl), by repeat (first | (with_reducible first | exact HB.out | apply below_alloc | apply pw_below_drewN | apply below_drew1 | refine below_set ?_ GE145.out) | exact HB.out)⟩
  · replace c3 := Bool.eq_false_iff.mpr c3
    subst c3
    have H1 : (some false) = some r := by rw [if_neg (show ¬ (false = true) by decide)] at H; exact H
    clear H
    have H := H1
    clear H1
    obtain rfl := Option.some.inj H
    go_enter Try.func57, Try.ntmps57
    go_wp2_with (first | ((with_reducible refine gate_dst (N := 1) rfl ?_); refine box_event ?hg (N := 1) ?hd (cs := #[.int .i64 a0_0, .int .i64 a0_1, .int .i64 a0_2, .bool a0_3, .bool a0_4]) (t := 42) ?hr ?_; (case hd => rfl); (case hg => rfl); (case hr => first | (go_simp; done) | (go_simp; rfl)); intro gb145 hg w29 hbox hb; have n0_ := Aside0.mk (below_step (by repeat (first | (with_reducible first | exact HB.out | apply below_alloc | apply pw_below_drewN | apply below_drew1) | exact HB.out)) hb); have n1_ := Aside0.mk (hbox); have n2_ := Aside0.mk ((by rw [hg]; exact (below_size (by repeat (first | (with_reducible first | exact HB.out | apply below_alloc | apply pw_below_drewN | apply below_drew1) | exact HB.out))) : w.heap.size ≤ gb145)); have n3_ := Aside0.mk ((by rw [hg]; exact (below_size (by repeat (first | (with_reducible first | exact HB.out | apply below_alloc | apply pw_below_drewN | apply below_drew1) | exact HB.out))) : w.heap.size ≤ gb145)); clear HB; have HB := n0_; have BK145 := n1_; have GW145 := n2_; have GE145 := n3_; clear n0_ n1_ n2_ n3_; clear hb hbox hg; have hcz30_0 : w29.cell? ⟨gb145, 0, none⟩ = some (.int .i64 a0_0) := (blk_cell BK145.out 0).trans rfl; have hcz30_1 : w29.cell? ⟨gb145, 1, none⟩ = some (.int .i64 a0_1) := (blk_cell BK145.out 1).trans rfl; have hcz30_2 : w29.cell? ⟨gb145, 2, none⟩ = some (.int .i64 a0_2) := (blk_cell BK145.out 2).trans rfl; have hcz30_3 : w29.cell? ⟨gb145, 3, none⟩ = some (.bool a0_3) := (blk_cell BK145.out 3).trans rfl; have hcz30_4 : w29.cell? ⟨gb145, 4, none⟩ = some (.bool a0_4) := (blk_cell BK145.out 4).trans rfl; have hfz30_0 := blk_frozen BK145.out 0; have hfz30_1 := blk_frozen BK145.out 1; have hfz30_2 := blk_frozen BK145.out 2; have hfz30_3 := blk_frozen BK145.out 3; have hfz30_4 := blk_frozen BK145.out 4) | ((with_reducible refine gate_callee (f := 82) rfl ?_); refine goesL_ (some 5) rfl rfl Try.func82 (by kernel_rfl) rfl #[.int .i64 a0_0, .int .i64 (-1000000), .int .i64 1000000] rfl (by (try simp only [List.map_toArray, List.map_cons, List.map_nil]); first | done | rfl | (simp only [List.length_drop, List.length_take]; rfl)) ?_; (with_reducible refine (impl_within.calls a0_0 (-1000000) 1000000 false _ A2.out).mono ?_); rintro e w' ⟨rfl, ⟨nd, rfl⟩⟩; refine ⟨_, rfl, ?_⟩))
    go_ret
    exact ⟨by first | rfl | (simp [errW_none, errW_some] <;> rfl) | (simp [*, errW_none, errW_some] <;> rfl), by repeat (first | (with_reducible first | exact HB.out | apply below_alloc | apply pw_below_drewN | apply below_drew1 | refine below_set ?_ GE145.out) | exact HB.out)⟩

/-! ### impl_CutRange: function 58 -/
def boundI (n lo hi : Int) (has : Bool) (given missing : Int) : Int := if has then min (max (if given < 0 then wrap64 (given + n) else given) lo) hi else missing
set_option maxHeartbeats 4000000 in
set_option maxRecDepth 100000 in
theorem bound_any (has : Bool) (given missing n lo hi : Int) (bn bl bh : Nat) (w : World)
    (hn : w.cell? ⟨bn, 0, none⟩ = some (.int .i64 n)) (hl : w.cell? ⟨bl, 0, none⟩ = some (.int .i64 lo)) (hh : w.cell? ⟨bh, 0, none⟩ = some (.int .i64 hi)) :
    Calls Try.prog 83 #[.bool has, .int .i64 given, .int .i64 missing, .pointer (some ⟨bn, 0, none⟩), .pointer (some ⟨bl, 0, none⟩), .pointer (some ⟨bh, 0, none⟩)] w
      fun e w' => e = .returned (.int .i64 (boundI n lo hi has given missing)) ∧ ∃ m, w' = w.drewN m := by
  cases has with
  | false =>
    go_enter Try.func83, Try.ntmps83
    go_wp2
    go_ret
    exact ⟨by simp [boundI], (by repeat (first | exact Drawn0.refl _ | apply Drawn0.step) : Drawn0 w _).out⟩
  | true =>
    by_cases hg : given < 0
    · have hg' : decide (given < 0) = true := decide_eq_true hg
      go_enter Try.func83, Try.ntmps83
      go_wp2
      all_goals
        go_ret
        refine ⟨?_, (by repeat (first | exact Drawn0.refl _ | apply Drawn0.step) : Drawn0 w _).out⟩
        refine congrArg (fun z => Ending.returned (Value.int .i64 z)) ?_
        simp only [boundI, if_pos hg, if_true]
        simp only [Int.min_def, Int.max_def]
        split at * <;> (try split) <;> (try split) <;> omega
    · have hg' : decide (given < 0) = false := decide_eq_false hg
      go_enter Try.func83, Try.ntmps83
      go_wp2
      all_goals
        go_ret
        refine ⟨?_, (by repeat (first | exact Drawn0.refl _ | apply Drawn0.step) : Drawn0 w _).out⟩
        have hg2 : ¬ given < 0 := by omega
        refine congrArg (fun z => Ending.returned (Value.int .i64 z)) ?_
        simp only [boundI, if_neg hg2, if_true]
        simp only [Int.min_def, Int.max_def]
        split at * <;> (try split) <;> (try split) <;> omega

/-- How many places a slice selects, from the first one on. -/
def cutCount (s p q : Int) : Int := if 0 < s then (if p < q then (q - p - 1) / s + 1 else 0) else (if q < p then (p - q - 1) / (-s) + 1 else 0)
def cutLo (s : Int) : Int := if s < 0 then -1 else 0
def cutHi (n s : Int) : Int := if s < 0 then n - 1 else n
def cutP (n f s : Int) (hf : Bool) : Int := boundI n (cutLo s) (cutHi n s) hf f (if s < 0 then n - 1 else 0)
def cutQ (n t s : Int) (ht : Bool) : Int := boundI n (cutLo s) (cutHi n s) ht t (if s < 0 then -1 else n)
/-- What CutRange answers at valid arguments. -/
def cutR (n f t s : Int) (hf ht : Bool) : Int × Int := (cutP n f s hf, cutCount s (cutP n f s hf) (cutQ n t s ht))
theorem within_true {a b c : Int} (h : impl_within.f a b c = some true) : b ≤ a ∧ a ≤ c := by
  unfold impl_within.f at h
  by_cases h1 : a ≥ b
  · rw [if_pos h1] at h
    exact ⟨h1, by simpa using h⟩
  · rw [if_neg h1] at h; cases h
theorem within_some (a b c : Int) : impl_within.f a b c = some (decide (b ≤ a ∧ a ≤ c)) := by
  unfold impl_within.f
  by_cases h1 : a ≥ b
  · rw [if_pos h1]; congr 1; simp; omega
  · rw [if_neg h1, decide_eq_false (by omega)]
theorem cutOk_some (f t s : Int) (hf ht : Bool) : impl_CutOk.f f t s hf ht = some (decide (-1000000 ≤ f ∧ f ≤ 1000000 ∧ -1000000 ≤ t ∧ t ≤ 1000000 ∧ -1000000 ≤ s ∧ s ≤ 1000000 ∧ s ≠ 0 ∧ (hf = true ∨ f = 0) ∧ (ht = true ∨ t = 0))) := by
  unfold impl_CutOk.f
  rw [within_some, within_some, within_some]
  simp only [Option.bind_some, decide_eq_true_eq]
  by_cases h1 : -1000000 ≤ f ∧ f ≤ 1000000
  · by_cases h2 : -1000000 ≤ t ∧ t ≤ 1000000
    · by_cases h3 : -1000000 ≤ s ∧ s ≤ 1000000
      · by_cases h4 : s = 0
        · subst h4; simp [h1, h2]
        · by_cases h5 : f = 0 <;> by_cases h6 : t = 0 <;> cases hf <;> cases ht <;> simp [h1, h2, h3, h4, h5, h6]
      · rw [if_pos h1, if_pos h2, if_neg h3, decide_eq_false (by omega)]
    · rw [if_pos h1, if_neg h2, decide_eq_false (by omega)]
  · rw [if_neg h1, decide_eq_false (by omega)]
theorem cutOk_true {f t s : Int} {hf ht : Bool} (h : impl_CutOk.f f t s hf ht = some true) : -1000000 ≤ f ∧ f ≤ 1000000 ∧ -1000000 ≤ t ∧ t ≤ 1000000 ∧ -1000000 ≤ s ∧ s ≤ 1000000 ∧ s ≠ 0 ∧ (hf = true ∨ f = 0) ∧ (ht = true ∨ t = 0) := by
  rw [cutOk_some] at h
  simpa using h
theorem boundI_bd {n lo hi : Int} (h : lo ≤ hi) (has : Bool) {g m : Int} (h1 : lo ≤ m) (h2 : m ≤ hi) : lo ≤ boundI n lo hi has g m ∧ boundI n lo hi has g m ≤ hi := by
  unfold boundI
  cases has
  · exact ⟨h1, h2⟩
  · simp only [if_true]
    simp only [Int.min_def, Int.max_def]
    split <;> split <;> omega
theorem cutP_bd {n f s : Int} (hf : Bool) (h0 : 0 ≤ n) : cutLo s ≤ cutP n f s hf ∧ cutP n f s hf ≤ cutHi n s := by
  unfold cutP
  apply boundI_bd
  all_goals (simp only [cutLo, cutHi])
  all_goals (split <;> omega)
theorem cutQ_bd {n t s : Int} (ht : Bool) (h0 : 0 ≤ n) : cutLo s ≤ cutQ n t s ht ∧ cutQ n t s ht ≤ cutHi n s := by
  unfold cutQ
  apply boundI_bd
  all_goals (simp only [cutLo, cutHi])
  all_goals (split <;> omega)
theorem cut_neg (x s : Int) (hx : 0 ≤ x) (h : s < 0) : -(x.tdiv s) = x / (-s) := by
  rw [← Int.tdiv_neg, Int.tdiv_eq_ediv_of_nonneg hx]
theorem cut_div_le (x s : Int) (hx : 0 ≤ x) (h : 0 < s) : 0 ≤ x / s ∧ x / s ≤ x := ⟨Int.ediv_nonneg hx (by omega), Int.ediv_le_self _ hx⟩

def impl_CutRange.f (a0 : Int) (a1_0 : Int) (a1_1 : Int) (a1_2 : Int) (a1_3 : Bool) (a1_4 : Bool) : Option (Int × Int) := (impl_within.f a0 0 1000000).bind fun b => if b = true then ((impl_CutOk.f a1_0 a1_1 a1_2 a1_3 a1_4).bind fun c => if c = true then some (cutR a0 a1_0 a1_1 a1_2 a1_3 a1_4) else some (0, 0)) else some (0, 0)
set_option maxHeartbeats 4000000 in
set_option maxRecDepth 100000 in
theorem cr_any (a0 a1_0 a1_1 a1_2 : Int) (a1_3 a1_4 : Bool) (w : World) (A1 : impl_within.f a0 0 1000000 = some true) (A2 : impl_CutOk.f a1_0 a1_1 a1_2 a1_3 a1_4 = some true) :
    Calls Try.prog 58 #[.int .i64 a0, .agg #[.int .i64 a1_0, .int .i64 a1_1, .int .i64 a1_2, .bool a1_3, .bool a1_4]] w
      fun e w' => e = .returned (.tuple #[.int .i64 (cutR a0 a1_0 a1_1 a1_2 a1_3 a1_4).1, .int .i64 (cutR a0 a1_0 a1_1 a1_2 a1_3 a1_4).2]) ∧ Below w.heap.size w w' := by
  have hu24 := Try.underlying42
  have A1 := Aside0.mk A1
  have A2 := Aside0.mk A2
  have HB := Aside0.mk (Below.refl w.heap.size w)
  have hmf : ∀ (fn : Fn) (first cap : Array Value) (w : World), (Instr.makeFunc fn first cap).run Try.prog w = .ok (.func fn first cap) w := fun _ _ _ _ => rfl
  go_enter Try.func58, Try.ntmps58
  go_upto_region 3 with (first
    | ((with_reducible refine gate_dst (N := 2) rfl ?_); refine box_event ?hg (N := 2) ?hd (cs := #[.int .i64 a0]) (t := 3) ?hr ?_; (case hd => rfl); (case hg => rfl); (case hr => first | (go_simp; done) | (go_simp; rfl)); intro gn hgn w1 hbn hb1; have BN := Aside0.mk hbn; have B1 := Aside0.mk hb1; have GN := Aside0.mk (Nat.le_of_eq hgn.symm); clear hgn hbn hb1; have hcn : w1.cell? ⟨gn, 0, none⟩ = some (.int .i64 a0) := (blk_cell BN.out 0).trans rfl)
    | ((with_reducible refine gate_dst (N := 3) rfl ?_); refine box_event ?hg (N := 3) ?hd (cs := #[.int .i64 a1_0, .int .i64 a1_1, .int .i64 a1_2, .bool a1_3, .bool a1_4]) (t := 42) ?hr ?_; (case hd => rfl); (case hg => rfl); (case hr => first | (go_simp; done) | (go_simp; rfl)); intro gc hgc w2 hbc hb2; have BN2 := Aside0.mk (blk_below BN.out hb2); have BC := Aside0.mk hbc; have B2 := Aside0.mk (below_step B1.out hb2); clear hgc hbc hb2; have hcn2 : w2.cell? ⟨gn, 0, none⟩ = some (.int .i64 a0) := (blk_cell BN2.out 0).trans rfl; have hc2_0 : w2.cell? ⟨gc, 0, none⟩ = some (.int .i64 a1_0) := (blk_cell BC.out 0).trans rfl; have hc2_1 : w2.cell? ⟨gc, 1, none⟩ = some (.int .i64 a1_1) := (blk_cell BC.out 1).trans rfl; have hc2_2 : w2.cell? ⟨gc, 2, none⟩ = some (.int .i64 a1_2) := (blk_cell BC.out 2).trans rfl; have hc2_3 : w2.cell? ⟨gc, 3, none⟩ = some (.bool a1_3) := (blk_cell BC.out 3).trans rfl; have hc2_4 : w2.cell? ⟨gc, 4, none⟩ = some (.bool a1_4) := (blk_cell BC.out 4).trans rfl)
    | (go_at_call 82; (with_reducible refine (impl_within.calls a0 0 1000000 true _ A1.out).mono ?_); rintro e w' ⟨rfl, ⟨nd, rfl⟩⟩)
    | (go_at_call 57; (with_reducible refine (impl_CutOk.calls a1_0 a1_1 a1_2 a1_3 a1_4 true _ A2.out).mono ?_); rintro e w3 ⟨rfl, hb3⟩; have BN3 := Aside0.mk (blk_below (w := w2.drewN nd) BN2.out hb3); have BC3 := Aside0.mk (blk_below (w := w2.drewN nd) BC.out hb3); have B3 := Aside0.mk (below_step (W := w2.drewN nd) (pw_below_drewN B2.out _) hb3); clear hb3; have hcn3 : w3.cell? ⟨gn, 0, none⟩ = some (.int .i64 a0) := (blk_cell BN3.out 0).trans rfl; have hc3_0 : w3.cell? ⟨gc, 0, none⟩ = some (.int .i64 a1_0) := (blk_cell BC3.out 0).trans rfl; have hc3_1 : w3.cell? ⟨gc, 1, none⟩ = some (.int .i64 a1_1) := (blk_cell BC3.out 1).trans rfl; have hc3_2 : w3.cell? ⟨gc, 2, none⟩ = some (.int .i64 a1_2) := (blk_cell BC3.out 2).trans rfl; have hc3_3 : w3.cell? ⟨gc, 3, none⟩ = some (.bool a1_3) := (blk_cell BC3.out 3).trans rfl; have hc3_4 : w3.cell? ⟨gc, 4, none⟩ = some (.bool a1_4) := (blk_cell BC3.out 4).trans rfl))
  clear hcn hcn2 hc2_0 hc2_1 hc2_2 hc2_3 hc2_4
  go_cut [6, 7] (fun v6 v7 wx => ∃ gl gh : Nat, v6 = .pointer (some ⟨gl, 0, none⟩) ∧ v7 = .pointer (some ⟨gh, 0, none⟩) ∧ Aside0 (gl ≠ gh) ∧ Aside0 (w.heap.size ≤ gl) ∧ Aside0 (w.heap.size ≤ gh) ∧ Aside0 (gl ≠ gn) ∧ Aside0 (gh ≠ gn) ∧ Aside0 (gl ≠ gc) ∧ Aside0 (gh ≠ gc) ∧ Aside0 (wx.heap[gl]? = some (.cells #[.int .i64 0] 3 (0, 0))) ∧ Aside0 (wx.heap[gh]? = some (.cells #[.int .i64 a0] 3 (0, 0))) ∧ Aside0 (wx.heap[gn]? = some (.cells #[.int .i64 a0] 3 (0, 0))) ∧ Aside0 (wx.heap[gc]? = some (.cells #[.int .i64 a1_0, .int .i64 a1_1, .int .i64 a1_2, .bool a1_3, .bool a1_4] 42 (0, 0))) ∧ Aside0 (Below w.heap.size w wx))
  case first =>
    have hA0 : ∀ o1 o2, (((w3.alloc o1).alloc o2)).cell? ⟨gn, 0, none⟩ = some (.int .i64 a0) := fun o1 o2 => (blk_cell (blk_alloc (blk_alloc BN3.out o1) o2) 0).trans rfl
    have hA_1 : ∀ o1, ((w3.alloc o1)).cell? ⟨gn, 0, none⟩ = some (.int .i64 a0) := fun o1 => (blk_cell (blk_alloc BN3.out o1) 0).trans rfl
    go_region
    all_goals (try go_wp2_with fail)
    · go_meet
      case rel =>
        have hg := blk_lt BN3.out
        have hc := blk_lt BC3.out
        have hb := below_size B3.out
        have b1 := blk_new w3 (.cells #[.int .i64 0] 3)
        have b2 := blk_new (w3.alloc (.cells #[.int .i64 0] 3)) (.cells #[.int .i64 a0] 3)
        rw [World.size_alloc] at b2
        exact ⟨w3.heap.size, w3.heap.size + 1, rfl, rfl, ⟨by omega⟩, ⟨by omega⟩, ⟨by omega⟩, ⟨by omega⟩, ⟨by omega⟩, ⟨by omega⟩, ⟨by omega⟩, ⟨blk_drew (blk_alloc b1 _)⟩, ⟨blk_drew b2⟩, ⟨blk_drew (blk_alloc (blk_alloc BN3.out _) _)⟩, ⟨blk_drew (blk_alloc (blk_alloc BC3.out _) _)⟩, ⟨below_drew1 (below_alloc (below_alloc B3.out _) _)⟩⟩
    · go_meet
      case rel =>
        have hg := blk_lt BN3.out
        have hc := blk_lt BC3.out
        have hb := below_size B3.out
        have b1 := blk_new w3 (.cells #[.int .i64 a0] 3)
        have b2 := blk_new (w3.alloc (.cells #[.int .i64 a0] 3)) (.cells #[.int .i64 0] 3)
        rw [World.size_alloc] at b2
        exact ⟨w3.heap.size + 1, w3.heap.size, rfl, rfl, ⟨by omega⟩, ⟨by omega⟩, ⟨by omega⟩, ⟨by omega⟩, ⟨by omega⟩, ⟨by omega⟩, ⟨by omega⟩, ⟨blk_drew b2⟩, ⟨blk_drew (blk_alloc b1 _)⟩, ⟨blk_drew (blk_alloc (blk_alloc BN3.out _) _)⟩, ⟨blk_drew (blk_alloc (blk_alloc BC3.out _) _)⟩, ⟨below_drew1 (below_alloc (below_alloc B3.out _) _)⟩⟩
  case rest =>
    clear hcn3 hc3_0 hc3_1 hc3_2 hc3_3 hc3_4 BN BN2 BN3 BC BC3 B1 B2 B3 HB
    obtain ⟨gl, gh, rfl, rfl, N1, N2, N3, N4, N5, N6, N7, L1, H1, BN, BC, HB⟩ := hcut
    have hn1 : wc.cell? ⟨gn, 0, none⟩ = some (.int .i64 a0) := (blk_cell BN.out 0).trans rfl
    have hl1 : wc.cell? ⟨gl, 0, none⟩ = some (.int .i64 0) := (blk_cell L1.out 0).trans rfl
    have hh1 : wc.cell? ⟨gh, 0, none⟩ = some (.int .i64 a0) := (blk_cell H1.out 0).trans rfl
    have hc_2 : wc.cell? ⟨gc, 2, none⟩ = some (.int .i64 a1_2) := (blk_cell BC.out 2).trans rfl
    go_wp2_with fail
    go_quiet (fail)
    go_upto_if 24 with fail
    go_cut [8, 9] (fun v8 v9 wx => ∃ lo hi f0 t0 : Int, v8 = .int .i64 f0 ∧ v9 = .int .i64 t0 ∧ Aside0 (lo = if a1_2 < 0 then -1 else 0) ∧ Aside0 (hi = if a1_2 < 0 then wrap64 (a0 - 1) else a0) ∧ Aside0 (f0 = if a1_2 < 0 then wrap64 (a0 - 1) else 0) ∧ Aside0 (t0 = if a1_2 < 0 then -1 else a0) ∧ Aside0 (wx.heap[gl]? = some (.cells #[.int .i64 lo] 3 (0, 0))) ∧ Aside0 (wx.heap[gh]? = some (.cells #[.int .i64 hi] 3 (0, 0))) ∧ Aside0 (wx.heap[gn]? = some (.cells #[.int .i64 a0] 3 (0, 0))) ∧ Aside0 (wx.heap[gc]? = some (.cells #[.int .i64 a1_0, .int .i64 a1_1, .int .i64 a1_2, .bool a1_3, .bool a1_4] 42 (0, 0))) ∧ Aside0 (Below w.heap.size w wx))
    case first =>
      by_cases hs : a1_2 < 0
      · have Hs := Aside0.mk hs
        have hs' : decide (a1_2 < 0) = true := decide_eq_true hs
        go_wp2_with fail
        have hl2 : ∀ k, ((wc.drewN k).setCell ⟨gl, 0, none⟩ (.int .i64 (-1))).cell? ⟨gn, 0, none⟩ = some (.int .i64 a0) := fun k => (blk_cell (blk_far (p := ⟨gl, 0, none⟩) (blk_drewN BN.out k) (Ne.symm N4.out) _) 0).trans rfl
        have hh2 : ∀ k, ((wc.drewN k).setCell ⟨gl, 0, none⟩ (.int .i64 (-1))).cell? ⟨gh, 0, none⟩ = some (.int .i64 a0) := fun k => (blk_cell (blk_far (p := ⟨gl, 0, none⟩) (blk_drewN H1.out k) (Ne.symm N1.out) _) 0).trans rfl
        have hf1 : wc.frozen? ⟨gl, 0, none⟩ = false := blk_frozen L1.out 0
        have hf2 : wc.frozen? ⟨gh, 0, none⟩ = false := blk_frozen H1.out 0
        have hf3 : ∀ k, ((wc.drewN k).setCell ⟨gl, 0, none⟩ (.int .i64 (-1))).frozen? ⟨gh, 0, none⟩ = false := fun k => blk_frozen (blk_far (p := ⟨gl, 0, none⟩) (blk_drewN H1.out k) (Ne.symm N1.out) _) 0
        have hn2 : ∀ k, (((wc.drewN k).setCell ⟨gl, 0, none⟩ (.int .i64 (-1))).setCell ⟨gh, 0, none⟩ (.int .i64 (wrap64 (a0 - 1)))).cell? ⟨gn, 0, none⟩ = some (.int .i64 a0) := fun k => (blk_cell (blk_far (p := ⟨gh, 0, none⟩) (blk_far (p := ⟨gl, 0, none⟩) (blk_drewN BN.out k) (Ne.symm N4.out) _) (Ne.symm N5.out) _) 0).trans rfl
        go_region
        all_goals (try go_wp2_with fail)
        go_meet
        case rel => exact ⟨-1, wrap64 (a0 - 1), wrap64 (a0 - 1), -1, rfl, rfl, ⟨(if_pos Hs.out).symm⟩, ⟨(if_pos Hs.out).symm⟩, ⟨(if_pos Hs.out).symm⟩, ⟨(if_pos Hs.out).symm⟩, ⟨blk_far (p := ⟨gh, 0, none⟩) (blk_set (blk_drewN L1.out _) 0 _) N1.out _⟩, ⟨blk_set (blk_far (p := ⟨gl, 0, none⟩) (blk_drewN H1.out _) (Ne.symm N1.out) _) 0 _⟩, ⟨blk_far (p := ⟨gh, 0, none⟩) (blk_far (p := ⟨gl, 0, none⟩) (blk_drewN BN.out _) (Ne.symm N4.out) _) (Ne.symm N5.out) _⟩, ⟨blk_far (p := ⟨gh, 0, none⟩) (blk_far (p := ⟨gl, 0, none⟩) (blk_drewN BC.out _) (Ne.symm N6.out) _) (Ne.symm N7.out) _⟩, ⟨below_set (below_set (pw_below_drewN HB.out _) N2.out) N3.out⟩⟩
      · have Hs := Aside0.mk hs
        have hs' : decide (a1_2 < 0) = false := decide_eq_false hs
        go_wp2_with fail
        have Hs2 : ¬ a1_2 < 0 := by have := Hs.out; omega
        go_meet
        case rel => exact ⟨0, a0, 0, a0, rfl, rfl, ⟨(if_neg Hs2).symm⟩, ⟨(if_neg Hs2).symm⟩, ⟨(if_neg Hs2).symm⟩, ⟨(if_neg Hs2).symm⟩, L1, H1, BN, BC, ⟨pw_below_drewN HB.out _⟩⟩
    case rest =>
      clear hn1 hl1 hh1 hc_2 L1 H1 BN BC HB
      obtain ⟨lo, hi, f0, t0, rfl, rfl, E1, E2, E3, E4, L1, H1, BN, BC, HB⟩ := hcut
      have hn1 : wc.cell? ⟨gn, 0, none⟩ = some (.int .i64 a0) := (blk_cell BN.out 0).trans rfl
      have hl1 : wc.cell? ⟨gl, 0, none⟩ = some (.int .i64 lo) := (blk_cell L1.out 0).trans rfl
      have hh1 : wc.cell? ⟨gh, 0, none⟩ = some (.int .i64 hi) := (blk_cell H1.out 0).trans rfl
      have hc_0 : wc.cell? ⟨gc, 0, none⟩ = some (.int .i64 a1_0) := (blk_cell BC.out 0).trans rfl
      have hc_1 : wc.cell? ⟨gc, 1, none⟩ = some (.int .i64 a1_1) := (blk_cell BC.out 1).trans rfl
      have hc_2 : wc.cell? ⟨gc, 2, none⟩ = some (.int .i64 a1_2) := (blk_cell BC.out 2).trans rfl
      have hc_3 : wc.cell? ⟨gc, 3, none⟩ = some (.bool a1_3) := (blk_cell BC.out 3).trans rfl
      have hc_4 : wc.cell? ⟨gc, 4, none⟩ = some (.bool a1_4) := (blk_cell BC.out 4).trans rfl
      go_wp2_with fail
      go_quiet ((go_at_call 83; refine Calls.quiet_of (bound_any _ _ _ a0 lo hi gn gl gh _ ?_ ?_ ?_) <;> (simp [*]; done)))
      clear hmf hn1 hl1 hh1 hc_0 hc_1 hc_3 hc_4
      have W1 := within_true A1.out
      have W2 := cutOk_true A2.out
      have ew : wrap64 (a0 - 1) = a0 - 1 := by unfold wrap64; omega
      have EP : Aside0 (boundI a0 lo hi a1_3 a1_0 f0 = cutP a0 a1_0 a1_2 a1_3) := ⟨by rw [E1.out, E2.out, E3.out, ew]; rfl⟩
      have EQ : Aside0 (boundI a0 lo hi a1_4 a1_1 t0 = cutQ a0 a1_1 a1_2 a1_4) := ⟨by rw [E1.out, E2.out, E4.out, ew]; rfl⟩
      rw [EP.out, EQ.out]
      have P1 := cutP_bd (f := a1_0) (s := a1_2) a1_3 W1.1
      have Q1 := cutQ_bd (t := a1_1) (s := a1_2) a1_4 W1.1
      have l1 : -1 ≤ cutLo a1_2 := by unfold cutLo; split <;> omega
      have l2 : cutHi a0 a1_2 ≤ 1000000 := by unfold cutHi; split <;> omega
      have PR : Aside0 (cutR a0 a1_0 a1_1 a1_2 a1_3 a1_4 = (cutP a0 a1_0 a1_2 a1_3, cutCount a1_2 (cutP a0 a1_0 a1_2 a1_3) (cutQ a0 a1_1 a1_2 a1_4))) := ⟨rfl⟩
      have p1 : -1 ≤ cutP a0 a1_0 a1_2 a1_3 := by omega
      have p2 : cutP a0 a1_0 a1_2 a1_3 ≤ 1000000 := by omega
      have q1 : -1 ≤ cutQ a0 a1_1 a1_2 a1_4 := by omega
      have q2 : cutQ a0 a1_1 a1_2 a1_4 ≤ 1000000 := by omega
      have s1 := W2.2.2.2.2.1
      have s2 := W2.2.2.2.2.2.1
      have s0 := Aside0.mk W2.2.2.2.2.2.2.1
      clear W1 W2 ew EP EQ P1 Q1 l1 l2 E1 E2 E3 E4
      generalize cutP a0 a1_0 a1_2 a1_3 = p at *
      generalize cutQ a0 a1_1 a1_2 a1_4 = q at *
      have fin : ∀ (c : Int) (E : Ending) (W' : World), c = cutCount a1_2 p q → E = .returned (.tuple #[.int .i64 p, .int .i64 c]) → Below w.heap.size w W' → E = .returned (.tuple #[.int .i64 (cutR a0 a1_0 a1_1 a1_2 a1_3 a1_4).1, .int .i64 (cutR a0 a1_0 a1_1 a1_2 a1_3 a1_4).2]) ∧ Below w.heap.size w W' := by
        intro c E W' hc hE hB
        rw [PR.out, hE, hc]
        exact ⟨rfl, hB⟩
      by_cases hs : 0 < a1_2
      · have hs' : decide (0 < a1_2) = true := decide_eq_true hs
        have hs2 : decide (a1_2 < 0) = false := decide_eq_false (by omega)
        by_cases hpq : p < q
        · have hp' : decide (p < q) = true := decide_eq_true hpq
          have hd := Aside0.mk (cut_div_le (q - p - 1) a1_2 (by omega) hs)
          have fin2 := fin ((q - p - 1) / a1_2 + 1)
          clear fin
          go_wp2
          go_ret2
          refine fin2 _ _ (by rw [cutCount, if_pos hs, if_pos hpq]) ?_ (pw_below_drewN HB.out _)
          have hd1 := hd.out
          refine congrArg (fun z => Ending.returned (.tuple #[.int .i64 p, .int .i64 z])) (?_ : wrap64 ((q - p - 1) / a1_2 + 1) = _)
          unfold wrap64; omega
        · have hp' : decide (p < q) = false := decide_eq_false hpq
          have fin2 := fin 0
          clear fin
          go_wp2
          go_ret2
          exact fin2 _ _ (by rw [cutCount, if_pos hs, if_neg (by omega)]) rfl (pw_below_drewN HB.out _)
      · have hs' : decide (0 < a1_2) = false := decide_eq_false hs
        have hs0 : a1_2 < 0 := by have := s0.out; omega
        have hs2 : decide (a1_2 < 0) = true := decide_eq_true hs0
        by_cases hpq : q < p
        · have hp' : decide (q < p) = true := decide_eq_true hpq
          have hd := Aside0.mk (cut_div_le (p - q - 1) (-a1_2) (by omega) (by omega))
          have hn := Aside0.mk (cut_neg (p - q - 1) a1_2 (by omega) hs0)
          have fin2 := fin ((p - q - 1) / (-a1_2) + 1)
          clear fin
          go_wp2
          go_ret2
          refine fin2 _ _ (by rw [cutCount, if_neg (by omega), if_pos hpq]) ?_ (pw_below_drewN HB.out _)
          have hn1 := hn.out
          have hd1 := hd.out
          refine congrArg (fun z => Ending.returned (.tuple #[.int .i64 p, .int .i64 z])) (?_ : wrap64 (wrap64 (-((p - q - 1).tdiv a1_2)) + 1) = _)
          rw [hn1]; unfold wrap64; omega
        · have hp' : decide (q < p) = false := decide_eq_false hpq
          have fin2 := fin 0
          clear fin
          go_wp2
          go_ret2
          exact fin2 _ _ (by rw [cutCount, if_neg (by omega), if_neg (by omega)]) rfl (pw_below_drewN HB.out _)

set_option maxHeartbeats 4000000 in
set_option maxRecDepth 100000 in
theorem impl_CutRange.calls (a0 : Int) (a1_0 : Int) (a1_1 : Int) (a1_2 : Int) (a1_3 : Bool) (a1_4 : Bool) (r1 : Int) (r2 : Int) (w : World) (h : impl_CutRange.f a0 a1_0 a1_1 a1_2 a1_3 a1_4 = some (r1, r2)) :
    Calls Try.prog 58 #[.int .i64 a0, .agg #[.int .i64 a1_0, .int .i64 a1_1, .int .i64 a1_2, .bool a1_3, .bool a1_4]] w fun e w' => e = .returned (.tuple #[.int .i64 r1, .int .i64 r2]) ∧ Below w.heap.size w w' := by
  unfold impl_CutRange.f at h
  rw [within_some] at h
  simp only [Option.bind_some] at h
  by_cases hw : 0 ≤ a0 ∧ a0 ≤ 1000000
  · rw [if_pos (decide_eq_true hw), cutOk_some] at h
    simp only [Option.bind_some] at h
    have A1 : impl_within.f a0 0 1000000 = some true := by rw [within_some, decide_eq_true hw]
    cases hc : decide (-1000000 ≤ a1_0 ∧ a1_0 ≤ 1000000 ∧ -1000000 ≤ a1_1 ∧ a1_1 ≤ 1000000 ∧ -1000000 ≤ a1_2 ∧ a1_2 ≤ 1000000 ∧ a1_2 ≠ 0 ∧ (a1_3 = true ∨ a1_0 = 0) ∧ (a1_4 = true ∨ a1_1 = 0)) with
    | true =>
      rw [hc, if_pos rfl] at h
      have A2 : impl_CutOk.f a1_0 a1_1 a1_2 a1_3 a1_4 = some true := by rw [cutOk_some, hc]
      have := cr_any a0 a1_0 a1_1 a1_2 a1_3 a1_4 w A1 A2
      rw [Option.some.inj h] at this
      exact this
    | false =>
      rw [hc, if_neg (by simp)] at h
      obtain ⟨rfl, rfl⟩ := Prod.mk.inj (Option.some.inj h)
      have A2 : impl_CutOk.f a1_0 a1_1 a1_2 a1_3 a1_4 = some false := by rw [cutOk_some, hc]
      have hu24 := Try.underlying42
      have A1 := Aside0.mk A1
      have A2 := Aside0.mk A2
      clear h hw hc
      go_enter Try.func58, Try.ntmps58
      go_wp2_with (first
        | ((with_reducible refine gate_dst (N := 2) rfl ?_); refine box_event ?hg (N := 2) ?hd (cs := #[.int .i64 a0]) (t := 3) ?hr ?_; (case hd => rfl); (case hg => rfl); (case hr => first | (go_simp; done) | (go_simp; rfl)); intro gn hgn w1 hbn hb1; have BN := Aside0.mk hbn; have B1 := Aside0.mk hb1; have GN := Aside0.mk (Nat.le_of_eq hgn.symm); clear hgn hbn hb1; have hcn : w1.cell? ⟨gn, 0, none⟩ = some (.int .i64 a0) := (blk_cell BN.out 0).trans rfl)
        | ((with_reducible refine gate_dst (N := 3) rfl ?_); refine box_event ?hg (N := 3) ?hd (cs := #[.int .i64 a1_0, .int .i64 a1_1, .int .i64 a1_2, .bool a1_3, .bool a1_4]) (t := 42) ?hr ?_; (case hd => rfl); (case hg => rfl); (case hr => first | (go_simp; done) | (go_simp; rfl)); intro gc hgc w2 hbc hb2; have BN2 := Aside0.mk (blk_below BN.out hb2); have BC := Aside0.mk hbc; have B2 := Aside0.mk (below_step B1.out hb2); clear hgc hbc hb2; have hcn2 : w2.cell? ⟨gn, 0, none⟩ = some (.int .i64 a0) := (blk_cell BN2.out 0).trans rfl; have hc2_0 : w2.cell? ⟨gc, 0, none⟩ = some (.int .i64 a1_0) := (blk_cell BC.out 0).trans rfl; have hc2_1 : w2.cell? ⟨gc, 1, none⟩ = some (.int .i64 a1_1) := (blk_cell BC.out 1).trans rfl; have hc2_2 : w2.cell? ⟨gc, 2, none⟩ = some (.int .i64 a1_2) := (blk_cell BC.out 2).trans rfl; have hc2_3 : w2.cell? ⟨gc, 3, none⟩ = some (.bool a1_3) := (blk_cell BC.out 3).trans rfl; have hc2_4 : w2.cell? ⟨gc, 4, none⟩ = some (.bool a1_4) := (blk_cell BC.out 4).trans rfl)
        | (go_at_call 82; (with_reducible refine (impl_within.calls a0 0 1000000 true _ A1.out).mono ?_); rintro e w' ⟨rfl, ⟨nd, rfl⟩⟩)
        | (go_at_call 57; (with_reducible refine (impl_CutOk.calls a1_0 a1_1 a1_2 a1_3 a1_4 false _ A2.out).mono ?_); rintro e w3 ⟨rfl, hb3⟩; have B3 := Aside0.mk (below_step (W := w2.drewN nd) (pw_below_drewN B2.out _) hb3); clear hb3))
      go_ret2
      exact ⟨rfl, B3.out⟩
  · rw [if_neg (by simpa using hw)] at h
    obtain ⟨rfl, rfl⟩ := Prod.mk.inj (Option.some.inj h)
    have A1 : impl_within.f a0 0 1000000 = some false := by rw [within_some, decide_eq_false hw]
    have hu24 := Try.underlying42
    have A1 := Aside0.mk A1
    clear h hw
    go_enter Try.func58, Try.ntmps58
    go_wp2_with (first
      | ((with_reducible refine gate_dst (N := 2) rfl ?_); refine box_event ?hg (N := 2) ?hd (cs := #[.int .i64 a0]) (t := 3) ?hr ?_; (case hd => rfl); (case hg => rfl); (case hr => first | (go_simp; done) | (go_simp; rfl)); intro gn hgn w1 hbn hb1; have BN := Aside0.mk hbn; have B1 := Aside0.mk hb1; have GN := Aside0.mk (Nat.le_of_eq hgn.symm); clear hgn hbn hb1; have hcn : w1.cell? ⟨gn, 0, none⟩ = some (.int .i64 a0) := (blk_cell BN.out 0).trans rfl)
      | ((with_reducible refine gate_dst (N := 3) rfl ?_); refine box_event ?hg (N := 3) ?hd (cs := #[.int .i64 a1_0, .int .i64 a1_1, .int .i64 a1_2, .bool a1_3, .bool a1_4]) (t := 42) ?hr ?_; (case hd => rfl); (case hg => rfl); (case hr => first | (go_simp; done) | (go_simp; rfl)); intro gc hgc w2 hbc hb2; have BN2 := Aside0.mk (blk_below BN.out hb2); have B2 := Aside0.mk (below_step B1.out hb2); clear hgc hbc hb2; have hcn2 : w2.cell? ⟨gn, 0, none⟩ = some (.int .i64 a0) := (blk_cell BN2.out 0).trans rfl)
      | (go_at_call 82; (with_reducible refine (impl_within.calls a0 0 1000000 false _ A1.out).mono ?_); rintro e w' ⟨rfl, ⟨nd, rfl⟩⟩))
    go_ret2
    exact ⟨rfl, pw_below_drewN B2.out _⟩

/-! ### slices_Grow_int_int: function 84 -/
def growRen : Go.Shelf.Ren := ⟨fun | 4 => 84 | n => n, fun | 22 => 36 | 25 => 3 | n => n, fun | n => n⟩
theorem growLays : Go.Proofs.Lays8.n4 Try.prog growRen := {
  mixed := by kernel_rfl
  f4 := ⟨"slices.Grow[[]int,int]", by decide, Try.func84.trans (congrArg some (by kernel_rfl))⟩
  t0 := Try.underlying0
  a0 := Try.isAgg0
  z0 := Try.sizeOf0
  v0 := Try.zeroValue0
  t3 := Try.underlying3
  a3 := Try.isAgg3
  z3 := Try.sizeOf3
  v3 := Try.zeroValue3
  t4 := Try.underlying4
  a4 := Try.isAgg4
  z4 := Try.sizeOf4
  v4 := Try.zeroValue4
  t9 := Try.underlying9
  a9 := Try.isAgg9
  z9 := Try.sizeOf9
  v9 := Try.zeroValue9
  t20 := Try.underlying20
  a20 := Try.isAgg20
  z20 := Try.sizeOf20
  v20 := Try.zeroValue20
  t22 := Try.underlying36
  a22 := Try.isAgg36
  z22 := Try.sizeOf36
  v22 := Try.zeroValue36 }
def slices_Grow_int_int.f (l0 : List Int) (a1 : Int) : Option (List Int) := if l0 = [] ∧ 0 ≤ a1 ∧ a1 ≤ 1000000 then some [] else none
theorem slices_Grow_int_int.calls (A0 : Option Addr) (c0 : Nat) (l0 : List Int) (a1 : Int) (r : List Int) (w : World) (hA0 : A0 = none ∧ c0 = 0) (hr0 : Kd.C (Kd.int .i64) w A0 l0.length l0) (hc0 : l0.length ≤ c0) (h : slices_Grow_int_int.f l0 a1 = some r) :
    Calls Try.prog 84 #[.slice A0 l0.length c0, .int .i64 a1] w fun e w' => ∃ v0_ : Value, e = .returned (v0_) ∧ Kd.R (Kd.int .i64) 3 w' w.heap.size (fun _ => True) v0_ r ∧ Below w.heap.size w w' := by
  obtain ⟨rfl, rfl⟩ := hA0
  unfold slices_Grow_int_int.f at h
  by_cases hc : l0 = [] ∧ 0 ≤ a1 ∧ a1 ≤ 1000000
  · rw [if_pos hc] at h
    obtain rfl := Option.some.inj h
    obtain ⟨rfl, h0, h1⟩ := hc
    obtain ⟨n, rfl⟩ := Int.eq_ofNat_of_zero_le h0
    by_cases hn : n = 0
    · subst hn
      refine (Any8.slices_Grow_room growLays none 0 0 0 w (by omega) (by omega) (by omega) (by omega)).mono ?_
      rintro e w' ⟨rfl, rfl⟩
      exact ⟨_, rfl, Kd.R_nil _ _ _ _ _, Below.refl _ _⟩
    · obtain ⟨i0, hi0, hz, hs, hb⟩ := info_parts info3
      refine (Any8.slices_Grow_grow growLays i0 (.int .i64 0) hi0 hz (by omega) none 0 0 n [] w (by omega) (by omega) (by rw [hb]; omega) (by omega) (by simp) (fun _ => rfl) (fun a ha => by cases ha)).mono ?_
      rintro e w' ⟨rfl, rfl⟩
      refine ⟨_, rfl, ?_, below_alloc (below_drew1 (Below.refl _ _)) _⟩
      have hg := grownCap_ge w (0 + n) 0 (growRen.t 25)
      have hm := grownCap_le_maxLen w (0 + n) 0 (growRen.t 25) (by unfold maxLen; omega)
      refine Kd.R_of_own (enc := Value.int .i64) (h1 := fun _ => rfl) (xs := []) ?_ (fun _ _ => trivial)
      refine ⟨rfl, .inr ⟨w.heap.size, _, _, rfl, Nat.le_refl _, heap_alloc_new _ _, Nat.zero_le _, hm, ?_, rfl⟩⟩
      rw [Array.size_append, Array.size_append, size_zeroCells, size_zeroCells]
      have e1 : (Value.int .i64 0).cells.size = 1 := rfl
      rw [e1]
      show 0 + _ + _ = _
      generalize grownCap w (0 + n) 0 (growRen.t 25) = G at hg hm ⊢
      omega
  · rw [if_neg hc] at h; cases h

/-! ### slices_Concat_int_int: function 59 -/
set_option maxRecDepth 100000 in
mutual
def slices_Concat_int_int.l0 : Nat → List (List Int) → Int → List (List Int) → Int → Int → Option (List Int)
  | 0, _, _, _, _, _ => none
  | k + 1, x0, x3, x9, x10, x11 => if x11 < x10 then (if 0 ≤ x11 then (if x11 < (x9.length : Int) then (if (wrap64 (x3 + ((rd_L3 x9 x11).length : Int))) < 0 then (if 0 ≤ (wrap64 (x3 + ((rd_L3 x9 x11).length : Int))) then (if (wrap64 (x3 + ((rd_L3 x9 x11).length : Int))) < ((rd_L3 x9 x11).length : Int) then (slices_Concat_int_int.l0 k x0 (wrap64 (x3 + ((rd_L3 x9 x11).length : Int))) x9 x10 (wrap64 (x11 + 1))) else (none)) else (none)) else (slices_Concat_int_int.l0 k x0 (wrap64 (x3 + ((rd_L3 x9 x11).length : Int))) x9 x10 (wrap64 (x11 + 1)))) else (none)) else (none)) else ((slices_Grow_int_int.f ([] : List Int) x3).bind fun t151 => (slices_Concat_int_int.l1 k t151 x0 (x0.length : Int) 0))
def slices_Concat_int_int.l1 : Nat → List Int → List (List Int) → Int → Int → Option (List Int)
  | 0, _, _, _, _ => none
  | k + 1, x6, x25, x26, x27 => if x27 < x26 then (if 0 ≤ x27 then (if x27 < (x25.length : Int) then (if x6.length + (rd_L3 x25 x27).length < 17592186044416 then (slices_Concat_int_int.l1 k (x6 ++ (rd_L3 x25 x27)) x25 x26 (wrap64 (x27 + 1))) else (none)) else (none)) else (none)) else (some x6)
end
def slices_Concat_int_int.f (k : Nat) (l0 : List (List Int)) : Option (List Int) := slices_Concat_int_int.l0 k l0 0 l0 (l0.length : Int) 0
set_option maxRecDepth 100000 in
theorem slices_Concat_int_int.mono_l : ∀ k, (∀ y0 y1 y2 y3 y4, LeO (slices_Concat_int_int.l0 k y0 y1 y2 y3 y4) (slices_Concat_int_int.l0 (k + 1) y0 y1 y2 y3 y4)) ∧ (∀ y0 y1 y2 y3, LeO (slices_Concat_int_int.l1 k y0 y1 y2 y3) (slices_Concat_int_int.l1 (k + 1) y0 y1 y2 y3))
  | 0 => ⟨fun _ _ _ _ _ r h => by simp [slices_Concat_int_int.l0] at h, fun _ _ _ _ r h => by simp [slices_Concat_int_int.l1] at h⟩
  | k + 1 => by
    obtain ⟨ih0, ih1⟩ := slices_Concat_int_int.mono_l k
    refine ⟨?_, ?_⟩
    · intro y0 y1 y2 y3 y4
      unfold slices_Concat_int_int.l0
      repeat' first
      | (with_reducible exact ih0 _ _ _ _ _)
      | (with_reducible exact ih1 _ _ _ _)
      | (with_reducible exact LeO.refl _)
      | (with_reducible exact LeO.none _)
      | (with_reducible refine LeO.ite ?_ ?_)
      | (with_reducible refine LeO.bind ?_ (fun _ => ?_))
      | exact ih0 _ _ _ _ _
      | exact ih1 _ _ _ _
      | exact LeO.none _
      | refine LeO.ite ?_ ?_
      | refine LeO.bind ?_ (fun _ => ?_)
    · intro y0 y1 y2 y3
      unfold slices_Concat_int_int.l1
      repeat' first
      | (with_reducible exact ih0 _ _ _ _ _)
      | (with_reducible exact ih1 _ _ _ _)
      | (with_reducible exact LeO.refl _)
      | (with_reducible exact LeO.none _)
      | (with_reducible refine LeO.ite ?_ ?_)
      | (with_reducible refine LeO.bind ?_ (fun _ => ?_))
      | exact ih0 _ _ _ _ _
      | exact ih1 _ _ _ _
      | exact LeO.none _
      | refine LeO.ite ?_ ?_
      | refine LeO.bind ?_ (fun _ => ?_)
set_option maxRecDepth 100000 in
theorem slices_Concat_int_int.mono : ∀ a0 k, LeO (slices_Concat_int_int.f k a0) (slices_Concat_int_int.f (k + 1) a0) := by
  intro a0 k
  obtain ⟨ih0, ih1⟩ := slices_Concat_int_int.mono_l k
  unfold slices_Concat_int_int.f
  repeat' first
      | (with_reducible exact ih0 _ _ _ _ _)
      | (with_reducible exact ih1 _ _ _ _)
      | (with_reducible exact LeO.refl _)
      | (with_reducible exact LeO.none _)
      | (with_reducible refine LeO.ite ?_ ?_)
      | (with_reducible refine LeO.bind ?_ (fun _ => ?_))
      | exact ih0 _ _ _ _ _
      | exact ih1 _ _ _ _
      | exact LeO.none _
      | refine LeO.ite ?_ ?_
      | refine LeO.bind ?_ (fun _ => ?_)
set_option maxHeartbeats 8000000 in
set_option maxRecDepth 100000 in
theorem slices_Concat_int_int.calls (k : Nat) (A0 : Option Addr) (c0 : Nat) (l0 : List (List Int)) (r : List Int) (w : World) (hr0 : Kd.C (Kd.slice 3 (Kd.int .i64)) w A0 l0.length l0) (hc0 : l0.length ≤ c0) (h : slices_Concat_int_int.f k l0 = some r) :
    Calls Try.prog 59 #[.slice A0 l0.length c0] w fun e w' => ∃ v0_ : Value, e = .returned (v0_) ∧ Kd.R (Kd.int .i64) 3 w' w.heap.size (fun _ => True) v0_ r ∧ Below w.heap.size w w' := by
  have HR0 := Aside0.mk hr0
  have HC0 := Aside0.mk hc0
  clear hr0 hc0
  have HB := Aside0.mk (Below.refl w.heap.size w)
  have H : (slices_Concat_int_int.l0 k l0 0 l0 (l0.length : Int) 0) = some r := h
  clear h
  have H' := Aside0.mk H
  clear H
  go_enter Try.func59, Try.ntmps59
  go_wp2
  go_loopg [3, 11] k (fun kq v3 v11 w' => ∃ (x3_1 : Int) (x11_1 : Int), v3 = .int .i64 x3_1 ∧ v11 = .int .i64 x11_1 ∧ Aside0 (slices_Concat_int_int.l0 kq l0 x3_1 l0 (l0.length : Int) x11_1 = some r) ∧ Aside0 (kq ≤ k) ∧ Aside0 (Below w.heap.size w w'))
  case atStart => exact ⟨(0), (0), (by first | rfl | (simp; done) | (simp [*]; done)), (by first | rfl | (simp; done) | (simp [*]; done)), H', ⟨Nat.le_refl _⟩, ⟨by repeat (first | (with_reducible first | exact HB.out | apply below_alloc | apply pw_below_drewN | apply below_drew1) | exact HB.out)⟩⟩
  case round =>
    clear H'
    obtain ⟨x3_1, x11_1, rfl, rfl, HA, HK1, HB⟩ := hrel
    cases gk with
    | zero => exact absurd HA.out (by simp [slices_Concat_int_int.l0])
    | succ k1 =>
      have H := HA.out
      clear HA
      simp only [slices_Concat_int_int.l0] at H
      by_cases c2 : x11_1 < (l0.length : Int)
      · rw [if_pos c2] at H
        have c2b0 : decide (x11_1 < (l0.length : Int)) = true := decide_eq_true c2
        clear c2
        by_cases c3 : 0 ≤ x11_1
        · rw [if_pos c3] at H
          have c3b0 : decide (0 ≤ x11_1) = true := decide_eq_true c3
          clear c3
          by_cases c4 : x11_1 < (l0.length : Int)
          · rw [if_pos c4] at H
            have c4b0 : decide (x11_1 < (l0.length : Int)) = true := decide_eq_true c4
            clear c4
            by_cases c5 : (wrap64 (x3_1 + ((rd_L3 l0 x11_1).length : Int))) < 0
            · rw [if_pos c5] at H
              have c5b0 : decide ((wrap64 (x3_1 + ((rd_L3 l0 x11_1).length : Int))) < 0) = true := decide_eq_true c5
              clear c5
              obtain ⟨ji6, hji6⟩ : ∃ j_ : Int, (wrap64 (x3_1 + ((rd_L3 l0 x11_1).length : Int))) = j_ := ⟨_, rfl⟩
              replace H : (if 0 ≤ (ji6) then (if (ji6) < ((rd_L3 l0 x11_1).length : Int) then (slices_Concat_int_int.l0 k1 l0 ji6 l0 (l0.length : Int) (wrap64 (x11_1 + 1))) else (none)) else (none)) = some r := by first | (rw [hji6] at H; exact H) | (simp only [hji6] at H ⊢; exact H)
              (try rw [hji6] at c5b0)
              have hji6w : (IntKind.i64.wrap (x3_1 + ((rd_L3 l0 x11_1).length : Int))) = ji6 := (i64_w _).trans hji6
              by_cases c7 : 0 ≤ (ji6)
              · rw [if_pos c7] at H
                have c7b0 : decide (0 ≤ (ji6)) = true := decide_eq_true c7
                clear c7
                by_cases c8 : (ji6) < ((rd_L3 l0 x11_1).length : Int)
                · rw [if_pos c8] at H
                  have c8b0 : decide ((ji6) < ((rd_L3 l0 x11_1).length : Int)) = true := decide_eq_true c8
                  clear c8
                  have H' := Aside0.mk H
                  clear H
                  have p149 : 0 ≤ (x11_1 : Int) := of_decide_eq_true (by first | (with_reducible assumption) | assumption)
                  have q149 : x11_1 < (l0.length : Int) := of_decide_eq_true (by first | (with_reducible assumption) | assumption)
                  obtain ⟨ad149, A149_0, c149_0, e149, hx149_0, hl149_0, hi149_0⟩ := at_L3 HR0.out x11_1 p149 q149
                  cases e149
                  replace hx149_0 := (HB.out.cell (World.block_lt_of_cell? w _ hx149_0)).trans hx149_0
                  have HR149_0 := Aside0.mk hi149_0
                  have HC149_0 := Aside0.mk hl149_0
                  clear hi149_0 hl149_0
                  replace p149 := eq_true p149
                  replace q149 := eq_true q149
                  have p150 : 0 ≤ ((ji6) : Int) := of_decide_eq_true (by first | (with_reducible assumption) | assumption)
                  have q150 : (ji6) < ((rd_L3 l0 x11_1).length : Int) := of_decide_eq_true (by first | (with_reducible assumption) | assumption)
                  obtain ⟨ad150, e150, hx150_0⟩ := Kd.at_int HR149_0.out (ji6) p150 q150
                  cases e150
                  replace hx150_0 := (HB.out.cell (World.block_lt_of_cell? w _ hx150_0)).trans hx150_0
                  replace p150 := eq_true p150
                  replace q150 := eq_true q150
                  exact absurd (show ji6 < 0 from of_decide_eq_true (by first | (with_reducible assumption) | assumption)) (by have := of_eq_true p150; omega)
                · rw [if_neg c8] at H
                  exact absurd H (by simp)
              · rw [if_neg c7] at H
                exact absurd H (by simp)
            · rw [if_neg c5] at H
              have c5b0 : decide ((wrap64 (x3_1 + ((rd_L3 l0 x11_1).length : Int))) < 0) = false := decide_eq_false c5
              clear c5
              have H' := Aside0.mk H
              clear H
              have p149 : 0 ≤ (x11_1 : Int) := of_decide_eq_true (by first | (with_reducible assumption) | assumption)
              have q149 : x11_1 < (l0.length : Int) := of_decide_eq_true (by first | (with_reducible assumption) | assumption)
              obtain ⟨ad149, A149_0, c149_0, e149, hx149_0, hl149_0, hi149_0⟩ := at_L3 HR0.out x11_1 p149 q149
              cases e149
              replace hx149_0 := (HB.out.cell (World.block_lt_of_cell? w _ hx149_0)).trans hx149_0
              have HR149_0 := Aside0.mk hi149_0
              have HC149_0 := Aside0.mk hl149_0
              clear hi149_0 hl149_0
              replace p149 := eq_true p149
              replace q149 := eq_true q149
              go_wp2
              go_roundg k1
              case measure => have := HK1.out; omega
              case rel => exact ⟨(wrap64 (x3_1 + ((rd_L3 l0 x11_1).length : Int))), (wrap64 (x11_1 + 1)), (by first | rfl | (simp; done) | (simp [*]; done)), (by first | rfl | (simp; done) | (simp [*]; done)), H', ⟨by have := HK1.out; omega⟩, ⟨by repeat (first | (with_reducible first | exact HB.out | apply below_alloc | apply pw_below_drewN | apply below_drew1) | exact HB.out)⟩⟩
          · rw [if_neg c4] at H
            exact absurd H (by simp)
        · rw [if_neg c3] at H
          exact absurd H (by simp)
      · rw [if_neg c2] at H
        have c2b0 : decide (x11_1 < (l0.length : Int)) = false := decide_eq_false c2
        clear c2
        replace H := Option.bind_eq_some_iff.mp H
        obtain ⟨t151, A90, H⟩ := H
        replace H : (slices_Concat_int_int.l1 k1 t151 l0 (l0.length : Int) 0) = some r := H
        have A9 := Aside0.mk A90
        clear A90
        have H' := Aside0.mk H
        clear H
        go_wp2_with (first | ((with_reducible refine gate_callee (f := 84) rfl ?_); refine goesL_ (some 24) rfl rfl Try.func84 (by kernel_rfl) rfl #[.slice none 0 0, .int .i64 x3_1] rfl (by (try simp only [List.map_toArray, List.map_cons, List.map_nil]); first | done | rfl | (simp only [List.length_drop, List.length_take]; rfl) | (simp only [List.length_drop, List.length_take]; rw [Nat.min_eq_left (by have z_ := of_eq_true q150; omega)]) | (simp only [List.length_drop, List.length_take]; rw [Nat.min_eq_left (by have z_ := of_eq_true q149; omega)])) ?_; (refine (slices_Grow_int_int.calls _ _ ([] : List Int) x3_1 t151 _ ⟨rfl, rfl⟩ ?side1 ?side2 A9.out).mono ?_); (case side1 => exact Kd.C_nil _ _); (case side2 => exact Nat.le_refl _); rintro e w10 ⟨v152, rfl, ho0, hb⟩; refine ⟨_, rfl, ?_⟩; have n0_ := Aside0.mk (Kd.R_lower ho0 (below_size (by repeat (first | (with_reducible first | exact HB.out | apply below_alloc | apply pw_below_drewN | apply below_drew1) | exact HB.out)))); have n1_ := Aside0.mk (below_step (by repeat (first | (with_reducible first | exact HB.out | apply below_alloc | apply pw_below_drewN | apply below_drew1) | exact HB.out)) hb); clear HB; have HO153 := n0_; have HB := n1_; clear n0_ n1_; (try clear hb); (try clear hb2); (try clear hk); (try clear hi); (try clear ho0)))
        go_loopg [6, 27] k1 (fun kq v6 v27 w' => ∃ (x6_2 : List Int) (x27_2 : Int), v27 = .int .i64 x27_2 ∧ Aside0 (slices_Concat_int_int.l1 kq x6_2 l0 (l0.length : Int) x27_2 = some r) ∧ Aside0 (kq ≤ k1) ∧ Aside0 (Kd.R (Kd.int .i64) 3 w' w.heap.size (fun _ => True) v6 x6_2) ∧ Aside0 (Below w.heap.size w w'))
        case atStart => exact ⟨(t151), (0), (by first | rfl | (simp; done) | (simp [*]; done)), H', ⟨Nat.le_refl _⟩, ⟨by (with_reducible repeat (first | apply Kd.R_alloc | apply Kd.R_drewN | apply Kd.R_drew)); exact HO153.out⟩, ⟨by repeat (first | (with_reducible first | exact HB.out | apply below_alloc | apply pw_below_drewN | apply below_drew1) | exact HB.out)⟩⟩
        case round =>
          clear H'
          try clear c1
          try clear p1
          try clear q1
          try clear hx1
          try clear c2
          try clear c2b0
          try clear p2
          try clear c3
          try clear c3b0
          try clear c4
          try clear c4b0
          try clear c5
          try clear c5b0
          try clear p6
          try clear c7
          try clear c7b0
          try clear c8
          try clear c8b0
          try clear hx149_0
          try clear hx150_0
          try clear p149
          try clear p150
          try clear q149
          try clear q150
          obtain ⟨x6_2, x27_2, rfl, HA, HK2, HO_6, HB⟩ := hrel
          cases gk with
          | zero => exact absurd HA.out (by simp [slices_Concat_int_int.l1])
          | succ k2 =>
            have H := HA.out
            clear HA
            simp only [slices_Concat_int_int.l1] at H
            by_cases c11 : x27_2 < (l0.length : Int)
            · rw [if_pos c11] at H
              have c11b0 : decide (x27_2 < (l0.length : Int)) = true := decide_eq_true c11
              clear c11
              by_cases c12 : 0 ≤ x27_2
              · rw [if_pos c12] at H
                have c12b0 : decide (0 ≤ x27_2) = true := decide_eq_true c12
                clear c12
                by_cases c13 : x27_2 < (l0.length : Int)
                · rw [if_pos c13] at H
                  have c13b0 : decide (x27_2 < (l0.length : Int)) = true := decide_eq_true c13
                  clear c13
                  by_cases c14 : x6_2.length + (rd_L3 l0 x27_2).length < 17592186044416
                  · rw [if_pos c14] at H
                    have LMc14 := Aside0.mk c14
                    clear c14
                    obtain ⟨y155, hy155⟩ : ∃ y_ : List Int, y_ = (x6_2 ++ (rd_L3 l0 x27_2)) := ⟨_, rfl⟩
                    replace H : (slices_Concat_int_int.l1 k2 y155 l0 (l0.length : Int) (wrap64 (x27_2 + 1))) = some r := by first | (rw [hy155]; with_reducible exact H) | (have H2_ := (Option.bind_some _ _).symm.trans H; rw [hy155]; with_reducible exact H2_) | (have H2_ := (Option.bind_some _ _).symm.trans H; with_reducible exact H2_) | with_reducible exact H | (rw [hy155]; exact H) | exact H
                    have Ny155 := Aside0.mk hy155
                    clear hy155
                    have H' := Aside0.mk H
                    clear H
                    have p154 : 0 ≤ (x27_2 : Int) := of_decide_eq_true (by first | (with_reducible assumption) | assumption)
                    have q154 : x27_2 < (l0.length : Int) := of_decide_eq_true (by first | (with_reducible assumption) | assumption)
                    obtain ⟨ad154, A154_0, c154_0, e154, hx154_0, hl154_0, hi154_0⟩ := at_L3 HR0.out x27_2 p154 q154
                    cases e154
                    replace hx154_0 := (HB.out.cell (World.block_lt_of_cell? w _ hx154_0)).trans hx154_0
                    have HR154_0 := Aside0.mk hi154_0
                    have HC154_0 := Aside0.mk hl154_0
                    clear hi154_0 hl154_0
                    replace p154 := eq_true p154
                    replace q154 := eq_true q154
                    go_wp2_with (first | ((with_reducible refine gate_builtin (b := .append) (xs := #[.tmp 31, .tmp 32]) rfl ?_); at_builtin; refine Kd.R_append_rows (Kd.int .i64) (w0 := w) w.heap.size rfl (.tmp 31) (.tmp 32) 36 3 (.int .i64 0) 8 rfl Try.underlying36 info3 rfl (by decide) (by omega) u6 x6_2 (rd_L3 l0 x27_2) _ _ _ (fun _ => True) (fun _ => False) rfl rfl ?aO ?aR (fun _ _ h => h) (fun _ h => h.elim) ?aF ?aB ?aS ?aL ?_; (case aR => repeat (first | exact (Kd.C_below HR154_0.out HB.out) | (with_reducible refine Kd.C_alloc ?_ _) | (with_reducible refine Kd.C_drewN ?_ _) | (with_reducible refine Kd.C_drew ?_))); (case aB => exact (by repeat (first | (with_reducible first | exact HB.out | apply below_alloc | apply pw_below_drewN | apply below_drew1) | exact HB.out))); (case aF => exact (fun _ _ => trivial)); (case aO => exact (by (with_reducible repeat (first | apply Kd.R_alloc | apply Kd.R_drewN | apply Kd.R_drew)); exact HO_6.out)); (case aS => exact (below_size (by repeat (first | (with_reducible first | exact HB.out | apply below_alloc | apply pw_below_drewN | apply below_drew1) | exact HB.out)))); (case aL => have := LMc14.out; omega); intro v156 w15 ho hb hg hat; rw [← Ny155.out] at ho; have n0_ := Aside0.mk (hb); have n1_ := Aside0.mk (ho); clear HB; clear HO_6; have HB := n0_; have HO157 := n1_; clear n0_ n1_; clear ho hb hg hat))
                    go_roundg k2
                    case measure => have := HK1.out; have := HK2.out; omega
                    case rel => exact ⟨(y155), (wrap64 (x27_2 + 1)), (by first | rfl | (simp; done) | (simp [*]; done)), H', ⟨by have := HK1.out; have := HK2.out; omega⟩, ⟨by (with_reducible repeat (first | apply Kd.R_alloc | apply Kd.R_drewN | apply Kd.R_drew)); exact HO157.out⟩, ⟨by repeat (first | (with_reducible first | exact HB.out | apply below_alloc | apply pw_below_drewN | apply below_drew1) | exact HB.out)⟩⟩
                  · rw [if_neg c14] at H
                    exact absurd H (by simp)
                · rw [if_neg c13] at H
                  exact absurd H (by simp)
              · rw [if_neg c12] at H
                exact absurd H (by simp)
            · rw [if_neg c11] at H
              have c11b0 : decide (x27_2 < (l0.length : Int)) = false := decide_eq_false c11
              clear c11
              obtain rfl := Option.some.inj H
              go_wp2
              go_ret
              exact ⟨_, by first | rfl | (simp [errW_none, errW_some] <;> rfl) | (simp [*, errW_none, errW_some] <;> rfl), by (with_reducible repeat (first | apply Kd.R_alloc | apply Kd.R_drewN | apply Kd.R_drew)); exact HO_6.out, by repeat (first | (with_reducible first | exact HB.out | apply below_alloc | apply pw_below_drewN | apply below_drew1) | exact HB.out)⟩

/-! ### impl_places: function 60 -/
theorem cutCount_bd (s p q : Int) (p1 : -1 ≤ p) (p2 : p ≤ 1000000) (q1 : -1 ≤ q) (q2 : q ≤ 1000000) (s0 : s ≠ 0) : 0 ≤ cutCount s p q ∧ cutCount s p q ≤ 1000001 := by
  unfold cutCount
  by_cases hs : 0 < s
  · rw [if_pos hs]
    by_cases h : p < q
    · rw [if_pos h]; have := cut_div_le (q - p - 1) s (by omega) hs; omega
    · rw [if_neg h]; omega
  · rw [if_neg hs]
    by_cases h : q < p
    · rw [if_pos h]; have := cut_div_le (p - q - 1) (-s) (by omega) (by omega); omega
    · rw [if_neg h]; omega
theorem cutRange_bd {n f t s : Int} {hf ht : Bool} {p m : Int} (h : impl_CutRange.f n f t s hf ht = some (p, m)) : 0 ≤ m ∧ m ≤ 1000001 := by
  unfold impl_CutRange.f at h
  rw [within_some, cutOk_some] at h
  simp only [Option.bind_some] at h
  by_cases h1 : 0 ≤ n ∧ n ≤ 1000000
  · rw [if_pos (decide_eq_true h1)] at h
    by_cases h2 : -1000000 ≤ f ∧ f ≤ 1000000 ∧ -1000000 ≤ t ∧ t ≤ 1000000 ∧ -1000000 ≤ s ∧ s ≤ 1000000 ∧ s ≠ 0 ∧ (hf = true ∨ f = 0) ∧ (ht = true ∨ t = 0)
    · rw [if_pos (decide_eq_true h2)] at h
      have P := cutP_bd (n := n) (f := f) (s := s) hf h1.1
      have Q := cutQ_bd (n := n) (t := t) (s := s) ht h1.1
      have l1 : -1 ≤ cutLo s := by unfold cutLo; split <;> omega
      have l2 : cutHi n s ≤ 1000000 := by unfold cutHi; split <;> omega
      have e := congrArg Prod.snd (Option.some.inj h)
      rw [← show _ = m from e]
      exact cutCount_bd s _ _ (by omega) (by omega) (by omega) (by omega) h2.2.2.2.2.2.2.1
    · rw [if_neg (by simpa using h2)] at h
      obtain ⟨rfl, rfl⟩ := Prod.mk.inj (Option.some.inj h)
      omega
  · rw [if_neg (by simpa using h1)] at h
    obtain ⟨rfl, rfl⟩ := Prod.mk.inj (Option.some.inj h)
    omega
/-- The places from one on, so many, a step apart. -/
def placesW (s : Int) : Int → Nat → List Int
  | _, 0 => []
  | p, k + 1 => p :: placesW s (wrap64 (p + s)) k
theorem placesW_length (s : Int) : ∀ (k : Nat) (p : Int), (placesW s p k).length = k
  | 0, _ => rfl
  | k + 1, p => by simp [placesW, placesW_length s k]
def impl_places.f (a0 : Int) (a1_0 : Int) (a1_1 : Int) (a1_2 : Int) (a1_3 : Bool) (a1_4 : Bool) : Option (List Int) := (impl_CutRange.f a0 a1_0 a1_1 a1_2 a1_3 a1_4).bind fun r => some (placesW a1_2 r.1 r.2.toNat)
theorem run_make_cap {P : Program} (t e : TypeId) (i : TypeInfo) (z : Value) (ht : P.underlying t = some (.slice e)) (hi : P.info? e = some i) (hz : i.zero = some z)
    (kl kc : IntKind) (c : Nat) (hbytes : i.bytes * c ≤ 281474976710656) (h63 : c ≤ 9223372036854775807) (w : World) :
    (Instr.makeSlice t (.int kl 0) (.int kc (c : Int))).run P w = .ok (.slice (some ⟨w.heap.size, 0, none⟩) 0 c) (w.alloc (.cells (madeCells z.cells (c * i.size)) e)) := by
  have hb : (i.bytes : Int) * (c : Int) ≤ 281474976710656 := by
    have h : ((i.bytes * c : Nat) : Int) ≤ 281474976710656 := by omega
    rwa [Int.natCast_mul] at h
  have hr := run_make (P := P) w t e i z ht hi hz kl kc (0 : Nat) c (by omega) (by omega) hb (by omega)
  simp only [Int.toNat_natCast] at hr
  exact hr
theorem own_cap (w : World) (base : Nat) (e : TypeId) (z : Value) (c : Nat) (hc : c ≤ maxLen) (hb : base ≤ w.heap.size) :
    (w.alloc (.cells (madeCells #[z] c) e)).ownsRow base e 1 (.slice (some ⟨w.heap.size, 0, none⟩) 0 c) 0 [] :=
  ⟨rfl, .inr ⟨w.heap.size, c, _, rfl, hb, heap_alloc_new w _, by omega, hc, by rw [size_madeCells]; omega, rfl⟩⟩
set_option maxHeartbeats 8000000 in
set_option maxRecDepth 100000 in
theorem impl_places.calls (a0 : Int) (a1_0 : Int) (a1_1 : Int) (a1_2 : Int) (a1_3 : Bool) (a1_4 : Bool) (r : List Int) (w : World) (h : impl_places.f a0 a1_0 a1_1 a1_2 a1_3 a1_4 = some r) :
    Calls Try.prog 60 #[.int .i64 a0, .agg #[.int .i64 a1_0, .int .i64 a1_1, .int .i64 a1_2, .bool a1_3, .bool a1_4]] w fun e w' => ∃ v0_ : Value, e = .returned (v0_) ∧ Kd.R (Kd.int .i64) 3 w' w.heap.size (fun _ => True) v0_ r ∧ Below w.heap.size w w' := by
  unfold impl_places.f at h
  obtain ⟨⟨p, m⟩, A1, h⟩ := Option.bind_eq_some_iff.mp h
  obtain ⟨m0, m1⟩ := cutRange_bd A1
  obtain ⟨m, rfl⟩ := Int.eq_ofNat_of_zero_le m0
  have hr := Option.some.inj h
  simp only [Int.toNat_natCast] at hr
  have HR := Aside0.mk hr
  clear h hr m0
  have A1 := Aside0.mk A1
  have hu24 := Try.underlying42
  obtain ⟨i0, hi, hz0, hz1, hz2⟩ := info_parts info3
  have hmk : ∀ W : World, (Instr.makeSlice 36 (.int .i64 0) (.int .i64 (m : Int))).run Try.prog W = .ok (.slice (some ⟨W.heap.size, 0, none⟩) 0 m) (W.alloc (.cells (madeCells #[.int .i64 0] m) 3)) := fun W => by
    have := run_make_cap (P := Try.prog) 36 3 i0 (.int .i64 0) Try.underlying36 hi hz0 .i64 .i64 m (by rw [hz2]; omega) (by omega) W
    rw [hz1, Nat.mul_one] at this
    exact this
  go_enter Try.func60, Try.ntmps60
  go_wp2_with (first
    | ((with_reducible refine gate_dst (N := 3) rfl ?_); refine box_event ?hg (N := 3) ?hd (cs := #[.int .i64 a1_0, .int .i64 a1_1, .int .i64 a1_2, .bool a1_3, .bool a1_4]) (t := 42) ?hr ?_; (case hd => rfl); (case hg => rfl); (case hr => first | (go_simp; done) | (go_simp; rfl)); intro gc hgc w1 hbc hb1; have BC := Aside0.mk hbc; have B1 := Aside0.mk hb1; have GC := Aside0.mk (Nat.le_of_eq hgc.symm); clear hgc hbc hb1; have hc1_0 : w1.cell? ⟨gc, 0, none⟩ = some (.int .i64 a1_0) := (blk_cell BC.out 0).trans rfl; have hc1_1 : w1.cell? ⟨gc, 1, none⟩ = some (.int .i64 a1_1) := (blk_cell BC.out 1).trans rfl; have hc1_2 : w1.cell? ⟨gc, 2, none⟩ = some (.int .i64 a1_2) := (blk_cell BC.out 2).trans rfl; have hc1_3 : w1.cell? ⟨gc, 3, none⟩ = some (.bool a1_3) := (blk_cell BC.out 3).trans rfl; have hc1_4 : w1.cell? ⟨gc, 4, none⟩ = some (.bool a1_4) := (blk_cell BC.out 4).trans rfl)
    | (go_at_call 58; (with_reducible refine (impl_CutRange.calls a0 a1_0 a1_1 a1_2 a1_3 a1_4 p (m : Int) _ A1.out).mono ?_); rintro e w2 ⟨rfl, hb2⟩; have BC2 := Aside0.mk (blk_below BC.out hb2); have B2 := Aside0.mk (below_step B1.out hb2); clear hb2))
  have HO := Aside0.mk (Kd.R_of_own (enc := Value.int .i64) (h1 := fun _ => rfl) (own_cap w2 w.heap.size 3 (.int .i64 0) m (by unfold maxLen; omega) (below_size B2.out)) (xs := []) (ok := fun _ => True) (fun _ _ => trivial))
  have BC3 := Aside0.mk (blk_alloc BC2.out (.cells (madeCells #[.int .i64 0] m) 3))
  have B3 := Aside0.mk (below_alloc B2.out (.cells (madeCells #[.int .i64 0] m) 3))
  go_loopw [5, 7, 17] (fun v5 v7 v17 wr => ∃ (k : Nat) (cur : Int) (acc : List Int), k ≤ m ∧ v5 = .int .i64 cur ∧ v17 = .int .i64 (k : Int) ∧ Aside0 (acc ++ placesW a1_2 cur (m - k) = r) ∧ Aside0 (acc.length = k) ∧ Aside0 (Kd.R (Kd.int .i64) 3 wr w.heap.size (fun _ => True) v7 acc) ∧ Aside0 (wr.heap[gc]? = some (.cells #[.int .i64 a1_0, .int .i64 a1_1, .int .i64 a1_2, .bool a1_3, .bool a1_4] 42 (0, 0))) ∧ Aside0 (Below w.heap.size w wr)) (fun _ _ v17 _ => m - (intOf v17).toNat)
  case atStart => exact ⟨0, p, [], Nat.zero_le _, rfl, rfl, ⟨by simpa using HR.out⟩, ⟨rfl⟩, HO, BC3, B3⟩
  case round =>
    clear hmk hc1_0 hc1_1 hc1_2 hc1_3 hc1_4 BC BC2 BC3 B1 B2 B3 HO HR
    obtain ⟨k, cur, acc, hk, rfl, rfl, HE, HL, HO, BC, HB⟩ := hrel
    have hc_2 : wr.cell? ⟨gc, 2, none⟩ = some (.int .i64 a1_2) := (blk_cell BC.out 2).trans rfl
    by_cases hlt : k < m
    · have hlt' : decide ((k : Int) < (m : Int)) = true := decide_eq_true (by omega)
      go_wp2_with ((with_reducible refine gate_builtin (b := .append) (xs := #[.tmp 19, .tmp 21]) rfl ?_); at_builtin; refine Kd.R_append (Kd.int .i64) (w0 := w) w.heap.size rfl (.tmp 19) (.tmp 21) 36 3 (.int .i64 0) 8 rfl Try.underlying36 info3 rfl (by decide) (by omega) _ acc cur [.int .i64 cur] (fun _ => True) (fun _ => False) rfl rfl ?aP (fun _ hk => hk.elim) ?aF ?aO ?aB ?aS ?aL ?_; (case aP => exact rfl); (case aB => exact HB.out); (case aF => exact (fun _ _ => trivial)); (case aO => exact HO.out); (case aS => exact (below_size HB.out)); (case aL => have := HL.out; omega); intro v1 wa ho hb hg hat; have BC2 := Aside0.mk (blk_grown BC.out hg (Kd.R_ne HO.out BC.out (by decide))); have HO2 := Aside0.mk ho; have HB2 := Aside0.mk hb; clear ho hb hg hat; have hd_2 : wa.cell? ⟨gc, 2, none⟩ = some (.int .i64 a1_2) := (blk_cell BC2.out 2).trans rfl)
      go_roundw
      case rel =>
        refine ⟨k + 1, wrap64 (cur + a1_2), acc ++ [cur], by omega, rfl, by go_num, ⟨?_⟩, ⟨by rw [List.length_append, HL.out]; rfl⟩, HO2, BC2, HB2⟩
        rw [← HE.out, show m - k = (m - (k + 1)) + 1 by omega, placesW, List.append_assoc]; rfl
      case measure => simp [intOf]; omega
    · have hlt' : decide ((k : Int) < (m : Int)) = false := decide_eq_false (by omega)
      have hkm : k = m := by omega
      have HF : Aside0 (acc = r) := ⟨by have := HE.out; rw [hkm, Nat.sub_self] at this; simpa [placesW] using this⟩
      go_wp2
      go_ret
      rw [← HF.out]
      exact ⟨_, rfl, HO.out, HB.out⟩

end Go.Proofs.Ytkhkbbhkhpekcaa.XFnExactListPutCut
