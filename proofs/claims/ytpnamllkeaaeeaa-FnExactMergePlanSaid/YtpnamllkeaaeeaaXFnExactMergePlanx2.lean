/- The functions that FnExactMergePlan uses, as functions of Lean, and that the Go code comes to their answers. Written by a program of this session. -/
import Derived.Test.YtpnamllkeaaeeaaXFnExactMergePlanx0
namespace Go.Proofs.Ytpnamllkeaaeeaa.XFnExactMergePlan
open Go.RowKit Go.Proofs.YtpnamllkeaaeeaaW.PrintWords Go.Proofs.YtpnamllkeaaeeaaW.PrintLast Go.Proofs.YtpnamllkeaaeeaaW.PrintMore
attribute [local go_sem] max2_int min2_int max_two min_two max_three min_three max_four min_four   -- for this text's walks alone
set_option linter.unusedVariables false
set_option linter.unusedSimpArgs false

/-! ### spec_mergeAt: function 84 -/
set_option maxRecDepth 100000 in
mutual
def spec_mergeAt.j0 : Nat → List Int → Bool → Int → Bool → Option (Int)
  | 0, _, _, _, _ => none
  | k + 1, x0, x1, x5, x6 => if x6 = true then (if 0 ≤ (wrap64 (x5 - 1)) then (if (wrap64 (x5 - 1)) < (x0.length : Int) then (if 0 ≤ (wrap64 (x5 + 1)) then (if (wrap64 (x5 + 1)) < (x0.length : Int) then (spec_mergeAt.j1 k x0 x1 x5 x6 (decide ((rd x0 (wrap64 (x5 - 1))) < (rd x0 (wrap64 (x5 + 1)))))) else (none)) else (none)) else (none)) else (none)) else (if x1 = true then (if x5 > 0 then (if 0 ≤ (wrap64 (x5 - 1)) then (if (wrap64 (x5 - 1)) < (x0.length : Int) then (if 0 ≤ (wrap64 (x5 + 1)) then (if (wrap64 (x5 + 1)) < (x0.length : Int) then (spec_mergeAt.j1 k x0 x1 x5 x6 (decide ((rd x0 (wrap64 (x5 - 1))) < (rd x0 (wrap64 (x5 + 1)))))) else (none)) else (none)) else (none)) else (none)) else (spec_mergeAt.j1 k x0 x1 x5 x6 false)) else (spec_mergeAt.j1 k x0 x1 x5 x6 false))
def spec_mergeAt.j1 : Nat → List Int → Bool → Int → Bool → Bool → Option (Int)
  | 0, _, _, _, _, _ => none
  | k + 1, x0, x1, x5, x6, x54 => if x54 = true then (some (wrap64 (x5 - 1))) else (if x6 = true then (some x5) else (if x1 = true then (some x5) else (if 0 ≤ x5 then (if x5 < (x0.length : Int) then (if 0 ≤ (wrap64 (x5 + 1)) then (if (wrap64 (x5 + 1)) < (x0.length : Int) then (if (rd x0 x5) ≤ (rd x0 (wrap64 (x5 + 1))) then (some x5) else (some (-1))) else (none)) else (none)) else (none)) else (none))))
end
def spec_mergeAt.f (k : Nat) (l0 : List Int) (a1 : Bool) : Option (Int) := if (wrap64 ((l0.length : Int) - 2)) < 0 then (some (-1)) else (if (wrap64 ((l0.length : Int) - 2)) > 0 then (if 0 ≤ (wrap64 ((wrap64 ((l0.length : Int) - 2)) - 1)) then (if (wrap64 ((wrap64 ((l0.length : Int) - 2)) - 1)) < (l0.length : Int) then (if 0 ≤ (wrap64 ((l0.length : Int) - 2)) then (if (wrap64 ((l0.length : Int) - 2)) < (l0.length : Int) then (if 0 ≤ (wrap64 ((wrap64 ((l0.length : Int) - 2)) + 1)) then (if (wrap64 ((wrap64 ((l0.length : Int) - 2)) + 1)) < (l0.length : Int) then (if (rd l0 (wrap64 ((wrap64 ((l0.length : Int) - 2)) - 1))) ≤ (wrap64 ((rd l0 (wrap64 ((l0.length : Int) - 2))) + (rd l0 (wrap64 ((wrap64 ((l0.length : Int) - 2)) + 1))))) then (spec_mergeAt.j0 k l0 a1 (wrap64 ((l0.length : Int) - 2)) true) else (if (wrap64 ((l0.length : Int) - 2)) > 1 then (if 0 ≤ (wrap64 ((wrap64 ((l0.length : Int) - 2)) - 2)) then (if (wrap64 ((wrap64 ((l0.length : Int) - 2)) - 2)) < (l0.length : Int) then (spec_mergeAt.j0 k l0 a1 (wrap64 ((l0.length : Int) - 2)) (decide ((rd l0 (wrap64 ((wrap64 ((l0.length : Int) - 2)) - 2))) ≤ (wrap64 ((rd l0 (wrap64 ((wrap64 ((l0.length : Int) - 2)) - 1))) + (rd l0 (wrap64 ((l0.length : Int) - 2)))))))) else (none)) else (none)) else (spec_mergeAt.j0 k l0 a1 (wrap64 ((l0.length : Int) - 2)) false))) else (none)) else (none)) else (none)) else (none)) else (none)) else (none)) else (if (wrap64 ((l0.length : Int) - 2)) > 1 then (if 0 ≤ (wrap64 ((wrap64 ((l0.length : Int) - 2)) - 2)) then (if (wrap64 ((wrap64 ((l0.length : Int) - 2)) - 2)) < (l0.length : Int) then (if 0 ≤ (wrap64 ((wrap64 ((l0.length : Int) - 2)) - 1)) then (if (wrap64 ((wrap64 ((l0.length : Int) - 2)) - 1)) < (l0.length : Int) then (if 0 ≤ (wrap64 ((l0.length : Int) - 2)) then (if (wrap64 ((l0.length : Int) - 2)) < (l0.length : Int) then (spec_mergeAt.j0 k l0 a1 (wrap64 ((l0.length : Int) - 2)) (decide ((rd l0 (wrap64 ((wrap64 ((l0.length : Int) - 2)) - 2))) ≤ (wrap64 ((rd l0 (wrap64 ((wrap64 ((l0.length : Int) - 2)) - 1))) + (rd l0 (wrap64 ((l0.length : Int) - 2)))))))) else (none)) else (none)) else (none)) else (none)) else (none)) else (none)) else (spec_mergeAt.j0 k l0 a1 (wrap64 ((l0.length : Int) - 2)) false)))
set_option maxRecDepth 100000 in
theorem spec_mergeAt.mono_l : ∀ k, (∀ y0 y1 y2 y3, LeO (spec_mergeAt.j0 k y0 y1 y2 y3) (spec_mergeAt.j0 (k + 1) y0 y1 y2 y3)) ∧ (∀ y0 y1 y2 y3 y4, LeO (spec_mergeAt.j1 k y0 y1 y2 y3 y4) (spec_mergeAt.j1 (k + 1) y0 y1 y2 y3 y4))
  | 0 => ⟨fun _ _ _ _ r h => by simp [spec_mergeAt.j0] at h, fun _ _ _ _ _ r h => by simp [spec_mergeAt.j1] at h⟩
  | k + 1 => by
    obtain ⟨ih0, ih1⟩ := spec_mergeAt.mono_l k
    refine ⟨?_, ?_⟩
    · intro y0 y1 y2 y3
      unfold spec_mergeAt.j0
      repeat' first
      | (with_reducible exact ih0 _ _ _ _)
      | (with_reducible exact ih1 _ _ _ _ _)
      | (with_reducible exact LeO.refl _)
      | (with_reducible exact LeO.none _)
      | (with_reducible refine LeO.ite ?_ ?_)
      | (with_reducible refine LeO.bind ?_ (fun _ => ?_))
      | exact ih0 _ _ _ _
      | exact ih1 _ _ _ _ _
      | exact LeO.none _
      | refine LeO.ite ?_ ?_
      | refine LeO.bind ?_ (fun _ => ?_)
    · intro y0 y1 y2 y3 y4
      unfold spec_mergeAt.j1
      repeat' first
      | (with_reducible exact ih0 _ _ _ _)
      | (with_reducible exact ih1 _ _ _ _ _)
      | (with_reducible exact LeO.refl _)
      | (with_reducible exact LeO.none _)
      | (with_reducible refine LeO.ite ?_ ?_)
      | (with_reducible refine LeO.bind ?_ (fun _ => ?_))
      | exact ih0 _ _ _ _
      | exact ih1 _ _ _ _ _
      | exact LeO.none _
      | refine LeO.ite ?_ ?_
      | refine LeO.bind ?_ (fun _ => ?_)
set_option maxRecDepth 100000 in
theorem spec_mergeAt.mono : ∀ a0 a1 k, LeO (spec_mergeAt.f k a0 a1) (spec_mergeAt.f (k + 1) a0 a1) := by
  intro a0 a1 k
  obtain ⟨ih0, ih1⟩ := spec_mergeAt.mono_l k
  unfold spec_mergeAt.f
  repeat' first
      | (with_reducible exact ih0 _ _ _ _)
      | (with_reducible exact ih1 _ _ _ _ _)
      | (with_reducible exact LeO.refl _)
      | (with_reducible exact LeO.none _)
      | (with_reducible refine LeO.ite ?_ ?_)
      | (with_reducible refine LeO.bind ?_ (fun _ => ?_))
      | exact ih0 _ _ _ _
      | exact ih1 _ _ _ _ _
      | exact LeO.none _
      | refine LeO.ite ?_ ?_
      | refine LeO.bind ?_ (fun _ => ?_)
set_option maxHeartbeats 8000000 in
set_option maxRecDepth 100000 in
theorem spec_mergeAt.calls (k : Nat) (A0 : Option Addr) (c0 : Nat) (l0 : List Int) (a1 : Bool) (r : Int) (w : World) (hr0 : Kd.C (Kd.int .i64) w A0 l0.length l0) (hc0 : l0.length ≤ c0) (h : spec_mergeAt.f k l0 a1 = some r) :
    Calls Try.prog 84 #[.slice A0 l0.length c0, .bool a1] w fun e w' => e = .returned (.int .i64 r) ∧ Drawn0 w w' := by
  have HR0 := Aside0.mk hr0
  have HC0 := Aside0.mk hc0
  clear hr0 hc0
  have H : (if (wrap64 ((l0.length : Int) - 2)) < 0 then (some (-1)) else (if (wrap64 ((l0.length : Int) - 2)) > 0 then (if 0 ≤ (wrap64 ((wrap64 ((l0.length : Int) - 2)) - 1)) then (if (wrap64 ((wrap64 ((l0.length : Int) - 2)) - 1)) < (l0.length : Int) then (if 0 ≤ (wrap64 ((l0.length : Int) - 2)) then (if (wrap64 ((l0.length : Int) - 2)) < (l0.length : Int) then (if 0 ≤ (wrap64 ((wrap64 ((l0.length : Int) - 2)) + 1)) then (if (wrap64 ((wrap64 ((l0.length : Int) - 2)) + 1)) < (l0.length : Int) then (if (rd l0 (wrap64 ((wrap64 ((l0.length : Int) - 2)) - 1))) ≤ (wrap64 ((rd l0 (wrap64 ((l0.length : Int) - 2))) + (rd l0 (wrap64 ((wrap64 ((l0.length : Int) - 2)) + 1))))) then (spec_mergeAt.j0 k l0 a1 (wrap64 ((l0.length : Int) - 2)) true) else (if (wrap64 ((l0.length : Int) - 2)) > 1 then (if 0 ≤ (wrap64 ((wrap64 ((l0.length : Int) - 2)) - 2)) then (if (wrap64 ((wrap64 ((l0.length : Int) - 2)) - 2)) < (l0.length : Int) then (spec_mergeAt.j0 k l0 a1 (wrap64 ((l0.length : Int) - 2)) (decide ((rd l0 (wrap64 ((wrap64 ((l0.length : Int) - 2)) - 2))) ≤ (wrap64 ((rd l0 (wrap64 ((wrap64 ((l0.length : Int) - 2)) - 1))) + (rd l0 (wrap64 ((l0.length : Int) - 2)))))))) else (none)) else (none)) else (spec_mergeAt.j0 k l0 a1 (wrap64 ((l0.length : Int) - 2)) false))) else (none)) else (none)) else (none)) else (none)) else (none)) else (none)) else (if (wrap64 ((l0.length : Int) - 2)) > 1 then (if 0 ≤ (wrap64 ((wrap64 ((l0.length : Int) - 2)) - 2)) then (if (wrap64 ((wrap64 ((l0.length : Int) - 2)) - 2)) < (l0.length : Int) then (if 0 ≤ (wrap64 ((wrap64 ((l0.length : Int) - 2)) - 1)) then (if (wrap64 ((wrap64 ((l0.length : Int) - 2)) - 1)) < (l0.length : Int) then (if 0 ≤ (wrap64 ((l0.length : Int) - 2)) then (if (wrap64 ((l0.length : Int) - 2)) < (l0.length : Int) then (spec_mergeAt.j0 k l0 a1 (wrap64 ((l0.length : Int) - 2)) (decide ((rd l0 (wrap64 ((wrap64 ((l0.length : Int) - 2)) - 2))) ≤ (wrap64 ((rd l0 (wrap64 ((wrap64 ((l0.length : Int) - 2)) - 1))) + (rd l0 (wrap64 ((l0.length : Int) - 2)))))))) else (none)) else (none)) else (none)) else (none)) else (none)) else (none)) else (spec_mergeAt.j0 k l0 a1 (wrap64 ((l0.length : Int) - 2)) false)))) = some r := h
  clear h
  by_cases c3 : (wrap64 ((l0.length : Int) - 2)) < 0
  · rw [if_pos c3] at H
    have c3b0 : decide ((wrap64 ((l0.length : Int) - 2)) < 0) = true := decide_eq_true c3
    clear c3
    obtain rfl := Option.some.inj H
    go_enter Try.func84, Try.ntmps84
    go_wp2
    repeat (go_quiet (fail); try go_wp2)
    go_ret
    exact ⟨by first | rfl | (simp; done) | (simp [*]; done), by repeat (first | exact Drawn0.refl _ | apply Drawn0.step)⟩
  · rw [if_neg c3] at H
    have c3b0 : decide ((wrap64 ((l0.length : Int) - 2)) < 0) = false := decide_eq_false c3
    clear c3
    have HC4 := Aside0.mk H
    clear H
    go_enter Try.func84, Try.ntmps84
    go_upto_region 4 with (fail)
    repeat (go_quiet (fail); go_upto_region 4 with (fail))
    go_cut [6] (fun v6 wc => ∃ (kq : Nat) (x6_3 : Bool), v6 = .bool x6_3 ∧ Aside0 (spec_mergeAt.j0 kq l0 a1 (wrap64 ((l0.length : Int) - 2)) x6_3 = some r) ∧ Aside0 (kq ≤ k) ∧ Drawn0 w wc)
    case first =>
      have H := HC4.out
      clear HC4
      by_cases c5 : (wrap64 ((l0.length : Int) - 2)) > 0
      · rw [if_pos c5] at H
        have c5b0 : decide (0 < (wrap64 ((l0.length : Int) - 2))) = true := decide_eq_true c5
        clear c5
        (first | rw [c5b0] | (simp only [i64_w, i32_w]; rw [c5b0]) | skip)
        obtain ⟨ji6, hji6⟩ : ∃ j_ : Int, (wrap64 ((wrap64 ((l0.length : Int) - 2)) - 1)) = j_ := ⟨_, rfl⟩
        replace H : (if 0 ≤ (ji6) then (if (ji6) < (l0.length : Int) then (if 0 ≤ (wrap64 ((l0.length : Int) - 2)) then (if (wrap64 ((l0.length : Int) - 2)) < (l0.length : Int) then (if 0 ≤ (wrap64 ((wrap64 ((l0.length : Int) - 2)) + 1)) then (if (wrap64 ((wrap64 ((l0.length : Int) - 2)) + 1)) < (l0.length : Int) then (if (rd l0 (ji6)) ≤ (wrap64 ((rd l0 (wrap64 ((l0.length : Int) - 2))) + (rd l0 (wrap64 ((wrap64 ((l0.length : Int) - 2)) + 1))))) then (spec_mergeAt.j0 k l0 a1 (wrap64 ((l0.length : Int) - 2)) true) else (if (wrap64 ((l0.length : Int) - 2)) > 1 then (if 0 ≤ (wrap64 ((wrap64 ((l0.length : Int) - 2)) - 2)) then (if (wrap64 ((wrap64 ((l0.length : Int) - 2)) - 2)) < (l0.length : Int) then (spec_mergeAt.j0 k l0 a1 (wrap64 ((l0.length : Int) - 2)) (decide ((rd l0 (wrap64 ((wrap64 ((l0.length : Int) - 2)) - 2))) ≤ (wrap64 ((rd l0 (ji6)) + (rd l0 (wrap64 ((l0.length : Int) - 2)))))))) else (none)) else (none)) else (spec_mergeAt.j0 k l0 a1 (wrap64 ((l0.length : Int) - 2)) false))) else (none)) else (none)) else (none)) else (none)) else (none)) else (none)) = some r := by first | (rw [hji6] at H; exact H) | (simp only [hji6] at H ⊢; exact H)
        have hji6w : (IntKind.i64.wrap ((wrap64 ((l0.length : Int) - 2)) - 1)) = ji6 := (i64_w _).trans hji6
        by_cases c7 : 0 ≤ (ji6)
        · rw [if_pos c7] at H
          have c7b0 : decide (0 ≤ (ji6)) = true := decide_eq_true c7
          clear c7
          by_cases c8 : (ji6) < (l0.length : Int)
          · rw [if_pos c8] at H
            have c8b0 : decide ((ji6) < (l0.length : Int)) = true := decide_eq_true c8
            clear c8
            obtain ⟨ji9, hji9⟩ : ∃ j_ : Int, (wrap64 ((l0.length : Int) - 2)) = j_ := ⟨_, rfl⟩
            replace H : (if 0 ≤ (ji9) then (if (ji9) < (l0.length : Int) then (if 0 ≤ (wrap64 ((ji9) + 1)) then (if (wrap64 ((ji9) + 1)) < (l0.length : Int) then (if (rd l0 (ji6)) ≤ (wrap64 ((rd l0 (ji9)) + (rd l0 (wrap64 ((ji9) + 1))))) then (spec_mergeAt.j0 k l0 a1 ji9 true) else (if (ji9) > 1 then (if 0 ≤ (wrap64 ((ji9) - 2)) then (if (wrap64 ((ji9) - 2)) < (l0.length : Int) then (spec_mergeAt.j0 k l0 a1 ji9 (decide ((rd l0 (wrap64 ((ji9) - 2))) ≤ (wrap64 ((rd l0 (ji6)) + (rd l0 (ji9))))))) else (none)) else (none)) else (spec_mergeAt.j0 k l0 a1 ji9 false))) else (none)) else (none)) else (none)) else (none)) = some r := by first | (rw [hji9] at H; exact H) | (simp only [hji9] at H ⊢; exact H)
            (try rw [hji9] at c3b0)
            (try rw [hji9] at c5b0)
            have hji9w : (IntKind.i64.wrap ((l0.length : Int) - 2)) = ji9 := (i64_w _).trans hji9
            (try rw [hji9] at hji6)
            (try rw [hji9] at hji6w)
            by_cases c10 : 0 ≤ (ji9)
            · rw [if_pos c10] at H
              have c10b0 : decide (0 ≤ (ji9)) = true := decide_eq_true c10
              clear c10
              by_cases c11 : (ji9) < (l0.length : Int)
              · rw [if_pos c11] at H
                have c11b0 : decide ((ji9) < (l0.length : Int)) = true := decide_eq_true c11
                clear c11
                obtain ⟨ji12, hji12⟩ : ∃ j_ : Int, (wrap64 ((ji9) + 1)) = j_ := ⟨_, rfl⟩
                replace H : (if 0 ≤ (ji12) then (if (ji12) < (l0.length : Int) then (if (rd l0 (ji6)) ≤ (wrap64 ((rd l0 (ji9)) + (rd l0 (ji12)))) then (spec_mergeAt.j0 k l0 a1 ji9 true) else (if (ji9) > 1 then (if 0 ≤ (wrap64 ((ji9) - 2)) then (if (wrap64 ((ji9) - 2)) < (l0.length : Int) then (spec_mergeAt.j0 k l0 a1 ji9 (decide ((rd l0 (wrap64 ((ji9) - 2))) ≤ (wrap64 ((rd l0 (ji6)) + (rd l0 (ji9))))))) else (none)) else (none)) else (spec_mergeAt.j0 k l0 a1 ji9 false))) else (none)) else (none)) = some r := by first | (rw [hji12] at H; exact H) | (simp only [hji12] at H ⊢; exact H)
                have hji12w : (IntKind.i64.wrap ((ji9) + 1)) = ji12 := (i64_w _).trans hji12
                by_cases c13 : 0 ≤ (ji12)
                · rw [if_pos c13] at H
                  have c13b0 : decide (0 ≤ (ji12)) = true := decide_eq_true c13
                  clear c13
                  by_cases c14 : (ji12) < (l0.length : Int)
                  · rw [if_pos c14] at H
                    have c14b0 : decide ((ji12) < (l0.length : Int)) = true := decide_eq_true c14
                    clear c14
                    by_cases c15 : (rd l0 (ji6)) ≤ (wrap64 ((rd l0 (ji9)) + (rd l0 (ji12))))
                    · rw [if_pos c15] at H
                      have c15b0 : decide ((rd l0 (ji6)) ≤ (wrap64 ((rd l0 (ji9)) + (rd l0 (ji12))))) = true := decide_eq_true c15
                      clear c15
                      have H' := Aside0.mk H
                      clear H
                      have p112 : 0 ≤ ((ji6) : Int) := of_decide_eq_true (by first | (with_reducible assumption) | assumption)
                      have q112 : (ji6) < (l0.length : Int) := of_decide_eq_true (by first | (with_reducible assumption) | assumption)
                      obtain ⟨ad112, e112, hx112_0⟩ := Kd.at_int HR0.out (ji6) p112 q112
                      cases e112
                      replace p112 := eq_true p112
                      replace q112 := eq_true q112
                      have p113 : 0 ≤ ((ji9) : Int) := of_decide_eq_true (by first | (with_reducible assumption) | assumption)
                      have q113 : (ji9) < (l0.length : Int) := of_decide_eq_true (by first | (with_reducible assumption) | assumption)
                      obtain ⟨ad113, e113, hx113_0⟩ := Kd.at_int HR0.out (ji9) p113 q113
                      obtain rfl : ad112 = ad113 := (by injection e113)
                      replace p113 := eq_true p113
                      replace q113 := eq_true q113
                      have p114 : 0 ≤ ((ji12) : Int) := of_decide_eq_true (by first | (with_reducible assumption) | assumption)
                      have q114 : (ji12) < (l0.length : Int) := of_decide_eq_true (by first | (with_reducible assumption) | assumption)
                      obtain ⟨ad114, e114, hx114_0⟩ := Kd.at_int HR0.out (ji12) p114 q114
                      obtain rfl : ad112 = ad114 := (by injection e114)
                      replace p114 := eq_true p114
                      replace q114 := eq_true q114
                      go_wp2
                      repeat (go_quiet (fail); try go_wp2)
                      (try rw [← hji9])
                      go_meet
                      case rel => exact ⟨_, (true), (by first | rfl | (simp; done) | (simp [*]; done)), (by first | exact H' | (rw [hji9]; exact H')), ⟨by first | omega | exact Nat.le_refl _⟩, by repeat (first | exact Drawn0.refl _ | apply Drawn0.step)⟩
                    · rw [if_neg c15] at H
                      have c15b0 : decide ((rd l0 (ji6)) ≤ (wrap64 ((rd l0 (ji9)) + (rd l0 (ji12))))) = false := decide_eq_false c15
                      clear c15
                      by_cases c16 : (ji9) > 1
                      · rw [if_pos c16] at H
                        have c16b0 : decide (1 < (ji9)) = true := decide_eq_true c16
                        clear c16
                        obtain ⟨ji17, hji17⟩ : ∃ j_ : Int, (wrap64 ((ji9) - 2)) = j_ := ⟨_, rfl⟩
                        replace H : (if 0 ≤ (ji17) then (if (ji17) < (l0.length : Int) then (spec_mergeAt.j0 k l0 a1 ji9 (decide ((rd l0 (ji17)) ≤ (wrap64 ((rd l0 (ji6)) + (rd l0 (ji9))))))) else (none)) else (none)) = some r := by first | (rw [hji17] at H; exact H) | (simp only [hji17] at H ⊢; exact H)
                        have hji17w : (IntKind.i64.wrap ((ji9) - 2)) = ji17 := (i64_w _).trans hji17
                        by_cases c18 : 0 ≤ (ji17)
                        · rw [if_pos c18] at H
                          have c18b0 : decide (0 ≤ (ji17)) = true := decide_eq_true c18
                          clear c18
                          by_cases c19 : (ji17) < (l0.length : Int)
                          · rw [if_pos c19] at H
                            have c19b0 : decide ((ji17) < (l0.length : Int)) = true := decide_eq_true c19
                            clear c19
                            have H' := Aside0.mk H
                            clear H
                            have p112 : 0 ≤ ((ji6) : Int) := of_decide_eq_true (by first | (with_reducible assumption) | assumption)
                            have q112 : (ji6) < (l0.length : Int) := of_decide_eq_true (by first | (with_reducible assumption) | assumption)
                            obtain ⟨ad112, e112, hx112_0⟩ := Kd.at_int HR0.out (ji6) p112 q112
                            cases e112
                            replace p112 := eq_true p112
                            replace q112 := eq_true q112
                            have p113 : 0 ≤ ((ji9) : Int) := of_decide_eq_true (by first | (with_reducible assumption) | assumption)
                            have q113 : (ji9) < (l0.length : Int) := of_decide_eq_true (by first | (with_reducible assumption) | assumption)
                            obtain ⟨ad113, e113, hx113_0⟩ := Kd.at_int HR0.out (ji9) p113 q113
                            obtain rfl : ad112 = ad113 := (by injection e113)
                            replace p113 := eq_true p113
                            replace q113 := eq_true q113
                            have p114 : 0 ≤ ((ji12) : Int) := of_decide_eq_true (by first | (with_reducible assumption) | assumption)
                            have q114 : (ji12) < (l0.length : Int) := of_decide_eq_true (by first | (with_reducible assumption) | assumption)
                            obtain ⟨ad114, e114, hx114_0⟩ := Kd.at_int HR0.out (ji12) p114 q114
                            obtain rfl : ad112 = ad114 := (by injection e114)
                            replace p114 := eq_true p114
                            replace q114 := eq_true q114
                            have p115 : 0 ≤ ((ji17) : Int) := of_decide_eq_true (by first | (with_reducible assumption) | assumption)
                            have q115 : (ji17) < (l0.length : Int) := of_decide_eq_true (by first | (with_reducible assumption) | assumption)
                            obtain ⟨ad115, e115, hx115_0⟩ := Kd.at_int HR0.out (ji17) p115 q115
                            obtain rfl : ad112 = ad115 := (by injection e115)
                            replace p115 := eq_true p115
                            replace q115 := eq_true q115
                            have p116 : 0 ≤ ((ji6) : Int) := of_decide_eq_true (by first | (with_reducible assumption) | assumption)
                            have q116 : (ji6) < (l0.length : Int) := of_decide_eq_true (by first | (with_reducible assumption) | assumption)
                            obtain ⟨ad116, e116, hx116_0⟩ := Kd.at_int HR0.out (ji6) p116 q116
                            obtain rfl : ad112 = ad116 := (by injection e116)
                            replace p116 := eq_true p116
                            replace q116 := eq_true q116
                            have p117 : 0 ≤ ((ji9) : Int) := of_decide_eq_true (by first | (with_reducible assumption) | assumption)
                            have q117 : (ji9) < (l0.length : Int) := of_decide_eq_true (by first | (with_reducible assumption) | assumption)
                            obtain ⟨ad117, e117, hx117_0⟩ := Kd.at_int HR0.out (ji9) p117 q117
                            obtain rfl : ad112 = ad117 := (by injection e117)
                            replace p117 := eq_true p117
                            replace q117 := eq_true q117
                            go_wp2
                            repeat (go_quiet (fail); try go_wp2)
                            (try rw [← hji9])
                            go_meet
                            case rel => exact ⟨_, (decide ((rd l0 (ji17)) ≤ (wrap64 ((rd l0 (ji6)) + (rd l0 (ji9)))))), (by first | rfl | (simp; done) | (simp only [← hji6, ← hji9, ← hji17] <;> (first | rfl | simp)) | (simp [*]; done)), (by first | exact H' | (rw [hji9]; exact H')), ⟨by first | omega | exact Nat.le_refl _⟩, by repeat (first | exact Drawn0.refl _ | apply Drawn0.step)⟩
                          · rw [if_neg c19] at H
                            exact absurd H (by simp)
                        · rw [if_neg c18] at H
                          exact absurd H (by simp)
                      · rw [if_neg c16] at H
                        have c16b0 : decide (1 < (ji9)) = false := decide_eq_false c16
                        clear c16
                        have H' := Aside0.mk H
                        clear H
                        have p112 : 0 ≤ ((ji6) : Int) := of_decide_eq_true (by first | (with_reducible assumption) | assumption)
                        have q112 : (ji6) < (l0.length : Int) := of_decide_eq_true (by first | (with_reducible assumption) | assumption)
                        obtain ⟨ad112, e112, hx112_0⟩ := Kd.at_int HR0.out (ji6) p112 q112
                        cases e112
                        replace p112 := eq_true p112
                        replace q112 := eq_true q112
                        have p113 : 0 ≤ ((ji9) : Int) := of_decide_eq_true (by first | (with_reducible assumption) | assumption)
                        have q113 : (ji9) < (l0.length : Int) := of_decide_eq_true (by first | (with_reducible assumption) | assumption)
                        obtain ⟨ad113, e113, hx113_0⟩ := Kd.at_int HR0.out (ji9) p113 q113
                        obtain rfl : ad112 = ad113 := (by injection e113)
                        replace p113 := eq_true p113
                        replace q113 := eq_true q113
                        have p114 : 0 ≤ ((ji12) : Int) := of_decide_eq_true (by first | (with_reducible assumption) | assumption)
                        have q114 : (ji12) < (l0.length : Int) := of_decide_eq_true (by first | (with_reducible assumption) | assumption)
                        obtain ⟨ad114, e114, hx114_0⟩ := Kd.at_int HR0.out (ji12) p114 q114
                        obtain rfl : ad112 = ad114 := (by injection e114)
                        replace p114 := eq_true p114
                        replace q114 := eq_true q114
                        go_wp2
                        repeat (go_quiet (fail); try go_wp2)
                        (try rw [← hji9])
                        go_meet
                        case rel => exact ⟨_, (false), (by first | rfl | (simp; done) | (simp [*]; done)), (by first | exact H' | (rw [hji9]; exact H')), ⟨by first | omega | exact Nat.le_refl _⟩, by repeat (first | exact Drawn0.refl _ | apply Drawn0.step)⟩
                  · rw [if_neg c14] at H
                    exact absurd H (by simp)
                · rw [if_neg c13] at H
                  exact absurd H (by simp)
              · rw [if_neg c11] at H
                exact absurd H (by simp)
            · rw [if_neg c10] at H
              exact absurd H (by simp)
          · rw [if_neg c8] at H
            exact absurd H (by simp)
        · rw [if_neg c7] at H
          exact absurd H (by simp)
      · rw [if_neg c5] at H
        have c5b0 : decide (0 < (wrap64 ((l0.length : Int) - 2))) = false := decide_eq_false c5
        clear c5
        (first | rw [c5b0] | (simp only [i64_w, i32_w]; rw [c5b0]) | skip)
        by_cases c20 : (wrap64 ((l0.length : Int) - 2)) > 1
        · rw [if_pos c20] at H
          have c20b0 : decide (1 < (wrap64 ((l0.length : Int) - 2))) = true := decide_eq_true c20
          clear c20
          obtain ⟨ji21, hji21⟩ : ∃ j_ : Int, (wrap64 ((wrap64 ((l0.length : Int) - 2)) - 2)) = j_ := ⟨_, rfl⟩
          replace H : (if 0 ≤ (ji21) then (if (ji21) < (l0.length : Int) then (if 0 ≤ (wrap64 ((wrap64 ((l0.length : Int) - 2)) - 1)) then (if (wrap64 ((wrap64 ((l0.length : Int) - 2)) - 1)) < (l0.length : Int) then (if 0 ≤ (wrap64 ((l0.length : Int) - 2)) then (if (wrap64 ((l0.length : Int) - 2)) < (l0.length : Int) then (spec_mergeAt.j0 k l0 a1 (wrap64 ((l0.length : Int) - 2)) (decide ((rd l0 (ji21)) ≤ (wrap64 ((rd l0 (wrap64 ((wrap64 ((l0.length : Int) - 2)) - 1))) + (rd l0 (wrap64 ((l0.length : Int) - 2)))))))) else (none)) else (none)) else (none)) else (none)) else (none)) else (none)) = some r := by first | (rw [hji21] at H; exact H) | (simp only [hji21] at H ⊢; exact H)
          have hji21w : (IntKind.i64.wrap ((wrap64 ((l0.length : Int) - 2)) - 2)) = ji21 := (i64_w _).trans hji21
          by_cases c22 : 0 ≤ (ji21)
          · rw [if_pos c22] at H
            have c22b0 : decide (0 ≤ (ji21)) = true := decide_eq_true c22
            clear c22
            by_cases c23 : (ji21) < (l0.length : Int)
            · rw [if_pos c23] at H
              have c23b0 : decide ((ji21) < (l0.length : Int)) = true := decide_eq_true c23
              clear c23
              obtain ⟨ji24, hji24⟩ : ∃ j_ : Int, (wrap64 ((wrap64 ((l0.length : Int) - 2)) - 1)) = j_ := ⟨_, rfl⟩
              replace H : (if 0 ≤ (ji24) then (if (ji24) < (l0.length : Int) then (if 0 ≤ (wrap64 ((l0.length : Int) - 2)) then (if (wrap64 ((l0.length : Int) - 2)) < (l0.length : Int) then (spec_mergeAt.j0 k l0 a1 (wrap64 ((l0.length : Int) - 2)) (decide ((rd l0 (ji21)) ≤ (wrap64 ((rd l0 (ji24)) + (rd l0 (wrap64 ((l0.length : Int) - 2)))))))) else (none)) else (none)) else (none)) else (none)) = some r := by first | (rw [hji24] at H; exact H) | (simp only [hji24] at H ⊢; exact H)
              have hji24w : (IntKind.i64.wrap ((wrap64 ((l0.length : Int) - 2)) - 1)) = ji24 := (i64_w _).trans hji24
              by_cases c25 : 0 ≤ (ji24)
              · rw [if_pos c25] at H
                have c25b0 : decide (0 ≤ (ji24)) = true := decide_eq_true c25
                clear c25
                by_cases c26 : (ji24) < (l0.length : Int)
                · rw [if_pos c26] at H
                  have c26b0 : decide ((ji24) < (l0.length : Int)) = true := decide_eq_true c26
                  clear c26
                  obtain ⟨ji27, hji27⟩ : ∃ j_ : Int, (wrap64 ((l0.length : Int) - 2)) = j_ := ⟨_, rfl⟩
                  replace H : (if 0 ≤ (ji27) then (if (ji27) < (l0.length : Int) then (spec_mergeAt.j0 k l0 a1 ji27 (decide ((rd l0 (ji21)) ≤ (wrap64 ((rd l0 (ji24)) + (rd l0 (ji27))))))) else (none)) else (none)) = some r := by first | (rw [hji27] at H; exact H) | (simp only [hji27] at H ⊢; exact H)
                  (try rw [hji27] at c3b0)
                  (try rw [hji27] at c5b0)
                  (try rw [hji27] at c20b0)
                  have hji27w : (IntKind.i64.wrap ((l0.length : Int) - 2)) = ji27 := (i64_w _).trans hji27
                  (try rw [hji27] at hji6)
                  (try rw [hji27] at hji6w)
                  (try rw [hji27] at hji21)
                  (try rw [hji27] at hji21w)
                  (try rw [hji27] at hji24)
                  (try rw [hji27] at hji24w)
                  by_cases c28 : 0 ≤ (ji27)
                  · rw [if_pos c28] at H
                    have c28b0 : decide (0 ≤ (ji27)) = true := decide_eq_true c28
                    clear c28
                    by_cases c29 : (ji27) < (l0.length : Int)
                    · rw [if_pos c29] at H
                      have c29b0 : decide ((ji27) < (l0.length : Int)) = true := decide_eq_true c29
                      clear c29
                      have H' := Aside0.mk H
                      clear H
                      have p118 : 0 ≤ ((ji21) : Int) := of_decide_eq_true (by first | (with_reducible assumption) | assumption)
                      have q118 : (ji21) < (l0.length : Int) := of_decide_eq_true (by first | (with_reducible assumption) | assumption)
                      obtain ⟨ad118, e118, hx118_0⟩ := Kd.at_int HR0.out (ji21) p118 q118
                      cases e118
                      replace p118 := eq_true p118
                      replace q118 := eq_true q118
                      have p119 : 0 ≤ ((ji24) : Int) := of_decide_eq_true (by first | (with_reducible assumption) | assumption)
                      have q119 : (ji24) < (l0.length : Int) := of_decide_eq_true (by first | (with_reducible assumption) | assumption)
                      obtain ⟨ad119, e119, hx119_0⟩ := Kd.at_int HR0.out (ji24) p119 q119
                      obtain rfl : ad118 = ad119 := (by injection e119)
                      replace p119 := eq_true p119
                      replace q119 := eq_true q119
                      have p120 : 0 ≤ ((ji27) : Int) := of_decide_eq_true (by first | (with_reducible assumption) | assumption)
                      have q120 : (ji27) < (l0.length : Int) := of_decide_eq_true (by first | (with_reducible assumption) | assumption)
                      obtain ⟨ad120, e120, hx120_0⟩ := Kd.at_int HR0.out (ji27) p120 q120
                      obtain rfl : ad118 = ad120 := (by injection e120)
                      replace p120 := eq_true p120
                      replace q120 := eq_true q120
                      go_wp2
                      repeat (go_quiet (fail); try go_wp2)
                      (try rw [← hji9])
                      (try rw [← hji27])
                      go_meet
                      case rel => exact ⟨_, (decide ((rd l0 (ji21)) ≤ (wrap64 ((rd l0 (ji24)) + (rd l0 (ji27)))))), (by first | rfl | (simp; done) | (simp only [← hji21, ← hji24, ← hji27] <;> (first | rfl | simp)) | (simp [*]; done)), (by first | exact H' | (rw [hji9]; exact H') | (rw [hji27]; exact H')), ⟨by first | omega | exact Nat.le_refl _⟩, by repeat (first | exact Drawn0.refl _ | apply Drawn0.step)⟩
                    · rw [if_neg c29] at H
                      exact absurd H (by simp)
                  · rw [if_neg c28] at H
                    exact absurd H (by simp)
                · rw [if_neg c26] at H
                  exact absurd H (by simp)
              · rw [if_neg c25] at H
                exact absurd H (by simp)
            · rw [if_neg c23] at H
              exact absurd H (by simp)
          · rw [if_neg c22] at H
            exact absurd H (by simp)
        · rw [if_neg c20] at H
          have c20b0 : decide (1 < (wrap64 ((l0.length : Int) - 2))) = false := decide_eq_false c20
          clear c20
          have H' := Aside0.mk H
          clear H
          go_wp2
          repeat (go_quiet (fail); try go_wp2)
          (try rw [← hji9])
          (try rw [← hji27])
          go_meet
          case rel => exact ⟨_, (false), (by first | rfl | (simp; done) | (simp [*]; done)), (by first | exact H' | (rw [hji9]; exact H') | (rw [hji27]; exact H')), ⟨by first | omega | exact Nat.le_refl _⟩, by repeat (first | exact Drawn0.refl _ | apply Drawn0.step)⟩
    case rest =>
      clear HC4
      try clear c1
      try clear p1
      try clear q1
      try clear hx1
      try clear c2
      try clear p2
      try clear c3
      try clear c3b0
      try clear c5
      try clear c5b0
      try clear p6
      try clear c7
      try clear c7b0
      try clear c8
      try clear c8b0
      try clear c10
      try clear c10b0
      try clear c11
      try clear c11b0
      try clear p11
      try clear q11
      try clear hx11
      try clear p12
      try clear q12
      try clear hx12
      try clear c13
      try clear c13b0
      try clear c14
      try clear c14b0
      try clear c15
      try clear c15b0
      try clear c16
      try clear c16b0
      try clear c18
      try clear c18b0
      try clear c19
      try clear c19b0
      try clear c20
      try clear c20b0
      try clear c22
      try clear c22b0
      try clear c23
      try clear c23b0
      try clear c25
      try clear c25b0
      try clear c26
      try clear c26b0
      try clear c28
      try clear c28b0
      try clear c29
      try clear c29b0
      try clear hx112_0
      try clear hx113_0
      try clear hx114_0
      try clear hx115_0
      try clear hx116_0
      try clear hx117_0
      try clear hx118_0
      try clear hx119_0
      try clear hx120_0
      try clear p112
      try clear p113
      try clear p114
      try clear p115
      try clear p116
      try clear p117
      try clear p118
      try clear p119
      try clear p120
      try clear q112
      try clear q113
      try clear q114
      try clear q115
      try clear q116
      try clear q117
      try clear q118
      try clear q119
      try clear q120
      obtain ⟨kq, x6_3, rfl, HA, HJ3, ⟨mc3, rfl⟩⟩ := hcut
      cases kq with
      | zero => exact absurd HA.out (by simp [spec_mergeAt.j0])
      | succ kj3 =>
        have H := HA.out
        clear HA
        simp only [spec_mergeAt.j0] at H
        have HC30 := Aside0.mk H
        clear H
        go_upto_region 5 with (fail)
        repeat (go_quiet (fail); go_upto_region 5 with (fail))
        go_cut [54] (fun v54 wc => ∃ (kq : Nat) (x54_29 : Bool), v54 = .bool x54_29 ∧ Aside0 (spec_mergeAt.j1 kq l0 a1 (wrap64 ((l0.length : Int) - 2)) x6_3 x54_29 = some r) ∧ Aside0 (kq ≤ kj3) ∧ Drawn0 w wc)
        case first =>
          have H := HC30.out
          clear HC30
          by_cases c31 : x6_3 = true
          · subst c31
            have H1 : (if 0 ≤ (wrap64 ((wrap64 ((l0.length : Int) - 2)) - 1)) then (if (wrap64 ((wrap64 ((l0.length : Int) - 2)) - 1)) < (l0.length : Int) then (if 0 ≤ (wrap64 ((wrap64 ((l0.length : Int) - 2)) + 1)) then (if (wrap64 ((wrap64 ((l0.length : Int) - 2)) + 1)) < (l0.length : Int) then (spec_mergeAt.j1 kj3 l0 a1 (wrap64 ((l0.length : Int) - 2)) true (decide ((rd l0 (wrap64 ((wrap64 ((l0.length : Int) - 2)) - 1))) < (rd l0 (wrap64 ((wrap64 ((l0.length : Int) - 2)) + 1)))))) else (none)) else (none)) else (none)) else (none)) = some r := by rw [if_pos rfl] at H; exact H
            clear H
            have H := H1
            clear H1
            obtain ⟨ji32, hji32⟩ : ∃ j_ : Int, (wrap64 ((wrap64 ((l0.length : Int) - 2)) - 1)) = j_ := ⟨_, rfl⟩
            replace H : (if 0 ≤ (ji32) then (if (ji32) < (l0.length : Int) then (if 0 ≤ (wrap64 ((wrap64 ((l0.length : Int) - 2)) + 1)) then (if (wrap64 ((wrap64 ((l0.length : Int) - 2)) + 1)) < (l0.length : Int) then (spec_mergeAt.j1 kj3 l0 a1 (wrap64 ((l0.length : Int) - 2)) true (decide ((rd l0 (ji32)) < (rd l0 (wrap64 ((wrap64 ((l0.length : Int) - 2)) + 1)))))) else (none)) else (none)) else (none)) else (none)) = some r := by first | (rw [hji32] at H; exact H) | (simp only [hji32] at H ⊢; exact H)
            have hji32w : (IntKind.i64.wrap ((wrap64 ((l0.length : Int) - 2)) - 1)) = ji32 := (i64_w _).trans hji32
            by_cases c33 : 0 ≤ (ji32)
            · rw [if_pos c33] at H
              have c33b0 : decide (0 ≤ (ji32)) = true := decide_eq_true c33
              clear c33
              (first | rw [c33b0] | (simp only [i64_w, i32_w]; rw [c33b0]) | skip)
              by_cases c34 : (ji32) < (l0.length : Int)
              · rw [if_pos c34] at H
                have c34b0 : decide ((ji32) < (l0.length : Int)) = true := decide_eq_true c34
                clear c34
                obtain ⟨ji35, hji35⟩ : ∃ j_ : Int, (wrap64 ((wrap64 ((l0.length : Int) - 2)) + 1)) = j_ := ⟨_, rfl⟩
                replace H : (if 0 ≤ (ji35) then (if (ji35) < (l0.length : Int) then (spec_mergeAt.j1 kj3 l0 a1 (wrap64 ((l0.length : Int) - 2)) true (decide ((rd l0 (ji32)) < (rd l0 (ji35))))) else (none)) else (none)) = some r := by first | (rw [hji35] at H; exact H) | (simp only [hji35] at H ⊢; exact H)
                have hji35w : (IntKind.i64.wrap ((wrap64 ((l0.length : Int) - 2)) + 1)) = ji35 := (i64_w _).trans hji35
                by_cases c36 : 0 ≤ (ji35)
                · rw [if_pos c36] at H
                  have c36b0 : decide (0 ≤ (ji35)) = true := decide_eq_true c36
                  clear c36
                  by_cases c37 : (ji35) < (l0.length : Int)
                  · rw [if_pos c37] at H
                    have c37b0 : decide ((ji35) < (l0.length : Int)) = true := decide_eq_true c37
                    clear c37
                    have H' := Aside0.mk H
                    clear H
                    have p121 : 0 ≤ ((ji32) : Int) := of_decide_eq_true (by first | (with_reducible assumption) | assumption)
                    have q121 : (ji32) < (l0.length : Int) := of_decide_eq_true (by first | (with_reducible assumption) | assumption)
                    obtain ⟨ad121, e121, hx121_0⟩ := Kd.at_int HR0.out (ji32) p121 q121
                    cases e121
                    replace p121 := eq_true p121
                    replace q121 := eq_true q121
                    have p122 : 0 ≤ ((ji35) : Int) := of_decide_eq_true (by first | (with_reducible assumption) | assumption)
                    have q122 : (ji35) < (l0.length : Int) := of_decide_eq_true (by first | (with_reducible assumption) | assumption)
                    obtain ⟨ad122, e122, hx122_0⟩ := Kd.at_int HR0.out (ji35) p122 q122
                    obtain rfl : ad121 = ad122 := (by injection e122)
                    replace p122 := eq_true p122
                    replace q122 := eq_true q122
                    go_wp2
                    repeat (go_quiet (fail); try go_wp2)
                    (try rw [← hji9])
                    (try rw [← hji27])
                    go_meet
                    case rel => exact ⟨_, (decide ((rd l0 (ji32)) < (rd l0 (ji35)))), (by first | rfl | (simp; done) | (simp only [← hji32, ← hji35] <;> (first | rfl | simp)) | (simp [*]; done)), (by first | exact H' | (rw [hji9]; exact H') | (rw [hji27]; exact H')), ⟨by have := HJ3.out; first | omega | exact Nat.le_refl _⟩, by repeat (first | exact Drawn0.refl _ | apply Drawn0.step)⟩
                  · rw [if_neg c37] at H
                    exact absurd H (by simp)
                · rw [if_neg c36] at H
                  exact absurd H (by simp)
              · rw [if_neg c34] at H
                exact absurd H (by simp)
            · rw [if_neg c33] at H
              exact absurd H (by simp)
          · replace c31 := Bool.eq_false_iff.mpr c31
            subst c31
            have H1 : (if a1 = true then (if (wrap64 ((l0.length : Int) - 2)) > 0 then (if 0 ≤ (wrap64 ((wrap64 ((l0.length : Int) - 2)) - 1)) then (if (wrap64 ((wrap64 ((l0.length : Int) - 2)) - 1)) < (l0.length : Int) then (if 0 ≤ (wrap64 ((wrap64 ((l0.length : Int) - 2)) + 1)) then (if (wrap64 ((wrap64 ((l0.length : Int) - 2)) + 1)) < (l0.length : Int) then (spec_mergeAt.j1 kj3 l0 a1 (wrap64 ((l0.length : Int) - 2)) false (decide ((rd l0 (wrap64 ((wrap64 ((l0.length : Int) - 2)) - 1))) < (rd l0 (wrap64 ((wrap64 ((l0.length : Int) - 2)) + 1)))))) else (none)) else (none)) else (none)) else (none)) else (spec_mergeAt.j1 kj3 l0 a1 (wrap64 ((l0.length : Int) - 2)) false false)) else (spec_mergeAt.j1 kj3 l0 a1 (wrap64 ((l0.length : Int) - 2)) false false)) = some r := by rw [if_neg (show ¬ (false = true) by decide)] at H; exact H
            clear H
            have H := H1
            clear H1
            by_cases c38 : a1 = true
            · subst c38
              have H1 : (if (wrap64 ((l0.length : Int) - 2)) > 0 then (if 0 ≤ (wrap64 ((wrap64 ((l0.length : Int) - 2)) - 1)) then (if (wrap64 ((wrap64 ((l0.length : Int) - 2)) - 1)) < (l0.length : Int) then (if 0 ≤ (wrap64 ((wrap64 ((l0.length : Int) - 2)) + 1)) then (if (wrap64 ((wrap64 ((l0.length : Int) - 2)) + 1)) < (l0.length : Int) then (spec_mergeAt.j1 kj3 l0 true (wrap64 ((l0.length : Int) - 2)) false (decide ((rd l0 (wrap64 ((wrap64 ((l0.length : Int) - 2)) - 1))) < (rd l0 (wrap64 ((wrap64 ((l0.length : Int) - 2)) + 1)))))) else (none)) else (none)) else (none)) else (none)) else (spec_mergeAt.j1 kj3 l0 true (wrap64 ((l0.length : Int) - 2)) false false)) = some r := by rw [if_pos rfl] at H; exact H
              clear H
              have H := H1
              clear H1
              by_cases c39 : (wrap64 ((l0.length : Int) - 2)) > 0
              · rw [if_pos c39] at H
                have c39b0 : decide (0 < (wrap64 ((l0.length : Int) - 2))) = true := decide_eq_true c39
                clear c39
                obtain ⟨ji40, hji40⟩ : ∃ j_ : Int, (wrap64 ((wrap64 ((l0.length : Int) - 2)) - 1)) = j_ := ⟨_, rfl⟩
                replace H : (if 0 ≤ (ji40) then (if (ji40) < (l0.length : Int) then (if 0 ≤ (wrap64 ((wrap64 ((l0.length : Int) - 2)) + 1)) then (if (wrap64 ((wrap64 ((l0.length : Int) - 2)) + 1)) < (l0.length : Int) then (spec_mergeAt.j1 kj3 l0 true (wrap64 ((l0.length : Int) - 2)) false (decide ((rd l0 (ji40)) < (rd l0 (wrap64 ((wrap64 ((l0.length : Int) - 2)) + 1)))))) else (none)) else (none)) else (none)) else (none)) = some r := by first | (rw [hji40] at H; exact H) | (simp only [hji40] at H ⊢; exact H)
                have hji40w : (IntKind.i64.wrap ((wrap64 ((l0.length : Int) - 2)) - 1)) = ji40 := (i64_w _).trans hji40
                by_cases c41 : 0 ≤ (ji40)
                · rw [if_pos c41] at H
                  have c41b0 : decide (0 ≤ (ji40)) = true := decide_eq_true c41
                  clear c41
                  by_cases c42 : (ji40) < (l0.length : Int)
                  · rw [if_pos c42] at H
                    have c42b0 : decide ((ji40) < (l0.length : Int)) = true := decide_eq_true c42
                    clear c42
                    obtain ⟨ji43, hji43⟩ : ∃ j_ : Int, (wrap64 ((wrap64 ((l0.length : Int) - 2)) + 1)) = j_ := ⟨_, rfl⟩
                    replace H : (if 0 ≤ (ji43) then (if (ji43) < (l0.length : Int) then (spec_mergeAt.j1 kj3 l0 true (wrap64 ((l0.length : Int) - 2)) false (decide ((rd l0 (ji40)) < (rd l0 (ji43))))) else (none)) else (none)) = some r := by first | (rw [hji43] at H; exact H) | (simp only [hji43] at H ⊢; exact H)
                    have hji43w : (IntKind.i64.wrap ((wrap64 ((l0.length : Int) - 2)) + 1)) = ji43 := (i64_w _).trans hji43
                    by_cases c44 : 0 ≤ (ji43)
                    · rw [if_pos c44] at H
                      have c44b0 : decide (0 ≤ (ji43)) = true := decide_eq_true c44
                      clear c44
                      by_cases c45 : (ji43) < (l0.length : Int)
                      · rw [if_pos c45] at H
                        have c45b0 : decide ((ji43) < (l0.length : Int)) = true := decide_eq_true c45
                        clear c45
                        have H' := Aside0.mk H
                        clear H
                        have p123 : 0 ≤ ((ji40) : Int) := of_decide_eq_true (by first | (with_reducible assumption) | assumption)
                        have q123 : (ji40) < (l0.length : Int) := of_decide_eq_true (by first | (with_reducible assumption) | assumption)
                        obtain ⟨ad123, e123, hx123_0⟩ := Kd.at_int HR0.out (ji40) p123 q123
                        cases e123
                        replace p123 := eq_true p123
                        replace q123 := eq_true q123
                        have p124 : 0 ≤ ((ji43) : Int) := of_decide_eq_true (by first | (with_reducible assumption) | assumption)
                        have q124 : (ji43) < (l0.length : Int) := of_decide_eq_true (by first | (with_reducible assumption) | assumption)
                        obtain ⟨ad124, e124, hx124_0⟩ := Kd.at_int HR0.out (ji43) p124 q124
                        obtain rfl : ad123 = ad124 := (by injection e124)
                        replace p124 := eq_true p124
                        replace q124 := eq_true q124
                        go_wp2
                        repeat (go_quiet (fail); try go_wp2)
                        (try rw [← hji9])
                        (try rw [← hji27])
                        go_meet
                        case rel => exact ⟨_, (decide ((rd l0 (ji40)) < (rd l0 (ji43)))), (by first | rfl | (simp; done) | (simp only [← hji40, ← hji43] <;> (first | rfl | simp)) | (simp [*]; done)), (by first | exact H' | (rw [hji9]; exact H') | (rw [hji27]; exact H')), ⟨by have := HJ3.out; first | omega | exact Nat.le_refl _⟩, by repeat (first | exact Drawn0.refl _ | apply Drawn0.step)⟩
                      · rw [if_neg c45] at H
                        exact absurd H (by simp)
                    · rw [if_neg c44] at H
                      exact absurd H (by simp)
                  · rw [if_neg c42] at H
                    exact absurd H (by simp)
                · rw [if_neg c41] at H
                  exact absurd H (by simp)
              · rw [if_neg c39] at H
                have c39b0 : decide (0 < (wrap64 ((l0.length : Int) - 2))) = false := decide_eq_false c39
                clear c39
                have H' := Aside0.mk H
                clear H
                go_wp2
                repeat (go_quiet (fail); try go_wp2)
                (try rw [← hji9])
                (try rw [← hji27])
                go_meet
                case rel => exact ⟨_, (false), (by first | rfl | (simp; done) | (simp [*]; done)), (by first | exact H' | (rw [hji9]; exact H') | (rw [hji27]; exact H')), ⟨by have := HJ3.out; first | omega | exact Nat.le_refl _⟩, by repeat (first | exact Drawn0.refl _ | apply Drawn0.step)⟩
            · replace c38 := Bool.eq_false_iff.mpr c38
              subst c38
              have H1 : (spec_mergeAt.j1 kj3 l0 false (wrap64 ((l0.length : Int) - 2)) false false) = some r := by rw [if_neg (show ¬ (false = true) by decide)] at H; exact H
              clear H
              have H := H1
              clear H1
              have H' := Aside0.mk H
              clear H
              go_wp2
              repeat (go_quiet (fail); try go_wp2)
              (try rw [← hji9])
              (try rw [← hji27])
              go_meet
              case rel => exact ⟨_, (false), (by first | rfl | (simp; done) | (simp [*]; done)), (by first | exact H' | (rw [hji9]; exact H') | (rw [hji27]; exact H')), ⟨by have := HJ3.out; first | omega | exact Nat.le_refl _⟩, by repeat (first | exact Drawn0.refl _ | apply Drawn0.step)⟩
        case rest =>
          clear HC30
          try clear c1
          try clear p1
          try clear q1
          try clear hx1
          try clear c2
          try clear p2
          try clear c3
          try clear c3b0
          try clear c4
          try clear c5
          try clear c5b0
          try clear p6
          try clear c7
          try clear c7b0
          try clear c8
          try clear c8b0
          try clear c10
          try clear c10b0
          try clear c11
          try clear c11b0
          try clear p11
          try clear q11
          try clear hx11
          try clear p12
          try clear q12
          try clear hx12
          try clear c13
          try clear c13b0
          try clear c14
          try clear c14b0
          try clear c15
          try clear c15b0
          try clear c16
          try clear c16b0
          try clear c18
          try clear c18b0
          try clear c19
          try clear c19b0
          try clear c20
          try clear c20b0
          try clear c22
          try clear c22b0
          try clear c23
          try clear c23b0
          try clear c25
          try clear c25b0
          try clear c26
          try clear c26b0
          try clear c28
          try clear c28b0
          try clear c29
          try clear c29b0
          try clear c31
          try clear c33
          try clear c33b0
          try clear c34
          try clear c34b0
          try clear c36
          try clear c36b0
          try clear c37
          try clear c37b0
          try clear c38
          try clear c39
          try clear c39b0
          try clear c41
          try clear c41b0
          try clear c42
          try clear c42b0
          try clear c44
          try clear c44b0
          try clear c45
          try clear c45b0
          try clear hx112_0
          try clear hx113_0
          try clear hx114_0
          try clear hx115_0
          try clear hx116_0
          try clear hx117_0
          try clear hx118_0
          try clear hx119_0
          try clear hx120_0
          try clear hx121_0
          try clear hx122_0
          try clear hx123_0
          try clear hx124_0
          try clear p1
          try clear p11
          try clear p112
          try clear p113
          try clear p114
          try clear p115
          try clear p116
          try clear p117
          try clear p118
          try clear p119
          try clear p12
          try clear p120
          try clear p121
          try clear p122
          try clear p123
          try clear p124
          try clear p2
          try clear p6
          try clear q1
          try clear q11
          try clear q112
          try clear q113
          try clear q114
          try clear q115
          try clear q116
          try clear q117
          try clear q118
          try clear q119
          try clear q12
          try clear q120
          try clear q121
          try clear q122
          try clear q123
          try clear q124
          obtain ⟨kq, x54_29, rfl, HA, HJ29, ⟨mc29, rfl⟩⟩ := hcut
          cases kq with
          | zero => exact absurd HA.out (by simp [spec_mergeAt.j1])
          | succ kj29 =>
            have H := HA.out
            clear HA
            simp only [spec_mergeAt.j1] at H
            by_cases c46 : x54_29 = true
            · subst c46
              have H1 : (some (wrap64 ((wrap64 ((l0.length : Int) - 2)) - 1))) = some r := by rw [if_pos rfl] at H; exact H
              clear H
              have H := H1
              clear H1
              obtain rfl := Option.some.inj H
              go_wp2
              repeat (go_quiet (fail); try go_wp2)
              go_ret
              exact ⟨by first | rfl | (simp; done) | (simp [*]; done), by repeat (first | exact Drawn0.refl _ | apply Drawn0.step)⟩
            · replace c46 := Bool.eq_false_iff.mpr c46
              subst c46
              have H1 : (if x6_3 = true then (some (wrap64 ((l0.length : Int) - 2))) else (if a1 = true then (some (wrap64 ((l0.length : Int) - 2))) else (if 0 ≤ (wrap64 ((l0.length : Int) - 2)) then (if (wrap64 ((l0.length : Int) - 2)) < (l0.length : Int) then (if 0 ≤ (wrap64 ((wrap64 ((l0.length : Int) - 2)) + 1)) then (if (wrap64 ((wrap64 ((l0.length : Int) - 2)) + 1)) < (l0.length : Int) then (if (rd l0 (wrap64 ((l0.length : Int) - 2))) ≤ (rd l0 (wrap64 ((wrap64 ((l0.length : Int) - 2)) + 1))) then (some (wrap64 ((l0.length : Int) - 2))) else (some (-1))) else (none)) else (none)) else (none)) else (none)))) = some r := by rw [if_neg (show ¬ (false = true) by decide)] at H; exact H
              clear H
              have H := H1
              clear H1
              by_cases c47 : x6_3 = true
              · subst c47
                have H1 : (some (wrap64 ((l0.length : Int) - 2))) = some r := by rw [if_pos rfl] at H; exact H
                clear H
                have H := H1
                clear H1
                obtain rfl := Option.some.inj H
                go_wp2
                repeat (go_quiet (fail); try go_wp2)
                go_ret
                exact ⟨by first | rfl | (simp; done) | (simp [*]; done), by repeat (first | exact Drawn0.refl _ | apply Drawn0.step)⟩
              · replace c47 := Bool.eq_false_iff.mpr c47
                subst c47
                have H1 : (if a1 = true then (some (wrap64 ((l0.length : Int) - 2))) else (if 0 ≤ (wrap64 ((l0.length : Int) - 2)) then (if (wrap64 ((l0.length : Int) - 2)) < (l0.length : Int) then (if 0 ≤ (wrap64 ((wrap64 ((l0.length : Int) - 2)) + 1)) then (if (wrap64 ((wrap64 ((l0.length : Int) - 2)) + 1)) < (l0.length : Int) then (if (rd l0 (wrap64 ((l0.length : Int) - 2))) ≤ (rd l0 (wrap64 ((wrap64 ((l0.length : Int) - 2)) + 1))) then (some (wrap64 ((l0.length : Int) - 2))) else (some (-1))) else (none)) else (none)) else (none)) else (none))) = some r := by rw [if_neg (show ¬ (false = true) by decide)] at H; exact H
                clear H
                have H := H1
                clear H1
                by_cases c48 : a1 = true
                · subst c48
                  have H1 : (some (wrap64 ((l0.length : Int) - 2))) = some r := by rw [if_pos rfl] at H; exact H
                  clear H
                  have H := H1
                  clear H1
                  obtain rfl := Option.some.inj H
                  go_wp2
                  repeat (go_quiet (fail); try go_wp2)
                  go_ret
                  exact ⟨by first | rfl | (simp; done) | (simp [*]; done), by repeat (first | exact Drawn0.refl _ | apply Drawn0.step)⟩
                · replace c48 := Bool.eq_false_iff.mpr c48
                  subst c48
                  have H1 : (if 0 ≤ (wrap64 ((l0.length : Int) - 2)) then (if (wrap64 ((l0.length : Int) - 2)) < (l0.length : Int) then (if 0 ≤ (wrap64 ((wrap64 ((l0.length : Int) - 2)) + 1)) then (if (wrap64 ((wrap64 ((l0.length : Int) - 2)) + 1)) < (l0.length : Int) then (if (rd l0 (wrap64 ((l0.length : Int) - 2))) ≤ (rd l0 (wrap64 ((wrap64 ((l0.length : Int) - 2)) + 1))) then (some (wrap64 ((l0.length : Int) - 2))) else (some (-1))) else (none)) else (none)) else (none)) else (none)) = some r := by rw [if_neg (show ¬ (false = true) by decide)] at H; exact H
                  clear H
                  have H := H1
                  clear H1
                  obtain ⟨ji49, hji49⟩ : ∃ j_ : Int, (wrap64 ((l0.length : Int) - 2)) = j_ := ⟨_, rfl⟩
                  replace H : (if 0 ≤ (ji49) then (if (ji49) < (l0.length : Int) then (if 0 ≤ (wrap64 ((ji49) + 1)) then (if (wrap64 ((ji49) + 1)) < (l0.length : Int) then (if (rd l0 (ji49)) ≤ (rd l0 (wrap64 ((ji49) + 1))) then (some (ji49)) else (some (-1))) else (none)) else (none)) else (none)) else (none)) = some r := by first | (rw [hji49] at H; exact H) | (simp only [hji49] at H ⊢; exact H)
                  (try rw [hji49] at c3b0)
                  have hji49w : (IntKind.i64.wrap ((l0.length : Int) - 2)) = ji49 := (i64_w _).trans hji49
                  (try rw [hji49] at hji6)
                  (try rw [hji49] at hji6w)
                  (try rw [hji49] at hji21)
                  (try rw [hji49] at hji21w)
                  (try rw [hji49] at hji24)
                  (try rw [hji49] at hji24w)
                  (try rw [hji49] at hji32)
                  (try rw [hji49] at hji32w)
                  (try rw [hji49] at hji35)
                  (try rw [hji49] at hji35w)
                  (try rw [hji49] at hji40)
                  (try rw [hji49] at hji40w)
                  (try rw [hji49] at hji43)
                  (try rw [hji49] at hji43w)
                  by_cases c50 : 0 ≤ (ji49)
                  · rw [if_pos c50] at H
                    have c50b0 : decide (0 ≤ (ji49)) = true := decide_eq_true c50
                    clear c50
                    by_cases c51 : (ji49) < (l0.length : Int)
                    · rw [if_pos c51] at H
                      have c51b0 : decide ((ji49) < (l0.length : Int)) = true := decide_eq_true c51
                      clear c51
                      obtain ⟨ji52, hji52⟩ : ∃ j_ : Int, (wrap64 ((ji49) + 1)) = j_ := ⟨_, rfl⟩
                      replace H : (if 0 ≤ (ji52) then (if (ji52) < (l0.length : Int) then (if (rd l0 (ji49)) ≤ (rd l0 (ji52)) then (some (ji49)) else (some (-1))) else (none)) else (none)) = some r := by first | (rw [hji52] at H; exact H) | (simp only [hji52] at H ⊢; exact H)
                      have hji52w : (IntKind.i64.wrap ((ji49) + 1)) = ji52 := (i64_w _).trans hji52
                      by_cases c53 : 0 ≤ (ji52)
                      · rw [if_pos c53] at H
                        have c53b0 : decide (0 ≤ (ji52)) = true := decide_eq_true c53
                        clear c53
                        by_cases c54 : (ji52) < (l0.length : Int)
                        · rw [if_pos c54] at H
                          have c54b0 : decide ((ji52) < (l0.length : Int)) = true := decide_eq_true c54
                          clear c54
                          by_cases c55 : (rd l0 (ji49)) ≤ (rd l0 (ji52))
                          · rw [if_pos c55] at H
                            have c55b0 : decide ((rd l0 (ji49)) ≤ (rd l0 (ji52))) = true := decide_eq_true c55
                            clear c55
                            obtain rfl := Option.some.inj H
                            have p125 : 0 ≤ ((ji49) : Int) := of_decide_eq_true (by first | (with_reducible assumption) | assumption)
                            have q125 : (ji49) < (l0.length : Int) := of_decide_eq_true (by first | (with_reducible assumption) | assumption)
                            obtain ⟨ad125, e125, hx125_0⟩ := Kd.at_int HR0.out (ji49) p125 q125
                            cases e125
                            replace p125 := eq_true p125
                            replace q125 := eq_true q125
                            have p126 : 0 ≤ ((ji52) : Int) := of_decide_eq_true (by first | (with_reducible assumption) | assumption)
                            have q126 : (ji52) < (l0.length : Int) := of_decide_eq_true (by first | (with_reducible assumption) | assumption)
                            obtain ⟨ad126, e126, hx126_0⟩ := Kd.at_int HR0.out (ji52) p126 q126
                            obtain rfl : ad125 = ad126 := (by injection e126)
                            replace p126 := eq_true p126
                            replace q126 := eq_true q126
                            go_wp2
                            repeat (go_quiet (fail); try go_wp2)
                            go_ret
                            exact ⟨by first | rfl | (simp; done) | (simp only [← hji49, ← hji52] <;> (first | rfl | simp)) | (simp [*]; done), by repeat (first | exact Drawn0.refl _ | apply Drawn0.step)⟩
                          · rw [if_neg c55] at H
                            have c55b0 : decide ((rd l0 (ji49)) ≤ (rd l0 (ji52))) = false := decide_eq_false c55
                            clear c55
                            obtain rfl := Option.some.inj H
                            have p125 : 0 ≤ ((ji49) : Int) := of_decide_eq_true (by first | (with_reducible assumption) | assumption)
                            have q125 : (ji49) < (l0.length : Int) := of_decide_eq_true (by first | (with_reducible assumption) | assumption)
                            obtain ⟨ad125, e125, hx125_0⟩ := Kd.at_int HR0.out (ji49) p125 q125
                            cases e125
                            replace p125 := eq_true p125
                            replace q125 := eq_true q125
                            have p126 : 0 ≤ ((ji52) : Int) := of_decide_eq_true (by first | (with_reducible assumption) | assumption)
                            have q126 : (ji52) < (l0.length : Int) := of_decide_eq_true (by first | (with_reducible assumption) | assumption)
                            obtain ⟨ad126, e126, hx126_0⟩ := Kd.at_int HR0.out (ji52) p126 q126
                            obtain rfl : ad125 = ad126 := (by injection e126)
                            replace p126 := eq_true p126
                            replace q126 := eq_true q126
                            go_wp2
                            repeat (go_quiet (fail); try go_wp2)
                            go_ret
                            exact ⟨by first | rfl | (simp; done) | (simp only [← hji49, ← hji52] <;> (first | rfl | simp)) | (simp [*]; done), by repeat (first | exact Drawn0.refl _ | apply Drawn0.step)⟩
                        · rw [if_neg c54] at H
                          exact absurd H (by simp)
                      · rw [if_neg c53] at H
                        exact absurd H (by simp)
                    · rw [if_neg c51] at H
                      exact absurd H (by simp)
                  · rw [if_neg c50] at H
                    exact absurd H (by simp)

end Go.Proofs.Ytpnamllkeaaeeaa.XFnExactMergePlan
