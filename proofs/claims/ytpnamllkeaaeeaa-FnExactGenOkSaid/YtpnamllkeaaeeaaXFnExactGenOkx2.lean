/- The functions that FnExactGenOk uses, as functions of Lean, and that the Go code comes to their answers. Written by a program of this session. -/
import Derived.Test.YtpnamllkeaaeeaaXFnExactGenOkx0
import Derived.Test.YtpnamllkeaaeeaaXFnExactGenOkx1
namespace Go.Proofs.Ytpnamllkeaaeeaa.XFnExactGenOk
open Go.RowKit Go.Proofs.YtpnamllkeaaeeaaW.PrintWords Go.Proofs.YtpnamllkeaaeeaaW.PrintLast Go.Proofs.YtpnamllkeaaeeaaW.PrintMore
attribute [local go_sem] max2_int min2_int max_two min_two max_three min_three max_four min_four   -- for this text's walks alone
set_option linter.unusedVariables false
set_option linter.unusedSimpArgs false

/-! ### spec_validSteps: function 50 -/
set_option maxRecDepth 100000 in
mutual
def spec_validSteps.j0 : Nat → List (S61) → Int → Bool → Option (Bool)
  | 0, _, _, _ => none
  | k + 1, x0, x1, x17 => if x17 = true then (some false) else (spec_validSteps.l0 k x0 x1 0)
def spec_validSteps.l0 : Nat → List (S61) → Int → Int → Option (Bool)
  | 0, _, _, _ => none
  | k + 1, x0, x1, x5 => if x5 < (x0.length : Int) then (if 0 ≤ x5 then (if ((rd_T61 x0 x5).f0) = 2 then (spec_validSteps.j2 k x0 x1 x5 true ((rd_T61 x0 x5).f0) ((rd_T61 x0 x5).f1) ((rd_T61 x0 x5).f2) ((rd_T61 x0 x5).f3)) else (if ((rd_T61 x0 x5).f0) = 3 then (spec_validSteps.j2 k x0 x1 x5 true ((rd_T61 x0 x5).f0) ((rd_T61 x0 x5).f1) ((rd_T61 x0 x5).f2) ((rd_T61 x0 x5).f3)) else (spec_validSteps.j2 k x0 x1 x5 (((rd_T61 x0 x5).f0) == 4) ((rd_T61 x0 x5).f0) ((rd_T61 x0 x5).f1) ((rd_T61 x0 x5).f2) ((rd_T61 x0 x5).f3)))) else (none)) else (some (decide ((x0.length : Int) ≤ 6)))
def spec_validSteps.j2 : Nat → List (S61) → Int → Int → Bool → Int → Int → List (S61) → List (S61) → Option (Bool)
  | 0, _, _, _, _, _, _, _, _ => none
  | k + 1, x0, x1, x5, x7, x103000, x103001, x103002, x103003 => if x103000 = 2 then (spec_validSteps.j3 k x0 x1 x5 x7 true x103000 x103001 x103002 x103003) else (spec_validSteps.j3 k x0 x1 x5 x7 (x103000 == 3) x103000 x103001 x103002 x103003)
def spec_validSteps.j3 : Nat → List (S61) → Int → Int → Bool → Bool → Int → Int → List (S61) → List (S61) → Option (Bool)
  | 0, _, _, _, _, _, _, _, _, _ => none
  | k + 1, x0, x1, x5, x7, x8, x103000, x103001, x103002, x103003 => (spec_inRange.f x103000 1 5).bind fun t103 => (if t103 = true then (if x7 = true then (if x8 = true then (spec_validSteps.j4 k x0 x1 x5 (x103001 != 0) x103000 x103001 x103002 x103003) else (if (x103003.length : Int) > 0 then (spec_validSteps.j4 k x0 x1 x5 true x103000 x103001 x103002 x103003) else (spec_validSteps.j4 k x0 x1 x5 false x103000 x103001 x103002 x103003))) else (if (x103002.length : Int) > 0 then (spec_validSteps.j4 k x0 x1 x5 true x103000 x103001 x103002 x103003) else (if x8 = true then (spec_validSteps.j4 k x0 x1 x5 (x103001 != 0) x103000 x103001 x103002 x103003) else (if (x103003.length : Int) > 0 then (spec_validSteps.j4 k x0 x1 x5 true x103000 x103001 x103002 x103003) else (spec_validSteps.j4 k x0 x1 x5 false x103000 x103001 x103002 x103003))))) else (spec_validSteps.j4 k x0 x1 x5 true x103000 x103001 x103002 x103003))
def spec_validSteps.j4 : Nat → List (S61) → Int → Int → Bool → Int → Int → List (S61) → List (S61) → Option (Bool)
  | 0, _, _, _, _, _, _, _, _ => none
  | k + 1, x0, x1, x5, x80, x103000, x103001, x103002, x103003 => if x80 = true then (some false) else (if x103000 = 1 then (spec_validSteps.j5 k x0 x1 x5 (-1) 1000000 x103000 x103001 x103002 x103003) else (spec_validSteps.j5 k x0 x1 x5 0 1000000 x103000 x103001 x103002 x103003))
def spec_validSteps.j5 : Nat → List (S61) → Int → Int → Int → Int → Int → Int → List (S61) → List (S61) → Option (Bool)
  | 0, _, _, _, _, _, _, _, _, _ => none
  | k + 1, x0, x1, x5, x9, x10, x103000, x103001, x103002, x103003 => if x103000 = 4 then (spec_validSteps.j6 k x0 x1 x5 x9 6 x103000 x103001 x103002 x103003) else (spec_validSteps.j6 k x0 x1 x5 x9 x10 x103000 x103001 x103002 x103003)
def spec_validSteps.j6 : Nat → List (S61) → Int → Int → Int → Int → Int → Int → List (S61) → List (S61) → Option (Bool)
  | 0, _, _, _, _, _, _, _, _, _ => none
  | k + 1, x0, x1, x5, x9, x10, x103000, x103001, x103002, x103003 => (spec_inRange.f x103001 x9 x10).bind fun t104 => (if t104 = true then ((spec_validSteps.f k x103002 (wrap64 (x1 - 1))).bind fun t105 => (if t105 = true then ((spec_validSteps.f k x103003 (wrap64 (x1 - 1))).bind fun t106 => (if t106 = true then (spec_validSteps.l0 k x0 x1 (wrap64 (x5 + 1))) else (some false))) else (some false))) else (some false))
def spec_validSteps.f : Nat → List (S61) → Int → Option (Bool)
  | 0, _, _ => none
  | k + 1, l0, a1 => if a1 < 1 then (spec_validSteps.j0 k l0 a1 (decide ((l0.length : Int) > 0))) else (spec_validSteps.j0 k l0 a1 false)
end
set_option maxRecDepth 100000 in
theorem spec_validSteps.mono_l : ∀ k, (∀ y0 y1, LeO (spec_validSteps.f k y0 y1) (spec_validSteps.f (k + 1) y0 y1)) ∧ (∀ y0 y1 y2, LeO (spec_validSteps.j0 k y0 y1 y2) (spec_validSteps.j0 (k + 1) y0 y1 y2)) ∧ (∀ y0 y1 y2, LeO (spec_validSteps.l0 k y0 y1 y2) (spec_validSteps.l0 (k + 1) y0 y1 y2)) ∧ (∀ y0 y1 y2 y3 y4 y5 y6 y7, LeO (spec_validSteps.j2 k y0 y1 y2 y3 y4 y5 y6 y7) (spec_validSteps.j2 (k + 1) y0 y1 y2 y3 y4 y5 y6 y7)) ∧ (∀ y0 y1 y2 y3 y4 y5 y6 y7 y8, LeO (spec_validSteps.j3 k y0 y1 y2 y3 y4 y5 y6 y7 y8) (spec_validSteps.j3 (k + 1) y0 y1 y2 y3 y4 y5 y6 y7 y8)) ∧ (∀ y0 y1 y2 y3 y4 y5 y6 y7, LeO (spec_validSteps.j4 k y0 y1 y2 y3 y4 y5 y6 y7) (spec_validSteps.j4 (k + 1) y0 y1 y2 y3 y4 y5 y6 y7)) ∧ (∀ y0 y1 y2 y3 y4 y5 y6 y7 y8, LeO (spec_validSteps.j5 k y0 y1 y2 y3 y4 y5 y6 y7 y8) (spec_validSteps.j5 (k + 1) y0 y1 y2 y3 y4 y5 y6 y7 y8)) ∧ (∀ y0 y1 y2 y3 y4 y5 y6 y7 y8, LeO (spec_validSteps.j6 k y0 y1 y2 y3 y4 y5 y6 y7 y8) (spec_validSteps.j6 (k + 1) y0 y1 y2 y3 y4 y5 y6 y7 y8))
  | 0 => ⟨fun _ _ r h => by simp [spec_validSteps.f] at h, fun _ _ _ r h => by simp [spec_validSteps.j0] at h, fun _ _ _ r h => by simp [spec_validSteps.l0] at h, fun _ _ _ _ _ _ _ _ r h => by simp [spec_validSteps.j2] at h, fun _ _ _ _ _ _ _ _ _ r h => by simp [spec_validSteps.j3] at h, fun _ _ _ _ _ _ _ _ r h => by simp [spec_validSteps.j4] at h, fun _ _ _ _ _ _ _ _ _ r h => by simp [spec_validSteps.j5] at h, fun _ _ _ _ _ _ _ _ _ r h => by simp [spec_validSteps.j6] at h⟩
  | k + 1 => by
    obtain ⟨ih0, ih1, ih2, ih3, ih4, ih5, ih6, ih7⟩ := spec_validSteps.mono_l k
    refine ⟨?_, ?_, ?_, ?_, ?_, ?_, ?_, ?_⟩
    · intro y0 y1
      unfold spec_validSteps.f
      repeat' first
      | (with_reducible exact ih0 _ _)
      | (with_reducible exact ih1 _ _ _)
      | (with_reducible exact ih2 _ _ _)
      | (with_reducible exact ih3 _ _ _ _ _ _ _ _)
      | (with_reducible exact ih4 _ _ _ _ _ _ _ _ _)
      | (with_reducible exact ih5 _ _ _ _ _ _ _ _)
      | (with_reducible exact ih6 _ _ _ _ _ _ _ _ _)
      | (with_reducible exact ih7 _ _ _ _ _ _ _ _ _)
      | (with_reducible exact LeO.refl _)
      | (with_reducible exact LeO.none _)
      | (with_reducible refine LeO.ite ?_ ?_)
      | (with_reducible refine LeO.bind ?_ (fun _ => ?_))
      | exact ih0 _ _
      | exact ih1 _ _ _
      | exact ih2 _ _ _
      | exact ih3 _ _ _ _ _ _ _ _
      | exact ih4 _ _ _ _ _ _ _ _ _
      | exact ih5 _ _ _ _ _ _ _ _
      | exact ih6 _ _ _ _ _ _ _ _ _
      | exact ih7 _ _ _ _ _ _ _ _ _
      | exact LeO.none _
      | refine LeO.ite ?_ ?_
      | refine LeO.bind ?_ (fun _ => ?_)
    · intro y0 y1 y2
      unfold spec_validSteps.j0
      repeat' first
      | (with_reducible exact ih0 _ _)
      | (with_reducible exact ih1 _ _ _)
      | (with_reducible exact ih2 _ _ _)
      | (with_reducible exact ih3 _ _ _ _ _ _ _ _)
      | (with_reducible exact ih4 _ _ _ _ _ _ _ _ _)
      | (with_reducible exact ih5 _ _ _ _ _ _ _ _)
      | (with_reducible exact ih6 _ _ _ _ _ _ _ _ _)
      | (with_reducible exact ih7 _ _ _ _ _ _ _ _ _)
      | (with_reducible exact LeO.refl _)
      | (with_reducible exact LeO.none _)
      | (with_reducible refine LeO.ite ?_ ?_)
      | (with_reducible refine LeO.bind ?_ (fun _ => ?_))
      | exact ih0 _ _
      | exact ih1 _ _ _
      | exact ih2 _ _ _
      | exact ih3 _ _ _ _ _ _ _ _
      | exact ih4 _ _ _ _ _ _ _ _ _
      | exact ih5 _ _ _ _ _ _ _ _
      | exact ih6 _ _ _ _ _ _ _ _ _
      | exact ih7 _ _ _ _ _ _ _ _ _
      | exact LeO.none _
      | refine LeO.ite ?_ ?_
      | refine LeO.bind ?_ (fun _ => ?_)
    · intro y0 y1 y2
      unfold spec_validSteps.l0
      repeat' first
      | (with_reducible exact ih0 _ _)
      | (with_reducible exact ih1 _ _ _)
      | (with_reducible exact ih2 _ _ _)
      | (with_reducible exact ih3 _ _ _ _ _ _ _ _)
      | (with_reducible exact ih4 _ _ _ _ _ _ _ _ _)
      | (with_reducible exact ih5 _ _ _ _ _ _ _ _)
      | (with_reducible exact ih6 _ _ _ _ _ _ _ _ _)
      | (with_reducible exact ih7 _ _ _ _ _ _ _ _ _)
      | (with_reducible exact LeO.refl _)
      | (with_reducible exact LeO.none _)
      | (with_reducible refine LeO.ite ?_ ?_)
      | (with_reducible refine LeO.bind ?_ (fun _ => ?_))
      | exact ih0 _ _
      | exact ih1 _ _ _
      | exact ih2 _ _ _
      | exact ih3 _ _ _ _ _ _ _ _
      | exact ih4 _ _ _ _ _ _ _ _ _
      | exact ih5 _ _ _ _ _ _ _ _
      | exact ih6 _ _ _ _ _ _ _ _ _
      | exact ih7 _ _ _ _ _ _ _ _ _
      | exact LeO.none _
      | refine LeO.ite ?_ ?_
      | refine LeO.bind ?_ (fun _ => ?_)
    · intro y0 y1 y2 y3 y4 y5 y6 y7
      unfold spec_validSteps.j2
      repeat' first
      | (with_reducible exact ih0 _ _)
      | (with_reducible exact ih1 _ _ _)
      | (with_reducible exact ih2 _ _ _)
      | (with_reducible exact ih3 _ _ _ _ _ _ _ _)
      | (with_reducible exact ih4 _ _ _ _ _ _ _ _ _)
      | (with_reducible exact ih5 _ _ _ _ _ _ _ _)
      | (with_reducible exact ih6 _ _ _ _ _ _ _ _ _)
      | (with_reducible exact ih7 _ _ _ _ _ _ _ _ _)
      | (with_reducible exact LeO.refl _)
      | (with_reducible exact LeO.none _)
      | (with_reducible refine LeO.ite ?_ ?_)
      | (with_reducible refine LeO.bind ?_ (fun _ => ?_))
      | exact ih0 _ _
      | exact ih1 _ _ _
      | exact ih2 _ _ _
      | exact ih3 _ _ _ _ _ _ _ _
      | exact ih4 _ _ _ _ _ _ _ _ _
      | exact ih5 _ _ _ _ _ _ _ _
      | exact ih6 _ _ _ _ _ _ _ _ _
      | exact ih7 _ _ _ _ _ _ _ _ _
      | exact LeO.none _
      | refine LeO.ite ?_ ?_
      | refine LeO.bind ?_ (fun _ => ?_)
    · intro y0 y1 y2 y3 y4 y5 y6 y7 y8
      unfold spec_validSteps.j3
      repeat' first
      | (with_reducible exact ih0 _ _)
      | (with_reducible exact ih1 _ _ _)
      | (with_reducible exact ih2 _ _ _)
      | (with_reducible exact ih3 _ _ _ _ _ _ _ _)
      | (with_reducible exact ih4 _ _ _ _ _ _ _ _ _)
      | (with_reducible exact ih5 _ _ _ _ _ _ _ _)
      | (with_reducible exact ih6 _ _ _ _ _ _ _ _ _)
      | (with_reducible exact ih7 _ _ _ _ _ _ _ _ _)
      | (with_reducible exact LeO.refl _)
      | (with_reducible exact LeO.none _)
      | (with_reducible refine LeO.ite ?_ ?_)
      | (with_reducible refine LeO.bind ?_ (fun _ => ?_))
      | exact ih0 _ _
      | exact ih1 _ _ _
      | exact ih2 _ _ _
      | exact ih3 _ _ _ _ _ _ _ _
      | exact ih4 _ _ _ _ _ _ _ _ _
      | exact ih5 _ _ _ _ _ _ _ _
      | exact ih6 _ _ _ _ _ _ _ _ _
      | exact ih7 _ _ _ _ _ _ _ _ _
      | exact LeO.none _
      | refine LeO.ite ?_ ?_
      | refine LeO.bind ?_ (fun _ => ?_)
    · intro y0 y1 y2 y3 y4 y5 y6 y7
      unfold spec_validSteps.j4
      repeat' first
      | (with_reducible exact ih0 _ _)
      | (with_reducible exact ih1 _ _ _)
      | (with_reducible exact ih2 _ _ _)
      | (with_reducible exact ih3 _ _ _ _ _ _ _ _)
      | (with_reducible exact ih4 _ _ _ _ _ _ _ _ _)
      | (with_reducible exact ih5 _ _ _ _ _ _ _ _)
      | (with_reducible exact ih6 _ _ _ _ _ _ _ _ _)
      | (with_reducible exact ih7 _ _ _ _ _ _ _ _ _)
      | (with_reducible exact LeO.refl _)
      | (with_reducible exact LeO.none _)
      | (with_reducible refine LeO.ite ?_ ?_)
      | (with_reducible refine LeO.bind ?_ (fun _ => ?_))
      | exact ih0 _ _
      | exact ih1 _ _ _
      | exact ih2 _ _ _
      | exact ih3 _ _ _ _ _ _ _ _
      | exact ih4 _ _ _ _ _ _ _ _ _
      | exact ih5 _ _ _ _ _ _ _ _
      | exact ih6 _ _ _ _ _ _ _ _ _
      | exact ih7 _ _ _ _ _ _ _ _ _
      | exact LeO.none _
      | refine LeO.ite ?_ ?_
      | refine LeO.bind ?_ (fun _ => ?_)
    · intro y0 y1 y2 y3 y4 y5 y6 y7 y8
      unfold spec_validSteps.j5
      repeat' first
      | (with_reducible exact ih0 _ _)
      | (with_reducible exact ih1 _ _ _)
      | (with_reducible exact ih2 _ _ _)
      | (with_reducible exact ih3 _ _ _ _ _ _ _ _)
      | (with_reducible exact ih4 _ _ _ _ _ _ _ _ _)
      | (with_reducible exact ih5 _ _ _ _ _ _ _ _)
      | (with_reducible exact ih6 _ _ _ _ _ _ _ _ _)
      | (with_reducible exact ih7 _ _ _ _ _ _ _ _ _)
      | (with_reducible exact LeO.refl _)
      | (with_reducible exact LeO.none _)
      | (with_reducible refine LeO.ite ?_ ?_)
      | (with_reducible refine LeO.bind ?_ (fun _ => ?_))
      | exact ih0 _ _
      | exact ih1 _ _ _
      | exact ih2 _ _ _
      | exact ih3 _ _ _ _ _ _ _ _
      | exact ih4 _ _ _ _ _ _ _ _ _
      | exact ih5 _ _ _ _ _ _ _ _
      | exact ih6 _ _ _ _ _ _ _ _ _
      | exact ih7 _ _ _ _ _ _ _ _ _
      | exact LeO.none _
      | refine LeO.ite ?_ ?_
      | refine LeO.bind ?_ (fun _ => ?_)
    · intro y0 y1 y2 y3 y4 y5 y6 y7 y8
      unfold spec_validSteps.j6
      repeat' first
      | (with_reducible exact ih0 _ _)
      | (with_reducible exact ih1 _ _ _)
      | (with_reducible exact ih2 _ _ _)
      | (with_reducible exact ih3 _ _ _ _ _ _ _ _)
      | (with_reducible exact ih4 _ _ _ _ _ _ _ _ _)
      | (with_reducible exact ih5 _ _ _ _ _ _ _ _)
      | (with_reducible exact ih6 _ _ _ _ _ _ _ _ _)
      | (with_reducible exact ih7 _ _ _ _ _ _ _ _ _)
      | (with_reducible exact LeO.refl _)
      | (with_reducible exact LeO.none _)
      | (with_reducible refine LeO.ite ?_ ?_)
      | (with_reducible refine LeO.bind ?_ (fun _ => ?_))
      | exact ih0 _ _
      | exact ih1 _ _ _
      | exact ih2 _ _ _
      | exact ih3 _ _ _ _ _ _ _ _
      | exact ih4 _ _ _ _ _ _ _ _ _
      | exact ih5 _ _ _ _ _ _ _ _
      | exact ih6 _ _ _ _ _ _ _ _ _
      | exact ih7 _ _ _ _ _ _ _ _ _
      | exact LeO.none _
      | refine LeO.ite ?_ ?_
      | refine LeO.bind ?_ (fun _ => ?_)
set_option maxRecDepth 100000 in
theorem spec_validSteps.mono : ∀ a0 a1 k, LeO (spec_validSteps.f k a0 a1) (spec_validSteps.f (k + 1) a0 a1) := by
  intro a0 a1 k
  obtain ⟨ih0, ih1, ih2, ih3, ih4, ih5, ih6, ih7⟩ := spec_validSteps.mono_l k
  exact ih0 a0 a1
set_option maxHeartbeats 8000000 in
set_option maxRecDepth 100000 in
theorem spec_validSteps.calls (k : Nat) : ∀ (A0 : Option Addr) (c0 : Nat) (l0 : List (S61)) (a1 : Int) (r : Bool) (w : World) (hr0 : Kd.C k61 w A0 l0.length l0) (hc0 : l0.length ≤ c0) (h : spec_validSteps.f k l0 a1 = some r),
    Calls Try.prog 50 #[.slice A0 l0.length c0, .int .i64 a1] w fun e w' => e = .returned (.bool r) ∧ Below w.heap.size w w' := by
  induction k using Nat.strongRecOn with
  | _ k ih =>
  intro A0 c0 l0 a1 r w hr0 hc0 h
  cases k with
  | zero => exact absurd h (by simp [spec_validSteps.f])
  | succ k =>
  simp only [spec_validSteps.f] at h
  have hu61 := Try.underlying61
  have HR0 := Aside0.mk hr0
  have HC0 := Aside0.mk hc0
  clear hr0 hc0
  have HB := Aside0.mk (Below.refl w.heap.size w)
  have H : (if a1 < 1 then (spec_validSteps.j0 k l0 a1 (decide ((l0.length : Int) > 0))) else (spec_validSteps.j0 k l0 a1 false)) = some r := h
  clear h
  have HC3 := Aside0.mk H
  clear H
  go_enter Try.func50, Try.ntmps50
  go_upto_region 1 with (fail)
  go_cut [17] (fun v17 wc => ∃ (kq : Nat) (x17_2 : Bool), v17 = .bool x17_2 ∧ Aside0 (spec_validSteps.j0 kq l0 a1 x17_2 = some r) ∧ Aside0 (kq ≤ k) ∧ Aside0 (Below w.heap.size w wc))
  case first =>
    have H := HC3.out
    clear HC3
    by_cases c4 : a1 < 1
    · rw [if_pos c4] at H
      have c4b0 : decide (a1 < 1) = true := decide_eq_true c4
      clear c4
      (first | rw [c4b0] | (simp only [i64_w, i32_w]; rw [c4b0]) | skip)
      have H' := Aside0.mk H
      clear H
      go_wp2
      go_meet
      case rel => exact ⟨_, (decide ((l0.length : Int) > 0)), (by first | rfl | (simp; done) | (simp [*]; done)), H', ⟨by first | omega | exact Nat.le_refl _⟩, ⟨by repeat (first | (with_reducible first | exact HB.out | apply below_alloc | apply pw_below_drewN | apply below_drew1) | exact HB.out)⟩⟩
    · rw [if_neg c4] at H
      have c4b0 : decide (a1 < 1) = false := decide_eq_false c4
      clear c4
      (first | rw [c4b0] | (simp only [i64_w, i32_w]; rw [c4b0]) | skip)
      have H' := Aside0.mk H
      clear H
      go_wp2
      go_meet
      case rel => exact ⟨_, (false), (by first | rfl | (simp; done) | (simp [*]; done)), H', ⟨by first | omega | exact Nat.le_refl _⟩, ⟨by repeat (first | (with_reducible first | exact HB.out | apply below_alloc | apply pw_below_drewN | apply below_drew1) | exact HB.out)⟩⟩
  case rest =>
    clear HC3
    try clear p2
    try clear c4
    try clear c4b0
    obtain ⟨kq, x17_2, rfl, HA, HJ2, HB⟩ := hcut
    cases kq with
    | zero => exact absurd HA.out (by simp [spec_validSteps.j0])
    | succ kj2 =>
      have H := HA.out
      clear HA
      simp only [spec_validSteps.j0] at H
      by_cases c5 : x17_2 = true
      · subst c5
        have H1 : (some false) = some r := by rw [if_pos rfl] at H; exact H
        clear H
        have H := H1
        clear H1
        obtain rfl := Option.some.inj H
        go_wp2
        go_ret
        exact ⟨by first | rfl | (simp [errW_none, errW_some] <;> rfl) | (simp [*, errW_none, errW_some] <;> rfl), by repeat (first | (with_reducible first | exact HB.out | apply below_alloc | apply pw_below_drewN | apply below_drew1) | exact HB.out)⟩
      · replace c5 := Bool.eq_false_iff.mpr c5
        subst c5
        have H1 : (spec_validSteps.l0 kj2 l0 a1 0) = some r := by rw [if_neg (show ¬ (false = true) by decide)] at H; exact H
        clear H
        have H := H1
        clear H1
        have H' := Aside0.mk H
        clear H
        go_wp2
        go_loopg [5] kj2 (fun kq v5 w' => ∃ (x5_2 : Int), v5 = .int .i64 x5_2 ∧ Aside0 (spec_validSteps.l0 kq l0 a1 x5_2 = some r) ∧ Aside0 (kq ≤ kj2) ∧ Aside0 (Below w.heap.size w w'))
        case atStart => exact ⟨(0), (by first | rfl | (simp; done) | (simp [*]; done)), H', ⟨Nat.le_refl _⟩, ⟨by repeat (first | (with_reducible first | exact HB.out | apply below_alloc | apply pw_below_drewN | apply below_drew1) | exact HB.out)⟩⟩
        case round =>
          clear H'
          try clear p2
          try clear c4
          try clear c4b0
          try clear c5
          try clear p2
          obtain ⟨x5_2, rfl, HA, HK2, HB⟩ := hrel
          cases gk with
          | zero => exact absurd HA.out (by simp [spec_validSteps.l0])
          | succ k2 =>
            have H := HA.out
            clear HA
            simp only [spec_validSteps.l0] at H
            by_cases c6 : x5_2 < (l0.length : Int)
            · rw [if_pos c6] at H
              have c6b0 : decide (x5_2 < (l0.length : Int)) = true := decide_eq_true c6
              clear c6
              by_cases c7 : 0 ≤ x5_2
              · rw [if_pos c7] at H
                have c7b0 : decide (0 ≤ x5_2) = true := decide_eq_true c7
                clear c7
                have HC8 := Aside0.mk H
                clear H
                have p101 : 0 ≤ (x5_2 : Int) := of_decide_eq_true (by first | (with_reducible assumption) | assumption)
                have q101 : x5_2 < (l0.length : Int) := of_decide_eq_true (by first | (with_reducible assumption) | assumption)
                obtain ⟨ad101, A101_2, c101_2, A101_3, c101_3, e101, hx101_0, hx101_1, hx101_2, hx101_3, hl101_2, hi101_2, hl101_3, hi101_3⟩ := at_T61 HR0.out x5_2 p101 q101
                cases e101
                replace hx101_0 := (HB.out.cell (World.block_lt_of_cell? w _ hx101_0)).trans hx101_0
                replace hx101_1 := (HB.out.cell (World.block_lt_of_cell? w _ hx101_1)).trans hx101_1
                replace hx101_2 := (HB.out.cell (World.block_lt_of_cell? w _ hx101_2)).trans hx101_2
                replace hx101_3 := (HB.out.cell (World.block_lt_of_cell? w _ hx101_3)).trans hx101_3
                have HR101_2 := Aside0.mk hi101_2
                have HC101_2 := Aside0.mk hl101_2
                clear hi101_2 hl101_2
                have HR101_3 := Aside0.mk hi101_3
                have HC101_3 := Aside0.mk hl101_3
                clear hi101_3 hl101_3
                replace p101 := eq_true p101
                replace q101 := eq_true q101
                go_upto_region 7 with (first | ((with_reducible refine gate_dst (N := 6) rfl ?_); (try (refine gate_guard (by rfl) ?_; dsimp only)); refine box_event ?hg (N := 6) ?hd (cs := #[.int .i64 0, .int .i64 0, .slice none 0 0, .slice none 0 0]) (t := 61) ?hr ?_; (case hd => rfl); (case hg => rfl); (case hr => first | (go_simp; done) | (go_simp; rfl)); intro gb102 hg w9 hbox hb; have n0_ := Aside0.mk (below_step (by repeat (first | (with_reducible first | exact HB.out | apply below_alloc | apply pw_below_drewN | apply below_drew1) | exact HB.out)) hb); have n1_ := Aside0.mk (hbox); have n2_ := Aside0.mk ((by rw [hg]; exact (below_size (by repeat (first | (with_reducible first | exact HB.out | apply below_alloc | apply pw_below_drewN | apply below_drew1) | exact HB.out))) : w.heap.size ≤ gb102)); have n3_ := Aside0.mk ((by rw [hg]; exact (below_size (by repeat (first | (with_reducible first | exact HB.out | apply below_alloc | apply pw_below_drewN | apply below_drew1) | exact HB.out))) : w.heap.size ≤ gb102)); clear HB; have HB := n0_; have BK102 := n1_; have GW102 := n2_; have GE102 := n3_; clear n0_ n1_ n2_ n3_; clear hb hbox hg; have hcz10_0 : w9.cell? ⟨gb102, 0, none⟩ = some (.int .i64 0) := (blk_cell BK102.out 0).trans rfl; have hcz10_1 : w9.cell? ⟨gb102, 1, none⟩ = some (.int .i64 0) := (blk_cell BK102.out 1).trans rfl; have hcz10_2 : w9.cell? ⟨gb102, 2, none⟩ = some (.slice none 0 0) := (blk_cell BK102.out 2).trans rfl; have hcz10_3 : w9.cell? ⟨gb102, 3, none⟩ = some (.slice none 0 0) := (blk_cell BK102.out 3).trans rfl; have hfz10_0 := blk_frozen BK102.out 0; have hfz10_1 := blk_frozen BK102.out 1; have hfz10_2 := blk_frozen BK102.out 2; have hfz10_3 := blk_frozen BK102.out 3))
                (try simp only [Act.put, List.setIfInBounds_toArray, List.set_cons_zero, List.set_cons_succ])
                go_cut [7] (fun v7 wc => ∃ (kq : Nat) (x7_7 : Bool), v7 = .bool x7_7 ∧ Aside0 (spec_validSteps.j2 kq l0 a1 x5_2 x7_7 ((rd_T61 l0 x5_2).f0) ((rd_T61 l0 x5_2).f1) ((rd_T61 l0 x5_2).f2) ((rd_T61 l0 x5_2).f3) = some r) ∧ Aside0 (kq ≤ k2) ∧ Aside0 (wc.heap[gb102]? = some (.cells #[.int .i64 ((rd_T61 l0 x5_2).f0), .int .i64 ((rd_T61 l0 x5_2).f1), (.slice A101_2 ((rd_T61 l0 x5_2).f2).length c101_2), (.slice A101_3 ((rd_T61 l0 x5_2).f3).length c101_3)] 61 (0, 0))) ∧ Aside0 (Below w.heap.size w wc))
                case first =>
                  have H := HC8.out
                  clear HC8
                  by_cases c11 : ((rd_T61 l0 x5_2).f0) = 2
                  · rw [if_pos c11] at H
                    have c11b0 : (((rd_T61 l0 x5_2).f0) == 2) = true := beq_iff_eq.mpr c11
                    have c11b1 : (((rd_T61 l0 x5_2).f0) != 2) = false := bne_eq_false_iff_eq.mpr c11
                    clear c11
                    (first | rw [c11b0] | (simp only [i64_w, i32_w]; rw [c11b0]) | skip)
                    have H' := Aside0.mk H
                    clear H
                    have hcz12_0 : w9.cell? ⟨gb102, 0, none⟩ = some (.int .i64 0) := (blk_cell BK102.out 0).trans rfl
                    have hcz12_1 : w9.cell? ⟨gb102, 1, none⟩ = some (.int .i64 0) := (blk_cell BK102.out 1).trans rfl
                    have hcz12_2 : w9.cell? ⟨gb102, 2, none⟩ = some (.slice none 0 0) := (blk_cell BK102.out 2).trans rfl
                    have hcz12_3 : w9.cell? ⟨gb102, 3, none⟩ = some (.slice none 0 0) := (blk_cell BK102.out 3).trans rfl
                    have hfz12_0 := blk_frozen BK102.out 0
                    have hfz12_1 := blk_frozen BK102.out 1
                    have hfz12_2 := blk_frozen BK102.out 2
                    have hfz12_3 := blk_frozen BK102.out 3
                    go_wp2
                    go_meet
                    case rel => exact ⟨_, (true), (by first | rfl | (simp; done) | (simp [*]; done)), H', ⟨by have := HJ2.out; have := HK2.out; first | omega | exact Nat.le_refl _⟩, ⟨by (with_reducible repeat (first | refine blk_drewN ?_ _ | refine blk_drew ?_ | refine blk_alloc ?_ _)); refine blk_put (cs := #[.int .i64 ((rd_T61 l0 x5_2).f0), .int .i64 ((rd_T61 l0 x5_2).f1), .slice A101_2 ((rd_T61 l0 x5_2).f2).length c101_2, .slice none 0 0]) ?_ 3 _ rfl; (with_reducible repeat (first | refine blk_drewN ?_ _ | refine blk_drew ?_ | refine blk_alloc ?_ _)); refine blk_put (cs := #[.int .i64 ((rd_T61 l0 x5_2).f0), .int .i64 ((rd_T61 l0 x5_2).f1), .slice none 0 0, .slice none 0 0]) ?_ 2 _ rfl; (with_reducible repeat (first | refine blk_drewN ?_ _ | refine blk_drew ?_ | refine blk_alloc ?_ _)); refine blk_put (cs := #[.int .i64 ((rd_T61 l0 x5_2).f0), .int .i64 0, .slice none 0 0, .slice none 0 0]) ?_ 1 _ rfl; (with_reducible repeat (first | refine blk_drewN ?_ _ | refine blk_drew ?_ | refine blk_alloc ?_ _)); refine blk_put (cs := #[.int .i64 0, .int .i64 0, .slice none 0 0, .slice none 0 0]) ?_ 0 _ rfl; (with_reducible repeat (first | refine blk_drewN ?_ _ | refine blk_drew ?_ | refine blk_alloc ?_ _)); exact BK102.out⟩, ⟨by repeat (first | (with_reducible first | exact HB.out | apply below_alloc | apply pw_below_drewN | apply below_drew1 | refine below_set ?_ GE102.out) | exact HB.out)⟩⟩
                  · rw [if_neg c11] at H
                    have c11b0 : (((rd_T61 l0 x5_2).f0) == 2) = false := beq_eq_false_iff_ne.mpr c11
                    have c11b1 : (((rd_T61 l0 x5_2).f0) != 2) = true := bne_iff_ne.mpr c11
                    (first | rw [c11b0] | (simp only [i64_w, i32_w]; rw [c11b0]) | skip)
                    by_cases c13 : ((rd_T61 l0 x5_2).f0) = 3
                    · rw [if_pos c13] at H
                      have c13b0 : (((rd_T61 l0 x5_2).f0) == 3) = true := beq_iff_eq.mpr c13
                      have c13b1 : (((rd_T61 l0 x5_2).f0) != 3) = false := bne_eq_false_iff_eq.mpr c13
                      clear c13
                      have H' := Aside0.mk H
                      clear H
                      have hcz14_0 : w9.cell? ⟨gb102, 0, none⟩ = some (.int .i64 0) := (blk_cell BK102.out 0).trans rfl
                      have hcz14_1 : w9.cell? ⟨gb102, 1, none⟩ = some (.int .i64 0) := (blk_cell BK102.out 1).trans rfl
                      have hcz14_2 : w9.cell? ⟨gb102, 2, none⟩ = some (.slice none 0 0) := (blk_cell BK102.out 2).trans rfl
                      have hcz14_3 : w9.cell? ⟨gb102, 3, none⟩ = some (.slice none 0 0) := (blk_cell BK102.out 3).trans rfl
                      have hfz14_0 := blk_frozen BK102.out 0
                      have hfz14_1 := blk_frozen BK102.out 1
                      have hfz14_2 := blk_frozen BK102.out 2
                      have hfz14_3 := blk_frozen BK102.out 3
                      go_wp2
                      go_meet
                      case rel => exact ⟨_, (true), (by first | rfl | (simp; done) | (simp [*]; done)), H', ⟨by have := HJ2.out; have := HK2.out; first | omega | exact Nat.le_refl _⟩, ⟨by (with_reducible repeat (first | refine blk_drewN ?_ _ | refine blk_drew ?_ | refine blk_alloc ?_ _)); refine blk_put (cs := #[.int .i64 ((rd_T61 l0 x5_2).f0), .int .i64 ((rd_T61 l0 x5_2).f1), .slice A101_2 ((rd_T61 l0 x5_2).f2).length c101_2, .slice none 0 0]) ?_ 3 _ rfl; (with_reducible repeat (first | refine blk_drewN ?_ _ | refine blk_drew ?_ | refine blk_alloc ?_ _)); refine blk_put (cs := #[.int .i64 ((rd_T61 l0 x5_2).f0), .int .i64 ((rd_T61 l0 x5_2).f1), .slice none 0 0, .slice none 0 0]) ?_ 2 _ rfl; (with_reducible repeat (first | refine blk_drewN ?_ _ | refine blk_drew ?_ | refine blk_alloc ?_ _)); refine blk_put (cs := #[.int .i64 ((rd_T61 l0 x5_2).f0), .int .i64 0, .slice none 0 0, .slice none 0 0]) ?_ 1 _ rfl; (with_reducible repeat (first | refine blk_drewN ?_ _ | refine blk_drew ?_ | refine blk_alloc ?_ _)); refine blk_put (cs := #[.int .i64 0, .int .i64 0, .slice none 0 0, .slice none 0 0]) ?_ 0 _ rfl; (with_reducible repeat (first | refine blk_drewN ?_ _ | refine blk_drew ?_ | refine blk_alloc ?_ _)); exact BK102.out⟩, ⟨by repeat (first | (with_reducible first | exact HB.out | apply below_alloc | apply pw_below_drewN | apply below_drew1 | refine below_set ?_ GE102.out) | exact HB.out)⟩⟩
                    · rw [if_neg c13] at H
                      have c13b0 : (((rd_T61 l0 x5_2).f0) == 3) = false := beq_eq_false_iff_ne.mpr c13
                      have c13b1 : (((rd_T61 l0 x5_2).f0) != 3) = true := bne_iff_ne.mpr c13
                      have H' := Aside0.mk H
                      clear H
                      have hcz15_0 : w9.cell? ⟨gb102, 0, none⟩ = some (.int .i64 0) := (blk_cell BK102.out 0).trans rfl
                      have hcz15_1 : w9.cell? ⟨gb102, 1, none⟩ = some (.int .i64 0) := (blk_cell BK102.out 1).trans rfl
                      have hcz15_2 : w9.cell? ⟨gb102, 2, none⟩ = some (.slice none 0 0) := (blk_cell BK102.out 2).trans rfl
                      have hcz15_3 : w9.cell? ⟨gb102, 3, none⟩ = some (.slice none 0 0) := (blk_cell BK102.out 3).trans rfl
                      have hfz15_0 := blk_frozen BK102.out 0
                      have hfz15_1 := blk_frozen BK102.out 1
                      have hfz15_2 := blk_frozen BK102.out 2
                      have hfz15_3 := blk_frozen BK102.out 3
                      go_wp2
                      go_meet
                      case rel => exact ⟨_, ((((rd_T61 l0 x5_2).f0) == 4)), (by first | rfl | (simp; done) | (simp [*]; done)), H', ⟨by have := HJ2.out; have := HK2.out; first | omega | exact Nat.le_refl _⟩, ⟨by (with_reducible repeat (first | refine blk_drewN ?_ _ | refine blk_drew ?_ | refine blk_alloc ?_ _)); refine blk_put (cs := #[.int .i64 ((rd_T61 l0 x5_2).f0), .int .i64 ((rd_T61 l0 x5_2).f1), .slice A101_2 ((rd_T61 l0 x5_2).f2).length c101_2, .slice none 0 0]) ?_ 3 _ rfl; (with_reducible repeat (first | refine blk_drewN ?_ _ | refine blk_drew ?_ | refine blk_alloc ?_ _)); refine blk_put (cs := #[.int .i64 ((rd_T61 l0 x5_2).f0), .int .i64 ((rd_T61 l0 x5_2).f1), .slice none 0 0, .slice none 0 0]) ?_ 2 _ rfl; (with_reducible repeat (first | refine blk_drewN ?_ _ | refine blk_drew ?_ | refine blk_alloc ?_ _)); refine blk_put (cs := #[.int .i64 ((rd_T61 l0 x5_2).f0), .int .i64 0, .slice none 0 0, .slice none 0 0]) ?_ 1 _ rfl; (with_reducible repeat (first | refine blk_drewN ?_ _ | refine blk_drew ?_ | refine blk_alloc ?_ _)); refine blk_put (cs := #[.int .i64 0, .int .i64 0, .slice none 0 0, .slice none 0 0]) ?_ 0 _ rfl; (with_reducible repeat (first | refine blk_drewN ?_ _ | refine blk_drew ?_ | refine blk_alloc ?_ _)); exact BK102.out⟩, ⟨by repeat (first | (with_reducible first | exact HB.out | apply below_alloc | apply pw_below_drewN | apply below_drew1 | refine below_set ?_ GE102.out) | exact HB.out)⟩⟩
                case rest =>
                  clear HC8
                  try clear c1
                  try clear p1
                  try clear q1
                  try clear hx1
                  try clear p2
                  try clear c4
                  try clear c4b0
                  try clear c5
                  try clear c6
                  try clear c6b0
                  try clear c7
                  try clear c7b0
                  try clear c10
                  try clear p10
                  try clear q10
                  try clear hx10
                  try clear c11
                  try clear c11b0
                  try clear c11b1
                  try clear c13
                  try clear c13b0
                  try clear c13b1
                  try clear hcz10_0
                  try clear hcz10_1
                  try clear hcz10_2
                  try clear hcz10_3
                  try clear hcz12_0
                  try clear hcz12_1
                  try clear hcz12_2
                  try clear hcz12_3
                  try clear hcz14_0
                  try clear hcz14_1
                  try clear hcz14_2
                  try clear hcz14_3
                  try clear hcz15_0
                  try clear hcz15_1
                  try clear hcz15_2
                  try clear hcz15_3
                  try clear hfz10_0
                  try clear hfz10_1
                  try clear hfz10_2
                  try clear hfz10_3
                  try clear hfz12_0
                  try clear hfz12_1
                  try clear hfz12_2
                  try clear hfz12_3
                  try clear hfz14_0
                  try clear hfz14_1
                  try clear hfz14_2
                  try clear hfz14_3
                  try clear hfz15_0
                  try clear hfz15_1
                  try clear hfz15_2
                  try clear hfz15_3
                  try clear hx101_0
                  try clear hx101_1
                  try clear hx101_2
                  try clear hx101_3
                  try clear p101
                  try clear p2
                  try clear q101
                  obtain ⟨kq, x7_7, rfl, HA, HJ7, BK102, HB⟩ := hcut
                  cases kq with
                  | zero => exact absurd HA.out (by simp [spec_validSteps.j2])
                  | succ kj7 =>
                    have H := HA.out
                    clear HA
                    simp only [spec_validSteps.j2] at H
                    have HC16 := Aside0.mk H
                    clear H
                    go_upto_region 8 with (fail)
                    go_cut [8] (fun v8 wc => ∃ (kq : Nat) (x8_15 : Bool), v8 = .bool x8_15 ∧ Aside0 (spec_validSteps.j3 kq l0 a1 x5_2 x7_7 x8_15 ((rd_T61 l0 x5_2).f0) ((rd_T61 l0 x5_2).f1) ((rd_T61 l0 x5_2).f2) ((rd_T61 l0 x5_2).f3) = some r) ∧ Aside0 (kq ≤ kj7) ∧ Aside0 (wc.heap[gb102]? = some (.cells #[.int .i64 ((rd_T61 l0 x5_2).f0), .int .i64 ((rd_T61 l0 x5_2).f1), (.slice A101_2 ((rd_T61 l0 x5_2).f2).length c101_2), (.slice A101_3 ((rd_T61 l0 x5_2).f3).length c101_3)] 61 (0, 0))) ∧ Aside0 (Below w.heap.size w wc))
                    case first =>
                      have H := HC16.out
                      clear HC16
                      by_cases c17 : ((rd_T61 l0 x5_2).f0) = 2
                      · rw [if_pos c17] at H
                        have c17b0 : (((rd_T61 l0 x5_2).f0) == 2) = true := beq_iff_eq.mpr c17
                        have c17b1 : (((rd_T61 l0 x5_2).f0) != 2) = false := bne_eq_false_iff_eq.mpr c17
                        clear c17
                        (first | rw [c17b0] | (simp only [i64_w, i32_w]; rw [c17b0]) | skip)
                        have H' := Aside0.mk H
                        clear H
                        have hcz18_0 : wc.cell? ⟨gb102, 0, none⟩ = some (.int .i64 ((rd_T61 l0 x5_2).f0)) := (blk_cell BK102.out 0).trans rfl
                        have hcz18_1 : wc.cell? ⟨gb102, 1, none⟩ = some (.int .i64 ((rd_T61 l0 x5_2).f1)) := (blk_cell BK102.out 1).trans rfl
                        have hcz18_2 : wc.cell? ⟨gb102, 2, none⟩ = some (.slice A101_2 ((rd_T61 l0 x5_2).f2).length c101_2) := (blk_cell BK102.out 2).trans rfl
                        have hcz18_3 : wc.cell? ⟨gb102, 3, none⟩ = some (.slice A101_3 ((rd_T61 l0 x5_2).f3).length c101_3) := (blk_cell BK102.out 3).trans rfl
                        have hfz18_0 := blk_frozen BK102.out 0
                        have hfz18_1 := blk_frozen BK102.out 1
                        have hfz18_2 := blk_frozen BK102.out 2
                        have hfz18_3 := blk_frozen BK102.out 3
                        go_wp2
                        go_meet
                        case rel => exact ⟨_, (true), (by first | rfl | (simp; done) | (simp [*]; done)), H', ⟨by have := HJ2.out; have := HK2.out; have := HJ7.out; first | omega | exact Nat.le_refl _⟩, ⟨by (with_reducible repeat (first | refine blk_drewN ?_ _ | refine blk_drew ?_ | refine blk_alloc ?_ _)); exact BK102.out⟩, ⟨by repeat (first | (with_reducible first | exact HB.out | apply below_alloc | apply pw_below_drewN | apply below_drew1 | refine below_set ?_ GE102.out) | exact HB.out)⟩⟩
                      · rw [if_neg c17] at H
                        have c17b0 : (((rd_T61 l0 x5_2).f0) == 2) = false := beq_eq_false_iff_ne.mpr c17
                        have c17b1 : (((rd_T61 l0 x5_2).f0) != 2) = true := bne_iff_ne.mpr c17
                        (first | rw [c17b0] | (simp only [i64_w, i32_w]; rw [c17b0]) | skip)
                        have H' := Aside0.mk H
                        clear H
                        have hcz19_0 : wc.cell? ⟨gb102, 0, none⟩ = some (.int .i64 ((rd_T61 l0 x5_2).f0)) := (blk_cell BK102.out 0).trans rfl
                        have hcz19_1 : wc.cell? ⟨gb102, 1, none⟩ = some (.int .i64 ((rd_T61 l0 x5_2).f1)) := (blk_cell BK102.out 1).trans rfl
                        have hcz19_2 : wc.cell? ⟨gb102, 2, none⟩ = some (.slice A101_2 ((rd_T61 l0 x5_2).f2).length c101_2) := (blk_cell BK102.out 2).trans rfl
                        have hcz19_3 : wc.cell? ⟨gb102, 3, none⟩ = some (.slice A101_3 ((rd_T61 l0 x5_2).f3).length c101_3) := (blk_cell BK102.out 3).trans rfl
                        have hfz19_0 := blk_frozen BK102.out 0
                        have hfz19_1 := blk_frozen BK102.out 1
                        have hfz19_2 := blk_frozen BK102.out 2
                        have hfz19_3 := blk_frozen BK102.out 3
                        go_wp2
                        go_meet
                        case rel => exact ⟨_, ((((rd_T61 l0 x5_2).f0) == 3)), (by first | rfl | (simp; done) | (simp [*]; done)), H', ⟨by have := HJ2.out; have := HK2.out; have := HJ7.out; first | omega | exact Nat.le_refl _⟩, ⟨by (with_reducible repeat (first | refine blk_drewN ?_ _ | refine blk_drew ?_ | refine blk_alloc ?_ _)); exact BK102.out⟩, ⟨by repeat (first | (with_reducible first | exact HB.out | apply below_alloc | apply pw_below_drewN | apply below_drew1 | refine below_set ?_ GE102.out) | exact HB.out)⟩⟩
                    case rest =>
                      clear HC16
                      try clear c1
                      try clear p1
                      try clear q1
                      try clear hx1
                      try clear p2
                      try clear c4
                      try clear c4b0
                      try clear c5
                      try clear c6
                      try clear c6b0
                      try clear c7
                      try clear c7b0
                      try clear c10
                      try clear p10
                      try clear q10
                      try clear hx10
                      try clear c11
                      try clear c11b0
                      try clear c11b1
                      try clear c13
                      try clear c13b0
                      try clear c13b1
                      try clear c17
                      try clear c17b0
                      try clear c17b1
                      try clear hcz10_0
                      try clear hcz10_1
                      try clear hcz10_2
                      try clear hcz10_3
                      try clear hcz12_0
                      try clear hcz12_1
                      try clear hcz12_2
                      try clear hcz12_3
                      try clear hcz14_0
                      try clear hcz14_1
                      try clear hcz14_2
                      try clear hcz14_3
                      try clear hcz15_0
                      try clear hcz15_1
                      try clear hcz15_2
                      try clear hcz15_3
                      try clear hcz18_0
                      try clear hcz18_1
                      try clear hcz18_2
                      try clear hcz18_3
                      try clear hcz19_0
                      try clear hcz19_1
                      try clear hcz19_2
                      try clear hcz19_3
                      try clear hfz10_0
                      try clear hfz10_1
                      try clear hfz10_2
                      try clear hfz10_3
                      try clear hfz12_0
                      try clear hfz12_1
                      try clear hfz12_2
                      try clear hfz12_3
                      try clear hfz14_0
                      try clear hfz14_1
                      try clear hfz14_2
                      try clear hfz14_3
                      try clear hfz15_0
                      try clear hfz15_1
                      try clear hfz15_2
                      try clear hfz15_3
                      try clear hfz18_0
                      try clear hfz18_1
                      try clear hfz18_2
                      try clear hfz18_3
                      try clear hfz19_0
                      try clear hfz19_1
                      try clear hfz19_2
                      try clear hfz19_3
                      try clear hx101_0
                      try clear hx101_1
                      try clear hx101_2
                      try clear hx101_3
                      try clear p1
                      try clear p10
                      try clear p101
                      try clear p2
                      try clear q1
                      try clear q10
                      try clear q101
                      obtain ⟨kq, x8_15, rfl, HA, HJ15, BK102, HB⟩ := hcut
                      cases kq with
                      | zero => exact absurd HA.out (by simp [spec_validSteps.j3])
                      | succ kj15 =>
                        have H := HA.out
                        clear HA
                        simp only [spec_validSteps.j3] at H
                        have HC20 := Aside0.mk H
                        clear H
                        go_upto_region 9 with (fail)
                        go_cut [80] (fun v80 wc => ∃ (kq : Nat) (x80_19 : Bool), v80 = .bool x80_19 ∧ Aside0 (spec_validSteps.j4 kq l0 a1 x5_2 x80_19 ((rd_T61 l0 x5_2).f0) ((rd_T61 l0 x5_2).f1) ((rd_T61 l0 x5_2).f2) ((rd_T61 l0 x5_2).f3) = some r) ∧ Aside0 (kq ≤ kj15) ∧ Aside0 (wc.heap[gb102]? = some (.cells #[.int .i64 ((rd_T61 l0 x5_2).f0), .int .i64 ((rd_T61 l0 x5_2).f1), (.slice A101_2 ((rd_T61 l0 x5_2).f2).length c101_2), (.slice A101_3 ((rd_T61 l0 x5_2).f3).length c101_3)] 61 (0, 0))) ∧ Aside0 (Below w.heap.size w wc))
                        case first =>
                          have H := HC20.out
                          clear HC20
                          replace H := Option.bind_eq_some_iff.mp H
                          obtain ⟨t103, A210, H⟩ := H
                          replace H : (if t103 = true then (if x7_7 = true then (if x8_15 = true then (spec_validSteps.j4 kj15 l0 a1 x5_2 (((rd_T61 l0 x5_2).f1) != 0) ((rd_T61 l0 x5_2).f0) ((rd_T61 l0 x5_2).f1) ((rd_T61 l0 x5_2).f2) ((rd_T61 l0 x5_2).f3)) else (if (((rd_T61 l0 x5_2).f3).length : Int) > 0 then (spec_validSteps.j4 kj15 l0 a1 x5_2 true ((rd_T61 l0 x5_2).f0) ((rd_T61 l0 x5_2).f1) ((rd_T61 l0 x5_2).f2) ((rd_T61 l0 x5_2).f3)) else (spec_validSteps.j4 kj15 l0 a1 x5_2 false ((rd_T61 l0 x5_2).f0) ((rd_T61 l0 x5_2).f1) ((rd_T61 l0 x5_2).f2) ((rd_T61 l0 x5_2).f3)))) else (if (((rd_T61 l0 x5_2).f2).length : Int) > 0 then (spec_validSteps.j4 kj15 l0 a1 x5_2 true ((rd_T61 l0 x5_2).f0) ((rd_T61 l0 x5_2).f1) ((rd_T61 l0 x5_2).f2) ((rd_T61 l0 x5_2).f3)) else (if x8_15 = true then (spec_validSteps.j4 kj15 l0 a1 x5_2 (((rd_T61 l0 x5_2).f1) != 0) ((rd_T61 l0 x5_2).f0) ((rd_T61 l0 x5_2).f1) ((rd_T61 l0 x5_2).f2) ((rd_T61 l0 x5_2).f3)) else (if (((rd_T61 l0 x5_2).f3).length : Int) > 0 then (spec_validSteps.j4 kj15 l0 a1 x5_2 true ((rd_T61 l0 x5_2).f0) ((rd_T61 l0 x5_2).f1) ((rd_T61 l0 x5_2).f2) ((rd_T61 l0 x5_2).f3)) else (spec_validSteps.j4 kj15 l0 a1 x5_2 false ((rd_T61 l0 x5_2).f0) ((rd_T61 l0 x5_2).f1) ((rd_T61 l0 x5_2).f2) ((rd_T61 l0 x5_2).f3)))))) else (spec_validSteps.j4 kj15 l0 a1 x5_2 true ((rd_T61 l0 x5_2).f0) ((rd_T61 l0 x5_2).f1) ((rd_T61 l0 x5_2).f2) ((rd_T61 l0 x5_2).f3))) = some r := H
                          have A21 := Aside0.mk A210
                          clear A210
                          by_cases c22 : t103 = true
                          · subst c22
                            have H1 : (if x7_7 = true then (if x8_15 = true then (spec_validSteps.j4 kj15 l0 a1 x5_2 (((rd_T61 l0 x5_2).f1) != 0) ((rd_T61 l0 x5_2).f0) ((rd_T61 l0 x5_2).f1) ((rd_T61 l0 x5_2).f2) ((rd_T61 l0 x5_2).f3)) else (if (((rd_T61 l0 x5_2).f3).length : Int) > 0 then (spec_validSteps.j4 kj15 l0 a1 x5_2 true ((rd_T61 l0 x5_2).f0) ((rd_T61 l0 x5_2).f1) ((rd_T61 l0 x5_2).f2) ((rd_T61 l0 x5_2).f3)) else (spec_validSteps.j4 kj15 l0 a1 x5_2 false ((rd_T61 l0 x5_2).f0) ((rd_T61 l0 x5_2).f1) ((rd_T61 l0 x5_2).f2) ((rd_T61 l0 x5_2).f3)))) else (if (((rd_T61 l0 x5_2).f2).length : Int) > 0 then (spec_validSteps.j4 kj15 l0 a1 x5_2 true ((rd_T61 l0 x5_2).f0) ((rd_T61 l0 x5_2).f1) ((rd_T61 l0 x5_2).f2) ((rd_T61 l0 x5_2).f3)) else (if x8_15 = true then (spec_validSteps.j4 kj15 l0 a1 x5_2 (((rd_T61 l0 x5_2).f1) != 0) ((rd_T61 l0 x5_2).f0) ((rd_T61 l0 x5_2).f1) ((rd_T61 l0 x5_2).f2) ((rd_T61 l0 x5_2).f3)) else (if (((rd_T61 l0 x5_2).f3).length : Int) > 0 then (spec_validSteps.j4 kj15 l0 a1 x5_2 true ((rd_T61 l0 x5_2).f0) ((rd_T61 l0 x5_2).f1) ((rd_T61 l0 x5_2).f2) ((rd_T61 l0 x5_2).f3)) else (spec_validSteps.j4 kj15 l0 a1 x5_2 false ((rd_T61 l0 x5_2).f0) ((rd_T61 l0 x5_2).f1) ((rd_T61 l0 x5_2).f2) ((rd_T61 l0 x5_2).f3)))))) = some r := by rw [if_pos rfl] at H; exact H
                            clear H
                            have H := H1
                            clear H1
                            by_cases c23 : x7_7 = true
                            · subst c23
                              have H1 : (if x8_15 = true then (spec_validSteps.j4 kj15 l0 a1 x5_2 (((rd_T61 l0 x5_2).f1) != 0) ((rd_T61 l0 x5_2).f0) ((rd_T61 l0 x5_2).f1) ((rd_T61 l0 x5_2).f2) ((rd_T61 l0 x5_2).f3)) else (if (((rd_T61 l0 x5_2).f3).length : Int) > 0 then (spec_validSteps.j4 kj15 l0 a1 x5_2 true ((rd_T61 l0 x5_2).f0) ((rd_T61 l0 x5_2).f1) ((rd_T61 l0 x5_2).f2) ((rd_T61 l0 x5_2).f3)) else (spec_validSteps.j4 kj15 l0 a1 x5_2 false ((rd_T61 l0 x5_2).f0) ((rd_T61 l0 x5_2).f1) ((rd_T61 l0 x5_2).f2) ((rd_T61 l0 x5_2).f3)))) = some r := by rw [if_pos rfl] at H; exact H
                              clear H
                              have H := H1
                              clear H1
                              by_cases c24 : x8_15 = true
                              · subst c24
                                have H1 : (spec_validSteps.j4 kj15 l0 a1 x5_2 (((rd_T61 l0 x5_2).f1) != 0) ((rd_T61 l0 x5_2).f0) ((rd_T61 l0 x5_2).f1) ((rd_T61 l0 x5_2).f2) ((rd_T61 l0 x5_2).f3)) = some r := by rw [if_pos rfl] at H; exact H
                                clear H
                                have H := H1
                                clear H1
                                have H' := Aside0.mk H
                                clear H
                                have hcz25_0 : wc.cell? ⟨gb102, 0, none⟩ = some (.int .i64 ((rd_T61 l0 x5_2).f0)) := (blk_cell BK102.out 0).trans rfl
                                have hcz25_1 : wc.cell? ⟨gb102, 1, none⟩ = some (.int .i64 ((rd_T61 l0 x5_2).f1)) := (blk_cell BK102.out 1).trans rfl
                                have hcz25_2 : wc.cell? ⟨gb102, 2, none⟩ = some (.slice A101_2 ((rd_T61 l0 x5_2).f2).length c101_2) := (blk_cell BK102.out 2).trans rfl
                                have hcz25_3 : wc.cell? ⟨gb102, 3, none⟩ = some (.slice A101_3 ((rd_T61 l0 x5_2).f3).length c101_3) := (blk_cell BK102.out 3).trans rfl
                                have hfz25_0 := blk_frozen BK102.out 0
                                have hfz25_1 := blk_frozen BK102.out 1
                                have hfz25_2 := blk_frozen BK102.out 2
                                have hfz25_3 := blk_frozen BK102.out 3
                                go_wp2_with (first | ((with_reducible refine gate_callee (f := 60) rfl ?_); refine goesL_ (some 51) rfl rfl Try.func60 (by kernel_rfl) rfl #[.int .i64 ((rd_T61 l0 x5_2).f0), .int .i64 1, .int .i64 5] rfl (by (try simp only [List.map_toArray, List.map_cons, List.map_nil]); first | done | rfl | (simp only [List.length_drop, List.length_take]; rfl) | (simp only [List.length_drop, List.length_take]; rw [Nat.min_eq_left (by have z_ := of_eq_true q101; omega)])) ?_; (with_reducible refine (spec_inRange.calls ((rd_T61 l0 x5_2).f0) 1 5 true _ A21.out).mono ?_); rintro e w' ⟨rfl, ⟨nd, rfl⟩⟩; refine ⟨_, rfl, ?_⟩))
                                go_meet
                                case rel => exact ⟨_, ((((rd_T61 l0 x5_2).f1) != 0)), (by first | rfl | (simp; done) | (simp [*]; done)), H', ⟨by have := HJ2.out; have := HK2.out; have := HJ7.out; have := HJ15.out; first | omega | exact Nat.le_refl _⟩, ⟨by (with_reducible repeat (first | refine blk_drewN ?_ _ | refine blk_drew ?_ | refine blk_alloc ?_ _)); exact BK102.out⟩, ⟨by repeat (first | (with_reducible first | exact HB.out | apply below_alloc | apply pw_below_drewN | apply below_drew1 | refine below_set ?_ GE102.out) | exact HB.out)⟩⟩
                              · replace c24 := Bool.eq_false_iff.mpr c24
                                subst c24
                                have H1 : (if (((rd_T61 l0 x5_2).f3).length : Int) > 0 then (spec_validSteps.j4 kj15 l0 a1 x5_2 true ((rd_T61 l0 x5_2).f0) ((rd_T61 l0 x5_2).f1) ((rd_T61 l0 x5_2).f2) ((rd_T61 l0 x5_2).f3)) else (spec_validSteps.j4 kj15 l0 a1 x5_2 false ((rd_T61 l0 x5_2).f0) ((rd_T61 l0 x5_2).f1) ((rd_T61 l0 x5_2).f2) ((rd_T61 l0 x5_2).f3))) = some r := by rw [if_neg (show ¬ (false = true) by decide)] at H; exact H
                                clear H
                                have H := H1
                                clear H1
                                by_cases c26 : (((rd_T61 l0 x5_2).f3).length : Int) > 0
                                · rw [if_pos c26] at H
                                  have c26b0 : decide (0 < (((rd_T61 l0 x5_2).f3).length : Int)) = true := decide_eq_true c26
                                  have c26b1 : decide (0 < ((rd_T61 l0 x5_2).f3).length) = true := decide_eq_true (by omega)
                                  clear c26
                                  (first | rw [c26b0] | (simp only [i64_w, i32_w]; rw [c26b0]) | skip)
                                  have H' := Aside0.mk H
                                  clear H
                                  have hcz27_0 : wc.cell? ⟨gb102, 0, none⟩ = some (.int .i64 ((rd_T61 l0 x5_2).f0)) := (blk_cell BK102.out 0).trans rfl
                                  have hcz27_1 : wc.cell? ⟨gb102, 1, none⟩ = some (.int .i64 ((rd_T61 l0 x5_2).f1)) := (blk_cell BK102.out 1).trans rfl
                                  have hcz27_2 : wc.cell? ⟨gb102, 2, none⟩ = some (.slice A101_2 ((rd_T61 l0 x5_2).f2).length c101_2) := (blk_cell BK102.out 2).trans rfl
                                  have hcz27_3 : wc.cell? ⟨gb102, 3, none⟩ = some (.slice A101_3 ((rd_T61 l0 x5_2).f3).length c101_3) := (blk_cell BK102.out 3).trans rfl
                                  have hfz27_0 := blk_frozen BK102.out 0
                                  have hfz27_1 := blk_frozen BK102.out 1
                                  have hfz27_2 := blk_frozen BK102.out 2
                                  have hfz27_3 := blk_frozen BK102.out 3
                                  go_wp2_with (first | ((with_reducible refine gate_callee (f := 60) rfl ?_); refine goesL_ (some 51) rfl rfl Try.func60 (by kernel_rfl) rfl #[.int .i64 ((rd_T61 l0 x5_2).f0), .int .i64 1, .int .i64 5] rfl (by (try simp only [List.map_toArray, List.map_cons, List.map_nil]); first | done | rfl | (simp only [List.length_drop, List.length_take]; rfl) | (simp only [List.length_drop, List.length_take]; rw [Nat.min_eq_left (by have z_ := of_eq_true q101; omega)])) ?_; (with_reducible refine (spec_inRange.calls ((rd_T61 l0 x5_2).f0) 1 5 true _ A21.out).mono ?_); rintro e w' ⟨rfl, ⟨nd, rfl⟩⟩; refine ⟨_, rfl, ?_⟩))
                                  go_meet
                                  case rel => exact ⟨_, (true), (by first | rfl | (simp; done) | (simp [*]; done)), H', ⟨by have := HJ2.out; have := HK2.out; have := HJ7.out; have := HJ15.out; first | omega | exact Nat.le_refl _⟩, ⟨by (with_reducible repeat (first | refine blk_drewN ?_ _ | refine blk_drew ?_ | refine blk_alloc ?_ _)); exact BK102.out⟩, ⟨by repeat (first | (with_reducible first | exact HB.out | apply below_alloc | apply pw_below_drewN | apply below_drew1 | refine below_set ?_ GE102.out) | exact HB.out)⟩⟩
                                · rw [if_neg c26] at H
                                  have c26b0 : decide (0 < (((rd_T61 l0 x5_2).f3).length : Int)) = false := decide_eq_false c26
                                  have c26b1 : decide (0 < ((rd_T61 l0 x5_2).f3).length) = false := decide_eq_false (by omega)
                                  clear c26
                                  (first | rw [c26b0] | (simp only [i64_w, i32_w]; rw [c26b0]) | skip)
                                  have H' := Aside0.mk H
                                  clear H
                                  have hcz28_0 : wc.cell? ⟨gb102, 0, none⟩ = some (.int .i64 ((rd_T61 l0 x5_2).f0)) := (blk_cell BK102.out 0).trans rfl
                                  have hcz28_1 : wc.cell? ⟨gb102, 1, none⟩ = some (.int .i64 ((rd_T61 l0 x5_2).f1)) := (blk_cell BK102.out 1).trans rfl
                                  have hcz28_2 : wc.cell? ⟨gb102, 2, none⟩ = some (.slice A101_2 ((rd_T61 l0 x5_2).f2).length c101_2) := (blk_cell BK102.out 2).trans rfl
                                  have hcz28_3 : wc.cell? ⟨gb102, 3, none⟩ = some (.slice A101_3 ((rd_T61 l0 x5_2).f3).length c101_3) := (blk_cell BK102.out 3).trans rfl
                                  have hfz28_0 := blk_frozen BK102.out 0
                                  have hfz28_1 := blk_frozen BK102.out 1
                                  have hfz28_2 := blk_frozen BK102.out 2
                                  have hfz28_3 := blk_frozen BK102.out 3
                                  go_wp2_with (first | ((with_reducible refine gate_callee (f := 60) rfl ?_); refine goesL_ (some 51) rfl rfl Try.func60 (by kernel_rfl) rfl #[.int .i64 ((rd_T61 l0 x5_2).f0), .int .i64 1, .int .i64 5] rfl (by (try simp only [List.map_toArray, List.map_cons, List.map_nil]); first | done | rfl | (simp only [List.length_drop, List.length_take]; rfl) | (simp only [List.length_drop, List.length_take]; rw [Nat.min_eq_left (by have z_ := of_eq_true q101; omega)])) ?_; (with_reducible refine (spec_inRange.calls ((rd_T61 l0 x5_2).f0) 1 5 true _ A21.out).mono ?_); rintro e w' ⟨rfl, ⟨nd, rfl⟩⟩; refine ⟨_, rfl, ?_⟩))
                                  go_meet
                                  case rel => exact ⟨_, (false), (by first | rfl | (simp; done) | (simp [*]; done)), H', ⟨by have := HJ2.out; have := HK2.out; have := HJ7.out; have := HJ15.out; first | omega | exact Nat.le_refl _⟩, ⟨by (with_reducible repeat (first | refine blk_drewN ?_ _ | refine blk_drew ?_ | refine blk_alloc ?_ _)); exact BK102.out⟩, ⟨by repeat (first | (with_reducible first | exact HB.out | apply below_alloc | apply pw_below_drewN | apply below_drew1 | refine below_set ?_ GE102.out) | exact HB.out)⟩⟩
                            · replace c23 := Bool.eq_false_iff.mpr c23
                              subst c23
                              have H1 : (if (((rd_T61 l0 x5_2).f2).length : Int) > 0 then (spec_validSteps.j4 kj15 l0 a1 x5_2 true ((rd_T61 l0 x5_2).f0) ((rd_T61 l0 x5_2).f1) ((rd_T61 l0 x5_2).f2) ((rd_T61 l0 x5_2).f3)) else (if x8_15 = true then (spec_validSteps.j4 kj15 l0 a1 x5_2 (((rd_T61 l0 x5_2).f1) != 0) ((rd_T61 l0 x5_2).f0) ((rd_T61 l0 x5_2).f1) ((rd_T61 l0 x5_2).f2) ((rd_T61 l0 x5_2).f3)) else (if (((rd_T61 l0 x5_2).f3).length : Int) > 0 then (spec_validSteps.j4 kj15 l0 a1 x5_2 true ((rd_T61 l0 x5_2).f0) ((rd_T61 l0 x5_2).f1) ((rd_T61 l0 x5_2).f2) ((rd_T61 l0 x5_2).f3)) else (spec_validSteps.j4 kj15 l0 a1 x5_2 false ((rd_T61 l0 x5_2).f0) ((rd_T61 l0 x5_2).f1) ((rd_T61 l0 x5_2).f2) ((rd_T61 l0 x5_2).f3))))) = some r := by rw [if_neg (show ¬ (false = true) by decide)] at H; exact H
                              clear H
                              have H := H1
                              clear H1
                              by_cases c29 : (((rd_T61 l0 x5_2).f2).length : Int) > 0
                              · rw [if_pos c29] at H
                                have c29b0 : decide (0 < (((rd_T61 l0 x5_2).f2).length : Int)) = true := decide_eq_true c29
                                have c29b1 : decide (0 < ((rd_T61 l0 x5_2).f2).length) = true := decide_eq_true (by omega)
                                clear c29
                                have H' := Aside0.mk H
                                clear H
                                have hcz30_0 : wc.cell? ⟨gb102, 0, none⟩ = some (.int .i64 ((rd_T61 l0 x5_2).f0)) := (blk_cell BK102.out 0).trans rfl
                                have hcz30_1 : wc.cell? ⟨gb102, 1, none⟩ = some (.int .i64 ((rd_T61 l0 x5_2).f1)) := (blk_cell BK102.out 1).trans rfl
                                have hcz30_2 : wc.cell? ⟨gb102, 2, none⟩ = some (.slice A101_2 ((rd_T61 l0 x5_2).f2).length c101_2) := (blk_cell BK102.out 2).trans rfl
                                have hcz30_3 : wc.cell? ⟨gb102, 3, none⟩ = some (.slice A101_3 ((rd_T61 l0 x5_2).f3).length c101_3) := (blk_cell BK102.out 3).trans rfl
                                have hfz30_0 := blk_frozen BK102.out 0
                                have hfz30_1 := blk_frozen BK102.out 1
                                have hfz30_2 := blk_frozen BK102.out 2
                                have hfz30_3 := blk_frozen BK102.out 3
                                go_wp2_with (first | ((with_reducible refine gate_callee (f := 60) rfl ?_); refine goesL_ (some 51) rfl rfl Try.func60 (by kernel_rfl) rfl #[.int .i64 ((rd_T61 l0 x5_2).f0), .int .i64 1, .int .i64 5] rfl (by (try simp only [List.map_toArray, List.map_cons, List.map_nil]); first | done | rfl | (simp only [List.length_drop, List.length_take]; rfl) | (simp only [List.length_drop, List.length_take]; rw [Nat.min_eq_left (by have z_ := of_eq_true q101; omega)])) ?_; (with_reducible refine (spec_inRange.calls ((rd_T61 l0 x5_2).f0) 1 5 true _ A21.out).mono ?_); rintro e w' ⟨rfl, ⟨nd, rfl⟩⟩; refine ⟨_, rfl, ?_⟩))
                                go_meet
                                case rel => exact ⟨_, (true), (by first | rfl | (simp; done) | (simp [*]; done)), H', ⟨by have := HJ2.out; have := HK2.out; have := HJ7.out; have := HJ15.out; first | omega | exact Nat.le_refl _⟩, ⟨by (with_reducible repeat (first | refine blk_drewN ?_ _ | refine blk_drew ?_ | refine blk_alloc ?_ _)); exact BK102.out⟩, ⟨by repeat (first | (with_reducible first | exact HB.out | apply below_alloc | apply pw_below_drewN | apply below_drew1 | refine below_set ?_ GE102.out) | exact HB.out)⟩⟩
                              · rw [if_neg c29] at H
                                have c29b0 : decide (0 < (((rd_T61 l0 x5_2).f2).length : Int)) = false := decide_eq_false c29
                                have c29b1 : decide (0 < ((rd_T61 l0 x5_2).f2).length) = false := decide_eq_false (by omega)
                                clear c29
                                by_cases c31 : x8_15 = true
                                · subst c31
                                  have H1 : (spec_validSteps.j4 kj15 l0 a1 x5_2 (((rd_T61 l0 x5_2).f1) != 0) ((rd_T61 l0 x5_2).f0) ((rd_T61 l0 x5_2).f1) ((rd_T61 l0 x5_2).f2) ((rd_T61 l0 x5_2).f3)) = some r := by rw [if_pos rfl] at H; exact H
                                  clear H
                                  have H := H1
                                  clear H1
                                  have H' := Aside0.mk H
                                  clear H
                                  have hcz32_0 : wc.cell? ⟨gb102, 0, none⟩ = some (.int .i64 ((rd_T61 l0 x5_2).f0)) := (blk_cell BK102.out 0).trans rfl
                                  have hcz32_1 : wc.cell? ⟨gb102, 1, none⟩ = some (.int .i64 ((rd_T61 l0 x5_2).f1)) := (blk_cell BK102.out 1).trans rfl
                                  have hcz32_2 : wc.cell? ⟨gb102, 2, none⟩ = some (.slice A101_2 ((rd_T61 l0 x5_2).f2).length c101_2) := (blk_cell BK102.out 2).trans rfl
                                  have hcz32_3 : wc.cell? ⟨gb102, 3, none⟩ = some (.slice A101_3 ((rd_T61 l0 x5_2).f3).length c101_3) := (blk_cell BK102.out 3).trans rfl
                                  have hfz32_0 := blk_frozen BK102.out 0
                                  have hfz32_1 := blk_frozen BK102.out 1
                                  have hfz32_2 := blk_frozen BK102.out 2
                                  have hfz32_3 := blk_frozen BK102.out 3
                                  go_wp2_with (first | ((with_reducible refine gate_callee (f := 60) rfl ?_); refine goesL_ (some 51) rfl rfl Try.func60 (by kernel_rfl) rfl #[.int .i64 ((rd_T61 l0 x5_2).f0), .int .i64 1, .int .i64 5] rfl (by (try simp only [List.map_toArray, List.map_cons, List.map_nil]); first | done | rfl | (simp only [List.length_drop, List.length_take]; rfl) | (simp only [List.length_drop, List.length_take]; rw [Nat.min_eq_left (by have z_ := of_eq_true q101; omega)])) ?_; (with_reducible refine (spec_inRange.calls ((rd_T61 l0 x5_2).f0) 1 5 true _ A21.out).mono ?_); rintro e w' ⟨rfl, ⟨nd, rfl⟩⟩; refine ⟨_, rfl, ?_⟩))
                                  go_meet
                                  case rel => exact ⟨_, ((((rd_T61 l0 x5_2).f1) != 0)), (by first | rfl | (simp; done) | (simp [*]; done)), H', ⟨by have := HJ2.out; have := HK2.out; have := HJ7.out; have := HJ15.out; first | omega | exact Nat.le_refl _⟩, ⟨by (with_reducible repeat (first | refine blk_drewN ?_ _ | refine blk_drew ?_ | refine blk_alloc ?_ _)); exact BK102.out⟩, ⟨by repeat (first | (with_reducible first | exact HB.out | apply below_alloc | apply pw_below_drewN | apply below_drew1 | refine below_set ?_ GE102.out) | exact HB.out)⟩⟩
                                · replace c31 := Bool.eq_false_iff.mpr c31
                                  subst c31
                                  have H1 : (if (((rd_T61 l0 x5_2).f3).length : Int) > 0 then (spec_validSteps.j4 kj15 l0 a1 x5_2 true ((rd_T61 l0 x5_2).f0) ((rd_T61 l0 x5_2).f1) ((rd_T61 l0 x5_2).f2) ((rd_T61 l0 x5_2).f3)) else (spec_validSteps.j4 kj15 l0 a1 x5_2 false ((rd_T61 l0 x5_2).f0) ((rd_T61 l0 x5_2).f1) ((rd_T61 l0 x5_2).f2) ((rd_T61 l0 x5_2).f3))) = some r := by rw [if_neg (show ¬ (false = true) by decide)] at H; exact H
                                  clear H
                                  have H := H1
                                  clear H1
                                  by_cases c33 : (((rd_T61 l0 x5_2).f3).length : Int) > 0
                                  · rw [if_pos c33] at H
                                    have c33b0 : decide (0 < (((rd_T61 l0 x5_2).f3).length : Int)) = true := decide_eq_true c33
                                    have c33b1 : decide (0 < ((rd_T61 l0 x5_2).f3).length) = true := decide_eq_true (by omega)
                                    clear c33
                                    have H' := Aside0.mk H
                                    clear H
                                    have hcz34_0 : wc.cell? ⟨gb102, 0, none⟩ = some (.int .i64 ((rd_T61 l0 x5_2).f0)) := (blk_cell BK102.out 0).trans rfl
                                    have hcz34_1 : wc.cell? ⟨gb102, 1, none⟩ = some (.int .i64 ((rd_T61 l0 x5_2).f1)) := (blk_cell BK102.out 1).trans rfl
                                    have hcz34_2 : wc.cell? ⟨gb102, 2, none⟩ = some (.slice A101_2 ((rd_T61 l0 x5_2).f2).length c101_2) := (blk_cell BK102.out 2).trans rfl
                                    have hcz34_3 : wc.cell? ⟨gb102, 3, none⟩ = some (.slice A101_3 ((rd_T61 l0 x5_2).f3).length c101_3) := (blk_cell BK102.out 3).trans rfl
                                    have hfz34_0 := blk_frozen BK102.out 0
                                    have hfz34_1 := blk_frozen BK102.out 1
                                    have hfz34_2 := blk_frozen BK102.out 2
                                    have hfz34_3 := blk_frozen BK102.out 3
                                    go_wp2_with (first | ((with_reducible refine gate_callee (f := 60) rfl ?_); refine goesL_ (some 51) rfl rfl Try.func60 (by kernel_rfl) rfl #[.int .i64 ((rd_T61 l0 x5_2).f0), .int .i64 1, .int .i64 5] rfl (by (try simp only [List.map_toArray, List.map_cons, List.map_nil]); first | done | rfl | (simp only [List.length_drop, List.length_take]; rfl) | (simp only [List.length_drop, List.length_take]; rw [Nat.min_eq_left (by have z_ := of_eq_true q101; omega)])) ?_; (with_reducible refine (spec_inRange.calls ((rd_T61 l0 x5_2).f0) 1 5 true _ A21.out).mono ?_); rintro e w' ⟨rfl, ⟨nd, rfl⟩⟩; refine ⟨_, rfl, ?_⟩))
                                    go_meet
                                    case rel => exact ⟨_, (true), (by first | rfl | (simp; done) | (simp [*]; done)), H', ⟨by have := HJ2.out; have := HK2.out; have := HJ7.out; have := HJ15.out; first | omega | exact Nat.le_refl _⟩, ⟨by (with_reducible repeat (first | refine blk_drewN ?_ _ | refine blk_drew ?_ | refine blk_alloc ?_ _)); exact BK102.out⟩, ⟨by repeat (first | (with_reducible first | exact HB.out | apply below_alloc | apply pw_below_drewN | apply below_drew1 | refine below_set ?_ GE102.out) | exact HB.out)⟩⟩
                                  · rw [if_neg c33] at H
                                    have c33b0 : decide (0 < (((rd_T61 l0 x5_2).f3).length : Int)) = false := decide_eq_false c33
                                    have c33b1 : decide (0 < ((rd_T61 l0 x5_2).f3).length) = false := decide_eq_false (by omega)
                                    clear c33
                                    have H' := Aside0.mk H
                                    clear H
                                    have hcz35_0 : wc.cell? ⟨gb102, 0, none⟩ = some (.int .i64 ((rd_T61 l0 x5_2).f0)) := (blk_cell BK102.out 0).trans rfl
                                    have hcz35_1 : wc.cell? ⟨gb102, 1, none⟩ = some (.int .i64 ((rd_T61 l0 x5_2).f1)) := (blk_cell BK102.out 1).trans rfl
                                    have hcz35_2 : wc.cell? ⟨gb102, 2, none⟩ = some (.slice A101_2 ((rd_T61 l0 x5_2).f2).length c101_2) := (blk_cell BK102.out 2).trans rfl
                                    have hcz35_3 : wc.cell? ⟨gb102, 3, none⟩ = some (.slice A101_3 ((rd_T61 l0 x5_2).f3).length c101_3) := (blk_cell BK102.out 3).trans rfl
                                    have hfz35_0 := blk_frozen BK102.out 0
                                    have hfz35_1 := blk_frozen BK102.out 1
                                    have hfz35_2 := blk_frozen BK102.out 2
                                    have hfz35_3 := blk_frozen BK102.out 3
                                    go_wp2_with (first | ((with_reducible refine gate_callee (f := 60) rfl ?_); refine goesL_ (some 51) rfl rfl Try.func60 (by kernel_rfl) rfl #[.int .i64 ((rd_T61 l0 x5_2).f0), .int .i64 1, .int .i64 5] rfl (by (try simp only [List.map_toArray, List.map_cons, List.map_nil]); first | done | rfl | (simp only [List.length_drop, List.length_take]; rfl) | (simp only [List.length_drop, List.length_take]; rw [Nat.min_eq_left (by have z_ := of_eq_true q101; omega)])) ?_; (with_reducible refine (spec_inRange.calls ((rd_T61 l0 x5_2).f0) 1 5 true _ A21.out).mono ?_); rintro e w' ⟨rfl, ⟨nd, rfl⟩⟩; refine ⟨_, rfl, ?_⟩))
                                    go_meet
                                    case rel => exact ⟨_, (false), (by first | rfl | (simp; done) | (simp [*]; done)), H', ⟨by have := HJ2.out; have := HK2.out; have := HJ7.out; have := HJ15.out; first | omega | exact Nat.le_refl _⟩, ⟨by (with_reducible repeat (first | refine blk_drewN ?_ _ | refine blk_drew ?_ | refine blk_alloc ?_ _)); exact BK102.out⟩, ⟨by repeat (first | (with_reducible first | exact HB.out | apply below_alloc | apply pw_below_drewN | apply below_drew1 | refine below_set ?_ GE102.out) | exact HB.out)⟩⟩
                          · replace c22 := Bool.eq_false_iff.mpr c22
                            subst c22
                            have H1 : (spec_validSteps.j4 kj15 l0 a1 x5_2 true ((rd_T61 l0 x5_2).f0) ((rd_T61 l0 x5_2).f1) ((rd_T61 l0 x5_2).f2) ((rd_T61 l0 x5_2).f3)) = some r := by rw [if_neg (show ¬ (false = true) by decide)] at H; exact H
                            clear H
                            have H := H1
                            clear H1
                            have H' := Aside0.mk H
                            clear H
                            have hcz36_0 : wc.cell? ⟨gb102, 0, none⟩ = some (.int .i64 ((rd_T61 l0 x5_2).f0)) := (blk_cell BK102.out 0).trans rfl
                            have hcz36_1 : wc.cell? ⟨gb102, 1, none⟩ = some (.int .i64 ((rd_T61 l0 x5_2).f1)) := (blk_cell BK102.out 1).trans rfl
                            have hcz36_2 : wc.cell? ⟨gb102, 2, none⟩ = some (.slice A101_2 ((rd_T61 l0 x5_2).f2).length c101_2) := (blk_cell BK102.out 2).trans rfl
                            have hcz36_3 : wc.cell? ⟨gb102, 3, none⟩ = some (.slice A101_3 ((rd_T61 l0 x5_2).f3).length c101_3) := (blk_cell BK102.out 3).trans rfl
                            have hfz36_0 := blk_frozen BK102.out 0
                            have hfz36_1 := blk_frozen BK102.out 1
                            have hfz36_2 := blk_frozen BK102.out 2
                            have hfz36_3 := blk_frozen BK102.out 3
                            go_wp2_with (first | ((with_reducible refine gate_callee (f := 60) rfl ?_); refine goesL_ (some 51) rfl rfl Try.func60 (by kernel_rfl) rfl #[.int .i64 ((rd_T61 l0 x5_2).f0), .int .i64 1, .int .i64 5] rfl (by (try simp only [List.map_toArray, List.map_cons, List.map_nil]); first | done | rfl | (simp only [List.length_drop, List.length_take]; rfl) | (simp only [List.length_drop, List.length_take]; rw [Nat.min_eq_left (by have z_ := of_eq_true q101; omega)])) ?_; (with_reducible refine (spec_inRange.calls ((rd_T61 l0 x5_2).f0) 1 5 false _ A21.out).mono ?_); rintro e w' ⟨rfl, ⟨nd, rfl⟩⟩; refine ⟨_, rfl, ?_⟩))
                            go_meet
                            case rel => exact ⟨_, (true), (by first | rfl | (simp; done) | (simp [*]; done)), H', ⟨by have := HJ2.out; have := HK2.out; have := HJ7.out; have := HJ15.out; first | omega | exact Nat.le_refl _⟩, ⟨by (with_reducible repeat (first | refine blk_drewN ?_ _ | refine blk_drew ?_ | refine blk_alloc ?_ _)); exact BK102.out⟩, ⟨by repeat (first | (with_reducible first | exact HB.out | apply below_alloc | apply pw_below_drewN | apply below_drew1 | refine below_set ?_ GE102.out) | exact HB.out)⟩⟩
                        case rest =>
                          clear HC20
                          try clear c1
                          try clear p1
                          try clear q1
                          try clear hx1
                          try clear c2
                          try clear p2
                          try clear c3
                          try clear c4
                          try clear c4b0
                          try clear c5
                          try clear c6
                          try clear c6b0
                          try clear c7
                          try clear c7b0
                          try clear c10
                          try clear p10
                          try clear q10
                          try clear hx10
                          try clear c11
                          try clear c11b0
                          try clear c11b1
                          try clear c13
                          try clear c13b0
                          try clear c13b1
                          try clear c17
                          try clear c17b0
                          try clear c17b1
                          try clear c22
                          try clear c23
                          try clear c24
                          try clear c26
                          try clear c26b0
                          try clear c26b1
                          try clear c29
                          try clear c29b0
                          try clear c29b1
                          try clear c31
                          try clear c33
                          try clear c33b0
                          try clear c33b1
                          try clear hcz10_0
                          try clear hcz10_1
                          try clear hcz10_2
                          try clear hcz10_3
                          try clear hcz12_0
                          try clear hcz12_1
                          try clear hcz12_2
                          try clear hcz12_3
                          try clear hcz14_0
                          try clear hcz14_1
                          try clear hcz14_2
                          try clear hcz14_3
                          try clear hcz15_0
                          try clear hcz15_1
                          try clear hcz15_2
                          try clear hcz15_3
                          try clear hcz18_0
                          try clear hcz18_1
                          try clear hcz18_2
                          try clear hcz18_3
                          try clear hcz19_0
                          try clear hcz19_1
                          try clear hcz19_2
                          try clear hcz19_3
                          try clear hcz25_0
                          try clear hcz25_1
                          try clear hcz25_2
                          try clear hcz25_3
                          try clear hcz27_0
                          try clear hcz27_1
                          try clear hcz27_2
                          try clear hcz27_3
                          try clear hcz28_0
                          try clear hcz28_1
                          try clear hcz28_2
                          try clear hcz28_3
                          try clear hcz30_0
                          try clear hcz30_1
                          try clear hcz30_2
                          try clear hcz30_3
                          try clear hcz32_0
                          try clear hcz32_1
                          try clear hcz32_2
                          try clear hcz32_3
                          try clear hcz34_0
                          try clear hcz34_1
                          try clear hcz34_2
                          try clear hcz34_3
                          try clear hcz35_0
                          try clear hcz35_1
                          try clear hcz35_2
                          try clear hcz35_3
                          try clear hcz36_0
                          try clear hcz36_1
                          try clear hcz36_2
                          try clear hcz36_3
                          try clear hfz10_0
                          try clear hfz10_1
                          try clear hfz10_2
                          try clear hfz10_3
                          try clear hfz12_0
                          try clear hfz12_1
                          try clear hfz12_2
                          try clear hfz12_3
                          try clear hfz14_0
                          try clear hfz14_1
                          try clear hfz14_2
                          try clear hfz14_3
                          try clear hfz15_0
                          try clear hfz15_1
                          try clear hfz15_2
                          try clear hfz15_3
                          try clear hfz18_0
                          try clear hfz18_1
                          try clear hfz18_2
                          try clear hfz18_3
                          try clear hfz19_0
                          try clear hfz19_1
                          try clear hfz19_2
                          try clear hfz19_3
                          try clear hfz25_0
                          try clear hfz25_1
                          try clear hfz25_2
                          try clear hfz25_3
                          try clear hfz27_0
                          try clear hfz27_1
                          try clear hfz27_2
                          try clear hfz27_3
                          try clear hfz28_0
                          try clear hfz28_1
                          try clear hfz28_2
                          try clear hfz28_3
                          try clear hfz30_0
                          try clear hfz30_1
                          try clear hfz30_2
                          try clear hfz30_3
                          try clear hfz32_0
                          try clear hfz32_1
                          try clear hfz32_2
                          try clear hfz32_3
                          try clear hfz34_0
                          try clear hfz34_1
                          try clear hfz34_2
                          try clear hfz34_3
                          try clear hfz35_0
                          try clear hfz35_1
                          try clear hfz35_2
                          try clear hfz35_3
                          try clear hfz36_0
                          try clear hfz36_1
                          try clear hfz36_2
                          try clear hfz36_3
                          try clear hx101_0
                          try clear hx101_1
                          try clear hx101_2
                          try clear hx101_3
                          try clear p1
                          try clear p10
                          try clear p101
                          try clear p2
                          try clear q1
                          try clear q10
                          try clear q101
                          obtain ⟨kq, x80_19, rfl, HA, HJ19, BK102, HB⟩ := hcut
                          cases kq with
                          | zero => exact absurd HA.out (by simp [spec_validSteps.j4])
                          | succ kj19 =>
                            have H := HA.out
                            clear HA
                            simp only [spec_validSteps.j4] at H
                            by_cases c37 : x80_19 = true
                            · subst c37
                              have H1 : (some false) = some r := by rw [if_pos rfl] at H; exact H
                              clear H
                              have H := H1
                              clear H1
                              obtain rfl := Option.some.inj H
                              go_wp2
                              go_ret
                              exact ⟨by first | rfl | (simp [errW_none, errW_some] <;> rfl) | (simp [*, errW_none, errW_some] <;> rfl), by repeat (first | (with_reducible first | exact HB.out | apply below_alloc | apply pw_below_drewN | apply below_drew1 | refine below_set ?_ GE102.out) | exact HB.out)⟩
                            · replace c37 := Bool.eq_false_iff.mpr c37
                              subst c37
                              have H1 : (if ((rd_T61 l0 x5_2).f0) = 1 then (spec_validSteps.j5 kj19 l0 a1 x5_2 (-1) 1000000 ((rd_T61 l0 x5_2).f0) ((rd_T61 l0 x5_2).f1) ((rd_T61 l0 x5_2).f2) ((rd_T61 l0 x5_2).f3)) else (spec_validSteps.j5 kj19 l0 a1 x5_2 0 1000000 ((rd_T61 l0 x5_2).f0) ((rd_T61 l0 x5_2).f1) ((rd_T61 l0 x5_2).f2) ((rd_T61 l0 x5_2).f3))) = some r := by rw [if_neg (show ¬ (false = true) by decide)] at H; exact H
                              clear H
                              have H := H1
                              clear H1
                              have HC38 := Aside0.mk H
                              clear H
                              have hcz39_0 : wc.cell? ⟨gb102, 0, none⟩ = some (.int .i64 ((rd_T61 l0 x5_2).f0)) := (blk_cell BK102.out 0).trans rfl
                              have hcz39_1 : wc.cell? ⟨gb102, 1, none⟩ = some (.int .i64 ((rd_T61 l0 x5_2).f1)) := (blk_cell BK102.out 1).trans rfl
                              have hcz39_2 : wc.cell? ⟨gb102, 2, none⟩ = some (.slice A101_2 ((rd_T61 l0 x5_2).f2).length c101_2) := (blk_cell BK102.out 2).trans rfl
                              have hcz39_3 : wc.cell? ⟨gb102, 3, none⟩ = some (.slice A101_3 ((rd_T61 l0 x5_2).f3).length c101_3) := (blk_cell BK102.out 3).trans rfl
                              have hfz39_0 := blk_frozen BK102.out 0
                              have hfz39_1 := blk_frozen BK102.out 1
                              have hfz39_2 := blk_frozen BK102.out 2
                              have hfz39_3 := blk_frozen BK102.out 3
                              go_upto_if 83 with (fail)
                              go_cut [9] (fun v9 wc => ∃ (kq : Nat) (x9_37 : Int), v9 = .int .i64 x9_37 ∧ Aside0 (spec_validSteps.j5 kq l0 a1 x5_2 x9_37 1000000 ((rd_T61 l0 x5_2).f0) ((rd_T61 l0 x5_2).f1) ((rd_T61 l0 x5_2).f2) ((rd_T61 l0 x5_2).f3) = some r) ∧ Aside0 (kq ≤ kj19) ∧ Aside0 (wc.heap[gb102]? = some (.cells #[.int .i64 ((rd_T61 l0 x5_2).f0), .int .i64 ((rd_T61 l0 x5_2).f1), (.slice A101_2 ((rd_T61 l0 x5_2).f2).length c101_2), (.slice A101_3 ((rd_T61 l0 x5_2).f3).length c101_3)] 61 (0, 0))) ∧ Aside0 (Below w.heap.size w wc))
                              case first =>
                                have H := HC38.out
                                clear HC38
                                by_cases c40 : ((rd_T61 l0 x5_2).f0) = 1
                                · rw [if_pos c40] at H
                                  have c40b0 : (((rd_T61 l0 x5_2).f0) == 1) = true := beq_iff_eq.mpr c40
                                  have c40b1 : (((rd_T61 l0 x5_2).f0) != 1) = false := bne_eq_false_iff_eq.mpr c40
                                  clear c40
                                  (first | rw [c40b0] | (simp only [i64_w, i32_w]; rw [c40b0]) | skip)
                                  have H' := Aside0.mk H
                                  clear H
                                  go_wp2
                                  go_meet
                                  case rel => exact ⟨_, ((-1)), (by first | rfl | (simp; done) | (simp [*]; done)), H', ⟨by have := HJ2.out; have := HK2.out; have := HJ7.out; have := HJ15.out; have := HJ19.out; first | omega | exact Nat.le_refl _⟩, ⟨by (with_reducible repeat (first | refine blk_drewN ?_ _ | refine blk_drew ?_ | refine blk_alloc ?_ _)); exact BK102.out⟩, ⟨by repeat (first | (with_reducible first | exact HB.out | apply below_alloc | apply pw_below_drewN | apply below_drew1 | refine below_set ?_ GE102.out) | exact HB.out)⟩⟩
                                · rw [if_neg c40] at H
                                  have c40b0 : (((rd_T61 l0 x5_2).f0) == 1) = false := beq_eq_false_iff_ne.mpr c40
                                  have c40b1 : (((rd_T61 l0 x5_2).f0) != 1) = true := bne_iff_ne.mpr c40
                                  (first | rw [c40b0] | (simp only [i64_w, i32_w]; rw [c40b0]) | skip)
                                  have H' := Aside0.mk H
                                  clear H
                                  go_wp2
                                  go_meet
                                  case rel => exact ⟨_, (0), (by first | rfl | (simp; done) | (simp [*]; done)), H', ⟨by have := HJ2.out; have := HK2.out; have := HJ7.out; have := HJ15.out; have := HJ19.out; first | omega | exact Nat.le_refl _⟩, ⟨by (with_reducible repeat (first | refine blk_drewN ?_ _ | refine blk_drew ?_ | refine blk_alloc ?_ _)); exact BK102.out⟩, ⟨by repeat (first | (with_reducible first | exact HB.out | apply below_alloc | apply pw_below_drewN | apply below_drew1 | refine below_set ?_ GE102.out) | exact HB.out)⟩⟩
                              case rest =>
                                clear HC38
                                try clear c1
                                try clear p1
                                try clear q1
                                try clear hx1
                                try clear c2
                                try clear p2
                                try clear c3
                                try clear c4
                                try clear c4b0
                                try clear c5
                                try clear c6
                                try clear c6b0
                                try clear c7
                                try clear c7b0
                                try clear c10
                                try clear p10
                                try clear q10
                                try clear hx10
                                try clear c11
                                try clear c11b0
                                try clear c11b1
                                try clear c13
                                try clear c13b0
                                try clear c13b1
                                try clear c17
                                try clear c17b0
                                try clear c17b1
                                try clear c22
                                try clear c23
                                try clear c24
                                try clear c26
                                try clear c26b0
                                try clear c26b1
                                try clear c29
                                try clear c29b0
                                try clear c29b1
                                try clear c31
                                try clear c33
                                try clear c33b0
                                try clear c33b1
                                try clear c37
                                try clear c40
                                try clear c40b0
                                try clear c40b1
                                try clear hcz10_0
                                try clear hcz10_1
                                try clear hcz10_2
                                try clear hcz10_3
                                try clear hcz12_0
                                try clear hcz12_1
                                try clear hcz12_2
                                try clear hcz12_3
                                try clear hcz14_0
                                try clear hcz14_1
                                try clear hcz14_2
                                try clear hcz14_3
                                try clear hcz15_0
                                try clear hcz15_1
                                try clear hcz15_2
                                try clear hcz15_3
                                try clear hcz18_0
                                try clear hcz18_1
                                try clear hcz18_2
                                try clear hcz18_3
                                try clear hcz19_0
                                try clear hcz19_1
                                try clear hcz19_2
                                try clear hcz19_3
                                try clear hcz25_0
                                try clear hcz25_1
                                try clear hcz25_2
                                try clear hcz25_3
                                try clear hcz27_0
                                try clear hcz27_1
                                try clear hcz27_2
                                try clear hcz27_3
                                try clear hcz28_0
                                try clear hcz28_1
                                try clear hcz28_2
                                try clear hcz28_3
                                try clear hcz30_0
                                try clear hcz30_1
                                try clear hcz30_2
                                try clear hcz30_3
                                try clear hcz32_0
                                try clear hcz32_1
                                try clear hcz32_2
                                try clear hcz32_3
                                try clear hcz34_0
                                try clear hcz34_1
                                try clear hcz34_2
                                try clear hcz34_3
                                try clear hcz35_0
                                try clear hcz35_1
                                try clear hcz35_2
                                try clear hcz35_3
                                try clear hcz36_0
                                try clear hcz36_1
                                try clear hcz36_2
                                try clear hcz36_3
                                try clear hcz39_0
                                try clear hcz39_1
                                try clear hcz39_2
                                try clear hcz39_3
                                try clear hfz10_0
                                try clear hfz10_1
                                try clear hfz10_2
                                try clear hfz10_3
                                try clear hfz12_0
                                try clear hfz12_1
                                try clear hfz12_2
                                try clear hfz12_3
                                try clear hfz14_0
                                try clear hfz14_1
                                try clear hfz14_2
                                try clear hfz14_3
                                try clear hfz15_0
                                try clear hfz15_1
                                try clear hfz15_2
                                try clear hfz15_3
                                try clear hfz18_0
                                try clear hfz18_1
                                try clear hfz18_2
                                try clear hfz18_3
                                try clear hfz19_0
                                try clear hfz19_1
                                try clear hfz19_2
                                try clear hfz19_3
                                try clear hfz25_0
                                try clear hfz25_1
                                try clear hfz25_2
                                try clear hfz25_3
                                try clear hfz27_0
                                try clear hfz27_1
                                try clear hfz27_2
                                try clear hfz27_3
                                try clear hfz28_0
                                try clear hfz28_1
                                try clear hfz28_2
                                try clear hfz28_3
                                try clear hfz30_0
                                try clear hfz30_1
                                try clear hfz30_2
                                try clear hfz30_3
                                try clear hfz32_0
                                try clear hfz32_1
                                try clear hfz32_2
                                try clear hfz32_3
                                try clear hfz34_0
                                try clear hfz34_1
                                try clear hfz34_2
                                try clear hfz34_3
                                try clear hfz35_0
                                try clear hfz35_1
                                try clear hfz35_2
                                try clear hfz35_3
                                try clear hfz36_0
                                try clear hfz36_1
                                try clear hfz36_2
                                try clear hfz36_3
                                try clear hfz39_0
                                try clear hfz39_1
                                try clear hfz39_2
                                try clear hfz39_3
                                try clear hx101_0
                                try clear hx101_1
                                try clear hx101_2
                                try clear hx101_3
                                try clear p1
                                try clear p10
                                try clear p101
                                try clear p2
                                try clear q1
                                try clear q10
                                try clear q101
                                obtain ⟨kq, x9_37, rfl, HA, HJ37, BK102, HB⟩ := hcut
                                cases kq with
                                | zero => exact absurd HA.out (by simp [spec_validSteps.j5])
                                | succ kj37 =>
                                  have H := HA.out
                                  clear HA
                                  simp only [spec_validSteps.j5] at H
                                  have HC41 := Aside0.mk H
                                  clear H
                                  have hcz42_0 : wc.cell? ⟨gb102, 0, none⟩ = some (.int .i64 ((rd_T61 l0 x5_2).f0)) := (blk_cell BK102.out 0).trans rfl
                                  have hcz42_1 : wc.cell? ⟨gb102, 1, none⟩ = some (.int .i64 ((rd_T61 l0 x5_2).f1)) := (blk_cell BK102.out 1).trans rfl
                                  have hcz42_2 : wc.cell? ⟨gb102, 2, none⟩ = some (.slice A101_2 ((rd_T61 l0 x5_2).f2).length c101_2) := (blk_cell BK102.out 2).trans rfl
                                  have hcz42_3 : wc.cell? ⟨gb102, 3, none⟩ = some (.slice A101_3 ((rd_T61 l0 x5_2).f3).length c101_3) := (blk_cell BK102.out 3).trans rfl
                                  have hfz42_0 := blk_frozen BK102.out 0
                                  have hfz42_1 := blk_frozen BK102.out 1
                                  have hfz42_2 := blk_frozen BK102.out 2
                                  have hfz42_3 := blk_frozen BK102.out 3
                                  go_upto_if 86 with (fail)
                                  go_cut [10] (fun v10 wc => ∃ (kq : Nat) (x10_40 : Int), v10 = .int .i64 x10_40 ∧ Aside0 (spec_validSteps.j6 kq l0 a1 x5_2 x9_37 x10_40 ((rd_T61 l0 x5_2).f0) ((rd_T61 l0 x5_2).f1) ((rd_T61 l0 x5_2).f2) ((rd_T61 l0 x5_2).f3) = some r) ∧ Aside0 (kq ≤ kj37) ∧ Aside0 (wc.heap[gb102]? = some (.cells #[.int .i64 ((rd_T61 l0 x5_2).f0), .int .i64 ((rd_T61 l0 x5_2).f1), (.slice A101_2 ((rd_T61 l0 x5_2).f2).length c101_2), (.slice A101_3 ((rd_T61 l0 x5_2).f3).length c101_3)] 61 (0, 0))) ∧ Aside0 (Below w.heap.size w wc))
                                  case first =>
                                    have H := HC41.out
                                    clear HC41
                                    by_cases c43 : ((rd_T61 l0 x5_2).f0) = 4
                                    · rw [if_pos c43] at H
                                      have c43b0 : (((rd_T61 l0 x5_2).f0) == 4) = true := beq_iff_eq.mpr c43
                                      have c43b1 : (((rd_T61 l0 x5_2).f0) != 4) = false := bne_eq_false_iff_eq.mpr c43
                                      clear c43
                                      (first | rw [c43b0] | (simp only [i64_w, i32_w]; rw [c43b0]) | skip)
                                      have H' := Aside0.mk H
                                      clear H
                                      go_wp2
                                      go_meet
                                      case rel => exact ⟨_, (6), (by first | rfl | (simp; done) | (simp [*]; done)), H', ⟨by have := HJ2.out; have := HK2.out; have := HJ7.out; have := HJ15.out; have := HJ19.out; have := HJ37.out; first | omega | exact Nat.le_refl _⟩, ⟨by (with_reducible repeat (first | refine blk_drewN ?_ _ | refine blk_drew ?_ | refine blk_alloc ?_ _)); exact BK102.out⟩, ⟨by repeat (first | (with_reducible first | exact HB.out | apply below_alloc | apply pw_below_drewN | apply below_drew1 | refine below_set ?_ GE102.out) | exact HB.out)⟩⟩
                                    · rw [if_neg c43] at H
                                      have c43b0 : (((rd_T61 l0 x5_2).f0) == 4) = false := beq_eq_false_iff_ne.mpr c43
                                      have c43b1 : (((rd_T61 l0 x5_2).f0) != 4) = true := bne_iff_ne.mpr c43
                                      (first | rw [c43b0] | (simp only [i64_w, i32_w]; rw [c43b0]) | skip)
                                      have H' := Aside0.mk H
                                      clear H
                                      go_wp2
                                      go_meet
                                      case rel => exact ⟨_, (1000000), (by first | rfl | (simp; done) | (simp [*]; done)), H', ⟨by have := HJ2.out; have := HK2.out; have := HJ7.out; have := HJ15.out; have := HJ19.out; have := HJ37.out; first | omega | exact Nat.le_refl _⟩, ⟨by (with_reducible repeat (first | refine blk_drewN ?_ _ | refine blk_drew ?_ | refine blk_alloc ?_ _)); exact BK102.out⟩, ⟨by repeat (first | (with_reducible first | exact HB.out | apply below_alloc | apply pw_below_drewN | apply below_drew1 | refine below_set ?_ GE102.out) | exact HB.out)⟩⟩
                                  case rest =>
                                    clear HC41
                                    try clear c1
                                    try clear p1
                                    try clear q1
                                    try clear hx1
                                    try clear c2
                                    try clear p2
                                    try clear c3
                                    try clear c4
                                    try clear c4b0
                                    try clear c5
                                    try clear c6
                                    try clear c6b0
                                    try clear c7
                                    try clear c7b0
                                    try clear c10
                                    try clear p10
                                    try clear q10
                                    try clear hx10
                                    try clear c11
                                    try clear c11b0
                                    try clear c11b1
                                    try clear c13
                                    try clear c13b0
                                    try clear c13b1
                                    try clear c17
                                    try clear c17b0
                                    try clear c17b1
                                    try clear c22
                                    try clear c23
                                    try clear c24
                                    try clear c26
                                    try clear c26b0
                                    try clear c26b1
                                    try clear c29
                                    try clear c29b0
                                    try clear c29b1
                                    try clear c31
                                    try clear c33
                                    try clear c33b0
                                    try clear c33b1
                                    try clear c37
                                    try clear c40
                                    try clear c40b0
                                    try clear c40b1
                                    try clear c43
                                    try clear c43b0
                                    try clear c43b1
                                    try clear hcz10_0
                                    try clear hcz10_1
                                    try clear hcz10_2
                                    try clear hcz10_3
                                    try clear hcz12_0
                                    try clear hcz12_1
                                    try clear hcz12_2
                                    try clear hcz12_3
                                    try clear hcz14_0
                                    try clear hcz14_1
                                    try clear hcz14_2
                                    try clear hcz14_3
                                    try clear hcz15_0
                                    try clear hcz15_1
                                    try clear hcz15_2
                                    try clear hcz15_3
                                    try clear hcz18_0
                                    try clear hcz18_1
                                    try clear hcz18_2
                                    try clear hcz18_3
                                    try clear hcz19_0
                                    try clear hcz19_1
                                    try clear hcz19_2
                                    try clear hcz19_3
                                    try clear hcz25_0
                                    try clear hcz25_1
                                    try clear hcz25_2
                                    try clear hcz25_3
                                    try clear hcz27_0
                                    try clear hcz27_1
                                    try clear hcz27_2
                                    try clear hcz27_3
                                    try clear hcz28_0
                                    try clear hcz28_1
                                    try clear hcz28_2
                                    try clear hcz28_3
                                    try clear hcz30_0
                                    try clear hcz30_1
                                    try clear hcz30_2
                                    try clear hcz30_3
                                    try clear hcz32_0
                                    try clear hcz32_1
                                    try clear hcz32_2
                                    try clear hcz32_3
                                    try clear hcz34_0
                                    try clear hcz34_1
                                    try clear hcz34_2
                                    try clear hcz34_3
                                    try clear hcz35_0
                                    try clear hcz35_1
                                    try clear hcz35_2
                                    try clear hcz35_3
                                    try clear hcz36_0
                                    try clear hcz36_1
                                    try clear hcz36_2
                                    try clear hcz36_3
                                    try clear hcz39_0
                                    try clear hcz39_1
                                    try clear hcz39_2
                                    try clear hcz39_3
                                    try clear hcz42_0
                                    try clear hcz42_1
                                    try clear hcz42_2
                                    try clear hcz42_3
                                    try clear hfz10_0
                                    try clear hfz10_1
                                    try clear hfz10_2
                                    try clear hfz10_3
                                    try clear hfz12_0
                                    try clear hfz12_1
                                    try clear hfz12_2
                                    try clear hfz12_3
                                    try clear hfz14_0
                                    try clear hfz14_1
                                    try clear hfz14_2
                                    try clear hfz14_3
                                    try clear hfz15_0
                                    try clear hfz15_1
                                    try clear hfz15_2
                                    try clear hfz15_3
                                    try clear hfz18_0
                                    try clear hfz18_1
                                    try clear hfz18_2
                                    try clear hfz18_3
                                    try clear hfz19_0
                                    try clear hfz19_1
                                    try clear hfz19_2
                                    try clear hfz19_3
                                    try clear hfz25_0
                                    try clear hfz25_1
                                    try clear hfz25_2
                                    try clear hfz25_3
                                    try clear hfz27_0
                                    try clear hfz27_1
                                    try clear hfz27_2
                                    try clear hfz27_3
                                    try clear hfz28_0
                                    try clear hfz28_1
                                    try clear hfz28_2
                                    try clear hfz28_3
                                    try clear hfz30_0
                                    try clear hfz30_1
                                    try clear hfz30_2
                                    try clear hfz30_3
                                    try clear hfz32_0
                                    try clear hfz32_1
                                    try clear hfz32_2
                                    try clear hfz32_3
                                    try clear hfz34_0
                                    try clear hfz34_1
                                    try clear hfz34_2
                                    try clear hfz34_3
                                    try clear hfz35_0
                                    try clear hfz35_1
                                    try clear hfz35_2
                                    try clear hfz35_3
                                    try clear hfz36_0
                                    try clear hfz36_1
                                    try clear hfz36_2
                                    try clear hfz36_3
                                    try clear hfz39_0
                                    try clear hfz39_1
                                    try clear hfz39_2
                                    try clear hfz39_3
                                    try clear hfz42_0
                                    try clear hfz42_1
                                    try clear hfz42_2
                                    try clear hfz42_3
                                    try clear hx101_0
                                    try clear hx101_1
                                    try clear hx101_2
                                    try clear hx101_3
                                    try clear p1
                                    try clear p10
                                    try clear p101
                                    try clear p2
                                    try clear q1
                                    try clear q10
                                    try clear q101
                                    obtain ⟨kq, x10_40, rfl, HA, HJ40, BK102, HB⟩ := hcut
                                    cases kq with
                                    | zero => exact absurd HA.out (by simp [spec_validSteps.j6])
                                    | succ kj40 =>
                                      have H := HA.out
                                      clear HA
                                      simp only [spec_validSteps.j6] at H
                                      replace H := Option.bind_eq_some_iff.mp H
                                      obtain ⟨t104, A440, H⟩ := H
                                      replace H : (if t104 = true then ((spec_validSteps.f kj40 ((rd_T61 l0 x5_2).f2) (wrap64 (a1 - 1))).bind fun t105 => (if t105 = true then ((spec_validSteps.f kj40 ((rd_T61 l0 x5_2).f3) (wrap64 (a1 - 1))).bind fun t106 => (if t106 = true then (spec_validSteps.l0 kj40 l0 a1 (wrap64 (x5_2 + 1))) else (some false))) else (some false))) else (some false)) = some r := H
                                      have A44 := Aside0.mk A440
                                      clear A440
                                      by_cases c45 : t104 = true
                                      · subst c45
                                        have H1 : ((spec_validSteps.f kj40 ((rd_T61 l0 x5_2).f2) (wrap64 (a1 - 1))).bind fun t105 => (if t105 = true then ((spec_validSteps.f kj40 ((rd_T61 l0 x5_2).f3) (wrap64 (a1 - 1))).bind fun t106 => (if t106 = true then (spec_validSteps.l0 kj40 l0 a1 (wrap64 (x5_2 + 1))) else (some false))) else (some false))) = some r := by rw [if_pos rfl] at H; exact H
                                        clear H
                                        have H := H1
                                        clear H1
                                        replace H := Option.bind_eq_some_iff.mp H
                                        obtain ⟨t105, A460, H⟩ := H
                                        replace H : (if t105 = true then ((spec_validSteps.f kj40 ((rd_T61 l0 x5_2).f3) (wrap64 (a1 - 1))).bind fun t106 => (if t106 = true then (spec_validSteps.l0 kj40 l0 a1 (wrap64 (x5_2 + 1))) else (some false))) else (some false)) = some r := H
                                        have A46 := Aside0.mk A460
                                        clear A460
                                        by_cases c47 : t105 = true
                                        · subst c47
                                          have H1 : ((spec_validSteps.f kj40 ((rd_T61 l0 x5_2).f3) (wrap64 (a1 - 1))).bind fun t106 => (if t106 = true then (spec_validSteps.l0 kj40 l0 a1 (wrap64 (x5_2 + 1))) else (some false))) = some r := by rw [if_pos rfl] at H; exact H
                                          clear H
                                          have H := H1
                                          clear H1
                                          replace H := Option.bind_eq_some_iff.mp H
                                          obtain ⟨t106, A480, H⟩ := H
                                          replace H : (if t106 = true then (spec_validSteps.l0 kj40 l0 a1 (wrap64 (x5_2 + 1))) else (some false)) = some r := H
                                          have A48 := Aside0.mk A480
                                          clear A480
                                          by_cases c49 : t106 = true
                                          · subst c49
                                            have H1 : (spec_validSteps.l0 kj40 l0 a1 (wrap64 (x5_2 + 1))) = some r := by rw [if_pos rfl] at H; exact H
                                            clear H
                                            have H := H1
                                            clear H1
                                            have H' := Aside0.mk H
                                            clear H
                                            have hcz50_0 : wc.cell? ⟨gb102, 0, none⟩ = some (.int .i64 ((rd_T61 l0 x5_2).f0)) := (blk_cell BK102.out 0).trans rfl
                                            have hcz50_1 : wc.cell? ⟨gb102, 1, none⟩ = some (.int .i64 ((rd_T61 l0 x5_2).f1)) := (blk_cell BK102.out 1).trans rfl
                                            have hcz50_2 : wc.cell? ⟨gb102, 2, none⟩ = some (.slice A101_2 ((rd_T61 l0 x5_2).f2).length c101_2) := (blk_cell BK102.out 2).trans rfl
                                            have hcz50_3 : wc.cell? ⟨gb102, 3, none⟩ = some (.slice A101_3 ((rd_T61 l0 x5_2).f3).length c101_3) := (blk_cell BK102.out 3).trans rfl
                                            have hfz50_0 := blk_frozen BK102.out 0
                                            have hfz50_1 := blk_frozen BK102.out 1
                                            have hfz50_2 := blk_frozen BK102.out 2
                                            have hfz50_3 := blk_frozen BK102.out 3
                                            go_wp2_with (first | ((with_reducible refine gate_callee (f := 60) rfl ?_); refine goesL_ (some 91) rfl rfl Try.func60 (by kernel_rfl) rfl #[.int .i64 ((rd_T61 l0 x5_2).f1), .int .i64 x9_37, .int .i64 x10_40] rfl (by (try simp only [List.map_toArray, List.map_cons, List.map_nil]); first | done | rfl | (simp only [List.length_drop, List.length_take]; rfl) | (simp only [List.length_drop, List.length_take]; rw [Nat.min_eq_left (by have z_ := of_eq_true q101; omega)])) ?_; (with_reducible refine (spec_inRange.calls ((rd_T61 l0 x5_2).f1) x9_37 x10_40 true _ A44.out).mono ?_); rintro e w' ⟨rfl, ⟨nd, rfl⟩⟩; refine ⟨_, rfl, ?_⟩) | (go_at_call 50; (with_reducible refine (ih kj40 (by have := HJ2.out; have := HK2.out; have := HJ7.out; have := HJ15.out; have := HJ19.out; have := HJ37.out; have := HJ40.out; omega) _ _ ((rd_T61 l0 x5_2).f2) (wrap64 (a1 - 1)) true _ ?side1 ?side2 A46.out).mono ?_); (case side1 => repeat (first | exact (Kd.C_below HR101_2.out (by repeat (first | (with_reducible first | exact HB.out | apply below_alloc | apply pw_below_drewN | apply below_drew1 | refine below_set ?_ GE102.out) | exact HB.out))) | (with_reducible refine Kd.C_alloc ?_ _) | (with_reducible refine Kd.C_drewN ?_ _) | (with_reducible refine Kd.C_drew ?_))); (case side2 => exact HC101_2.out); rintro e w51 ⟨rfl, hb⟩; have n0_ := Aside0.mk (blk_below (g := gb102) (o := .cells #[.int .i64 ((rd_T61 l0 x5_2).f0), .int .i64 ((rd_T61 l0 x5_2).f1), .slice A101_2 ((rd_T61 l0 x5_2).f2).length c101_2, .slice A101_3 ((rd_T61 l0 x5_2).f3).length c101_3] 61 (0, 0)) (by (with_reducible repeat (first | refine blk_drewN ?_ _ | refine blk_drew ?_ | refine blk_alloc ?_ _)); exact BK102.out) hb); have n1_ := Aside0.mk (below_step (by repeat (first | (with_reducible first | exact HB.out | apply below_alloc | apply pw_below_drewN | apply below_drew1 | refine below_set ?_ GE102.out) | exact HB.out)) hb); clear BK102; clear HB; have BK102 := n0_; have HB := n1_; clear n0_ n1_; (try clear hb); (try clear hb2); (try clear hk); (try clear hi); have hcz52_0 : w51.cell? ⟨gb102, 0, none⟩ = some (.int .i64 ((rd_T61 l0 x5_2).f0)) := (blk_cell BK102.out 0).trans rfl; have hcz52_1 : w51.cell? ⟨gb102, 1, none⟩ = some (.int .i64 ((rd_T61 l0 x5_2).f1)) := (blk_cell BK102.out 1).trans rfl; have hcz52_2 : w51.cell? ⟨gb102, 2, none⟩ = some (.slice A101_2 ((rd_T61 l0 x5_2).f2).length c101_2) := (blk_cell BK102.out 2).trans rfl; have hcz52_3 : w51.cell? ⟨gb102, 3, none⟩ = some (.slice A101_3 ((rd_T61 l0 x5_2).f3).length c101_3) := (blk_cell BK102.out 3).trans rfl; have hfz52_0 := blk_frozen BK102.out 0; have hfz52_1 := blk_frozen BK102.out 1; have hfz52_2 := blk_frozen BK102.out 2; have hfz52_3 := blk_frozen BK102.out 3) | (go_at_call 50; (with_reducible refine (ih kj40 (by have := HJ2.out; have := HK2.out; have := HJ7.out; have := HJ15.out; have := HJ19.out; have := HJ37.out; have := HJ40.out; omega) _ _ ((rd_T61 l0 x5_2).f3) (wrap64 (a1 - 1)) true _ ?side1 ?side2 A48.out).mono ?_); (case side1 => repeat (first | exact (Kd.C_below HR101_3.out HB.out) | (with_reducible refine Kd.C_alloc ?_ _) | (with_reducible refine Kd.C_drewN ?_ _) | (with_reducible refine Kd.C_drew ?_))); (case side2 => exact HC101_3.out); rintro e w53 ⟨rfl, hb⟩; have n0_ := Aside0.mk (blk_below (g := gb102) (o := .cells #[.int .i64 ((rd_T61 l0 x5_2).f0), .int .i64 ((rd_T61 l0 x5_2).f1), .slice A101_2 ((rd_T61 l0 x5_2).f2).length c101_2, .slice A101_3 ((rd_T61 l0 x5_2).f3).length c101_3] 61 (0, 0)) (by (with_reducible repeat (first | refine blk_drewN ?_ _ | refine blk_drew ?_ | refine blk_alloc ?_ _)); exact BK102.out) hb); have n1_ := Aside0.mk (below_step (by repeat (first | (with_reducible first | exact HB.out | apply below_alloc | apply pw_below_drewN | apply below_drew1 | refine below_set ?_ GE102.out) | exact HB.out)) hb); clear BK102; clear HB; have BK102 := n0_; have HB := n1_; clear n0_ n1_; (try clear hb); (try clear hb2); (try clear hk); (try clear hi)))
                                            go_roundg kj40
                                            case measure => have := HJ2.out; have := HK2.out; have := HJ7.out; have := HJ15.out; have := HJ19.out; have := HJ37.out; have := HJ40.out; omega
                                            case rel => exact ⟨(wrap64 (x5_2 + 1)), (by first | rfl | (simp; done) | (simp [*]; done)), H', ⟨by have := HJ2.out; have := HK2.out; have := HJ7.out; have := HJ15.out; have := HJ19.out; have := HJ37.out; have := HJ40.out; omega⟩, ⟨by repeat (first | (with_reducible first | exact HB.out | apply below_alloc | apply pw_below_drewN | apply below_drew1 | refine below_set ?_ GE102.out) | exact HB.out)⟩⟩
                                          · replace c49 := Bool.eq_false_iff.mpr c49
                                            subst c49
                                            have H1 : (some false) = some r := by rw [if_neg (show ¬ (false = true) by decide)] at H; exact H
                                            clear H
                                            have H := H1
                                            clear H1
                                            obtain rfl := Option.some.inj H
                                            have hcz54_0 : wc.cell? ⟨gb102, 0, none⟩ = some (.int .i64 ((rd_T61 l0 x5_2).f0)) := (blk_cell BK102.out 0).trans rfl
                                            have hcz54_1 : wc.cell? ⟨gb102, 1, none⟩ = some (.int .i64 ((rd_T61 l0 x5_2).f1)) := (blk_cell BK102.out 1).trans rfl
                                            have hcz54_2 : wc.cell? ⟨gb102, 2, none⟩ = some (.slice A101_2 ((rd_T61 l0 x5_2).f2).length c101_2) := (blk_cell BK102.out 2).trans rfl
                                            have hcz54_3 : wc.cell? ⟨gb102, 3, none⟩ = some (.slice A101_3 ((rd_T61 l0 x5_2).f3).length c101_3) := (blk_cell BK102.out 3).trans rfl
                                            have hfz54_0 := blk_frozen BK102.out 0
                                            have hfz54_1 := blk_frozen BK102.out 1
                                            have hfz54_2 := blk_frozen BK102.out 2
                                            have hfz54_3 := blk_frozen BK102.out 3
                                            go_wp2_with (first | ((with_reducible refine gate_callee (f := 60) rfl ?_); refine goesL_ (some 91) rfl rfl Try.func60 (by kernel_rfl) rfl #[.int .i64 ((rd_T61 l0 x5_2).f1), .int .i64 x9_37, .int .i64 x10_40] rfl (by (try simp only [List.map_toArray, List.map_cons, List.map_nil]); first | done | rfl | (simp only [List.length_drop, List.length_take]; rfl) | (simp only [List.length_drop, List.length_take]; rw [Nat.min_eq_left (by have z_ := of_eq_true q101; omega)])) ?_; (with_reducible refine (spec_inRange.calls ((rd_T61 l0 x5_2).f1) x9_37 x10_40 true _ A44.out).mono ?_); rintro e w' ⟨rfl, ⟨nd, rfl⟩⟩; refine ⟨_, rfl, ?_⟩) | (go_at_call 50; (with_reducible refine (ih kj40 (by have := HJ2.out; have := HK2.out; have := HJ7.out; have := HJ15.out; have := HJ19.out; have := HJ37.out; have := HJ40.out; omega) _ _ ((rd_T61 l0 x5_2).f2) (wrap64 (a1 - 1)) true _ ?side1 ?side2 A46.out).mono ?_); (case side1 => repeat (first | exact (Kd.C_below HR101_2.out (by repeat (first | (with_reducible first | exact HB.out | apply below_alloc | apply pw_below_drewN | apply below_drew1 | refine below_set ?_ GE102.out) | exact HB.out))) | (with_reducible refine Kd.C_alloc ?_ _) | (with_reducible refine Kd.C_drewN ?_ _) | (with_reducible refine Kd.C_drew ?_))); (case side2 => exact HC101_2.out); rintro e w55 ⟨rfl, hb⟩; have n0_ := Aside0.mk (blk_below (g := gb102) (o := .cells #[.int .i64 ((rd_T61 l0 x5_2).f0), .int .i64 ((rd_T61 l0 x5_2).f1), .slice A101_2 ((rd_T61 l0 x5_2).f2).length c101_2, .slice A101_3 ((rd_T61 l0 x5_2).f3).length c101_3] 61 (0, 0)) (by (with_reducible repeat (first | refine blk_drewN ?_ _ | refine blk_drew ?_ | refine blk_alloc ?_ _)); exact BK102.out) hb); have n1_ := Aside0.mk (below_step (by repeat (first | (with_reducible first | exact HB.out | apply below_alloc | apply pw_below_drewN | apply below_drew1 | refine below_set ?_ GE102.out) | exact HB.out)) hb); clear BK102; clear HB; have BK102 := n0_; have HB := n1_; clear n0_ n1_; (try clear hb); (try clear hb2); (try clear hk); (try clear hi); have hcz56_0 : w55.cell? ⟨gb102, 0, none⟩ = some (.int .i64 ((rd_T61 l0 x5_2).f0)) := (blk_cell BK102.out 0).trans rfl; have hcz56_1 : w55.cell? ⟨gb102, 1, none⟩ = some (.int .i64 ((rd_T61 l0 x5_2).f1)) := (blk_cell BK102.out 1).trans rfl; have hcz56_2 : w55.cell? ⟨gb102, 2, none⟩ = some (.slice A101_2 ((rd_T61 l0 x5_2).f2).length c101_2) := (blk_cell BK102.out 2).trans rfl; have hcz56_3 : w55.cell? ⟨gb102, 3, none⟩ = some (.slice A101_3 ((rd_T61 l0 x5_2).f3).length c101_3) := (blk_cell BK102.out 3).trans rfl; have hfz56_0 := blk_frozen BK102.out 0; have hfz56_1 := blk_frozen BK102.out 1; have hfz56_2 := blk_frozen BK102.out 2; have hfz56_3 := blk_frozen BK102.out 3) | (go_at_call 50; (with_reducible refine (ih kj40 (by have := HJ2.out; have := HK2.out; have := HJ7.out; have := HJ15.out; have := HJ19.out; have := HJ37.out; have := HJ40.out; omega) _ _ ((rd_T61 l0 x5_2).f3) (wrap64 (a1 - 1)) false _ ?side1 ?side2 A48.out).mono ?_); (case side1 => repeat (first | exact (Kd.C_below HR101_3.out HB.out) | (with_reducible refine Kd.C_alloc ?_ _) | (with_reducible refine Kd.C_drewN ?_ _) | (with_reducible refine Kd.C_drew ?_))); (case side2 => exact HC101_3.out); rintro e w57 ⟨rfl, hb⟩; have n0_ := Aside0.mk (blk_below (g := gb102) (o := .cells #[.int .i64 ((rd_T61 l0 x5_2).f0), .int .i64 ((rd_T61 l0 x5_2).f1), .slice A101_2 ((rd_T61 l0 x5_2).f2).length c101_2, .slice A101_3 ((rd_T61 l0 x5_2).f3).length c101_3] 61 (0, 0)) (by (with_reducible repeat (first | refine blk_drewN ?_ _ | refine blk_drew ?_ | refine blk_alloc ?_ _)); exact BK102.out) hb); have n1_ := Aside0.mk (below_step (by repeat (first | (with_reducible first | exact HB.out | apply below_alloc | apply pw_below_drewN | apply below_drew1 | refine below_set ?_ GE102.out) | exact HB.out)) hb); clear BK102; clear HB; have BK102 := n0_; have HB := n1_; clear n0_ n1_; (try clear hb); (try clear hb2); (try clear hk); (try clear hi)))
                                            go_ret
                                            exact ⟨by first | rfl | (simp [errW_none, errW_some] <;> rfl) | (simp [*, errW_none, errW_some] <;> rfl), by repeat (first | (with_reducible first | exact HB.out | apply below_alloc | apply pw_below_drewN | apply below_drew1 | refine below_set ?_ GE102.out) | exact HB.out)⟩
                                        · replace c47 := Bool.eq_false_iff.mpr c47
                                          subst c47
                                          have H1 : (some false) = some r := by rw [if_neg (show ¬ (false = true) by decide)] at H; exact H
                                          clear H
                                          have H := H1
                                          clear H1
                                          obtain rfl := Option.some.inj H
                                          have hcz58_0 : wc.cell? ⟨gb102, 0, none⟩ = some (.int .i64 ((rd_T61 l0 x5_2).f0)) := (blk_cell BK102.out 0).trans rfl
                                          have hcz58_1 : wc.cell? ⟨gb102, 1, none⟩ = some (.int .i64 ((rd_T61 l0 x5_2).f1)) := (blk_cell BK102.out 1).trans rfl
                                          have hcz58_2 : wc.cell? ⟨gb102, 2, none⟩ = some (.slice A101_2 ((rd_T61 l0 x5_2).f2).length c101_2) := (blk_cell BK102.out 2).trans rfl
                                          have hcz58_3 : wc.cell? ⟨gb102, 3, none⟩ = some (.slice A101_3 ((rd_T61 l0 x5_2).f3).length c101_3) := (blk_cell BK102.out 3).trans rfl
                                          have hfz58_0 := blk_frozen BK102.out 0
                                          have hfz58_1 := blk_frozen BK102.out 1
                                          have hfz58_2 := blk_frozen BK102.out 2
                                          have hfz58_3 := blk_frozen BK102.out 3
                                          go_wp2_with (first | ((with_reducible refine gate_callee (f := 60) rfl ?_); refine goesL_ (some 91) rfl rfl Try.func60 (by kernel_rfl) rfl #[.int .i64 ((rd_T61 l0 x5_2).f1), .int .i64 x9_37, .int .i64 x10_40] rfl (by (try simp only [List.map_toArray, List.map_cons, List.map_nil]); first | done | rfl | (simp only [List.length_drop, List.length_take]; rfl) | (simp only [List.length_drop, List.length_take]; rw [Nat.min_eq_left (by have z_ := of_eq_true q101; omega)])) ?_; (with_reducible refine (spec_inRange.calls ((rd_T61 l0 x5_2).f1) x9_37 x10_40 true _ A44.out).mono ?_); rintro e w' ⟨rfl, ⟨nd, rfl⟩⟩; refine ⟨_, rfl, ?_⟩) | (go_at_call 50; (with_reducible refine (ih kj40 (by have := HJ2.out; have := HK2.out; have := HJ7.out; have := HJ15.out; have := HJ19.out; have := HJ37.out; have := HJ40.out; omega) _ _ ((rd_T61 l0 x5_2).f2) (wrap64 (a1 - 1)) false _ ?side1 ?side2 A46.out).mono ?_); (case side1 => repeat (first | exact (Kd.C_below HR101_2.out (by repeat (first | (with_reducible first | exact HB.out | apply below_alloc | apply pw_below_drewN | apply below_drew1 | refine below_set ?_ GE102.out) | exact HB.out))) | (with_reducible refine Kd.C_alloc ?_ _) | (with_reducible refine Kd.C_drewN ?_ _) | (with_reducible refine Kd.C_drew ?_))); (case side2 => exact HC101_2.out); rintro e w59 ⟨rfl, hb⟩; have n0_ := Aside0.mk (blk_below (g := gb102) (o := .cells #[.int .i64 ((rd_T61 l0 x5_2).f0), .int .i64 ((rd_T61 l0 x5_2).f1), .slice A101_2 ((rd_T61 l0 x5_2).f2).length c101_2, .slice A101_3 ((rd_T61 l0 x5_2).f3).length c101_3] 61 (0, 0)) (by (with_reducible repeat (first | refine blk_drewN ?_ _ | refine blk_drew ?_ | refine blk_alloc ?_ _)); exact BK102.out) hb); have n1_ := Aside0.mk (below_step (by repeat (first | (with_reducible first | exact HB.out | apply below_alloc | apply pw_below_drewN | apply below_drew1 | refine below_set ?_ GE102.out) | exact HB.out)) hb); clear BK102; clear HB; have BK102 := n0_; have HB := n1_; clear n0_ n1_; (try clear hb); (try clear hb2); (try clear hk); (try clear hi)))
                                          go_ret
                                          exact ⟨by first | rfl | (simp [errW_none, errW_some] <;> rfl) | (simp [*, errW_none, errW_some] <;> rfl), by repeat (first | (with_reducible first | exact HB.out | apply below_alloc | apply pw_below_drewN | apply below_drew1 | refine below_set ?_ GE102.out) | exact HB.out)⟩
                                      · replace c45 := Bool.eq_false_iff.mpr c45
                                        subst c45
                                        have H1 : (some false) = some r := by rw [if_neg (show ¬ (false = true) by decide)] at H; exact H
                                        clear H
                                        have H := H1
                                        clear H1
                                        obtain rfl := Option.some.inj H
                                        have hcz60_0 : wc.cell? ⟨gb102, 0, none⟩ = some (.int .i64 ((rd_T61 l0 x5_2).f0)) := (blk_cell BK102.out 0).trans rfl
                                        have hcz60_1 : wc.cell? ⟨gb102, 1, none⟩ = some (.int .i64 ((rd_T61 l0 x5_2).f1)) := (blk_cell BK102.out 1).trans rfl
                                        have hcz60_2 : wc.cell? ⟨gb102, 2, none⟩ = some (.slice A101_2 ((rd_T61 l0 x5_2).f2).length c101_2) := (blk_cell BK102.out 2).trans rfl
                                        have hcz60_3 : wc.cell? ⟨gb102, 3, none⟩ = some (.slice A101_3 ((rd_T61 l0 x5_2).f3).length c101_3) := (blk_cell BK102.out 3).trans rfl
                                        have hfz60_0 := blk_frozen BK102.out 0
                                        have hfz60_1 := blk_frozen BK102.out 1
                                        have hfz60_2 := blk_frozen BK102.out 2
                                        have hfz60_3 := blk_frozen BK102.out 3
                                        go_wp2_with (first | ((with_reducible refine gate_callee (f := 60) rfl ?_); refine goesL_ (some 91) rfl rfl Try.func60 (by kernel_rfl) rfl #[.int .i64 ((rd_T61 l0 x5_2).f1), .int .i64 x9_37, .int .i64 x10_40] rfl (by (try simp only [List.map_toArray, List.map_cons, List.map_nil]); first | done | rfl | (simp only [List.length_drop, List.length_take]; rfl) | (simp only [List.length_drop, List.length_take]; rw [Nat.min_eq_left (by have z_ := of_eq_true q101; omega)])) ?_; (with_reducible refine (spec_inRange.calls ((rd_T61 l0 x5_2).f1) x9_37 x10_40 false _ A44.out).mono ?_); rintro e w' ⟨rfl, ⟨nd, rfl⟩⟩; refine ⟨_, rfl, ?_⟩))
                                        go_ret
                                        exact ⟨by first | rfl | (simp [errW_none, errW_some] <;> rfl) | (simp [*, errW_none, errW_some] <;> rfl), by repeat (first | (with_reducible first | exact HB.out | apply below_alloc | apply pw_below_drewN | apply below_drew1 | refine below_set ?_ GE102.out) | exact HB.out)⟩
              · rw [if_neg c7] at H
                exact absurd H (by simp)
            · rw [if_neg c6] at H
              have c6b0 : decide (x5_2 < (l0.length : Int)) = false := decide_eq_false c6
              clear c6
              obtain rfl := Option.some.inj H
              go_wp2
              go_ret
              exact ⟨by first | rfl | (simp [errW_none, errW_some] <;> rfl) | (simp [*, errW_none, errW_some] <;> rfl), by repeat (first | (with_reducible first | exact HB.out | apply below_alloc | apply pw_below_drewN | apply below_drew1) | exact HB.out)⟩

end Go.Proofs.Ytpnamllkeaaeeaa.XFnExactGenOk
