/- FnExactTextAt: the program's TextAt returns what the reference's returns, for every text of at most 2^20 bytes and every index. -/
import Derived.Test.YtlhhffkdhdaonaaPFnExactTextAtx1
namespace Go.Proofs.Ytlhhffkdhdaonaa.Pure
open Go.RowKit Go.Proofs.Ytlhhffkdhdaonaa.PFnExactTextAt Go.Proofs.YtlhhffkdhdaonaaW.PrintWords Go.Proofs.YtlhhffkdhdaonaaW.PrintLast

theorem at_same (s : ByteArray) (i : Int) (b : Bool) : impl_TextAt.j0 1 s i b = spec_TextAt.j0 1 s i b := rfl

theorem at_ends (s : ByteArray) (hs : (s.size : Int) ≤ 400) (i : Int) (b : Bool) (h : b = false → -(s.size : Int) ≤ i ∧ i < s.size) : ∃ r, spec_TextAt.j0 1 s i b = some r := by
  cases b with
  | true => exact ⟨_, by rw [spec_TextAt.j0, if_pos rfl]⟩
  | false =>
    obtain ⟨h0, h1⟩ := h rfl
    simp only [spec_TextAt.j0]
    rw [if_neg (by simp)]
    by_cases hn : i < 0
    · have hw : wrap64 (i + (s.size : Int)) = i + s.size := by unfold wrap64; omega
      have hw1 : wrap64 (i + (s.size : Int) + 1) = i + s.size + 1 := by unfold wrap64; omega
      rw [if_pos hn, hw, hw1, if_pos (by omega), if_pos (by omega), if_pos (by omega)]
      exact ⟨_, rfl⟩
    · have hw1 : wrap64 (i + 1) = i + 1 := by unfold wrap64; omega
      rw [if_neg hn, hw1, if_pos (by omega), if_pos (by omega), if_pos (by omega)]
      exact ⟨_, rfl⟩

theorem FnExactTextAt : laws_FnExactTextAt.Pure := by
  intro s i hs _
  refine ⟨1, ?_⟩
  unfold laws_FnExactTextAt.f spec_TextAt.f impl_TextAt.f spec_validText.f spec_inRange.f
  by_cases h0 : (s.size : Int) > 1048576
  · rw [if_pos h0]
  rw [if_neg h0]
  have close : ∀ b : Bool, (s.size : Int) ≤ 400 → (b = false → -(s.size : Int) ≤ i ∧ i < s.size) →
      ((spec_TextAt.j0 1 s i b).bind fun bt103 => (impl_TextAt.j0 1 s i b).bind fun bt105 => (if bt105.1.toList = bt103.1.toList then (if (bt105.2 != bt103.2) = true then (some false) else (some true)) else (some false))) = some true := by
    intro b hz hb
    obtain ⟨r, hr⟩ := at_ends s hz i b hb
    rw [at_same, hr]
    simp
  by_cases h1 : (s.size : Int) ≤ 400
  · have hw : wrap64 (-(s.size : Int)) = -(s.size : Int) := by unfold wrap64; omega
    have hw1 : wrap64 ((s.size : Int) - 1) = (s.size : Int) - 1 := by unfold wrap64; omega
    have h2 : ¬ (s.size : Int) > 400 := by omega
    simp only [h1, decide_true, Option.bind_some, if_true, if_neg h2, hw, hw1]
    by_cases h3 : i ≥ -(s.size : Int)
    · have h4 : ¬ i < -(s.size : Int) := by omega
      rw [if_pos h3, if_neg h4]
      simp only [Option.bind_some]
      by_cases h5 : i ≥ (s.size : Int)
      · have h6 : ¬ i ≤ (s.size : Int) - 1 := by omega
        simp only [h5, h6, decide_true, decide_false, Bool.not_false]
        exact close true h1 (by simp)
      · have h6 : i ≤ (s.size : Int) - 1 := by omega
        simp only [h5, h6, decide_true, decide_false, Bool.not_true]
        exact close false h1 (fun _ => by omega)
    · have h4 : i < -(s.size : Int) := by omega
      rw [if_neg h3, if_pos h4]
      simp only [Option.bind_some, Bool.not_false]
      exact close true h1 (by simp)
  · have h2 : (s.size : Int) > 400 := by omega
    simp only [h1, decide_false, Option.bind_some, if_pos h2]
    simp [spec_TextAt.j0, impl_TextAt.j0]

end Go.Proofs.Ytlhhffkdhdaonaa.Pure
