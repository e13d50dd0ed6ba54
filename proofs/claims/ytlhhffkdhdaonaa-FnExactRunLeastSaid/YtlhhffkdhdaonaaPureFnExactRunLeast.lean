/- FnExactRunLeast: the program's RunLeast returns what the reference's returns, for every whole number. -/
import Derived.Test.YtlhhffkdhdaonaaPFnExactRunLeastx1
namespace Go.Proofs.Ytlhhffkdhdaonaa.Pure
open Go.RowKit Go.Proofs.Ytlhhffkdhdaonaa.PFnExactRunLeast Go.Proofs.YtlhhffkdhdaonaaW.PrintWords Go.Proofs.YtlhhffkdhdaonaaW.PrintLast

theorem and_one (n : Int) : Go.bits .and .i64 n 1 = n % 2 := by
  have h1 : (BitVec.ofInt 64 1).toNat = 2 ^ 1 - 1 := by decide
  have key : (BitVec.ofInt 64 n &&& BitVec.ofInt 64 1).toNat = (n % ((2 ^ 64 : Nat) : Int)).toNat % 2 ^ 1 := by
    rw [BitVec.toNat_and, BitVec.toNat_ofInt, h1, Nat.and_two_pow_sub_one_eq_mod]
  show IntKind.i64.wrap ((BitVec.ofInt 64 n &&& BitVec.ofInt 64 1).toNat : Nat) = n % 2
  rw [key, IntKind.wrap_i64]
  omega

theorem halves (k : Nat) : ∀ (n r : Int), 0 ≤ n → n ≤ 1000000 → impl_RunLeast.l0 k n r = spec_leastRun.l0 k n r := by
  induction k with
  | zero => intros; rfl
  | succ k ih =>
    intro n r h0 h1
    simp only [impl_RunLeast.l0, spec_leastRun.l0]
    by_cases h8 : n ≥ 8
    · have hd : Int.tdiv n 2 = n / 2 := Int.tdiv_eq_ediv_of_nonneg h0
      have hm : Int.tmod n 2 = n % 2 := Int.tmod_eq_emod_of_nonneg h0
      have hw : wrap64 (n / 2) = n / 2 := by unfold wrap64; omega
      rw [if_pos h8, if_pos h8, and_one, hd, hm, hw]
      exact ih _ _ (by omega) (by omega)
    · rw [if_neg h8, if_neg h8]

theorem least_ends (d : Nat) : ∀ (n r : Int), 0 ≤ n → n ≤ 1000000 → n ≤ d → ∃ q, spec_leastRun.l0 (d + 1) n r = some q := by
  induction d with
  | zero => intro n r h0 h1 hd; exact ⟨_, by rw [spec_leastRun.l0, if_neg (by omega)]⟩
  | succ d ih =>
    intro n r h0 h1 hd
    by_cases h8 : n ≥ 8
    · have hq : Int.tdiv n 2 = n / 2 := Int.tdiv_eq_ediv_of_nonneg h0
      have hw : wrap64 (n / 2) = n / 2 := by unfold wrap64; omega
      obtain ⟨q, h⟩ := ih (n / 2) (Go.bits .or .i64 r (Int.tmod n 2)) (by omega) (by omega) (by omega)
      exact ⟨q, by rw [spec_leastRun.l0, if_pos h8, hq, hw]; exact h⟩
    · exact ⟨_, by rw [spec_leastRun.l0, if_neg h8]⟩

theorem FnExactRunLeast : laws_FnExactRunLeast.Pure := by
  intro n _
  unfold laws_FnExactRunLeast.f spec_RunLeast.f impl_RunLeast.f spec_inRange.f impl_within.f spec_leastRun.f
  by_cases h1 : n ≥ 0
  · by_cases h2 : n ≤ 1000000
    · obtain ⟨q, h⟩ := least_ends n.toNat n 0 h1 h2 (by omega)
      refine ⟨n.toNat + 1, ?_⟩
      rw [halves _ _ _ h1 h2, h]
      simp [h1, h2]
    · exact ⟨0, by simp [h1, h2]⟩
  · exact ⟨0, by simp [h1]⟩

end Go.Proofs.Ytlhhffkdhdaonaa.Pure
