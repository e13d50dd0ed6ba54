/- FnExactDictHash: the program's DictHash returns what the reference's returns, for every text of at most 2^20 bytes. -/
import Derived.Test.YtlhhffkdhdaonaaPFnExactDictHashx1
namespace Go.Proofs.Ytlhhffkdhdaonaa.Pure
open Go.RowKit Go.Proofs.Ytlhhffkdhdaonaa.PFnExactDictHash Go.Proofs.YtlhhffkdhdaonaaW.PrintWords Go.Proofs.YtlhhffkdhdaonaaW.PrintLast

theorem hash_same (s : ByteArray) : ∀ (k : Nat) (h i : Int), impl_DictHash.l0 k s h (s.size : Int) i = spec_hashOf.l0 k s h i
  | 0, _, _ => rfl
  | k + 1, h, i => by
    simp only [impl_DictHash.l0, spec_hashOf.l0, hash_same s k]
    by_cases h1 : i < (s.size : Int)
    · simp only [h1, if_true]
    · simp only [h1, if_false]

theorem hash_ends (s : ByteArray) (hs : s.size ≤ 140737488351232) : ∀ (d : Nat) (h i : Int), 0 ≤ i → (s.size : Int) - i ≤ d → ∃ r, spec_hashOf.l0 (d + 1) s h i = some r
  | 0, h, i, h0, hd => ⟨h, by simp only [spec_hashOf.l0]; rw [if_neg (by omega)]⟩
  | d + 1, h, i, h0, hd => by
    by_cases h1 : i < (s.size : Int)
    · have hw : wrap64 (i + 1) = i + 1 := by unfold wrap64; omega
      obtain ⟨r, hr⟩ := hash_ends s hs d (Int.tmod (wrap64 ((wrap64 (h * 31)) + (wrap64 (bt s i)))) 65536) (i + 1) (by omega) (by omega)
      refine ⟨r, ?_⟩
      rw [spec_hashOf.l0, if_pos h1, if_pos h0, hw]
      exact hr
    · exact ⟨h, by rw [spec_hashOf.l0, if_neg h1]⟩

theorem FnExactDictHash : laws_FnExactDictHash.Pure := by
  intro s hs
  obtain ⟨r, hr⟩ := hash_ends s hs s.size 7 0 (by omega) (by omega)
  refine ⟨s.size + 1, ?_⟩
  unfold laws_FnExactDictHash.f spec_DictHash.f impl_DictHash.f spec_validKey.f spec_hashOf.f
  rw [hash_same, hr]
  by_cases h1 : (s.size : Int) > 1048576
  · simp only [h1, if_true]
  · by_cases h2 : (s.size : Int) ≤ 20
    · have h3 : ¬ (s.size : Int) > 20 := by omega
      simp [h1, h2, h3]
    · have h3 : (s.size : Int) > 20 := by omega
      simp [h1, h2, h3]

end Go.Proofs.Ytlhhffkdhdaonaa.Pure
