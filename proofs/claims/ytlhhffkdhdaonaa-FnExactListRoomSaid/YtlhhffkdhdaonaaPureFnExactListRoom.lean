/- FnExactListRoom: the program's ListRoom returns what the reference's returns, for every whole number. -/
import Derived.Test.YtlhhffkdhdaonaaPFnExactListRoomx1
namespace Go.Proofs.Ytlhhffkdhdaonaa.Pure
open Go.RowKit Go.Proofs.Ytlhhffkdhdaonaa.PFnExactListRoom Go.Proofs.YtlhhffkdhdaonaaW.PrintWords Go.Proofs.YtlhhffkdhdaonaaW.PrintLast

theorem FnExactListRoom : laws_FnExactListRoom.Pure := by
  intro a0 h0
  unfold laws_FnExactListRoom.f spec_ListRoom.f impl_ListRoom.f spec_inRange.f impl_within.f spec_roomFor.f
  by_cases h1 : a0 ≥ 0
  · by_cases h2 : a0 ≤ 1000000
    · by_cases h3 : a0 = 0 <;> simp [h1, h2, h3]
    · simp [h1, h2]
  · simp [h1]

end Go.Proofs.Ytlhhffkdhdaonaa.Pure
