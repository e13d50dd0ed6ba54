/- FnExactCutOk: the program tells valid slices as the reference does, for every slice. -/
import Derived.Test.YtlhhffkdhdaonaaPFnExactCutOkx1
namespace Go.Proofs.Ytlhhffkdhdaonaa.Pure
open Go.RowKit Go.Proofs.Ytlhhffkdhdaonaa.PFnExactCutOk Go.Proofs.YtlhhffkdhdaonaaW.PrintWords Go.Proofs.YtlhhffkdhdaonaaW.PrintLast Go.Proofs.YtlhhffkdhdaonaaW.PrintMore
set_option linter.unusedVariables false
set_option linter.unusedSimpArgs false

/-! ### Rounds, and words of 64 bits -/
theorem ev_succ {α : Type} {g : Nat → Option α} {r : α} (h : Ev (fun k => g (k + 1)) r) : Ev g r := Ev.step (fun _ => rfl) h
theorem ev_some {α : Type} {o : Option α} {r : α} (h : o = some r) : Ev (fun _ => o) r := ⟨0, fun _ _ => h⟩
theorem ev_pos {α : Type} {c : Prop} [Decidable c] {A B : Nat → Option α} {r : α} (h : c) (k : Ev A r) : Ev (fun n => if c then A n else B n) r :=
  Ev.congr (fun _ => if_pos h) k
theorem ev_neg {α : Type} {c : Prop} [Decidable c] {A B : Nat → Option α} {r : α} (h : ¬ c) (k : Ev B r) : Ev (fun n => if c then A n else B n) r :=
  Ev.congr (fun _ => if_neg h) k
theorem ev_eq {α : Type} {g : Nat → Option α} {r s : α} (h : Ev g r) (e : r = s) : Ev g s := e ▸ h
theorem ev_bind1 {α β : Type} {o : Option α} {f : Nat → α → Option β} {a : α} {r : β} (h : o = some a) (k : Ev (fun n => f n a) r) : Ev (fun n => o.bind (f n)) r :=
  Ev.bind (ev_some h) k
theorem ev_det {α : Type} {g : Nat → Option α} {r s : α} (h : Ev g r) (k : Ev g s) : r = s := by
  obtain ⟨K, h⟩ := h
  obtain ⟨L, k⟩ := k
  have h1 := h (max K L) (by omega)
  have h2 := k (max K L) (by omega)
  rw [h1] at h2
  exact Option.some.inj h2
theorem w64 {n : Int} (h : -9223372036854775808 ≤ n) (h' : n ≤ 9223372036854775807) : wrap64 n = n := by unfold wrap64; omega
theorem byte_of {l : List Int} (h : ∀ x ∈ l, (Lit.int .u8 x).wf = true) (i : Int) : 0 ≤ rd l i ∧ rd l i ≤ 255 := by
  unfold rd
  by_cases hi : i.toNat < l.length
  · have hm : l.getD i.toNat 0 ∈ l := by
      rw [List.getD_eq_getElem?_getD, List.getElem?_eq_getElem hi]
      exact List.getElem_mem hi
    have := h _ hm
    have m0 : IntKind.u8.min = 0 := by decide
    have m1 : IntKind.u8.max = 255 := by decide
    simp only [Lit.wf, m0, m1, Bool.and_eq_true, decide_eq_true_eq] at this
    exact this
  · rw [List.getD_eq_getElem?_getD, List.getElem?_eq_none (by omega)]
    simp

theorem FnExactCutOk (a b c : Int) (d e : Bool) : laws_FnExactCutOk.f a b c d e = some true := by
  have h : impl_CutOk.f a b c d e = spec_CutOk.f a b c d e := by
    have hw : ∀ x y z : Int, impl_within.f x y z = spec_inRange.f x y z := fun _ _ _ => rfl
    unfold impl_CutOk.f spec_CutOk.f spec_validCut.f
    simp only [hw]
    cases spec_inRange.f a (-1000000) 1000000 <;> simp
  have ok : ∃ r, spec_CutOk.f a b c d e = some r := by
    have hs : ∀ x y z : Int, ∃ r, spec_inRange.f x y z = some r := fun x y z => by unfold spec_inRange.f; split <;> exact ⟨_, rfl⟩
    obtain ⟨r1, e1⟩ := hs a (-1000000) 1000000
    obtain ⟨r2, e2⟩ := hs b (-1000000) 1000000
    obtain ⟨r3, e3⟩ := hs c (-1000000) 1000000
    unfold spec_CutOk.f spec_validCut.f
    simp only [e1, e2, e3, Option.bind_some]
    cases r1 <;> cases r2 <;> cases r3 <;> cases d <;> cases e <;> by_cases hc : c = 0 <;> by_cases ha : a = 0 <;> simp [hc, ha]
  obtain ⟨r, hr⟩ := ok
  unfold laws_FnExactCutOk.f laws_toCut.f
  simp only [Option.bind_some, h, hr]
  simp

end Go.Proofs.Ytlhhffkdhdaonaa.Pure
