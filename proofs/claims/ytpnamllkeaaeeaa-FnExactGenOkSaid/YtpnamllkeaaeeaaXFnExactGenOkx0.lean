/- The functions that FnExactGenOk uses, as functions of Lean, and that the Go code comes to their answers. Written by a program of this session. -/
import Derived.Test.YtpnamllkeaaeeaaProg
import Derived.Below
import Derived.Deep.Draws
import Derived.Deep.AppendLies
import Derived.Maps.AppendAt
import Derived.OwnWalk
import Derived.Laws.BytesArg
import Derived.Laws.MakeOwn
import Derived.Laws.OwnMore
import Derived.Deep.OwnRows
import Derived.Tactics
import Derived.Lib.ConvBytes
import Derived.Laws.Slices
import Derived.WalkKit
import Derived.KernelRfl
import Derived.RowKit3
import Derived.Deep.LoopGhost
import Derived.Deep.QuietTactic
import Derived.BigQuiet
import Derived.WideLaws
import Derived.Deep.DeepCutAuto
import Derived.Deep.CutBlock
import Derived.Deep.RegionHeld3
import Derived.Laws.Rows
import Derived.Lib.AppendStr
import Derived.ArgAppend
import Derived.Laws.IdiomCopy
import Derived.OrdersHeld
import Derived.Laws.BitsLemmas
import Derived.RowKit
import Derived.Test.YtpnamllkeaaeeaaWWords
import Derived.Test.YtpnamllkeaaeeaaWLast
import Derived.Test.YtpnamllkeaaeeaaWTab
import Derived.Test.YtpnamllkeaaeeaaWFour
import Derived.Test.YtpnamllkeaaeeaaWQPut
import Derived.Test.YtpnamllkeaaeeaaWApart
import Derived.Test.YtpnamllkeaaeeaaWArr
import Derived.Test.YtpnamllkeaaeeaaWZeros
import Derived.Test.YtpnamllkeaaeeaaWFoot
import Derived.Test.YtpnamllkeaaeeaaWKept
import Derived.Test.YtpnamllkeaaeeaaWShare
import Derived.Test.YtpnamllkeaaeeaaWN
import Derived.Test.YtpnamllkeaaeeaaWFootNe
import Derived.Test.YtpnamllkeaaeeaaWAt
import Derived.Test.YtpnamllkeaaeeaaWEqStruct
import Derived.Test.YtpnamllkeaaeeaaWRepsOne
import Derived.Test.YtpnamllkeaaeeaaWInv
import Derived.Test.YtpnamllkeaaeeaaWInvWords
import Derived.Test.YtpnamllkeaaeeaaWGuard
import Derived.Test.YtpnamllkeaaeeaaWNEv
import Derived.Test.YtpnamllkeaaeeaaWMore
namespace Go.Proofs.Ytpnamllkeaaeeaa.XFnExactGenOk
open Go.RowKit Go.Proofs.YtpnamllkeaaeeaaW.PrintWords Go.Proofs.YtpnamllkeaaeeaaW.PrintLast Go.Proofs.YtpnamllkeaaeeaaW.PrintMore
attribute [local go_sem] max2_int min2_int max_two min_two max_three min_three max_four min_four   -- for this text's walks alone
set_option linter.unusedVariables false
set_option linter.unusedSimpArgs false



def errW : Option Int → Value
  | none => .nilIface
  | some c => .iface 0 (.int .i64 c)
theorem errW_none : errW none = .nilIface := rfl
theorem errW_some (c : Int) : errW (some c) = .iface 0 (.int .i64 c) := rfl

theorem info61 : (Try.prog.info? 61).map (fun i => (i.zero, i.size, i.bytes)) = some (some (.agg #[(.int .i64 0), (.int .i64 0), (.slice none 0 0), (.slice none 0 0)]), 4, 64) := by kernel_rfl
-- the values' own types
/-! #### struct type 61, nested in itself -/
structure S61 where
  f0 : Int
  f1 : Int
  f2 : (List S61)
  f3 : (List S61)
def z61 : S61 := ⟨(0 : Int), (0 : Int), ([] : List S61), ([] : List S61)⟩
def F61 (d : Kd S61) : Kd S61 := Kd.iso (Kd.pair (Kd.int .i64) (Kd.pair (Kd.int .i64) (Kd.pair (Kd.slice 61 d) (Kd.slice 61 d)))) (fun x : S61 => (x.f0, x.f1, x.f2, x.f3))
theorem mono61 : Kd.Mono F61 := Kd.mono_iso _ (Kd.mono_pair (Kd.mono_const _) (Kd.mono_pair (Kd.mono_const _) (Kd.mono_pair (Kd.mono_slice 61 Kd.mono_id) (Kd.mono_slice 61 Kd.mono_id))))
theorem sub61 : Kd.Sub F61 [61] := Kd.sub_iso _ (Kd.sub_pair (Kd.sub_const _ (by decide)) (Kd.sub_pair (Kd.sub_const _ (by decide)) (Kd.sub_pair (Kd.sub_slice 61 (by decide) Kd.sub_id) (Kd.sub_slice 61 (by decide) Kd.sub_id))))
theorem sz61 : ∀ n, (Kd.upto F61 4 [61] n).sz = 4 := Kd.upto_sz (fun _ => rfl)
def k61 : Kd S61 := Kd.fix F61 4 [61] sz61 (Kd.upto_E sub61)
theorem k61_open {w : World} {x : S61} {cs : List Value} (h : k61.K w x cs) : ∃ A2 c2 A3 c3, cs = [.int .i64 x.f0, .int .i64 x.f1, .slice A2 x.f2.length c2, .slice A3 x.f3.length c3] ∧ x.f2.length ≤ c2 ∧ k61.C w A2 x.f2.length x.f2 ∧ x.f3.length ≤ c3 ∧ k61.C w A3 x.f3.length x.f3 := by
  obtain ⟨n, h⟩ := h
  cases n with
  | zero => exact h.elim
  | succ n =>
    obtain ⟨_, _, rfl, rfl, ⟨_, _, rfl, rfl, ⟨_, _, rfl, ⟨A2, c2, rfl, l2, g2⟩, ⟨A3, c3, rfl, l3, g3⟩⟩⟩⟩ := h
    exact ⟨A2, c2, A3, c3, rfl, l2, Kd.fix_C g2, l3, Kd.fix_C g3⟩
theorem k61_openM {w : World} {base : Nat} {ok : Nat → Prop} {x : S61} {cs : List Value} (h : k61.M w base ok x cs) : ∃ v2 v3, cs = [.int .i64 x.f0, .int .i64 x.f1, v2, v3] ∧ k61.R 61 w base ok v2 x.f2 ∧ k61.R 61 w base ok v3 x.f3 := by
  obtain ⟨n, h⟩ := h
  cases n with
  | zero => exact h.elim
  | succ n =>
    obtain ⟨_, _, rfl, rfl, ⟨_, _, rfl, rfl, ⟨_, _, rfl, ⟨v2, rfl, g2⟩, ⟨v3, rfl, g3⟩⟩⟩⟩ := h
    exact ⟨v2, v3, rfl, Kd.fix_R g2, Kd.fix_R g3⟩
theorem k61_mk (w : World) (x : S61) {A2 : Option Addr} {c2 : Nat} (l2 : x.f2.length ≤ c2) (g2 : k61.C w A2 x.f2.length x.f2) {A3 : Option Addr} {c3 : Nat} (l3 : x.f3.length ≤ c3) (g3 : k61.C w A3 x.f3.length x.f3) : k61.K w x [.int .i64 x.f0, .int .i64 x.f1, .slice A2 x.f2.length c2, .slice A3 x.f3.length c3] := by
  obtain ⟨n2, q2⟩ := Kd.fix_C_back mono61 g2
  obtain ⟨n3, q3⟩ := Kd.fix_C_back mono61 g3
  have r2 := Kd.upto_C_le mono61 sz61 (show n2 ≤ (max n2 n3) by omega) q2
  have r3 := Kd.upto_C_le mono61 sz61 (show n3 ≤ (max n2 n3) by omega) q3
  exact ⟨(max n2 n3) + 1, ⟨[.int .i64 x.f0], [.int .i64 x.f1, .slice A2 x.f2.length c2, .slice A3 x.f3.length c3], rfl, rfl, ⟨[.int .i64 x.f1], [.slice A2 x.f2.length c2, .slice A3 x.f3.length c3], rfl, rfl, ⟨[.slice A2 x.f2.length c2], [.slice A3 x.f3.length c3], rfl, ⟨A2, c2, rfl, l2, r2⟩, ⟨A3, c3, rfl, l3, r3⟩⟩⟩⟩⟩
theorem k61_mkM (w : World) (base : Nat) (ok : Nat → Prop) (x : S61) {v2 : Value} (g2 : k61.R 61 w base ok v2 x.f2) {v3 : Value} (g3 : k61.R 61 w base ok v3 x.f3) : k61.M w base ok x [.int .i64 x.f0, .int .i64 x.f1, v2, v3] := by
  obtain ⟨n2, q2⟩ := Kd.fix_R_back mono61 g2
  obtain ⟨n3, q3⟩ := Kd.fix_R_back mono61 g3
  have r2 := Kd.upto_R_le mono61 sz61 (show n2 ≤ (max n2 n3) by omega) q2
  have r3 := Kd.upto_R_le mono61 sz61 (show n3 ≤ (max n2 n3) by omega) q3
  exact ⟨(max n2 n3) + 1, ⟨[.int .i64 x.f0], [.int .i64 x.f1, v2, v3], rfl, rfl, ⟨[.int .i64 x.f1], [v2, v3], rfl, rfl, ⟨[v2], [v3], rfl, ⟨v2, rfl, r2⟩, ⟨v3, rfl, r3⟩⟩⟩⟩⟩
def rd_T61 (xs : List S61) (i : Int) : S61 := xs.getD i.toNat z61
theorem at_T61 {w : World} {A : Option Addr} {n : Nat} {xs : List S61} (h : Kd.C k61 w A n xs) (i : Int) (h0 : 0 ≤ i) (h1 : i < n) : ∃ ad A2 c2 A3 c3, A = some ad ∧ w.cell? (ad.add (i.toNat * 4)) = some (.int .i64 (rd_T61 xs i).f0) ∧ w.cell? ⟨(ad.add (i.toNat * 4)).block, (ad.add (i.toNat * 4)).off + 1, none⟩ = some (.int .i64 (rd_T61 xs i).f1) ∧ w.cell? ⟨(ad.add (i.toNat * 4)).block, (ad.add (i.toNat * 4)).off + 2, none⟩ = some (.slice A2 (rd_T61 xs i).f2.length c2) ∧ w.cell? ⟨(ad.add (i.toNat * 4)).block, (ad.add (i.toNat * 4)).off + 3, none⟩ = some (.slice A3 (rd_T61 xs i).f3.length c3) ∧ (rd_T61 xs i).f2.length ≤ c2 ∧ k61.C w A2 (rd_T61 xs i).f2.length (rd_T61 xs i).f2 ∧ (rd_T61 xs i).f3.length ≤ c3 ∧ k61.C w A3 (rd_T61 xs i).f3.length (rd_T61 xs i).f3 := by
  obtain ⟨ad, c, e, _, hK, hc0⟩ := Kd.C_get h z61 i h0 h1
  have hc : ∀ j u, c[j]? = some u → w.cell? (ad.add (i.toNat * 4 + j)) = some u := hc0
  obtain ⟨A2, c2, A3, c3, rfl, l2, g2, l3, g3⟩ := k61_open hK
  exact ⟨ad, A2, c2, A3, c3, e, hc 0 _ rfl, by rw [← add_field _ _ 1 (by omega)]; exact hc 1 _ rfl, by rw [← add_field _ _ 2 (by omega)]; exact hc 2 _ rfl, by rw [← add_field _ _ 3 (by omega)]; exact hc 3 _ rfl, l2, g2, l3, g3⟩

/-! #### struct type 59, nested in itself -/
structure S59 where
  f0 : Int
  f1 : Int
  f2 : (List S59)
  f3 : (List S59)
def z59 : S59 := ⟨(0 : Int), (0 : Int), ([] : List S59), ([] : List S59)⟩
def F59 (d : Kd S59) : Kd S59 := Kd.iso (Kd.pair (Kd.int .i64) (Kd.pair (Kd.int .i64) (Kd.pair (Kd.slice 59 d) (Kd.slice 59 d)))) (fun x : S59 => (x.f0, x.f1, x.f2, x.f3))
theorem mono59 : Kd.Mono F59 := Kd.mono_iso _ (Kd.mono_pair (Kd.mono_const _) (Kd.mono_pair (Kd.mono_const _) (Kd.mono_pair (Kd.mono_slice 59 Kd.mono_id) (Kd.mono_slice 59 Kd.mono_id))))
theorem sub59 : Kd.Sub F59 [59] := Kd.sub_iso _ (Kd.sub_pair (Kd.sub_const _ (by decide)) (Kd.sub_pair (Kd.sub_const _ (by decide)) (Kd.sub_pair (Kd.sub_slice 59 (by decide) Kd.sub_id) (Kd.sub_slice 59 (by decide) Kd.sub_id))))
theorem sz59 : ∀ n, (Kd.upto F59 4 [59] n).sz = 4 := Kd.upto_sz (fun _ => rfl)
def k59 : Kd S59 := Kd.fix F59 4 [59] sz59 (Kd.upto_E sub59)
theorem k59_open {w : World} {x : S59} {cs : List Value} (h : k59.K w x cs) : ∃ A2 c2 A3 c3, cs = [.int .i64 x.f0, .int .i64 x.f1, .slice A2 x.f2.length c2, .slice A3 x.f3.length c3] ∧ x.f2.length ≤ c2 ∧ k59.C w A2 x.f2.length x.f2 ∧ x.f3.length ≤ c3 ∧ k59.C w A3 x.f3.length x.f3 := by
  obtain ⟨n, h⟩ := h
  cases n with
  | zero => exact h.elim
  | succ n =>
    obtain ⟨_, _, rfl, rfl, ⟨_, _, rfl, rfl, ⟨_, _, rfl, ⟨A2, c2, rfl, l2, g2⟩, ⟨A3, c3, rfl, l3, g3⟩⟩⟩⟩ := h
    exact ⟨A2, c2, A3, c3, rfl, l2, Kd.fix_C g2, l3, Kd.fix_C g3⟩
theorem k59_openM {w : World} {base : Nat} {ok : Nat → Prop} {x : S59} {cs : List Value} (h : k59.M w base ok x cs) : ∃ v2 v3, cs = [.int .i64 x.f0, .int .i64 x.f1, v2, v3] ∧ k59.R 59 w base ok v2 x.f2 ∧ k59.R 59 w base ok v3 x.f3 := by
  obtain ⟨n, h⟩ := h
  cases n with
  | zero => exact h.elim
  | succ n =>
    obtain ⟨_, _, rfl, rfl, ⟨_, _, rfl, rfl, ⟨_, _, rfl, ⟨v2, rfl, g2⟩, ⟨v3, rfl, g3⟩⟩⟩⟩ := h
    exact ⟨v2, v3, rfl, Kd.fix_R g2, Kd.fix_R g3⟩
theorem k59_mk (w : World) (x : S59) {A2 : Option Addr} {c2 : Nat} (l2 : x.f2.length ≤ c2) (g2 : k59.C w A2 x.f2.length x.f2) {A3 : Option Addr} {c3 : Nat} (l3 : x.f3.length ≤ c3) (g3 : k59.C w A3 x.f3.length x.f3) : k59.K w x [.int .i64 x.f0, .int .i64 x.f1, .slice A2 x.f2.length c2, .slice A3 x.f3.length c3] := by
  obtain ⟨n2, q2⟩ := Kd.fix_C_back mono59 g2
  obtain ⟨n3, q3⟩ := Kd.fix_C_back mono59 g3
  have r2 := Kd.upto_C_le mono59 sz59 (show n2 ≤ (max n2 n3) by omega) q2
  have r3 := Kd.upto_C_le mono59 sz59 (show n3 ≤ (max n2 n3) by omega) q3
  exact ⟨(max n2 n3) + 1, ⟨[.int .i64 x.f0], [.int .i64 x.f1, .slice A2 x.f2.length c2, .slice A3 x.f3.length c3], rfl, rfl, ⟨[.int .i64 x.f1], [.slice A2 x.f2.length c2, .slice A3 x.f3.length c3], rfl, rfl, ⟨[.slice A2 x.f2.length c2], [.slice A3 x.f3.length c3], rfl, ⟨A2, c2, rfl, l2, r2⟩, ⟨A3, c3, rfl, l3, r3⟩⟩⟩⟩⟩
theorem k59_mkM (w : World) (base : Nat) (ok : Nat → Prop) (x : S59) {v2 : Value} (g2 : k59.R 59 w base ok v2 x.f2) {v3 : Value} (g3 : k59.R 59 w base ok v3 x.f3) : k59.M w base ok x [.int .i64 x.f0, .int .i64 x.f1, v2, v3] := by
  obtain ⟨n2, q2⟩ := Kd.fix_R_back mono59 g2
  obtain ⟨n3, q3⟩ := Kd.fix_R_back mono59 g3
  have r2 := Kd.upto_R_le mono59 sz59 (show n2 ≤ (max n2 n3) by omega) q2
  have r3 := Kd.upto_R_le mono59 sz59 (show n3 ≤ (max n2 n3) by omega) q3
  exact ⟨(max n2 n3) + 1, ⟨[.int .i64 x.f0], [.int .i64 x.f1, v2, v3], rfl, rfl, ⟨[.int .i64 x.f1], [v2, v3], rfl, rfl, ⟨[v2], [v3], rfl, ⟨v2, rfl, r2⟩, ⟨v3, rfl, r3⟩⟩⟩⟩⟩
def rd_T59 (xs : List S59) (i : Int) : S59 := xs.getD i.toNat z59
theorem at_T59 {w : World} {A : Option Addr} {n : Nat} {xs : List S59} (h : Kd.C k59 w A n xs) (i : Int) (h0 : 0 ≤ i) (h1 : i < n) : ∃ ad A2 c2 A3 c3, A = some ad ∧ w.cell? (ad.add (i.toNat * 4)) = some (.int .i64 (rd_T59 xs i).f0) ∧ w.cell? ⟨(ad.add (i.toNat * 4)).block, (ad.add (i.toNat * 4)).off + 1, none⟩ = some (.int .i64 (rd_T59 xs i).f1) ∧ w.cell? ⟨(ad.add (i.toNat * 4)).block, (ad.add (i.toNat * 4)).off + 2, none⟩ = some (.slice A2 (rd_T59 xs i).f2.length c2) ∧ w.cell? ⟨(ad.add (i.toNat * 4)).block, (ad.add (i.toNat * 4)).off + 3, none⟩ = some (.slice A3 (rd_T59 xs i).f3.length c3) ∧ (rd_T59 xs i).f2.length ≤ c2 ∧ k59.C w A2 (rd_T59 xs i).f2.length (rd_T59 xs i).f2 ∧ (rd_T59 xs i).f3.length ≤ c3 ∧ k59.C w A3 (rd_T59 xs i).f3.length (rd_T59 xs i).f3 := by
  obtain ⟨ad, c, e, _, hK, hc0⟩ := Kd.C_get h z59 i h0 h1
  have hc : ∀ j u, c[j]? = some u → w.cell? (ad.add (i.toNat * 4 + j)) = some u := hc0
  obtain ⟨A2, c2, A3, c3, rfl, l2, g2, l3, g3⟩ := k59_open hK
  exact ⟨ad, A2, c2, A3, c3, e, hc 0 _ rfl, by rw [← add_field _ _ 1 (by omega)]; exact hc 1 _ rfl, by rw [← add_field _ _ 2 (by omega)]; exact hc 2 _ rfl, by rw [← add_field _ _ 3 (by omega)]; exact hc 3 _ rfl, l2, g2, l3, g3⟩

/-- A byte's sum, as an int. -/
theorem w8_64 (x : Int) : wrap64 (IntKind.u8.wrap x) = x % 256 := by rw [IntKind.wrap_u8]; unfold wrap64; omega

end Go.Proofs.Ytpnamllkeaaeeaa.XFnExactGenOk
