/- FnExactScriptsOk: the program tells valid scripts as the reference does, for all scripts of at most 2^20 acts. -/
import Derived.Test.YtppbnfoagbipaadXFnExactScriptsOkx4
namespace Go.Proofs.Ytppbnfoagbipaad.Pure
open Go.RowKit Go.Proofs.Ytppbnfoagbipaad.XFnExactScriptsOk Go.Proofs.YtppbnfoagbipaadW.PrintWords Go.Proofs.YtppbnfoagbipaadW.PrintLast Go.Proofs.YtppbnfoagbipaadW.PrintMore
set_option linter.unusedVariables false
set_option linter.unusedSimpArgs false

/-! ### Rounds, and words of 64 bits -/
theorem ev_succ {α : Type} {g : Nat → Option α} {r : α} (h : Ev (fun k => g (k + 1)) r) : Ev g r := Ev.step (fun _ => rfl) h
theorem ev_some {α : Type} {o : Option α} {r : α} (h : o = some r) : Ev (fun _ => o) r := ⟨0, fun _ _ => h⟩
theorem ev_pos {α : Type} {c : Prop} [Decidable c] {A B : Nat → Option α} {r : α} (h : c) (k : Ev A r) : Ev (fun n => if c then A n else B n) r :=
  Ev.congr (fun _ => if_pos h) k
theorem ev_neg {α : Type} {c : Prop} [Decidable c] {A B : Nat → Option α} {r : α} (h : ¬ c) (k : Ev B r) : Ev (fun n => if c then A n else B n) r :=
  Ev.congr (fun _ => if_neg h) k
theorem ev_eq {α : Type} {g : Nat → Option α} {r s : α} (h : Ev g r) (e : r = s) : Ev g s := e ▸ h
theorem ev_bind1 {α β : Type} {o : Option α} {f : Nat → α → Option β} {a : α} {r : β} (h : o = some a) (k : Ev (fun n => f n a) r) : Ev (fun n => o.bind (f n)) r :=
  Ev.bind (ev_some h) k
theorem ev_det {α : Type} {g : Nat → Option α} {r s : α} (h : Ev g r) (k : Ev g s) : r = s := by
  obtain ⟨K, h⟩ := h
  obtain ⟨L, k⟩ := k
  have h1 := h (max K L) (by omega)
  have h2 := k (max K L) (by omega)
  rw [h1] at h2
  exact Option.some.inj h2
theorem w64 {n : Int} (h : -9223372036854775808 ≤ n) (h' : n ≤ 9223372036854775807) : wrap64 n = n := by unfold wrap64; omega
theorem byte_of {l : List Int} (h : ∀ x ∈ l, (Lit.int .u8 x).wf = true) (i : Int) : 0 ≤ rd l i ∧ rd l i ≤ 255 := by
  unfold rd
  by_cases hi : i.toNat < l.length
  · have hm : l.getD i.toNat 0 ∈ l := by
      rw [List.getD_eq_getElem?_getD, List.getElem?_eq_getElem hi]
      exact List.getElem_mem hi
    have := h _ hm
    have m0 : IntKind.u8.min = 0 := by decide
    have m1 : IntKind.u8.max = 255 := by decide
    simp only [Lit.wf, m0, m1, Bool.and_eq_true, decide_eq_true_eq] at this
    exact this
  · rw [List.getD_eq_getElem?_getD, List.getElem?_eq_none (by omega)]
    simp

/-! ### Scripts -/
def cv (x : S91) : S65 := ⟨x.f0, x.f1⟩
def cvL (l : List S91) : List S65 := l.map cv
def cvLL (l : List (List S91)) : List (List S65) := l.map cvL
theorem rdT91 (l : List S91) (i : Nat) (h : i < l.length) : rd_T91 l (i : Int) = l[i] := by unfold rd_T91; simp [List.getD_eq_getElem?_getD, h]
theorem rdT65 (l : List S65) (i : Nat) (h : i < l.length) : rd_T65 l (i : Int) = l[i] := by unfold rd_T65; simp [List.getD_eq_getElem?_getD, h]
theorem rdL91 (l : List (List S91)) (i : Nat) (h : i < l.length) : rd_L2 l (i : Int) = l[i] := by unfold rd_L2; simp [List.getD_eq_getElem?_getD, h]
theorem rdL65 (l : List (List S65)) (i : Nat) (h : i < l.length) : rd_L4 l (i : Int) = l[i] := by unfold rd_L4; simp [List.getD_eq_getElem?_getD, h]
theorem next_i (i : Nat) (h : i ≤ 4611686018427387904) : wrap64 ((i : Int) + 1) = ((i + 1 : Nat) : Int) := by rw [w64 (by omega) (by omega)]; omega

theorem szAct_ev (l : List S91) (a : Int) (ha : 0 ≤ a ∧ a ≤ 1048576) (hl : l.length ≤ 9223372036854775807) : laws_szActS.f l a = some (if a - (l.length : Int) < 0 then -1 else a - l.length) := by
  have hw : wrap64 (a - (l.length : Int)) = a - l.length := w64 (by omega) (by omega)
  unfold laws_szActS.f
  rw [hw]; split <;> rfl
theorem szActSS_from (l : List (List S91)) (hl : l.length ≤ 1048576) (hr : ∀ r ∈ l, r.length ≤ 9223372036854775807) (d : Nat) : ∀ (i : Nat) (a : Int), i + d = l.length → 0 ≤ a ∧ a ≤ 1048576 →
    ∃ r, Ev (fun k => laws_szActSS.l0 k l a (i : Int)) r ∧ (0 ≤ r → ∀ x ∈ l.drop i, x.length ≤ 1048576) := by
  induction d with
  | zero =>
    intro i a hi ha
    refine ⟨a, ev_succ ?_, fun _ => by rw [List.drop_of_length_le (by omega)]; simp⟩
    simp only [laws_szActSS.l0]
    exact ev_neg (by omega) (ev_some rfl)
  | succ d ih =>
    intro i a hi ha
    have hlt : i < l.length := by omega
    have hlr := hr _ (List.getElem_mem hlt)
    have e := szAct_ev l[i] a ha hlr
    by_cases h : a - (l[i].length : Int) < 0
    · refine ⟨-1, ev_succ ?_, fun h0 => absurd h0 (by omega)⟩
      simp only [laws_szActSS.l0]
      rw [rdL91 l i hlt]
      rw [if_pos h] at e
      exact ev_pos (by omega) (ev_pos (by omega) (ev_bind1 e (ev_pos (by omega) (ev_some rfl))))
    · rw [if_neg h] at e
      obtain ⟨r, hr', hx⟩ := ih (i + 1) (a - l[i].length) (by omega) (by omega)
      refine ⟨r, ev_succ ?_, fun h0 => ?_⟩
      · simp only [laws_szActSS.l0]
        rw [rdL91 l i hlt, next_i i (by omega)]
        exact ev_pos (by omega) (ev_pos (by omega) (ev_bind1 e (ev_neg h hr')))
      · rw [List.drop_eq_getElem_cons hlt]
        intro x hm
        rcases List.mem_cons.1 hm with rfl | hm
        · omega
        · exact hx h0 x hm
theorem szActSS_ev (l : List (List S91)) (hl : l.length ≤ 9223372036854775807) (hr : ∀ r ∈ l, r.length ≤ 9223372036854775807) :
    ∃ r, Ev (fun k => laws_szActSS.f k l 1048576) r ∧ (0 ≤ r → l.length ≤ 1048576 ∧ ∀ x ∈ l, x.length ≤ 1048576) := by
  have hw : wrap64 (1048576 - (l.length : Int)) = 1048576 - l.length := w64 (by omega) (by omega)
  by_cases h : 1048576 - (l.length : Int) < 0
  · refine ⟨-1, ?_, fun h0 => absurd h0 (by omega)⟩
    unfold laws_szActSS.f
    rw [hw]
    exact ev_pos h (ev_some rfl)
  · obtain ⟨r, e, hx⟩ := szActSS_from l (by omega) hr l.length 0 (1048576 - l.length) (by omega) (by omega)
    refine ⟨r, ?_, fun h0 => ⟨by omega, hx h0⟩⟩
    unfold laws_szActSS.f
    rw [hw]
    exact ev_neg h e
theorem toAct_from (l : List S91) (hl : l.length ≤ 1048576) (d : Nat) : ∀ (i : Nat) (x : List S65), i + d = l.length → x.length = l.length → x.take i = (cvL l).take i → Ev (fun k => laws_toActS.l0 k l x (i : Int)) (cvL l) := by
  have hc : (cvL l).length = l.length := by simp [cvL]
  induction d with
  | zero =>
    intro i x hi hx ht
    refine ev_succ ?_
    simp only [laws_toActS.l0]
    refine ev_neg (by omega) (ev_some ?_)
    rw [List.take_of_length_le (by omega), List.take_of_length_le (by omega)] at ht
    rw [ht]
  | succ d ih =>
    intro i x hi hx ht
    have hlt : i < l.length := by omega
    refine ev_succ ?_
    simp only [laws_toActS.l0, laws_toAct.f, Option.bind_some]
    rw [next_i i (by omega), rdT91 l i hlt]
    refine ev_pos (by omega) (ev_pos (by omega) (ev_pos (by omega) ?_))
    refine ih (i + 1) _ (by omega) (by simp [hx]) ?_
    have hi' : i < x.length := by omega
    rw [List.take_succ_eq_append_getElem (by simp; omega), List.take_succ_eq_append_getElem (by omega)]
    simp only [Int.toNat_natCast, List.getElem_set_self]
    rw [List.take_set_of_le (Nat.le_refl i), ht]
    simp [cvL, cv]
theorem toAct_ev (l : List S91) (hl : l.length ≤ 1048576) : Ev (fun k => laws_toActS.f k l) (cvL l) := by
  unfold laws_toActS.f
  refine ev_pos (by omega) (ev_pos (by simp; omega) ?_)
  exact toAct_from l hl l.length 0 _ (by omega) (by simp) (by simp)
theorem toActSS_from (l : List (List S91)) (hl : l.length ≤ 1048576) (hr : ∀ r ∈ l, r.length ≤ 1048576) (d : Nat) : ∀ (i : Nat) (x : List (List S65)), i + d = l.length → x.length = l.length → x.take i = (cvLL l).take i → Ev (fun k => laws_toActSS.l0 k l x (i : Int)) (cvLL l) := by
  have hc : (cvLL l).length = l.length := by simp [cvLL]
  induction d with
  | zero =>
    intro i x hi hx ht
    refine ev_succ ?_
    simp only [laws_toActSS.l0]
    refine ev_neg (by omega) (ev_some ?_)
    rw [List.take_of_length_le (by omega), List.take_of_length_le (by omega)] at ht
    rw [ht]
  | succ d ih =>
    intro i x hi hx ht
    have hlt : i < l.length := by omega
    refine ev_succ ?_
    simp only [laws_toActSS.l0]
    rw [rdL91 l i hlt, next_i i (by omega)]
    refine ev_pos (by omega) (ev_pos (by omega) (Ev.bind (toAct_ev _ (hr _ (List.getElem_mem hlt))) (ev_pos (by omega) ?_)))
    refine ih (i + 1) _ (by omega) (by simp [hx]) ?_
    have hi' : i < x.length := by omega
    rw [List.take_succ_eq_append_getElem (by simp; omega), List.take_succ_eq_append_getElem (by omega)]
    simp only [Int.toNat_natCast, List.getElem_set_self]
    rw [List.take_set_of_le (Nat.le_refl i), ht]
    simp [cvLL]
theorem toActSS_ev (l : List (List S91)) (hl : l.length ≤ 1048576) (hr : ∀ r ∈ l, r.length ≤ 1048576) : Ev (fun k => laws_toActSS.f k l) (cvLL l) := by
  unfold laws_toActSS.f
  refine ev_pos (by omega) (ev_pos (by simp; omega) ?_)
  exact toActSS_from l hl hr l.length 0 _ (by omega) (by simp) (by simp)
theorem eqAct_from (l : List S65) (hl : l.length ≤ 1048576) (d : Nat) : ∀ (i : Nat), i + d = l.length → Ev (fun k => laws_eqActS.l0 k l l (i : Int)) true := by
  induction d with
  | zero =>
    intro i hi
    refine ev_succ ?_
    simp only [laws_eqActS.l0]
    exact ev_neg (by omega) (ev_some rfl)
  | succ d ih =>
    intro i hi
    refine ev_succ ?_
    simp only [laws_eqActS.l0]
    rw [next_i i (by omega)]
    refine ev_pos (by omega) (ev_pos (by omega) (ev_pos (by omega) (ev_bind1 (a := true) (by unfold laws_eqAct.f; simp) (ev_pos rfl (ih (i + 1) (by omega))))))
theorem eqAct_ev (l : List S65) (hl : l.length ≤ 1048576) : Ev (fun k => laws_eqActS.f k l l) true := by
  unfold laws_eqActS.f
  exact ev_pos rfl (eqAct_from l hl l.length 0 (by omega))
theorem eqActSS_from (l : List (List S65)) (hl : l.length ≤ 1048576) (hr : ∀ r ∈ l, r.length ≤ 1048576) (d : Nat) : ∀ (i : Nat), i + d = l.length → Ev (fun k => laws_eqActSS.l0 k l l (i : Int)) true := by
  induction d with
  | zero =>
    intro i hi
    refine ev_succ ?_
    simp only [laws_eqActSS.l0]
    exact ev_neg (by omega) (ev_some rfl)
  | succ d ih =>
    intro i hi
    have hlt : i < l.length := by omega
    refine ev_succ ?_
    simp only [laws_eqActSS.l0]
    rw [rdL65 l i hlt, next_i i (by omega)]
    exact ev_pos (by omega) (ev_pos (by omega) (ev_pos (by omega) (Ev.bind (eqAct_ev _ (hr _ (List.getElem_mem hlt))) (ev_pos rfl (ih (i + 1) (by omega))))))
theorem eqActSS_ev (l : List (List S65)) (hl : l.length ≤ 1048576) (hr : ∀ r ∈ l, r.length ≤ 1048576) : Ev (fun k => laws_eqActSS.f k l l) true := by
  unfold laws_eqActSS.f
  exact ev_pos rfl (eqActSS_from l hl hr l.length 0 (by omega))

/-- The greatest number of an act of a kind, among n scripts. -/
def highA (n kind : Int) : Int := if kind = 1 ∨ kind = 7 then 1000000 else if kind = 2 then 20 else if kind = 3 then n - 1 else if kind = 4 ∨ kind = 5 ∨ kind = 6 then 7 else -1
def actB (n : Int) (a : S65) : Bool := decide (0 ≤ a.f1 ∧ a.f1 ≤ highA n a.f0)
def scriptB (n : Int) (l : List S65) : Bool := decide (l.length ≤ 8) && l.all (actB n)
def scriptsB (l : List (List S65)) : Bool := decide (1 ≤ l.length ∧ l.length ≤ 4) && l.all (scriptB l.length)
theorem range_b (a b c : Int) : spec_inRange.f a b c = some (decide (b ≤ a ∧ a ≤ c)) := by
  unfold spec_inRange.f
  by_cases h : a ≥ b
  · have : b ≤ a := h
    simp [h]
  · simp [h]
theorem within_b (a b c : Int) : impl_within.f a b c = some (decide (b ≤ a ∧ a ≤ c)) := range_b a b c

theorem act_yes {n : Int} {a : S65} {h : Int} (e : highA n a.f0 = h) : decide (0 ≤ a.f1 ∧ a.f1 ≤ h) = actB n a := by rw [actB, e]

theorem impl_scripts_from (l : List (List S65)) (hl : l.length ≤ 1048576) (hr : ∀ r ∈ l, r.length ≤ 1048576) (d : Nat) : ∀ i : Nat, i + d = l.length →
    Ev (fun k => impl_ScriptsOk.l0 k l l (l.length : Int) (i : Int)) ((l.drop i).all (scriptB l.length)) := by
  have hn : wrap64 ((l.length : Int) - 1) = (l.length : Int) - 1 := w64 (by omega) (by omega)
  induction d with
  | zero =>
    intro i hi
    refine ev_succ ?_
    simp only [impl_ScriptsOk.l0]
    refine ev_neg (by omega) (ev_some ?_)
    rw [List.drop_of_length_le (by omega)]; rfl
  | succ d ih =>
    intro i hi
    have hlt : i < l.length := by omega
    have hrow := hr _ (List.getElem_mem hlt)
    rw [List.drop_eq_getElem_cons hlt, List.all_cons]
    have row : ∀ (c j : Nat), j + c = l[i].length → Ev (fun k => impl_ScriptsOk.l1 k l l (l.length : Int) (i : Int) l[i] (l[i].length : Int) (j : Int)) (((l[i].drop j).all (actB l.length)) && (l.drop (i + 1)).all (scriptB l.length)) := by
      intro c
      induction c with
      | zero =>
        intro j hj
        refine ev_succ ?_
        simp only [impl_ScriptsOk.l1]
        rw [next_i i (by omega)]
        refine ev_neg (by omega) (ev_eq (ih (i + 1) (by omega)) ?_)
        rw [List.drop_of_length_le (by omega : l[i].length ≤ j)]; simp
      | succ c ihc =>
        intro j hj
        have hltj : j < l[i].length := by omega
        have nxt := ihc (j + 1) (by omega)
        rw [List.drop_eq_getElem_cons hltj, List.all_cons, Bool.and_assoc]
        -- what follows behind a test of the number
        have tail : ∀ b : Bool, b = actB l.length l[i][j] → Ev (fun k => if b = true then impl_ScriptsOk.l1 k l l (l.length : Int) (i : Int) l[i] (l[i].length : Int) ((j + 1 : Nat) : Int) else some false) (actB l.length l[i][j] && (((l[i].drop (j + 1)).all (actB l.length)) && (l.drop (i + 1)).all (scriptB l.length))) := by
          intro b hb
          cases b with
          | true => rw [← hb, Bool.true_and]; exact ev_pos rfl nxt
          | false => rw [← hb, Bool.false_and]; exact ev_neg (by simp) (ev_some rfl)
        refine ev_succ ?_
        simp only [impl_ScriptsOk.l1]
        rw [rdT65 _ j hltj]
        refine ev_pos (by omega) (ev_pos (by omega) (ev_pos (by omega) ?_))
        generalize ha : l[i][j] = a at tail ⊢
        by_cases k1 : a.f0 = 1
        · refine ev_pos k1 (ev_succ ?_)
          simp only [impl_ScriptsOk.j2, within_b, Option.bind_some]
          rw [next_i j (by omega)]
          exact ev_pos (by simp [k1]) (tail _ (act_yes (by simp [highA, k1])))
        refine ev_neg k1 (ev_succ ?_)
        simp only [impl_ScriptsOk.j2, within_b, Option.bind_some]
        rw [next_i j (by omega), hn]
        by_cases k7 : a.f0 = 7
        · exact ev_pos (by simp [k7]) (tail _ (act_yes (by simp [highA, k7])))
        refine ev_neg (by simpa using k7) ?_
        by_cases k2 : a.f0 = 2
        · exact ev_pos k2 (tail _ (act_yes (by simp [highA, k2])))
        refine ev_neg k2 ?_
        by_cases k3 : a.f0 = 3
        · exact ev_pos k3 (tail _ (act_yes (by simp [highA, k3])))
        refine ev_neg k3 ?_
        have last : ∀ b : Bool, (b = true ↔ (a.f0 = 4 ∨ a.f0 = 5 ∨ a.f0 = 6)) → Ev (fun k => impl_ScriptsOk.j3 k l (-1) l (l.length : Int) (i : Int) l[i] (l[i].length : Int) (j : Int) b a.f0 a.f1) (actB l.length a && (((l[i].drop (j + 1)).all (actB l.length)) && (l.drop (i + 1)).all (scriptB l.length))) := by
          intro b hb
          refine ev_succ ?_
          simp only [impl_ScriptsOk.j3, within_b, Option.bind_some]
          rw [next_i j (by omega)]
          cases b with
          | true =>
            have := hb.1 rfl
            exact ev_pos rfl (tail _ (act_yes (by unfold highA; rw [if_neg (by omega), if_neg (by omega), if_neg (by omega), if_pos this])))
          | false =>
            have : ¬ (a.f0 = 4 ∨ a.f0 = 5 ∨ a.f0 = 6) := fun h => by have := hb.2 h; cases this
            exact ev_neg (by simp) (tail _ (act_yes (by unfold highA; rw [if_neg (by omega), if_neg (by omega), if_neg (by omega), if_neg this])))
        by_cases k4 : a.f0 = 4
        · exact ev_pos k4 (last _ (by simp [k4]))
        refine ev_neg k4 ?_
        by_cases k5 : a.f0 = 5
        · exact ev_pos k5 (last _ (by simp [k5]))
        exact ev_neg k5 (last _ (by simp [k4, k5]))
    refine ev_succ ?_
    simp only [impl_ScriptsOk.l0]
    rw [rdL65 l i hlt]
    refine ev_pos (by omega) (ev_pos (by omega) (ev_pos (by omega) ?_))
    by_cases h8 : (l[i].length : Int) > 8
    · exact ev_pos h8 (ev_some (by rw [scriptB, decide_eq_false (by omega)]; rfl))
    · refine ev_neg h8 (ev_eq (row l[i].length 0 (by omega)) ?_)
      rw [List.drop_zero, scriptB, decide_eq_true (by omega)]; rfl
theorem impl_scripts_ev (l : List (List S65)) (hl : l.length ≤ 1048576) (hr : ∀ r ∈ l, r.length ≤ 1048576) : Ev (fun k => impl_ScriptsOk.f k l) (scriptsB l) := by
  unfold impl_ScriptsOk.f scriptsB
  refine ev_bind1 (within_b _ _ _) ?_
  by_cases h : 1 ≤ l.length ∧ l.length ≤ 4
  · refine ev_pos (by simp; omega) (ev_eq (impl_scripts_from l hl hr l.length 0 (by omega)) ?_)
    rw [List.drop_zero, decide_eq_true h]; rfl
  · refine ev_neg (by simp; omega) (ev_some ?_)
    rw [decide_eq_false h]; rfl

theorem spec_scripts_from (l : List (List S65)) (hl : l.length ≤ 1048576) (hr : ∀ r ∈ l, r.length ≤ 1048576) (d : Nat) : ∀ i : Nat, i + d = l.length →
    Ev (fun k => spec_validScripts.l0 k l (i : Int)) ((l.drop i).all (scriptB l.length) && decide (1 ≤ l.length ∧ l.length ≤ 4)) := by
  have hn : wrap64 ((l.length : Int) - 1) = (l.length : Int) - 1 := w64 (by omega) (by omega)
  induction d with
  | zero =>
    intro i hi
    refine ev_succ ?_
    simp only [spec_validScripts.l0, range_b, Option.bind_some]
    refine ev_neg (by omega) (ev_some ?_)
    rw [List.drop_of_length_le (by omega)]
    congr 1
    simp only [List.all_nil, Bool.true_and]
    by_cases h : 1 ≤ l.length ∧ l.length ≤ 4
    · rw [decide_eq_true h, decide_eq_true (by omega)]
    · rw [decide_eq_false h, decide_eq_false (by omega)]
  | succ d ih =>
    intro i hi
    have hlt : i < l.length := by omega
    have hrow := hr _ (List.getElem_mem hlt)
    rw [List.drop_eq_getElem_cons hlt, List.all_cons]
    have row : ∀ (c j : Nat), j + c = l[i].length → Ev (fun k => spec_validScripts.l1 k l (i : Int) (j : Int)) ((((l[i].drop j).all (actB l.length)) && decide (l[i].length ≤ 8)) && ((l.drop (i + 1)).all (scriptB l.length) && decide (1 ≤ l.length ∧ l.length ≤ 4))) := by
      intro c
      induction c with
      | zero =>
        intro j hj
        refine ev_succ ?_
        simp only [spec_validScripts.l1]
        rw [rdL65 l i hlt, next_i i (by omega)]
        refine ev_pos (by omega) (ev_pos (by omega) (ev_neg (by omega) ?_))
        rw [List.drop_of_length_le (by omega : l[i].length ≤ j), List.all_nil, Bool.true_and]
        by_cases h8 : (l[i].length : Int) > 8
        · exact ev_pos h8 (ev_some (by rw [decide_eq_false (by omega : ¬ l[i].length ≤ 8)]; rfl))
        · refine ev_neg h8 (ev_eq (ih (i + 1) (by omega)) ?_)
          rw [decide_eq_true (by omega : l[i].length ≤ 8), Bool.true_and]
      | succ c ihc =>
        intro j hj
        have hltj : j < l[i].length := by omega
        have nxt := ihc (j + 1) (by omega)
        rw [List.drop_eq_getElem_cons hltj, List.all_cons, Bool.and_assoc, Bool.and_assoc]
        rw [Bool.and_assoc] at nxt
        generalize ha : l[i][j] = a
        have last : ∀ h : Int, (1 ≤ a.f0 ∧ a.f0 ≤ 7 → highA l.length a.f0 = h) → Ev (fun k => spec_validScripts.j2 k l (i : Int) (j : Int) h a.f0 a.f1) (actB l.length a && (((l[i].drop (j + 1)).all (actB l.length)) && (decide (l[i].length ≤ 8) && ((l.drop (i + 1)).all (scriptB l.length) && decide (1 ≤ l.length ∧ l.length ≤ 4))))) := by
          intro h hh
          refine ev_succ ?_
          simp only [spec_validScripts.j2, range_b, Option.bind_some]
          rw [next_i j (by omega)]
          by_cases hk : 1 ≤ a.f0 ∧ a.f0 ≤ 7
          · refine ev_pos (by simp [hk]) ?_
            rw [act_yes (hh hk)]
            cases actB (l.length : Int) a with
            | true => rw [Bool.true_and]; exact ev_pos rfl nxt
            | false => exact ev_neg (by simp) (ev_some rfl)
          · refine ev_neg (by simpa using hk) (ev_some ?_)
            have : actB (l.length : Int) a = false := by
              rw [actB]
              have : highA l.length a.f0 = -1 := by unfold highA; rw [if_neg (by omega), if_neg (by omega), if_neg (by omega), if_neg (by omega)]
              rw [this, decide_eq_false (by omega)]
            rw [this]; rfl
        refine ev_succ ?_
        simp only [spec_validScripts.l1]
        rw [rdL65 l i hlt, rdT65 _ j hltj, hn, ha]
        refine ev_pos (by omega) (ev_pos (by omega) (ev_pos (by omega) (ev_pos (by omega) ?_)))
        by_cases k3 : a.f0 = 3
        · exact ev_pos k3 (last _ (fun _ => by simp [highA, k3]))
        refine ev_neg k3 ?_
        by_cases k2 : a.f0 = 2
        · exact ev_pos k2 (last _ (fun _ => by simp [highA, k2]))
        refine ev_neg k2 ?_
        by_cases k4 : a.f0 = 4
        · exact ev_pos k4 (last _ (fun _ => by simp [highA, k4]))
        refine ev_neg k4 ?_
        by_cases k6 : a.f0 = 6
        · exact ev_pos k6 (last _ (fun _ => by simp [highA, k6]))
        refine ev_neg k6 ?_
        by_cases k5 : a.f0 = 5
        · exact ev_pos k5 (last _ (fun _ => by simp [highA, k5]))
        exact ev_neg k5 (last _ (fun hk => by unfold highA; rw [if_pos (by omega)]))
    refine ev_succ ?_
    simp only [spec_validScripts.l0]
    refine ev_pos (by omega) (ev_eq (row l[i].length 0 (by omega)) ?_)
    rw [List.drop_zero, scriptB, Bool.and_comm (l[i].all _), Bool.and_assoc, Bool.and_assoc, Bool.and_assoc]
theorem spec_scripts_ev (l : List (List S65)) (hl : l.length ≤ 1048576) (hr : ∀ r ∈ l, r.length ≤ 1048576) : Ev (fun k => spec_ScriptsOk.f k l) (scriptsB l) := by
  unfold spec_ScriptsOk.f spec_validScripts.f
  refine Ev.bind (spec_scripts_from l hl hr l.length 0 (by omega)) (ev_some ?_)
  rw [List.drop_zero, scriptsB, Bool.and_comm]

theorem FnExactScriptsOk (l : List (List S91)) (h1 : l.length ≤ 9223372036854775807) (h2 : ∀ r ∈ l, r.length ≤ 9223372036854775807) : ∃ k, laws_FnExactScriptsOk.f k l = some true := by
  refine Ev.rounds ?_
  unfold laws_FnExactScriptsOk.f
  obtain ⟨z, Z, hz⟩ := szActSS_ev l h1 h2
  refine Ev.bind Z ?_
  by_cases h0 : z < 0
  · exact ev_pos h0 (ev_some rfl)
  refine ev_neg h0 ?_
  obtain ⟨hn, hr⟩ := hz (by omega)
  have T := toActSS_ev l hn hr
  have hn' : (cvLL l).length ≤ 1048576 := by simpa [cvLL] using hn
  have hr' : ∀ r ∈ cvLL l, r.length ≤ 1048576 := by
    intro r h
    obtain ⟨q, hq, rfl⟩ := List.mem_map.1 h
    have := hr q hq
    simpa [cvL] using this
  exact Ev.bind T (Ev.bind (spec_scripts_ev _ hn' hr') (Ev.bind T (Ev.bind (impl_scripts_ev _ hn' hr') (ev_neg (by simp) (Ev.bind T (Ev.bind (eqActSS_ev _ hn' hr') (ev_pos rfl (ev_some rfl))))))))

end Go.Proofs.Ytppbnfoagbipaad.Pure
