/- Words of an own calculus over the model: how a call's frame, rows and boxes go through its operations. -/
import Derived.Test.YtmgopcmdljhjoaaY14
set_option linter.unusedSimpArgs false
set_option linter.unusedVariables false
namespace Go.Proofs.XC
open Go

/-! ### Arrays as values -/
section
variable {ρ : Option Nat} {ds : List Deferred} {P : Program} {T : Tab} {w w' : World} {α : Type} {E : Enc α} {xs : List α} {ad : Addr} {e : Env} {d : Option Tmp} {ty : TypeId} {pos : String} {af : Array Edge} {g : Option (Nat × Bool)}
theorem load_arr (ht : TabOK P T) {t s bb : Nat} {z : Value} (ha : aggT T t = some true) (hi : find T.inf t = some (s, bb, z)) (h : RdC E (some ad) xs w) (hl : Nat.beq (xs.length * E.sz) s = true) :
    LoadIs P t ad (.agg (xs.flatMap E.f).toArray) w :=
  loadN ht ha hi (by rw [flat_len]; exact Nat.eq_of_beq_eq_true hl) fun j hj => by
    have hj' : j < (xs.flatMap E.f).length := by rw [flat_len, Nat.eq_of_beq_eq_true hl]; exact hj
    rw [List.getElem?_eq_getElem hj']
    exact RdC.news h j _ (List.getElem?_eq_getElem hj')
theorem flat_cut {i : Nat} {x : α} (hx : xs[i]? = some x) : ((xs.flatMap E.f).drop (i * E.sz)).take E.sz = E.f x := by
  apply List.ext_getElem?
  intro p
  rw [List.getElem?_take, List.getElem?_drop]
  split
  · rename_i hp
    obtain ⟨v, hv⟩ : ∃ v, (E.f x)[p]? = some v := ⟨(E.f x)[p]'(by rw [E.len]; exact hp), List.getElem?_eq_getElem (by rw [E.len]; exact hp)⟩
    rw [hv, flat_at E xs i x hx p v hv]
  · rename_i hp
    rw [List.getElem?_eq_none (by rw [E.len]; omega)]
theorem ask_ixS (ht : TabOK P T) {t n el bb : Nat} {z : Value} {x y : Operand} {k : IntKind} {j : Int} {dx : α} (hu : find T.und t = some (.array n el)) (ha : aggT T el = some true) (hi : find T.inf el = some (E.sz, bb, z))
    (hx : evo e x = some (.agg (xs.flatMap E.f).toArray)) (hy : evo e y = some (.int k j)) (hl : Nat.beq xs.length n = true) (hj : 0 ≤ j ∧ j < (xs.length : Int)) :
    AskIs P e (Oper.mk d (.index t x y) ty pos af g) (.agg (E.f (rdD dx xs j)).toArray) w := by
  intro ρ hρ
  have h1 := hρ _ _ hx
  have h2 := hρ _ _ hy
  have hn := Nat.eq_of_beq_eq_true hl
  have hu' := run_underlying' (P := P) (w := w) (ht.u hu)
  have hx0 : xs[j.toNat]? = some (rdD dx xs j) := by
    have : j.toNat < xs.length := by omega
    simp [rdD, List.getD_eq_getElem?_getD, List.getElem?_eq_getElem this]
  have hp := run_partP (P := P) (w := w) ht (t := el) (c := (xs.flatMap E.f).toArray) (off := j.toNat * E.sz) (v := .agg (E.f (rdD dx xs j)).toArray) (by
    unfold partP
    rw [ha, hi]
    simp only [Option.some.injEq, Value.agg.injEq]
    rw [← Array.toList_inj]
    simp only [List.extract_toArray, List.extract_eq_take_drop, Nat.add_sub_cancel_left]
    exact flat_cut hx0)
  have hs := run_sizeOf' (P := P) (w := w) ht hi
  have hb : 0 ≤ j ∧ j < (n : Int) := by omega
  simp [execOp, Instr.index, h1, h2, asIntOf, hu', hb, hs, hp]
theorem ask_ixV (ht : TabOK P T) {t n el bb : Nat} {z : Value} {x y : Operand} {k : IntKind} {j : Int} {dx : α} {v : Value} (hu : find T.und t = some (.array n el)) (ha : aggT T el = some false) (hi : find T.inf el = some (1, bb, z)) (h1s : E.sz = 1)
    (hx : evo e x = some (.agg (xs.flatMap E.f).toArray)) (hy : evo e y = some (.int k j)) (hl : Nat.beq xs.length n = true) (hv : E.f (rdD dx xs j) = [v]) (hj : 0 ≤ j ∧ j < (xs.length : Int)) :
    AskIs P e (Oper.mk d (.index t x y) ty pos af g) v w := by
  intro ρ hρ
  have h1 := hρ _ _ hx
  have h2 := hρ _ _ hy
  have hn := Nat.eq_of_beq_eq_true hl
  have hu' := run_underlying' (P := P) (w := w) (ht.u hu)
  have hx0 : xs[j.toNat]? = some (rdD dx xs j) := by
    have : j.toNat < xs.length := by omega
    simp [rdD, List.getD_eq_getElem?_getD, List.getElem?_eq_getElem this]
  have hf := flat_at E xs j.toNat _ hx0 0 v (by rw [hv]; rfl)
  rw [h1s, Nat.mul_one, Nat.add_zero] at hf
  have hp := run_partP (P := P) (w := w) ht (t := el) (c := (xs.flatMap E.f).toArray) (off := j.toNat) (v := v) (by
    unfold partP
    rw [ha]
    simpa using hf)
  have hs := run_sizeOf' (P := P) (w := w) ht hi
  have hb : 0 ≤ j ∧ j < (n : Int) := by omega
  simp [execOp, Instr.index, h1, h2, asIntOf, hu', hb, hs, hp]
end
section
variable {ρ : Option Nat} {ds : List Deferred} {P : Program} {T : Tab} {n : Nat} {a : Act} {e : Env} {w : World} {Q : Exit → Act → World → Prop} {K : Act → World → Prop}
theorem op_quiet (ht : TabOK P T) (hk : KnD n ds a e) {o : Oper} {lv lv' : List Value} {v : Value} {c : List Cond} (hq : quietP P T e o lv = some (v, c, lv')) (hc : ConjW w c) (h : K (a.put o.dst v) w) : o.wpIn (WF ρ) 0 P a w K Q :=
  op_of_run (quietP_sound ht hk hq hc) h
end
end Go.Proofs.XC
