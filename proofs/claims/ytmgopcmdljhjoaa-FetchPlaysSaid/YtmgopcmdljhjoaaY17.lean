/- Words of an own calculus over the model: how a call's frame, rows and boxes go through its operations. -/
import Derived.Test.YtmgopcmdljhjoaaY15
set_option linter.unusedSimpArgs false
set_option linter.unusedVariables false
namespace Go.Proofs.XC
open Go

/-! ### Calls that turn what their pointers lead to: labels at the begin and at the end -/
section
variable {ρ : Option Nat} {ds : List Deferred} {P : Program} {T : Tab} {w w' W W2 : World} {o o' oi of o2 o1 : Nat → Nat} {L l m : Nat} {M N MM Ls : List Nat}
theorem St.startM (w : World) (o : Nat → Nat) (Ls : List Nat) : ∃ oi : Nat → Nat, (∀ M, St M w oi w oi) ∧ (∀ (P : World → Prop) (L : Nat), L ∉ Ls → Ft P w o L → Ft P w oi 0) ∧
    (∀ (P : World → Prop) (i L : Nat), Ls.idxOf L = i → L ∈ Ls → Ft P w o L → Ft P w oi (i + 1)) ∧ (∀ b, oi b ≤ Ls.length) ∧ (∀ b, oi b = 0 ∨ o b ∈ Ls) ∧ (∀ b i, oi b = i + 1 → Ls[i]? = some (o b)) := by
  refine ⟨fun b => if o b ∈ Ls then Ls.idxOf (o b) + 1 else 0, fun M => St.refl _ _ _, fun P L hL h => h.mono fun b hb _ => ?_, fun P i L hi hL h => h.mono fun b hb _ => ?_, fun b => ?_, fun b => ?_, fun b i h => ?_⟩
  · simp [hb, hL]
  · simp only [hb, hL, if_true]; omega
  · simp only
    split
    · exact List.idxOf_lt_length_iff.2 ‹_›
    · omega
  · simp only
    split
    · exact .inr ‹_›
    · exact .inl rfl
  · simp only at h
    split at h
    · rename_i hm
      have hi : Ls.idxOf (o b) = i := by omega
      subst hi
      rw [List.getElem?_eq_getElem (List.idxOf_lt_length_iff.2 hm), List.getElem_idxOf]
    · omega
theorem St.locM (h : St MM w oi W o) (k : St N W o W2 o2) (h0 : 0 ∉ N) (hm : ∀ b, oi b = 0 ∨ oi b ∈ MM) : St MM w oi W2 o2 :=
  h.then k fun b hb hn => by
    rcases hm b with h1 | h1
    · rw [h1] at hn; exact absurd hn h0
    · exact h1
/-- The labels at the end: of what was there and isn't turned, as they were. -/
def cl (w : World) (oi o : Nat → Nat) (MM : List Nat) (ρ of : Nat → Nat) : Nat → Nat := fun b => if b < w.heap.size ∧ oi b ∉ MM then o b else ρ (of b)
theorem cl_old {ρ of : Nat → Nat} {b : Nat} (h : b < w.heap.size) (hm : oi b ∉ MM) : cl w oi o MM ρ of b = o b := if_pos ⟨h, hm⟩
theorem St.closeM (h : St MM w oi W of) (hz : ∀ b, oi b = 0 ∨ o b ∈ Ls) (h0 : 0 ∉ MM) (ρ : Nat → Nat) : St Ls w o W (cl w oi o MM ρ of) :=
  ⟨h.os, h.tape, h.output, h.size, fun b hb hn => cl_old hb (by
    rcases hz b with h1 | h1
    · rw [h1]; exact h0
    · exact absurd h1 hn), fun b hb hn => h.kept b hb (by
    rcases hz b with h1 | h1
    · rw [h1]; exact h0
    · exact absurd h1 hn)⟩
theorem St.closeM_ft {P : World → Prop} (h : St MM w oi W of) (f : Ft P W of l) {ρ : Nat → Nat} (hm : ∀ b, oi b = l → o b = L) (hρ : ρ l = L) : Ft P W (cl w oi o MM ρ of) L :=
  f.mono fun b hb _ => by
    by_cases hlt : b < w.heap.size ∧ oi b ∉ MM
    · rw [cl_old hlt.1 hlt.2]; exact hm b ((h.lab b hlt.1 hlt.2).symm.trans hb)
    · unfold cl; rw [if_neg hlt, hb, hρ]
theorem St.relabM (h : St MM w oi W o) (hb : ∀ b, oi b ≤ m) (ρ : Nat → Nat) (h0 : ∀ l, l ≤ m → ρ l = l ∨ l ∈ MM) : St MM w oi W (fun b => ρ (o b)) :=
  ⟨h.os, h.tape, h.output, h.size, fun b hlt hm => by rw [h.lab b hlt hm]; exact (h0 _ (hb b)).resolve_right hm, h.kept⟩
theorem lab_in {oi : Nat → Nat} {m : Nat} {MM : List Nat} (hb : ∀ b, oi b ≤ m) (hM : ∀ l, l ≤ m → l = 0 ∨ l ∈ MM) (b : Nat) : oi b = 0 ∨ oi b ∈ MM := hM _ (hb b)
theorem lab_none {oi o : Nat → Nat} {m l L : Nat} (hb : ∀ b, oi b ≤ m) (h : Nat.blt m l = true) (b : Nat) (e : oi b = l) : o b = L := by
  have := hb b
  have h2 : m < l := by simpa using h
  omega
theorem lab_at {oi o : Nat → Nat} {L i : Nat} {Ls : List Nat} (h : ∀ b i, oi b = i + 1 → Ls[i]? = some (o b)) (hi : Ls[i]? = some L) (b : Nat) (e : oi b = i + 1) : o b = L := by
  have := h b i e
  rw [hi] at this
  exact (Option.some.inj this).symm
/-- Pointers that are one. -/
theorem ask_peq (ht : TabOK P T) {e : Env} {t el s0 b0 bo : Nat} {x y : Operand} {ad : Addr} {d ty pos af g} {z : TypeId} {z0 : Value} (hi : find T.inf el = some (s0, b0, z0)) (had : ad = ⟨bo, 0, none⟩) (hu : find T.und t = some (.pointer el)) (hx : evo e x = some (.pointer (some ad))) (hy : evo e y = some (.pointer (some ad))) : AskIs P e (Oper.mk d (.binOp .eql t x y z) ty pos af g) (.bool true) w := by
  intro ρ hρ
  have h1 := hρ _ _ hx
  have h2 := hρ _ _ hy
  have hr := run_underlying' (w := w) (ht.u hu)
  have hs := run_sizeOf' (w := w) ht hi
  have hsame : (sameAddr ad ad).run P w = .ok true w := by subst had; simp [sameAddr]
  have : (Op.equal t (.pointer (some ad)) (.pointer (some ad))).run P w = .ok true w := equal_of fun n => by simp [Op.equalIn, hr, hs, hsame]
  have h3 := run_eq_of (x := x) (y := y) ⟨rfl, rfl⟩ this
  simp only [execOp, h1, h2]
  simp only [Sem.run_bind] at h3 ⊢
  simp [h3]
theorem ask_pne (ht : TabOK P T) {e : Env} {t el s0 b0 bo : Nat} {x y : Operand} {ad : Addr} {d ty pos af g} {z : TypeId} {z0 : Value} (hi : find T.inf el = some (s0, b0, z0)) (had : ad = ⟨bo, 0, none⟩) (hu : find T.und t = some (.pointer el)) (hx : evo e x = some (.pointer (some ad))) (hy : evo e y = some (.pointer (some ad))) : AskIs P e (Oper.mk d (.binOp .neq t x y z) ty pos af g) (.bool false) w := by
  intro ρ hρ
  have h1 := hρ _ _ hx
  have h2 := hρ _ _ hy
  have hr := run_underlying' (w := w) (ht.u hu)
  have hs := run_sizeOf' (w := w) ht hi
  have hsame : (sameAddr ad ad).run P w = .ok true w := by subst had; simp [sameAddr]
  have : (Op.equal t (.pointer (some ad)) (.pointer (some ad))).run P w = .ok true w := equal_of fun n => by simp [Op.equalIn, hr, hs, hsame]
  have h3 := run_neq_of (x := x) (y := y) ⟨rfl, rfl⟩ this
  simp only [execOp, h1, h2]
  simp only [Sem.run_bind] at h3 ⊢
  simp [h3]
end
end Go.Proofs.XC
