/- Words of an own calculus over the model: how a call's frame, rows and boxes go through its operations. -/
import Derived.Test.YtmgopcmdljhjoaaY29
import Derived.Lib.AppendZeros
set_option linter.unusedSimpArgs false
set_option linter.unusedVariables false
namespace Go.Proofs.XC
open Go

section
variable {ρ : Option Nat} {ds : List Deferred} {P : Program} {T : Tab} {n : Nat} {a : Act} {e : Env} {w w' w2 : World} {o o' o2 os : Nat → Nat} {L R : Nat} {Q : Exit → Act → World → Prop} {K : Act → World → Prop}
  {d : Option Tmp} {ty : TypeId} {pos : String} {af : Array Edge} {g : Option (Nat × Bool)} {α : Type} {E : Enc α}
/-- append(nil, make([]T, m)...): room for m. -/
theorem op_appendZ (E : Enc α) (ht : TabOK P T) (hk : KnD n ds a e) {t tn el bytes : Nat} {kn kk : IntKind} {z : Value} {s x : Operand} {m : Int} (hu : find T.und t = some (.slice el)) (hun : find T.und tn = some (.int kn)) (hi : find T.inf el = some (E.sz, bytes, z))
    (hzs : z.cells.size = E.sz) (hsz : Nat.blt 0 E.sz = true) (hby : Nat.ble bytes 100000 = true) (hs : evo e s = some (.slice none 0 0)) (hx : evo e x = some (.int kk m)) (h0 : 0 < m) (hm : m ≤ 1000000000) (L : Nat)
    (h : ∀ A c w' o', St [] w o w' o' → Ft (Own E el (.slice A 0 c) ([] : List α)) w' o' L → K (a.put d (.slice A m.toNat c)) w') :
    (Oper.mk d (.call { callee := .builtin .append, args := #[s, x], argTypes := #[t, tn] }) ty pos af g).wpIn (WF ρ) 0 P a w K Q := by
  obtain ⟨i, hinf, his, hib, hiz⟩ := ht.i hi
  have hsz' : 0 < E.sz := by simpa [Nat.blt_eq] using hsz
  have hby' : bytes ≤ 100000 := by simpa using hby
  have hev1 := hk.ev hs
  have hev2 := hk.ev hx
  obtain ⟨k, rfl⟩ : ∃ k : Nat, m = (k : Int) := ⟨m.toNat, by omega⟩
  have hmb : k * i.bytes ≤ 1000000000 * 100000 := Nat.mul_le_mul (by omega) (by omega)
  have hr := Lib.run_append_nil_zeros (P := P) w t tn ty el i z kk kn (ht.u hu) (ht.u hun) hinf hiz k (by omega) (by omega) (by omega) (by omega)
  have hexec : (execOp a.eval (Oper.mk d (.call { callee := .builtin .append, args := #[s, x], argTypes := #[t, tn] }) ty pos af g)).run P w = .ok (.value (.slice (some ⟨w.heap.size, 0, none⟩) k (grownCap w k 0 el))) (w.drew.alloc (.cells (Builtin.zeroCells z.cells k ++ Builtin.zeroCells z.cells (grownCap w k 0 el - k)) el)) := by
    simp [execOp, resolve, invoke, builtin, hev1, hev2, hr]
  have hge := grownCap_ge w k 0 el
  have hcm : grownCap w k 0 el ≤ maxLen := grownCap_le_maxLen w k 0 el (by simp only [maxLen]; omega)
  refine op_of_run hexec (h _ (grownCap w k 0 el) _ (newLab o w.heap.size L) ⟨rfl, rfl, rfl, by simp, fun b hb => ?_, fun b hb _ => heap_alloc_old w.drew _ hb⟩ (Own.ft ⟨by simp, .inr ⟨w.heap.size, _, _, rfl, Nat.zero_le _, heap_alloc_new w.drew _, Nat.zero_le _, hcm, ?_, by simp⟩⟩ fun k hk => ?_))
  · simp [newLab, Nat.ne_of_lt hb]
  · simp only [Array.size_append, size_zeroCells, hzs, ← Nat.add_mul]
    congr 1
    omega
  · have : w.heap.size = k := by simpa [Value.ownBlock] using hk
    simp [newLab, this]
theorem ask_take0 (ht : TabOK P T) {t el s bb : Nat} {z : Value} (hu : find T.und t = some (.slice el)) (hi : find T.inf el = some (s, bb, z)) {A : Option Addr} {l c : Nat} {k : IntKind} {x oh : Operand}
    (hx : evo e x = some (.slice A l c)) (hoh : evo e oh = some (.int k 0)) : AskIs P e (Oper.mk d (.slice t x none (some oh) none) ty pos af g) (.slice A 0 c) w := by
  intro ρ hρ
  have hr := run_cut (P := P) (w := w) ht hu hi (A := A) (len := l) (cap := c) (lo := none) (hi' := some (.int k 0)) rfl ⟨Int.le_refl _, by omega, trivial⟩
  have e3 : (if c = 0 then A else A.map (·.add (0 * s))) = A := by
    split
    · rfl
    · cases A <;> simp [Addr.add]
  rw [e3] at hr
  simp [execOp, hρ _ _ hx, hρ _ _ hoh, hr]
/-! ### A call under other labels, that turns nothing -/
theorem St.back (h : St [] w os w2 o2) (o : Nat → Nat) : St [] w o w2 (fun b => if b < w.heap.size then o b else o2 b) :=
  ⟨h.os, h.tape, h.output, h.size, fun b hb _ => by simp [hb], fun b hb _ => h.kept b hb (by simp)⟩
theorem Ft.back {Q : World → Prop} (f : Ft Q w2 o2 R) (h : St [] w os w2 o2) (hR : ∀ b, os b ≠ R) (o : Nat → Nat) : Ft Q w2 (fun b => if b < w.heap.size then o b else o2 b) R :=
  f.mono fun b hb _ => by
    by_cases hlt : b < w.heap.size
    · exact absurd ((h.lab b hlt (by simp)).symm.trans hb) (hR b)
    · simp [hlt, hb]
/-- One label apart from all others. -/
def oneLab (o : Nat → Nat) (l : Nat) : Nat → Nat := fun b => if o b = l then 1 else 0
theorem oneLab_ne {o : Nat → Nat} {l : Nat} (R : Nat) (h : Nat.blt 1 R = true) (b : Nat) : oneLab o l b ≠ R := by
  have : 1 < R := by simpa using h
  unfold oneLab; split <;> omega
theorem Ft.lab1 {Q : World → Prop} (f : Ft Q w o L) : Ft Q w (oneLab o L) 1 := f.mono fun b hb _ => by simp [oneLab, hb]
theorem Ft.lab0 {Q : World → Prop} {l : Nat} (f : Ft Q w o L) (h : Nat.beq L l = false) : Ft Q w (oneLab o l) 0 := f.mono fun b hb _ => by
  have : L ≠ l := by intro e; rw [e] at h; simp at h
  simp [oneLab, hb, this]
end
end Go.Proofs.XC
