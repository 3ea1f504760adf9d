/- Words of an own calculus over the model: how a call's frame, rows and boxes go through its operations. -/
import Derived.Test.YtmgopcmdljhjoaaY23
set_option linter.unusedSimpArgs false
set_option linter.unusedVariables false
namespace Go.Proofs.XC
open Go

section
variable {P : Program} {T : Tab} {w : World} {e : Env} {d : Option Tmp} {ty : TypeId} {pos : String} {af : Array Edge} {g : Option (Nat × Bool)}
theorem allSome_pairs {ev : Operand → Option Value} {ρ : Operand → Value} (hev : ∀ x v, ev x = some v → ρ x = v) : ∀ (l : List (Nat × Operand)) (r : List Value), allSome (l.map fun p => ev p.2) = some r → l.map (fun x => (x.1, ρ x.2)) = (l.map (·.1)).zip r := by
  intro l
  induction l with
  | nil => intro r hr; simp
  | cons p l ih =>
    intro r hr
    simp only [List.map_cons] at hr
    cases hp2 : ev p.2 with
    | none => simp [hp2, allSome] at hr
    | some u =>
      simp only [hp2, allSome] at hr
      cases hl : allSome (l.map fun p => ev p.2) with
      | none => simp [hl] at hr
      | some q =>
        simp only [hl, Option.some.injEq] at hr
        subst hr
        simp [hev _ _ hp2, ih q hl]
/-- An array of parts. -/
theorem ask_buildA (ht : TabOK P T) {t n el s b s2 b2 : Nat} {z z2 : Value} {parts : Array (Nat × Operand)} {vs : List Value} {cells : Array Value} (hu : find T.und t = some (.array n el)) (hz : find T.inf t = some (s, b, z)) (hi : find T.inf el = some (s2, b2, z2))
    (hv : allSome (parts.toList.map fun p => evo e p.2) = some vs) (hf : Instr.fill (fun i => some (i * s2, s2)) z.cells ((parts.toList.map (·.1)).zip vs) = some cells) :
    AskIs P e (Oper.mk d (.build t parts) ty pos af g) (.agg cells) w := by
  intro ρ hρ
  have hr := run_underlying' (w := w) (ht.u hu)
  have hs := run_sizeOf' (P := P) (w := w) ht hi
  simp only [execOp, Instr.build, Sem.run_bind, run_zeroValue' ht hz, Result.andThen_ok, hr, hs, Array.toList_map, allSome_pairs hρ _ _ hv]
  simp [hf]
/-- All of an array, by its address, as a row. -/
theorem ask_whole (ht : TabOK P T) {t n el s b : Nat} {z : Value} {x : Operand} {ad : Addr} (hu : find T.und t = some (.array n el)) (hi : find T.inf el = some (s, b, z)) (hx : evo e x = some (.pointer (some ad))) :
    AskIs P e (Oper.mk d (.slice t x none none none) ty pos af g) (.slice (some ad) n n) w := by
  intro ρ hρ
  have h1 := hρ _ _ hx
  have hr := run_underlying' (w := w) (ht.u hu)
  have hs := run_sizeOf' (P := P) (w := w) ht hi
  have e2 : (if n = 0 then ad else ad.add 0) = ad := by
    split
    · rfl
    · simp [Addr.add]
  simp [execOp, h1, Instr.sliceAt, hr, Instr.sliceBounds, Instr.sureAddr, hs, e2]
end
end Go.Proofs.XC
