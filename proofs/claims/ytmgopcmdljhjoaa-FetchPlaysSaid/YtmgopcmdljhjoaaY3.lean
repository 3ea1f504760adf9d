/- Words of an own calculus over the model: how a call's frame, rows and boxes go through its operations. -/
import Derived.Test.YtmgopcmdljhjoaaY2
set_option linter.unusedSimpArgs false
set_option linter.unusedVariables false
namespace Go.Proofs.XC
open Go
section
variable {P : Program} {T : Tab} {w : World}

theorem run_bound {k : IntKind} {i : Int} {y : Nat} {c : BoundsCode} (h0 : 0 ≤ i) (h1 : i ≤ (y : Int)) : (Instr.sliceBound (.int k i) y c).run P w = .ok i.toNat w := by
  simp [Instr.sliceBound, asIntOf, h0, h1]

theorem run_cutP {isS : Bool} {len cap : Nat} {lo hi : Option Value} {l h : Nat} {cs : List Prop} (hc : cutP len cap lo hi = some (l, h, cs)) (hp : Conj cs) :
    (Instr.sliceBounds isS len cap lo hi none).run P w = .ok (l, h, cap) w := by
  unfold cutP at hc
  split at hc <;> simp at hc
  · obtain ⟨rfl, rfl, rfl⟩ := hc
    simp [Instr.sliceBounds]
  · obtain ⟨rfl, rfl, rfl⟩ := hc
    obtain ⟨h0, h1, _⟩ := hp
    simp [Instr.sliceBounds, run_bound h0 h1]
  · obtain ⟨rfl, rfl, rfl⟩ := hc
    obtain ⟨h0, h1, _⟩ := hp
    simp [Instr.sliceBounds, run_bound h0 h1]
  · obtain ⟨rfl, rfl, rfl⟩ := hc
    obtain ⟨h0, h1, h2, h3, _⟩ := hp
    have h4 := fun (c : BoundsCode) (k : IntKind) => run_bound (P := P) (w := w) (k := k) (c := c) h2 (show _ ≤ ((Int.toNat _ : Nat) : Int) by rw [Int.toNat_of_nonneg h0]; omega)
    simp [Instr.sliceBounds, run_bound h0 h1, h4]

theorem run_sliceP (ht : TabOK P T) {t : Nat} {x : Value} {lo hi : Option Value} {v : Value} {cs : List Prop} (h : sliceP T t x lo hi = some (v, cs)) (hp : Conj cs) :
    (Instr.sliceAt t x lo hi none).run P w = .ok v w := by
  unfold sliceP at h
  split at h
  · rename_i s hu
    have hr := run_underlying' (w := w) (ht.u hu)
    split at h <;> simp at h
    rename_i l hh cs' hc
    obtain ⟨rfl, rfl⟩ := h
    simp [Instr.sliceAt, Instr.slice, hr, run_cutP hc hp]
  · simp at h

theorem run_fieldP (ht : TabOK P T) {t f : Nat} {fd : Field} (h : fieldP T t f = some fd) : ∃ fs : Array Field, (Go.underlying t).run P w = .ok (.struct fs) w ∧ fs[f]? = some fd := by
  unfold fieldP at h
  split at h
  · rename_i fs hu
    exact ⟨fs, run_underlying' (ht.u hu), h⟩
  · simp at h

theorem bt_index {s : ByteArray} {j : Int} (h : 0 ≤ j ∧ j < (s.size : Int)) : ∃ b : UInt8, s[j.toNat]? = some b ∧ (b.toNat : Int) = bt s j := by
  have hl : j.toNat < s.size := by omega
  exact ⟨s[j.toNat], getElem?_pos s j.toNat hl, by simp [bt, hl]⟩

theorem run_mapM_places (ht : TabOK P T) : ∀ (fs : List Field) (ps : List (Nat × Nat)), allSome (fs.map fun f => (find T.inf f.type).map fun x => (f.offset, x.1)) = some ps →
    (fs.mapM (m := Sem) fun f => do pure (f.offset, ← Go.sizeOf f.type)).run P w = .ok ps w
  | [], ps, h => by simp only [List.map_nil, allSome, Option.some.injEq] at h; subst h; simp
  | f :: fs, ps, h => by
    simp only [List.map_cons] at h
    cases hf : find T.inf f.type with
    | none => simp [hf, allSome] at h
    | some p =>
      obtain ⟨s, b, z⟩ := p
      simp only [hf, Option.map_some, allSome] at h
      cases hl : allSome (fs.map fun f => (find T.inf f.type).map fun x => (f.offset, x.1)) with
      | none => simp [hl] at h
      | some q =>
        simp only [hl, Option.some.injEq] at h
        subst h
        have h1 := run_sizeOf' (w := w) ht hf
        have h2 := run_mapM_places ht fs q hl
        simp only [List.mapM_cons, Sem.run_bind, h1, Result.andThen_ok, Sem.run_pure, h2]

theorem evalP_sound (ht : TabOK P T) {ev : Operand → Option Value} {ρ : Operand → Value} (hev : ∀ x v, ev x = some v → ρ x = v) {o : Oper} {v : Value} {cs : List Prop}
    (h : evalP T ev o.op = some (v, cs)) (hp : Conj cs) : (execOp ρ o).run P w = .ok (.value v) w := by
  obtain ⟨dst, op, ty, pos, af, gd⟩ := o
  simp only at h
  unfold evalP at h
  split at h
  · rename_i x
    split at h <;> simp [pureV] at h
    rename_i u hu
    obtain ⟨rfl, rfl⟩ := h
    simp [execOp, hev _ _ hu]
  · rename_i x
    split at h <;> simp [pureV] at h
    rename_i u hu
    obtain ⟨rfl, rfl⟩ := h
    simp [execOp, hev _ _ hu]
  · rename_i c x y
    split at h
    · rename_i hc
      split at h <;> simp [pureV] at h
      rename_i u hu
      obtain ⟨rfl, rfl⟩ := h
      simp [execOp, hev _ _ hc, hev _ _ hu, asBool]
    · rename_i hc
      split at h <;> simp [pureV] at h
      rename_i u hu
      obtain ⟨rfl, rfl⟩ := h
      simp [execOp, hev _ _ hc, hev _ _ hu, asBool]
    · simp at h
  · rename_i op t x y yt
    split at h
    · simp at h
    · split at h
      · rename_i a b ha hb
        have := binP_sound (w := w) (x := x) (y := y) ht h hp
        simp only [execOp, hev _ _ ha, hev _ _ hb]
        simp only [Sem.run_bind] at this ⊢
        simp [this]
      · simp at h
  · rename_i op t x
    split at h
    · rename_i a ha
      simp [execOp, hev _ _ ha, run_unary h]
    · simp at h
  · rename_i s d x
    split at h
    · rename_i a ha
      simp [execOp, hev _ _ ha, run_convP ht h]
    · simp at h
  · rename_i x i
    split at h
    · rename_i vs hv
      split at h <;> simp [pureV] at h
      rename_i u hu
      obtain ⟨rfl, rfl⟩ := h
      simp [execOp, hev _ _ hv, Instr.extract, hu]
    · simp at h
  · rename_i x
    split at h <;> simp [pureV] at h
    rename_i ad hu
    obtain ⟨rfl, rfl⟩ := h
    simp [execOp, hev _ _ hu]
  · rename_i t x f
    split at h
    · rename_i c fd hx hf
      split at h <;> simp [pureV] at h
      rename_i u hu
      obtain ⟨rfl, rfl⟩ := h
      obtain ⟨fs, h1, h2⟩ := run_fieldP (w := w) ht hf
      simp [execOp, hev _ _ hx, Instr.field, h1, h2, asAgg, run_partP ht hu]
    · simp at h
  · rename_i t x f
    split at h
    · rename_i ad fd hx hf
      split at h
      · rename_i s bb zz hi
        split at h <;> simp [pureV] at h
        rename_i hs
        obtain ⟨rfl, rfl⟩ := h
        obtain ⟨fs, h1, h2⟩ := run_fieldP (w := w) ht hf
        simp [execOp, hev _ _ hx, Instr.fieldAt, h1, h2, Instr.sureAddr, fieldPlace, run_sizeOf' ht hi, hs]
      · simp at h
    · simp at h
  · rename_i t x i
    split at h
    · rename_i el ad len c k j hu hx hj
      split at h <;> simp at h
      rename_i s bb zz hi
      obtain ⟨rfl, rfl⟩ := h
      have hr := run_underlying' (w := w) (ht.u hu)
      simp [execOp, hev _ _ hx, hev _ _ hj, Instr.indexAt, asIntOf, hr, run_sizeOf' ht hi, hp.1]
    · rename_i len el ad k j hu hx hj
      split at h <;> simp at h
      rename_i s bb zz hi
      obtain ⟨rfl, rfl⟩ := h
      have hr := run_underlying' (w := w) (ht.u hu)
      simp [execOp, hev _ _ hx, hev _ _ hj, Instr.indexAt, asIntOf, hr, run_sizeOf' ht hi, hp.1, Instr.sureAddr]
    · simp at h
  · rename_i t x i
    split at h
    · rename_i s k j hu hx hj
      simp only [Option.some.injEq, Prod.mk.injEq] at h
      obtain ⟨rfl, rfl⟩ := h
      have hr := run_underlying' (w := w) (ht.u hu)
      obtain ⟨b, hb, hbt⟩ := bt_index hp.1
      simp [execOp, hev _ _ hx, hev _ _ hj, Instr.index, asIntOf, hr, hp.1.1, hb, hbt]
    · simp at h
  · rename_i t x lo hi
    split at h
    · rename_i u lo' hi' hx hlo hhi
      have e : ∀ (y : Option Operand) (r : Option Value), optV ev y = some r → y.map ρ = r := by
        intro y r hy
        cases y with
        | none => simp only [optV, Option.some.injEq] at hy; subst hy; rfl
        | some y =>
          simp only [optV, Option.map_eq_some_iff] at hy
          obtain ⟨z, hz, rfl⟩ := hy
          simp [hev _ _ hz]
      simp [execOp, hev _ _ hx, e _ _ hlo, e _ _ hhi, run_sliceP ht h hp]
    · simp at h
  · rename_i t parts
    split at h
    · rename_i fs s b z vs hu hz hv
      split at h
      · rename_i ps hps
        split at h <;> simp [pureV] at h
        rename_i cells hfill
        obtain ⟨rfl, rfl⟩ := h
        have hr := run_underlying' (w := w) (ht.u hu)
        have hm := run_mapM_places (w := w) ht fs.toList ps hps
        have hvs : ∀ (l : List (Nat × Operand)) (r : List Value), allSome (l.map fun p => ev p.2) = some r → l.map (fun x => (x.1, ρ x.2)) = (l.map (·.1)).zip r := by
          intro l
          induction l with
          | nil => intro r hr; simp
          | cons p l ih =>
            intro r hr
            simp only [List.map_cons] at hr
            cases hp2 : ev p.2 with
            | none => simp [hp2, allSome] at hr
            | some u =>
              simp only [hp2, allSome] at hr
              cases hl : allSome (l.map fun p => ev p.2) with
              | none => simp [hl] at hr
              | some q =>
                simp only [hl, Option.some.injEq] at hr
                subst hr
                simp [hev _ _ hp2, ih q hl]
        simp only [execOp, Instr.build, Sem.run_bind, run_zeroValue' ht hz, Result.andThen_ok, hr]
        simp only [Array.mapM_eq_mapM_toList, Sem.run_map, hm, Result.andThen_ok, Array.toList_map, hvs _ _ hv, List.getElem?_toArray, hfill]
        simp [hfill]
      · simp at h
    · simp at h
  · rename_i fn first cap
    split at h <;> simp [pureV] at h
    rename_i f c hf hc
    obtain ⟨rfl, rfl⟩ := h
    have h1 := allSome_map hev _ _ hf
    have h2 := allSome_map hev _ _ hc
    have h3 : first.map ρ = f.toArray := Array.toList_inj.1 (by simpa using h1)
    have h4 : cap.map ρ = c.toArray := Array.toList_inj.1 (by simpa using h2)
    simp [execOp, Instr.makeFunc, h3, h4]
  · rename_i c
    split at h
    · rename_i b vs hcal hv
      have h1 := allSome_map hev _ _ hv
      have h2 : c.args.map ρ = vs.toArray := Array.toList_inj.1 (by simpa using h1)
      simp only [execOp, resolve, hcal, invoke, h2, pure_bind]
      exact run_builtinP ht h
    · simp at h
  · simp at h
end
end Go.Proofs.XC
