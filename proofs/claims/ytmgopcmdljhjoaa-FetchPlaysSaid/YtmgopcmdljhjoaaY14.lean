/- Words of an own calculus over the model: how a call's frame, rows and boxes go through its operations. -/
import Derived.Test.YtmgopcmdljhjoaaY13
set_option linter.unusedSimpArgs false
set_option linter.unusedVariables false
namespace Go.Proofs.XC
open Go

/-! ### Package-level variables that are laid: their cells -/
def laidL (f : DataW Unit → Option (List Value)) (s : Nat) : List (DataW Unit) → Option (List Value)
  | [] => some []
  | D :: r => match f D, laidL f s r with
    | some v, some u => bif Nat.beq v.length s then some (v ++ u) else none
    | _, _ => none
def laidF (T : Tab) (rec : Nat → DataW Unit → Option (List Value)) : Nat → List Field → List (DataW Unit) → Option (List Value)
  | _, [], [] => some []
  | off, f :: fs, D :: r => bif Nat.beq f.offset off then match rec f.type D, find T.inf f.type with
      | some v, some (s, _, _) => bif Nat.beq s v.length then match laidF T rec (off + s) fs r with
          | some u => some (v ++ u)
          | none => none
        else none
      | _, _ => none
    else none
  | _, _, _ => none
def laidP (T : Tab) : Nat → Nat → DataW Unit → Option (List Value)
  | 0, _, _ => none
  | d + 1, t, D => match find T.und t, D with
    | some .bool, .lit (.bool b) => some [.bool b]
    | some (.int k), .lit (.int k' n) => if k = k' then some [.int k n] else none
    | some .string, .lit (.string bs) => some [.string ⟨bs.toArray⟩]
    | some (.array n e), .agg ds => match find T.inf e, find T.inf t, laidL (laidP T d e) ((find T.inf e).elim 0 (·.1)) ds with
      | some (s, _, _), some (s2, _, _), some vs => bif Nat.beq ds.length n && Nat.beq s2 (n * s) then some vs else none
      | _, _, _ => none
    | some (.struct fs), .agg ds => match laidF T (laidP T d) 0 fs.toList ds, find T.inf t with
      | some vs, some (s, _, _) => bif Nat.beq s vs.length then some vs else none
      | _, _ => none
    | _, _ => none
section
variable {P : Program} {T : Tab} {w : World} {spare : Nat → Bool} {held : Bool}
theorem laidL_sound {f : DataW Unit → Option (List Value)} {s : Nat} : ∀ (ds : List (DataW Unit)) (vs cs : List Value), laidL f s ds = some vs → cs.length = ds.length * s →
    (∀ i D, ds[i]? = some D → ∀ v, f D = some v → (cs.drop (i * s)).take s = v) → cs = vs
  | [], vs, cs, h, hl, _ => by
    simp only [laidL, Option.some.injEq] at h; subst h
    simpa using hl
  | D :: ds, vs, cs, h, hl, hall => by
    simp only [laidL] at h
    split at h <;> try (simp at h; done)
    rename_i v u hv hu
    cases hb : Nat.beq v.length s with
    | false => rw [hb] at h; simp at h
    | true =>
      rw [hb] at h
      simp only [cond_true, Option.some.injEq] at h
      have h0 := hall 0 D rfl v hv
      simp only [Nat.zero_mul, List.drop_zero] at h0
      have hr := laidL_sound ds u (cs.drop s) hu (by simp only [List.length_drop, hl, List.length_cons, Nat.add_mul]; omega) (fun i D' hD v' hv' => by
        have := hall (i + 1) D' (by simpa using hD) v' hv'
        rw [List.drop_drop]
        rw [Nat.add_mul] at this
        rw [← this]
        congr 2; omega)
      rw [← h, ← h0, ← hr, List.take_append_drop]
theorem laidF_sound (ht : TabOK P T) {rec : Nat → DataW Unit → Option (List Value)} {fuel : Nat} {cs : List Value}
    (hrec : ∀ t D vs cs p, rec t D = some vs → DataW.trod (fun _ => ()) P w 0 spare held fuel t cs = some (D, p) → cs = vs) :
    ∀ (fs : List Field) (off : Nat) (xs : List (DataW Unit × List MemPlace)) (vs : List Value), laidF T rec off fs (xs.map (·.1)) = some vs →
      (fs.mapM fun f => DataW.trod (fun _ => ()) P w 0 spare held fuel f.type ((cs.drop f.offset).take (P.cellsOf f.type))) = some xs → (cs.drop off).take vs.length = vs
  | [], off, xs, vs, hk, hm => by
    simp only [List.mapM_nil, pure, Option.some.injEq] at hm
    subst hm
    simp only [List.map_nil, laidF, Option.some.injEq] at hk
    subst hk; simp
  | f :: fs, off, xs, vs, hk, hm => by
    obtain ⟨y, ys, hy, hys, rfl⟩ := mapM_cons_some hm
    simp only [List.map_cons, laidF] at hk
    cases hb : Nat.beq f.offset off with
    | false => rw [hb] at hk; simp at hk
    | true =>
      have hoff := Nat.eq_of_beq_eq_true hb
      rw [hb] at hk
      simp only [cond_true] at hk
      split at hk <;> try (simp at hk; done)
      rename_i v s b z hr hi
      cases hb2 : Nat.beq s v.length with
      | false => rw [hb2] at hk; simp at hk
      | true =>
        rw [hb2] at hk
        simp only [cond_true] at hk
        have hs := Nat.eq_of_beq_eq_true hb2
        split at hk <;> simp at hk
        rename_i u hr2
        obtain ⟨yd, yp⟩ := y
        have h1 := hrec _ _ _ _ _ hr hy
        have h2 := laidF_sound ht hrec fs (off + s) ys u hr2 hys
        rw [cellsOf_of ht hi, hoff] at h1
        subst hk
        rw [List.length_append, ← hs, List.take_add, List.drop_drop, h1, h2]
theorem laidP_sound (ht : TabOK P T) : ∀ (d t : Nat) (D : DataW Unit) (vs : List Value) (fuel : Nat) (cs : List Value) (p : List MemPlace), laidP T d t D = some vs → DataW.trod (fun _ => ()) P w 0 spare held fuel t cs = some (D, p) → cs = vs
  | 0, _, _, _, _, _, _, h, _ => by simp [laidP] at h
  | d + 1, t, D, vs, 0, cs, p, hk, h => by simp [DataW.trod] at h
  | d + 1, t, D, vs, fuel + 1, cs, p, hk, h => by
    simp only [laidP] at hk
    split at hk
    · rename_i b hu
      simp only [Option.some.injEq] at hk
      subst hk
      unfold DataW.trod at h
      rw [ht.u hu] at h
      split at h <;> simp_all
    · rename_i k k' m hu
      split at hk <;> simp at hk
      rename_i hkk
      subst hkk; subst hk
      unfold DataW.trod at h
      rw [ht.u hu] at h
      split at h <;> simp_all
    · rename_i bs hu
      simp only [Option.some.injEq] at hk
      subst hk
      unfold DataW.trod at h
      rw [ht.u hu] at h
      split at h <;> simp_all
      rw [← h.2.1]
    · rename_i m e ds hu
      split at hk <;> try (simp at hk; done)
      rename_i s b z s2 b2 z2 vs' hi hi2 hL
      cases hb : Nat.beq ds.length m && Nat.beq s2 (m * s) with
      | false => rw [hb] at hk; simp at hk
      | true =>
        rw [hb] at hk
        simp only [cond_true, Option.some.injEq] at hk
        subst hk
        simp only [Bool.and_eq_true] at hb
        have hb1 := Nat.eq_of_beq_eq_true hb.1
        have hb2 := Nat.eq_of_beq_eq_true hb.2
        obtain ⟨xs, m', hf, hx, hcl, hxl, hel⟩ := DataW.trod_array (ht.u hu) h
        injection hx with hx _
        injection hx with hx
        subst hx
        rw [hi] at hL
        simp only [Option.elim_some] at hL
        rw [cellsOf_of ht hi2, hb2] at hcl
        rw [cellsOf_of ht hi] at hel
        refine laidL_sound _ _ _ hL (by rw [hcl, List.length_map, hxl]) (fun i D hD v hv => ?_)
        rw [List.getElem?_map] at hD
        obtain ⟨x, hx, hxD⟩ := Option.map_eq_some_iff.1 hD
        have him : i < m := by rw [← hxl]; exact (List.getElem?_eq_some_iff.1 hx).1
        have h1 := hel i him
        rw [hx] at h1
        obtain ⟨xd, xp⟩ := x
        simp only at hxD
        subst hxD
        exact laidP_sound ht d e _ v _ _ _ hv h1
    · rename_i fs ds hu
      unfold DataW.trod at h
      rw [ht.u hu] at h
      simp only at h
      split at h
      · rename_i hl
        cases hm : fs.toList.mapM fun f => DataW.trod (fun _ => ()) P w 0 spare held fuel f.type ((cs.drop f.offset).take (P.cellsOf f.type)) with
        | none => simp [hm] at h
        | some xs =>
          simp only [hm, Option.map_some, Option.some.injEq, Prod.mk.injEq, DataW.agg.injEq] at h
          obtain ⟨h, _⟩ := h
          subst h
          split at hk <;> try (simp at hk; done)
          rename_i vs' s b z hF hi
          cases hb : Nat.beq s vs'.length with
          | false => rw [hb] at hk; simp at hk
          | true =>
            rw [hb] at hk
            simp only [cond_true, Option.some.injEq] at hk
            subst hk
            have hs := Nat.eq_of_beq_eq_true hb
            have := laidF_sound ht (fun t D vs cs p hk h => laidP_sound ht d t D vs fuel cs p hk h) fs.toList 0 xs vs' hF hm
            rw [cellsOf_of ht hi, hs] at hl
            rwa [List.drop_zero, ← hl, List.take_length] at this
      · cases h
    · simp at hk
theorem RdC.of_cells {α : Type} {E : Enc α} {b : Nat} {xs : List α} {cs : List Value} (h : ∀ j v, cs[j]? = some v → w.cell? ⟨b, j, none⟩ = some v) (hx : xs.flatMap E.f = cs) : RdC E (some ⟨b, 0, none⟩) xs w := by
  intro _
  refine ⟨_, rfl, fun i x hi j v hv => ?_⟩
  rw [add_flat]
  have e1 : (⟨b, 0, none⟩ : Addr).add (i * E.sz + j) = ⟨b, i * E.sz + j, none⟩ := by unfold Addr.add; split <;> simp_all
  rw [e1]
  refine h _ _ ?_
  rw [← hx]
  exact flat_at E xs i x hi j v hv
/-- A laid variable's row, out of what the list of all says. -/
theorem laid_row {α : Type} (ht : TabOK P T) {E : Enc α} {nm : String} {D : DataW Unit} {g t d : Nat} {xs : List α} (hg : P.globalNamed nm = some g) (hty : (P.globals[g]?).map (·.type) = some t) (hD : laidP T d t D = some (xs.flatMap E.f)) :
    ∀ {l : List (String × DataW Unit)} {ps : List MemPlace}, (nm, D) ∈ l → DataW.LaidVars P w l ps → RdC E (some ⟨g, 0, none⟩) xs w
  | [], _, h, _ => by cases h
  | (n', D') :: r, ps, h, hv => by
    obtain ⟨g0, t0, cs0, f0, p0, q0, hg0, ht0, hv0, hd0, hr, _⟩ := hv
    rcases List.mem_cons.1 h with h | h
    · injection h with h1 h2
      subst h1; subst h2
      rw [hg] at hg0; injection hg0 with hg0; subst hg0
      rw [hty] at ht0; injection ht0 with ht0; subst ht0
      have hcs := laidP_sound ht d _ _ _ _ _ _ hD hd0
      refine RdC.of_cells (cs := cs0.toList) (fun j v hj => ?_) hcs.symm
      rw [World.var?_cell hg hv0 j]
      simpa using hj
    · exact laid_row ht hg hty hD h hr
end
end Go.Proofs.XC
