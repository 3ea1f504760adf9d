/- Words of an own calculus over the model: how a call's frame, rows and boxes go through its operations. -/
import Derived.Test.YtmgopcmdljhjoaaY21
set_option linter.unusedSimpArgs false
set_option linter.unusedVariables false
namespace Go.Proofs.XC
open Go

/-! ### Arguments that are structs with rows -/
def TrodC {H : Type} (enc : TypeId × Value → H) (P : Program) (w : World) (spare : Nat → Bool) (held : Bool) (t : TypeId) (cs : List Value) : Prop := ∃ (fuel : Nat) (x : DataW H × List MemPlace), DataW.trod enc P w 0 spare held fuel t cs = some x
inductive RK where
  | c (k : CK)
  | r (t : TypeId)
def AreR {H : Type} (enc : TypeId × Value → H) (P : Program) (w : World) (spare : Nat → Bool) (held : Bool) : List RK → List Value → Prop
  | [], [] => True
  | .c k :: ks, v :: vs => k.is v ∧ AreR enc P w spare held ks vs
  | .r t :: ks, v :: vs => TrodC enc P w spare held t [v] ∧ AreR enc P w spare held ks vs
  | _, _ => False
def rksF (T : Tab) (rec : Nat → Option (List RK)) : Nat → List Field → Option (List RK)
  | _, [] => some []
  | off, f :: fs => bif Nat.beq f.offset off then match rec f.type, find T.inf f.type with
      | some ks, some (s, _, _) => bif Nat.beq s ks.length then match rksF T rec (off + s) fs with
          | some r => some (ks ++ r)
          | none => none
        else none
      | _, _ => none
    else none
def rksP (T : Tab) : Nat → Nat → Option (List RK)
  | 0, _ => none
  | d + 1, t => match find T.und t with
    | some .bool => some [.c .b]
    | some (.int k) => some [.c (.i k)]
    | some .string => some [.c .s]
    | some (.slice _) => some [.r t]
    | some (.struct fs) => match rksF T (rksP T d) 0 fs.toList, find T.inf t with
      | some ks, some (s, _, _) => bif Nat.beq s ks.length then some ks else none
      | _, _ => none
    | _ => none
section
variable {P : Program} {T : Tab} {w : World} {H : Type} {enc : TypeId × Value → H} {spare : Nat → Bool} {held : Bool}
theorem trod_slice_one {fuel t e : Nat} {cs : List Value} {x : DataW H × List MemPlace} (hu : P.underlying t = some (.slice e)) (h : DataW.trod enc P w 0 spare held fuel t cs = some x) : ∃ v, cs = [v] := by
  cases fuel with
  | zero => simp [DataW.trod] at h
  | succ fuel =>
    unfold DataW.trod at h
    rw [hu] at h
    split at h <;> simp_all
theorem trod_slice_shape {fuel t e : Nat} {v : Value} {x : DataW H × List MemPlace} (hu : P.underlying t = some (.slice e)) (h : DataW.trod enc P w 0 spare held fuel t [v] = some x) : ∃ a len cap, v = .slice a len cap := by
  cases fuel with
  | zero => simp [DataW.trod] at h
  | succ fuel =>
    unfold DataW.trod at h
    rw [hu] at h
    split at h <;> simp_all
theorem AreR.append : ∀ {ks : List RK} {vs : List Value} {ks2 : List RK} {vs2 : List Value}, AreR enc P w spare held ks vs → AreR enc P w spare held ks2 vs2 → AreR enc P w spare held (ks ++ ks2) (vs ++ vs2)
  | [], [], _, _, _, h => h
  | .c _ :: _, _ :: _, _, _, h, h2 => ⟨h.1, AreR.append h.2 h2⟩
  | .r _ :: _, _ :: _, _, _, h, h2 => ⟨h.1, AreR.append h.2 h2⟩
  | [], _ :: _, _, _, h, _ => h.elim
  | .c _ :: _, [], _, _, h, _ => h.elim
  | .r _ :: _, [], _, _, h, _ => h.elim
theorem AreR.consC {k : CK} {ks : List RK} {vs : List Value} (h : AreR enc P w spare held (.c k :: ks) vs) : ∃ v us, vs = v :: us ∧ k.is v ∧ AreR enc P w spare held ks us := by
  cases vs with
  | nil => exact h.elim
  | cons v us => exact ⟨v, us, rfl, h.1, h.2⟩
theorem AreR.consR {t : TypeId} {ks : List RK} {vs : List Value} (h : AreR enc P w spare held (.r t :: ks) vs) : ∃ v us, vs = v :: us ∧ TrodC enc P w spare held t [v] ∧ AreR enc P w spare held ks us := by
  cases vs with
  | nil => exact h.elim
  | cons v us => exact ⟨v, us, rfl, h.1, h.2⟩
theorem AreR.nil {vs : List Value} (h : AreR enc P w spare held [] vs) : vs = [] := by
  cases vs with
  | nil => rfl
  | cons v us => exact h.elim
theorem rksF_sound (ht : TabOK P T) {rec : Nat → Option (List RK)} {fuel : Nat} {cs : List Value}
    (hrec : ∀ t ks cs x, rec t = some ks → DataW.trod enc P w 0 spare held fuel t cs = some x → AreR enc P w spare held ks cs) :
    ∀ (fs : List Field) (off : Nat) (ks : List RK) (xs : List (DataW H × List MemPlace)), rksF T rec off fs = some ks →
      (fs.mapM fun f => DataW.trod enc P w 0 spare held fuel f.type ((cs.drop f.offset).take (P.cellsOf f.type))) = some xs → AreR enc P w spare held ks ((cs.drop off).take ks.length)
  | [], off, ks, xs, hk, _ => by simp only [rksF, Option.some.injEq] at hk; subst hk; simp [AreR]
  | f :: fs, off, ks, xs, hk, hm => by
    simp only [rksF] at hk
    cases hb : Nat.beq f.offset off with
    | false => rw [hb] at hk; simp at hk
    | true =>
      have := Nat.eq_of_beq_eq_true hb
      rw [hb] at hk
      simp only [cond_true] at hk
      split at hk <;> try (simp at hk; done)
      rename_i k1 s b z hr hi
      cases hb2 : Nat.beq s k1.length with
      | false => rw [hb2] at hk; simp at hk
      | true =>
        rw [hb2] at hk
        simp only [cond_true] at hk
        have hs := Nat.eq_of_beq_eq_true hb2
        split at hk <;> simp at hk
        rename_i r hr2
        obtain ⟨y, ys, hy, hys, rfl⟩ := mapM_cons_some hm
        have h1 := hrec _ _ _ _ hr hy
        have h2 := rksF_sound ht hrec fs (off + s) r ys hr2 hys
        rw [cellsOf_of ht hi, this] at h1
        subst hk
        have e : (cs.drop off).take (k1 ++ r).length = (cs.drop off).take s ++ (cs.drop (off + s)).take r.length := by
          rw [List.length_append, ← hs, List.take_add, List.drop_drop]
        rw [e]
        exact h1.append h2
theorem rksP_sound (ht : TabOK P T) : ∀ (d t : Nat) (ks : List RK) (fuel : Nat) (cs : List Value) (x : DataW H × List MemPlace), rksP T d t = some ks → DataW.trod enc P w 0 spare held fuel t cs = some x → AreR enc P w spare held ks cs
  | 0, _, _, _, _, _, h, _ => by simp [rksP] at h
  | d + 1, t, ks, 0, cs, x, hk, h => by simp [DataW.trod] at h
  | d + 1, t, ks, fuel + 1, cs, x, hk, h => by
    simp only [rksP] at hk
    split at hk
    · rename_i hu
      simp only [Option.some.injEq] at hk
      subst hk
      unfold DataW.trod at h
      rw [ht.u hu] at h
      split at h <;> simp_all
      exact ⟨⟨_, rfl⟩, trivial⟩
    · rename_i k hu
      simp only [Option.some.injEq] at hk
      subst hk
      unfold DataW.trod at h
      rw [ht.u hu] at h
      split at h <;> simp_all
      exact ⟨⟨_, rfl, h.1.2⟩, trivial⟩
    · rename_i hu
      simp only [Option.some.injEq] at hk
      subst hk
      unfold DataW.trod at h
      rw [ht.u hu] at h
      split at h <;> simp_all
      exact ⟨⟨_, rfl, h.1⟩, trivial⟩
    · rename_i e hu
      simp only [Option.some.injEq] at hk
      subst hk
      obtain ⟨v, rfl⟩ := trod_slice_one (ht.u hu) h
      exact ⟨⟨_, _, h⟩, trivial⟩
    · rename_i fs hu
      unfold DataW.trod at h
      rw [ht.u hu] at h
      simp only at h
      split at h
      · rename_i hl
        cases hm : fs.toList.mapM fun f => DataW.trod enc P w 0 spare held fuel f.type ((cs.drop f.offset).take (P.cellsOf f.type)) with
        | none => simp [hm] at h
        | some xs =>
          split at hk <;> try (simp at hk; done)
          rename_i ks2 s b z hk2 hi
          cases hb : Nat.beq s ks2.length with
          | false => rw [hb] at hk; simp at hk
          | true =>
            rw [hb] at hk
            simp only [cond_true, Option.some.injEq] at hk
            subst hk
            have hs := Nat.eq_of_beq_eq_true hb
            have h2 := rksF_sound ht (fun t ks cs x hk h => rksP_sound ht d t ks fuel cs x hk h) fs.toList 0 ks2 xs hk2 hm
            rw [cellsOf_of ht hi, hs] at hl
            rwa [List.drop_zero, ← hl, List.take_length] at h2
      · cases h
    · simp at hk
theorem open_aggR (ht : TabOK P T) {r : Reach} {b0 d t : Nat} {fs : Array Field} {ks : List RK} {v : Value} {x : DataW H} {ps : List MemPlace} (hu : find T.und t = some (.struct fs)) (hk : rksP T d t = some ks)
    (hval : Value.okWide P w r b0 t v) (h : DataW.Trod enc P w 0 spare held t v x ps) : ∃ cs : List Value, v = .agg cs.toArray ∧ AreR enc P w spare held ks cs := by
  simp only [Value.okWide, ht.u hu] at hval
  obtain ⟨cs, rfl, _⟩ := hval
  obtain ⟨fuel, hf⟩ := h
  exact ⟨cs.toList, by simp, rksP_sound ht d t ks fuel _ _ hk (by simpa [Value.cells] using hf)⟩
theorem open_rowT (ht : TabOK P T) {α : Type} {E : Enc α} {WF : α → Prop} {d t e bb : Nat} {z : Value} {ks : List CK} {v : Value} (hu : find T.und t = some (.slice e)) (hi : find T.inf e = some (E.sz, bb, z)) (hk : cksP T d e = some ks)
    (hE : ∀ cs, AreC ks cs → ∃ y, cs = E.f y ∧ WF y) (h : TrodC enc P w spare held t [v]) :
    ∃ (A : Option Addr) (c : Nat) (xs : List α), v = .slice A xs.length c ∧ RdC E A xs w ∧ xs.length ≤ c ∧ c ≤ maxLen ∧ ∀ y ∈ xs, WF y := by
  obtain ⟨fuel, x, hf⟩ := h
  obtain ⟨a, len, cap, rfl⟩ := trod_slice_shape (ht.u hu) hf
  cases fuel with
  | zero => simp [DataW.trod] at hf
  | succ fuel =>
    unfold DataW.trod at hf
    rw [ht.u hu] at hf
    simp only [Value.cells] at hf
    cases a with
    | none =>
      have : len = 0 ∧ cap = 0 := by
        cases len <;> cases cap <;> simp at hf ⊢
      obtain ⟨rfl, rfl⟩ := this
      exact ⟨none, 0, [], rfl, fun h0 => absurd h0 (by simp), by simp, by simp, by simp⟩
    | some a =>
      simp only at hf
      split at hf
      · rename_i hc
        cases hm : (List.range len).mapM fun i => (w.cells? 0 (a.add (i * P.cellsOf e)) (P.cellsOf e)).bind (DataW.trod enc P w 0 spare held fuel e) with
        | none => simp [hm] at hf
        | some ys =>
          rw [cellsOf_of ht hi] at hm
          have hyl : ys.length = len := by simpa using mapM_some_length hm
          have hget : ∀ i, i < len → ∃ y, E.f y = ((List.range E.sz).map fun j => (w.cell? ((a.add (i * E.sz)).add j)).getD undef) ∧ WF y ∧ ∀ j, j < E.sz → w.cell? ((a.add (i * E.sz)).add j) = (E.f y)[j]? := by
            intro i hi'
            have h1 := mapM_some_get hm i i (by simp [hi'])
            rw [List.getElem?_eq_getElem (by omega)] at h1
            obtain ⟨cs, hcs, htr⟩ := Option.bind_eq_some_iff.1 h1
            obtain ⟨_, hl, hcell⟩ := World.cells?_some hcs
            obtain ⟨y, hy, hw⟩ := hE cs (cksP_sound ht d e ks fuel cs _ hk htr)
            subst hy
            refine ⟨y, ?_, hw, hcell⟩
            apply List.ext_getElem?
            intro j
            by_cases hj : j < E.sz
            · rw [List.getElem?_map, List.getElem?_range hj]
              simp only [Option.map_some]
              rw [hcell j hj]
              rw [List.getElem?_eq_getElem (by rw [E.len]; exact hj)]
              rfl
            · rw [List.getElem?_eq_none (by rw [E.len]; omega), List.getElem?_eq_none (by simp; omega)]
          have hall : ∀ n, n ≤ len → ∃ xs : List α, xs.length = n ∧ (∀ y ∈ xs, WF y) ∧ ∀ (i : Nat) (y : α), xs[i]? = some y → ∀ j, j < E.sz → w.cell? ((a.add (i * E.sz)).add j) = (E.f y)[j]? := by
            intro n
            induction n with
            | zero => exact fun _ => ⟨[], rfl, by simp, by simp⟩
            | succ n ih =>
              intro hn
              obtain ⟨xs, hxl, hxw, hxc⟩ := ih (by omega)
              obtain ⟨y, _, hw, hc⟩ := hget n (by omega)
              refine ⟨xs ++ [y], by simp [hxl], fun u hu => ?_, fun i u hu => ?_⟩
              · rcases List.mem_append.1 hu with hu | hu
                · exact hxw u hu
                · simp only [List.mem_singleton] at hu; subst hu; exact hw
              · by_cases hin : i < xs.length
                · rw [List.getElem?_append_left hin] at hu; exact hxc i u hu
                · rw [List.getElem?_append_right (by omega)] at hu
                  have hin0 : i - xs.length = 0 := by
                    have := (List.getElem?_eq_some_iff.1 hu).1
                    simp at this; omega
                  rw [hin0] at hu
                  simp only [List.getElem?_cons_zero, Option.some.injEq] at hu
                  subst hu
                  have : i = n := by omega
                  subst this
                  exact hc
          obtain ⟨xs, hxl, hxw, hxc⟩ := hall len (Nat.le_refl _)
          refine ⟨some a, cap, xs, by rw [hxl], fun _ => ⟨a, rfl, fun i y hy j u hu => ?_⟩, by omega, hc.2.2, hxw⟩
          rw [hxc i y hy j (by rw [← E.len y]; exact (List.getElem?_eq_some_iff.1 hu).1), hu]
      · cases hf
end
end Go.Proofs.XC
