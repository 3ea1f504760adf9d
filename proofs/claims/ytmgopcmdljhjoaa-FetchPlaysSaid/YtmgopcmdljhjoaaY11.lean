/- Words of an own calculus over the model: how a call's frame, rows and boxes go through its operations. -/
import Derived.Test.YtmgopcmdljhjoaaY10
import Derived.WalkKit
import Derived.ProofKit
import Derived.OpenShut
import Derived.ShutString
import Derived.ChangeOld
import Derived.Below
import Derived.Carry
import Derived.SizedLaws
set_option linter.unusedSimpArgs false
set_option linter.unusedVariables false
namespace Go.Proofs.XC
open Go

/-! ### What arguments hold: cells by kinds -/
inductive CK where
  | i (k : IntKind)
  | b
  | s
def CK.is : CK → Value → Prop
  | .i k, v => ∃ n, v = .int k n ∧ (Lit.int k n).wf = true
  | .b, v => ∃ x, v = .bool x
  | .s, v => ∃ x : ByteArray, v = .string x ∧ x.size ≤ maxLen
def AreC : List CK → List Value → Prop
  | [], [] => True
  | k :: ks, v :: vs => k.is v ∧ AreC ks vs
  | _, _ => False
def cksF (T : Tab) (rec : Nat → Option (List CK)) : Nat → List Field → Option (List CK)
  | _, [] => some []
  | off, f :: fs => bif Nat.beq f.offset off then match rec f.type, find T.inf f.type with
      | some ks, some (s, _, _) => bif Nat.beq s ks.length then match cksF T rec (off + s) fs with
          | some r => some (ks ++ r)
          | none => none
        else none
      | _, _ => none
    else none
def cksP (T : Tab) : Nat → Nat → Option (List CK)
  | 0, _ => none
  | d + 1, t => match find T.und t with
    | some .bool => some [.b]
    | some (.int k) => some [.i k]
    | some .string => some [.s]
    | some (.struct fs) => match cksF T (cksP T d) 0 fs.toList, find T.inf t with
      | some ks, some (s, _, _) => bif Nat.beq s ks.length then some ks else none
      | _, _ => none
    | _ => none
theorem AreC.append : ∀ {ks : List CK} {vs : List Value} {ks2 : List CK} {vs2 : List Value}, AreC ks vs → AreC ks2 vs2 → AreC (ks ++ ks2) (vs ++ vs2)
  | [], [], _, _, _, h => h
  | _ :: _, _ :: _, _, _, h, h2 => ⟨h.1, AreC.append h.2 h2⟩
  | [], _ :: _, _, _, h, _ => h.elim
  | _ :: _, [], _, _, h, _ => h.elim
theorem AreC.len : ∀ {ks : List CK} {vs : List Value}, AreC ks vs → vs.length = ks.length
  | [], [], _ => rfl
  | _ :: _, _ :: _, h => by simp [AreC.len h.2]
  | [], _ :: _, h => h.elim
  | _ :: _, [], h => h.elim
section
variable {P : Program} {T : Tab} {w : World} {H : Type} {enc : TypeId × Value → H} {spare : Nat → Bool} {held : Bool}
theorem mapM_cons_some {β γ : Type} {f : β → Option γ} {x : β} {l : List β} {r : List γ} (h : (x :: l).mapM f = some r) : ∃ y ys, f x = some y ∧ l.mapM f = some ys ∧ r = y :: ys := by
  rw [List.mapM_cons] at h
  cases hx : f x with
  | none => simp [hx] at h
  | some y =>
    cases hl : l.mapM f with
    | none => simp [hx, hl] at h
    | some ys => simp [hx, hl] at h; exact ⟨y, ys, rfl, rfl, h.symm⟩
theorem cellsOf_of (ht : TabOK P T) {t s b : Nat} {z : Value} (h : find T.inf t = some (s, b, z)) : P.cellsOf t = s := by
  obtain ⟨i, hi, hs, _⟩ := ht.i h
  simp [Program.cellsOf, hi, hs]
theorem cksF_sound (ht : TabOK P T) {rec : Nat → Option (List CK)} {fuel : Nat} {cs : List Value}
    (hrec : ∀ t ks cs x, rec t = some ks → DataW.trod enc P w 0 spare held fuel t cs = some x → AreC ks cs) :
    ∀ (fs : List Field) (off : Nat) (ks : List CK) (xs : List (DataW H × List MemPlace)), cksF T rec off fs = some ks →
      (fs.mapM fun f => DataW.trod enc P w 0 spare held fuel f.type ((cs.drop f.offset).take (P.cellsOf f.type))) = some xs → AreC ks ((cs.drop off).take ks.length)
  | [], off, ks, xs, hk, _ => by simp only [cksF, Option.some.injEq] at hk; subst hk; simp [AreC]
  | f :: fs, off, ks, xs, hk, hm => by
    simp only [cksF] at hk
    cases hb : Nat.beq f.offset off with
    | false => rw [hb] at hk; simp at hk
    | true =>
      have := Nat.eq_of_beq_eq_true hb
      rw [hb] at hk
      simp only [cond_true] at hk
      split at hk <;> try (simp at hk; done)
      rename_i k1 s b z hr hi
      cases hb2 : Nat.beq s k1.length with
      | false => rw [hb2] at hk; simp at hk
      | true =>
        rw [hb2] at hk
        simp only [cond_true] at hk
        have hs := Nat.eq_of_beq_eq_true hb2
        split at hk <;> simp at hk
        rename_i r hr2
        obtain ⟨y, ys, hy, hys, rfl⟩ := mapM_cons_some hm
        have h1 := hrec _ _ _ _ hr hy
        have h2 := cksF_sound ht hrec fs (off + s) r ys hr2 hys
        rw [cellsOf_of ht hi, this] at h1
        subst hk
        have e : (cs.drop off).take (k1 ++ r).length = (cs.drop off).take s ++ (cs.drop (off + s)).take r.length := by
          rw [List.length_append, ← hs, List.take_add, List.drop_drop]
        rw [e]
        exact h1.append h2
theorem cksP_sound (ht : TabOK P T) : ∀ (d t : Nat) (ks : List CK) (fuel : Nat) (cs : List Value) (x : DataW H × List MemPlace), cksP T d t = some ks → DataW.trod enc P w 0 spare held fuel t cs = some x → AreC ks cs
  | 0, _, _, _, _, _, h, _ => by simp [cksP] at h
  | d + 1, t, ks, 0, cs, x, hk, h => by simp [DataW.trod] at h
  | d + 1, t, ks, fuel + 1, cs, x, hk, h => by
    simp only [cksP] at hk
    split at hk
    · rename_i hu
      simp only [Option.some.injEq] at hk
      subst hk
      unfold DataW.trod at h
      rw [ht.u hu] at h
      split at h <;> simp_all
      exact ⟨⟨_, rfl⟩, trivial⟩
    · rename_i k hu
      simp only [Option.some.injEq] at hk
      subst hk
      unfold DataW.trod at h
      rw [ht.u hu] at h
      split at h <;> simp_all
      exact ⟨⟨_, rfl, h.1.2⟩, trivial⟩
    · rename_i hu
      simp only [Option.some.injEq] at hk
      subst hk
      unfold DataW.trod at h
      rw [ht.u hu] at h
      split at h <;> simp_all
      exact ⟨⟨_, rfl, h.1⟩, trivial⟩
    · rename_i fs hu
      unfold DataW.trod at h
      rw [ht.u hu] at h
      simp only at h
      split at h
      · rename_i hl
        cases hm : fs.toList.mapM fun f => DataW.trod enc P w 0 spare held fuel f.type ((cs.drop f.offset).take (P.cellsOf f.type)) with
        | none => simp [hm] at h
        | some xs =>
          split at hk <;> try (simp at hk; done)
          rename_i ks2 s b z hk2 hi
          cases hb : Nat.beq s ks2.length with
          | false => rw [hb] at hk; simp at hk
          | true =>
            rw [hb] at hk
            simp only [cond_true, Option.some.injEq] at hk
            subst hk
            have hs := Nat.eq_of_beq_eq_true hb
            have h2 := cksF_sound ht (fun t ks cs x hk h => cksP_sound ht d t ks fuel cs x hk h) fs.toList 0 ks2 xs hk2 hm
            rw [cellsOf_of ht hi, hs] at hl
            rwa [List.drop_zero, ← hl, List.take_length] at h2
      · cases h
    · simp at hk
theorem open_agg (ht : TabOK P T) {r : Reach} {b0 d t : Nat} {fs : Array Field} {ks : List CK} {v : Value} {x : DataW H} {ps : List MemPlace} (hu : find T.und t = some (.struct fs)) (hk : cksP T d t = some ks)
    (hval : Value.okWide P w r b0 t v) (h : DataW.Trod enc P w 0 spare held t v x ps) : ∃ cs : List Value, v = .agg cs.toArray ∧ AreC ks cs := by
  simp only [Value.okWide, ht.u hu] at hval
  obtain ⟨cs, rfl, _⟩ := hval
  obtain ⟨fuel, hf⟩ := h
  exact ⟨cs.toList, by simp, cksP_sound ht d t ks fuel _ _ hk (by simpa [Value.cells] using hf)⟩
/-- A slice of flat elements. -/
theorem open_rows (ht : TabOK P T) {α : Type} {E : Enc α} {WF : α → Prop} {r : Reach} {b0 d t e bb : Nat} {z : Value} {ks : List CK} {v : Value} {x : DataW H} {ps : List MemPlace} (hu : find T.und t = some (.slice e)) (hi : find T.inf e = some (E.sz, bb, z)) (hk : cksP T d e = some ks)
    (hE : ∀ cs, AreC ks cs → ∃ y, cs = E.f y ∧ WF y) (hval : Value.okWide P w r b0 t v) (h : DataW.Trod enc P w 0 spare held t v x ps) :
    ∃ (A : Option Addr) (c : Nat) (xs : List α), v = .slice A xs.length c ∧ RdC E A xs w ∧ xs.length ≤ c ∧ c ≤ maxLen ∧ ∀ y ∈ xs, WF y := by
  obtain ⟨a, len, cap, rfl⟩ := WideShapes.okWide_slice (ht.u hu) hval
  obtain ⟨fuel, hf⟩ := h
  cases fuel with
  | zero => simp [DataW.trod] at hf
  | succ fuel =>
    unfold DataW.trod at hf
    rw [ht.u hu] at hf
    simp only [Value.cells] at hf
    cases a with
    | none =>
      have : len = 0 ∧ cap = 0 := by
        cases len <;> cases cap <;> simp at hf ⊢
      obtain ⟨rfl, rfl⟩ := this
      exact ⟨none, 0, [], rfl, fun h0 => absurd h0 (by simp), by simp, by simp, by simp⟩
    | some a =>
      simp only at hf
      split at hf
      · rename_i hc
        cases hm : (List.range len).mapM fun i => (w.cells? 0 (a.add (i * P.cellsOf e)) (P.cellsOf e)).bind (DataW.trod enc P w 0 spare held fuel e) with
        | none => simp [hm] at hf
        | some ys =>
          rw [cellsOf_of ht hi] at hm
          have hyl : ys.length = len := by simpa using mapM_some_length hm
          have hget : ∀ i, i < len → ∃ y, E.f y = ((List.range E.sz).map fun j => (w.cell? ((a.add (i * E.sz)).add j)).getD undef) ∧ WF y ∧ ∀ j, j < E.sz → w.cell? ((a.add (i * E.sz)).add j) = (E.f y)[j]? := by
            intro i hi'
            have h1 := mapM_some_get hm i i (by simp [hi'])
            rw [List.getElem?_eq_getElem (by omega)] at h1
            obtain ⟨cs, hcs, htr⟩ := Option.bind_eq_some_iff.1 h1
            obtain ⟨_, hl, hcell⟩ := World.cells?_some hcs
            obtain ⟨y, hy, hw⟩ := hE cs (cksP_sound ht d e ks fuel cs _ hk htr)
            subst hy
            refine ⟨y, ?_, hw, hcell⟩
            apply List.ext_getElem?
            intro j
            by_cases hj : j < E.sz
            · rw [List.getElem?_map, List.getElem?_range hj]
              simp only [Option.map_some]
              rw [hcell j hj]
              rw [List.getElem?_eq_getElem (by rw [E.len]; exact hj)]
              rfl
            · rw [List.getElem?_eq_none (by rw [E.len]; omega), List.getElem?_eq_none (by simp; omega)]
          have hall : ∀ n, n ≤ len → ∃ xs : List α, xs.length = n ∧ (∀ y ∈ xs, WF y) ∧ ∀ (i : Nat) (y : α), xs[i]? = some y → ∀ j, j < E.sz → w.cell? ((a.add (i * E.sz)).add j) = (E.f y)[j]? := by
            intro n
            induction n with
            | zero => exact fun _ => ⟨[], rfl, by simp, by simp⟩
            | succ n ih =>
              intro hn
              obtain ⟨xs, hxl, hxw, hxc⟩ := ih (by omega)
              obtain ⟨y, _, hw, hc⟩ := hget n (by omega)
              refine ⟨xs ++ [y], by simp [hxl], fun u hu => ?_, fun i u hu => ?_⟩
              · rcases List.mem_append.1 hu with hu | hu
                · exact hxw u hu
                · simp only [List.mem_singleton] at hu; subst hu; exact hw
              · by_cases hin : i < xs.length
                · rw [List.getElem?_append_left hin] at hu; exact hxc i u hu
                · rw [List.getElem?_append_right (by omega)] at hu
                  have hin0 : i - xs.length = 0 := by
                    have := (List.getElem?_eq_some_iff.1 hu).1
                    simp at this; omega
                  rw [hin0] at hu
                  simp only [List.getElem?_cons_zero, Option.some.injEq] at hu
                  subst hu
                  have : i = n := by omega
                  subst this
                  exact hc
          obtain ⟨xs, hxl, hxw, hxc⟩ := hall len (Nat.le_refl _)
          refine ⟨some a, cap, xs, by rw [hxl], fun _ => ⟨a, rfl, fun i y hy j u hu => ?_⟩, by omega, hc.2.2, hxw⟩
          rw [hxc i y hy j (by rw [← E.len y]; exact (List.getElem?_eq_some_iff.1 hu).1), hu]
      · cases hf
theorem st_below {o o' : Nat → Nat} {W W' : World} (h : St [] W o W' o') : RowKit.Below W.heap.size W W' := ⟨h.os, h.tape, h.output, h.size, fun b hb => h.kept b hb (by simp)⟩
end
theorem AreC.cons {k : CK} {ks : List CK} {cs : List Value} (h : AreC (k :: ks) cs) : ∃ v u, cs = v :: u ∧ k.is v ∧ AreC ks u := by
  cases cs with
  | nil => exact h.elim
  | cons v u => exact ⟨v, u, rfl, h.1, h.2⟩
theorem AreC.nil {cs : List Value} (h : AreC [] cs) : cs = [] := by
  cases cs with
  | nil => rfl
  | cons v u => exact h.elim
theorem cell_lt {w : World} {a : Addr} {v : Value} (h : w.cell? a = some v) : a.block < w.heap.size := by
  unfold World.cell? at h
  cases hb : w.heap[a.block]? with
  | none => simp [hb] at h
  | some ob => exact (Array.getElem?_eq_some_iff.1 hb).1
theorem RdC.ft {α : Type} {E : Enc α} {A : Option Addr} {xs : List α} {w : World} (h : RdC E A xs w) : Ft (RdC E A xs) w (fun _ => 0) 0 := fun w' hw h0 => by
  obtain ⟨ad, ha, hc⟩ := h h0
  refine ⟨ad, ha, fun i x hx j v hv => ?_⟩
  have h1 := hc i x hx j v hv
  have hb := hw _ rfl (cell_lt h1)
  rw [← h1]
  unfold World.cell?
  rw [hb]
end Go.Proofs.XC
