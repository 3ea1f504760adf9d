/- Words of an own calculus over the model: how a call's frame, rows and boxes go through its operations. -/
import Derived.Test.YtmgopcmdljhjoaaY32
set_option linter.unusedSimpArgs false
set_option linter.unusedVariables false
namespace Go.Proofs.XC
open Go

/-! ### Arguments that are rows of structs with rows -/
section
variable {P : Program} {T : Tab} {w : World} {H : Type} {enc : TypeId × Value → H} {spare : Nat → Bool} {held : Bool}
theorem open_rowsR (ht : TabOK P T) {α : Type} {E : Enc α} {WF : α → Prop} {r : Reach} {b0 d t e bb : Nat} {z : Value} {ks : List RK} {v : Value} {x : DataW H} {ps : List MemPlace} (hu : find T.und t = some (.slice e)) (hi : find T.inf e = some (E.sz, bb, z)) (hk : rksP T d e = some ks)
    (hE : ∀ cs, AreR enc P w spare held ks cs → ∃ y, cs = E.f y ∧ WF y) (hval : Value.okWide P w r b0 t v) (h : DataW.Trod enc P w 0 spare held t v x ps) :
    ∃ (A : Option Addr) (c : Nat) (xs : List α), v = .slice A xs.length c ∧ RdC E A xs w ∧ xs.length ≤ c ∧ c ≤ maxLen ∧ ∀ y ∈ xs, WF y := by
  obtain ⟨a, len, cap, rfl⟩ := WideShapes.okWide_slice (ht.u hu) hval
  obtain ⟨fuel, hf⟩ := h
  cases fuel with
  | zero => simp [DataW.trod] at hf
  | succ fuel =>
    unfold DataW.trod at hf
    rw [ht.u hu] at hf
    simp only [Value.cells] at hf
    cases a with
    | none =>
      have : len = 0 ∧ cap = 0 := by
        cases len <;> cases cap <;> simp at hf ⊢
      obtain ⟨rfl, rfl⟩ := this
      exact ⟨none, 0, [], rfl, fun h0 => absurd h0 (by simp), by simp, by simp, by simp⟩
    | some a =>
      simp only at hf
      split at hf
      · rename_i hc
        cases hm : (List.range len).mapM fun i => (w.cells? 0 (a.add (i * P.cellsOf e)) (P.cellsOf e)).bind (DataW.trod enc P w 0 spare held fuel e) with
        | none => simp [hm] at hf
        | some ys =>
          rw [cellsOf_of ht hi] at hm
          have hyl : ys.length = len := by simpa using mapM_some_length hm
          have hget : ∀ i, i < len → ∃ y, E.f y = ((List.range E.sz).map fun j => (w.cell? ((a.add (i * E.sz)).add j)).getD undef) ∧ WF y ∧ ∀ j, j < E.sz → w.cell? ((a.add (i * E.sz)).add j) = (E.f y)[j]? := by
            intro i hi'
            have h1 := mapM_some_get hm i i (by simp [hi'])
            rw [List.getElem?_eq_getElem (by omega)] at h1
            obtain ⟨cs, hcs, htr⟩ := Option.bind_eq_some_iff.1 h1
            obtain ⟨_, hl, hcell⟩ := World.cells?_some hcs
            obtain ⟨y, hy, hw⟩ := hE cs (rksP_sound ht d e ks fuel cs _ hk htr)
            subst hy
            refine ⟨y, ?_, hw, hcell⟩
            apply List.ext_getElem?
            intro j
            by_cases hj : j < E.sz
            · rw [List.getElem?_map, List.getElem?_range hj]
              simp only [Option.map_some]
              rw [hcell j hj]
              rw [List.getElem?_eq_getElem (by rw [E.len]; exact hj)]
              rfl
            · rw [List.getElem?_eq_none (by rw [E.len]; omega), List.getElem?_eq_none (by simp; omega)]
          have hall : ∀ n, n ≤ len → ∃ xs : List α, xs.length = n ∧ (∀ y ∈ xs, WF y) ∧ ∀ (i : Nat) (y : α), xs[i]? = some y → ∀ j, j < E.sz → w.cell? ((a.add (i * E.sz)).add j) = (E.f y)[j]? := by
            intro n
            induction n with
            | zero => exact fun _ => ⟨[], rfl, by simp, by simp⟩
            | succ n ih =>
              intro hn
              obtain ⟨xs, hxl, hxw, hxc⟩ := ih (by omega)
              obtain ⟨y, _, hw, hc⟩ := hget n (by omega)
              refine ⟨xs ++ [y], by simp [hxl], fun u hu => ?_, fun i u hu => ?_⟩
              · rcases List.mem_append.1 hu with hu | hu
                · exact hxw u hu
                · simp only [List.mem_singleton] at hu; subst hu; exact hw
              · by_cases hin : i < xs.length
                · rw [List.getElem?_append_left hin] at hu; exact hxc i u hu
                · rw [List.getElem?_append_right (by omega)] at hu
                  have hin0 : i - xs.length = 0 := by
                    have := (List.getElem?_eq_some_iff.1 hu).1
                    simp at this; omega
                  rw [hin0] at hu
                  simp only [List.getElem?_cons_zero, Option.some.injEq] at hu
                  subst hu
                  have : i = n := by omega
                  subst this
                  exact hc
          obtain ⟨xs, hxl, hxw, hxc⟩ := hall len (Nat.le_refl _)
          refine ⟨some a, cap, xs, by rw [hxl], fun _ => ⟨a, rfl, fun i y hy j u hu => ?_⟩, by omega, hc.2.2, hxw⟩
          rw [hxc i y hy j (by rw [← E.len y]; exact (List.getElem?_eq_some_iff.1 hu).1), hu]
      · cases hf
theorem open_rowsN (ht : TabOK P T) {α : Type} (D : ND α) {WF : α → Prop} {r : Reach} {b0 d t e bb : Nat} {z : Value} {ks : List RK} {v : Value} {x : DataW H} {ps : List MemPlace} (hu : find T.und t = some (.slice e)) (hi : find T.inf e = some (D.E.sz, bb, z)) (hk : rksP T d e = some ks)
    (hE : ∀ cs, AreR enc P w spare held ks cs → ∃ y, cs = D.E.f y ∧ (WF (D.val y) ∧ D.inn y w)) (hm : ∀ y, D.inn y w → Ft (D.inn y) w (fun _ => 0) 0) (hval : Value.okWide P w r b0 t v) (h : DataW.Trod enc P w 0 spare held t v x ps) :
    ∃ (A : Option Addr) (c : Nat) (xs : List α), v = .slice A xs.length c ∧ NRd D A xs w (fun _ => 0) 0 0 ∧ xs.length ≤ c ∧ c ≤ maxLen ∧ ∀ y ∈ xs, WF y := by
  obtain ⟨A, c, g, rfl, hr, h1, h2, h3⟩ := open_rowsR (E := D.E) (WF := fun y => WF (D.val y) ∧ D.inn y w) ht hu hi hk hE hval h
  refine ⟨A, c, g.map D.val, by rw [List.length_map], ⟨g, rfl, hr.ft, fun w' hw y hy => (hm y (h3 y hy).2) w' hw⟩, by rw [List.length_map]; exact h1, h2, fun y hy => ?_⟩
  obtain ⟨r, hr, rfl⟩ := List.mem_map.1 hy
  exact (h3 r hr).1
end
end Go.Proofs.XC
