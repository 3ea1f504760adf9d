/- Words of an own calculus over the model: how a call's frame, rows and boxes go through its operations. -/
import Derived.Test.YtpciioffkjpieaaGreatDoorY46
import Derived.Laws.RangeString
set_option linter.unusedSimpArgs false
set_option linter.unusedVariables false
namespace Go.Proofs.XC
open Go

/-! ### Ranges over strings whose bytes are all under 128 -/
def asciiB (s : ByteArray) : Bool := s.data.toList.all fun b => b.toNat < 128
def idxs (s : ByteArray) (p : Nat) : List Int := (List.range' p (s.size - p)).map Int.ofNat
/-- The iterator at A over a string; left: the places that are still to come. -/
def SRng (s : ByteArray) (A : Option Addr) (left : List Int) (w : World) (o : Nat → Nat) (L F : Nat) : Prop :=
  ∃ r pos, A = some ⟨r, 0, none⟩ ∧ left = idxs s pos ∧ Ft (fun W => W.heap[r]? = some (.stringIter s pos)) w o L
theorem ascii_get {s : ByteArray} (h : asciiB s = true) (i : Nat) (hi : i < s.size) : (s[i]'hi).toNat < 128 := by
  have h1 := List.all_eq_true.1 h (s[i]'hi) (Array.getElem_mem_toList hi)
  simpa using h1
theorem sit_lab {k L : Nat} {ob : Obj} {w : World} {o : Nat → Nat} (h : Ft (fun W => W.heap[k]? = some ob) w o L) : o k = L := by
  by_cases ho : o k = L
  · exact ho
  · have hlt := (Array.getElem?_eq_some_iff.1 h.now).1
    have h1 := h { w with heap := w.heap.set k (.map #[] 0) hlt } (fun c hc hcl => by
      have : c ≠ k := fun e => ho (e ▸ hc)
      simp [Array.getElem?_set, Ne.symm this])
    have h2 := h { w with heap := w.heap.set k (.map #[] 1) hlt } (fun c hc hcl => by
      have : c ≠ k := fun e => ho (e ▸ hc)
      simp [Array.getElem?_set, Ne.symm this])
    simp at h1 h2
    rw [← h1] at h2
    cases h2
section
variable {ρ : Option Nat} {ds : List Deferred} {P : Program} {T : Tab} {n : Nat} {a : Act} {e : Env} {w w' W : World} {o o' : Nat → Nat} {L L' F F' : Nat} {Mm : List Nat} {Q : Exit → Act → World → Prop} {K : Act → World → Prop}
  {d : Option Tmp} {ty : TypeId} {pos : String} {af : Array Edge} {gd : Option (Nat × Bool)} {s : ByteArray} {A : Option Addr} {left : List Int}
theorem SRng.conv (h : SRng s A left w o L F) (h1 : ∀ P : World → Prop, Ft P w o L → Ft P w' o' L') (h2 : ∀ P : World → Prop, Ft P w o F → Ft P w' o' F') : SRng s A left w' o' L' F' := by
  obtain ⟨r, p, e1, e2, e3⟩ := h
  exact ⟨r, p, e1, e2, h1 _ e3⟩
theorem SRng.st (h : SRng s A left w o L F) (q : St Mm w o w' o') (hL : L ∉ Mm ∧ F ∉ Mm) : SRng s A left w' o' L F := by
  obtain ⟨r, p, e1, e2, e3⟩ := h
  exact ⟨r, p, e1, e2, e3.st q hL.1⟩
theorem SRng.relab (h : SRng s A left w o L F) (q : Nat → Nat) (hr : (q L, q F) = (L', F')) : SRng s A left w (fun b => q (o b)) L' F' := by
  obtain ⟨r, p, e1, e2, e3⟩ := h
  exact ⟨r, p, e1, e2, e3.relab q (Prod.mk.inj hr).1⟩
theorem SRng.now (h : SRng s A left w o L F) : SRng s A left w o L F := h
theorem op_srange (ht : TabOK P T) (hk : KnD n ds a e) {t : Nat} {x : Operand} (hu : find T.und t = some .string) (hx : evo e x = some (.string s)) (L F : Nat)
    (h : ∀ r w' o', St [] w o w' o' → SRng s (some ⟨r, 0, none⟩) (idxs s 0) w' o' L F → K (a.put d (.pointer (some ⟨r, 0, none⟩))) w') :
    (Oper.mk d (.range t x) ty pos af gd).wpIn (WF ρ) 0 P a w K Q := by
  refine op_of_run (v := .pointer (some ⟨w.heap.size, 0, none⟩)) (w' := w.iter s 0) ?_ (h w.heap.size _ _ (St.alloc [] w o _ L) ⟨w.heap.size, 0, rfl, rfl, fun W hW => ?_⟩)
  · simp [execOp, hk.ev hx, run_range_string w t s (ht.u hu)]
  · exact (hW w.heap.size (by simp [newLab]) (by show w.heap.size < (w.heap.push _).size; simp)).trans (World.iter_heap w s 0)
theorem op_snext (hk : KnD n ds a e) {x : Operand} (hx : evo e x = some (.pointer A)) (hf : SRng s A left w o L F) (hs : asciiB s = true)
    (h0 : left = [] → K (a.put d (.tuple #[.bool false])) w)
    (h1 : ∀ (v : Value) (w' : World), left ≠ [] → St [L] w o w' o → SRng s A left.tail w' o L F → K (a.put d (.tuple #[.bool true, .int .i64 (left.headD 0), v])) w') :
    (Oper.mk d (.next x true) ty pos af gd).wpIn (WF ρ) 0 P a w K Q := by
  obtain ⟨r, p, rfl, rfl, e3⟩ := hf
  have hr := e3.now
  have hlt : r < w.heap.size := (Array.getElem?_eq_some_iff.1 hr).1
  by_cases hp : p < s.size
  · have ha := ascii_get hs p hp
    have hd : idxs s p = (p : Int) :: idxs s (p + 1) := by
      unfold idxs
      rw [show s.size - p = (s.size - (p + 1)) + 1 by omega, List.range'_succ, List.map_cons]; rfl
    refine op_of_run (v := .tuple #[.bool true, .int .i64 p, .int .i32 (s[p]'hp).toNat]) (w' := { w with heap := w.heap.setIfInBounds r (.stringIter s (p + 1)) }) ?_ ?_
    · simp [execOp, hk.ev hx, Instr.next, getObj, setObj, Sem.run, hr, hp, decode_ascii s p hp ha, goInt]
    · have := h1 (.int .i32 (s[p]'hp).toNat) { w with heap := w.heap.setIfInBounds r (.stringIter s (p + 1)) } (by rw [hd]; simp) ⟨rfl, rfl, rfl, by simp, fun _ _ _ => rfl, fun c _ hc => by
          have : c ≠ r := fun e => hc (by rw [e, sit_lab e3]; simp)
          simp [Array.getElem?_setIfInBounds, Ne.symm this]⟩ ⟨r, p + 1, rfl, by rw [hd]; rfl, fun W hW => (hW r (sit_lab e3) (by simpa using hlt)).trans (by simp [hlt])⟩
      rw [hd] at this
      exact this
  · refine op_of_run (v := .tuple #[.bool false]) (w' := w) ?_ (h0 ?_)
    · simp [execOp, hk.ev hx, Instr.next, getObj, Sem.run, hr, hp]
    · unfold idxs
      rw [show s.size - p = 0 by omega]; rfl
theorem sit_none {β : Type} {X : List Int} {u v : Option β} {r : β} (H : (bif X.isEmpty then u else v) = some r) (hz : X = []) : u = some r := by subst hz; exact H
theorem sit_more {β : Type} {X : List Int} {u v : Option β} {r : β} (H : (bif X.isEmpty then u else v) = some r) (hz : X ≠ []) : v = some r := by
  cases X with
  | nil => exact absurd rfl hz
  | cons _ _ => exact H
end
end Go.Proofs.XC
