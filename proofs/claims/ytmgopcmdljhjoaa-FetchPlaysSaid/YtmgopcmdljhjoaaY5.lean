/- Words of an own calculus over the model: how a call's frame, rows and boxes go through its operations. -/
import Derived.Test.YtmgopcmdljhjoaaY4
set_option linter.unusedSimpArgs false
set_option linter.unusedVariables false
namespace Go.Proofs.XC
open Go

/-! ### Worlds: what is kept, and labels of blocks -/
structure St (M : List Nat) (w : World) (o : Nat → Nat) (w' : World) (o' : Nat → Nat) : Prop where
  os : w'.os = w.os
  tape : w'.tape = w.tape
  output : w'.output = w.output
  size : w.heap.size ≤ w'.heap.size
  lab : ∀ b, b < w.heap.size → o b ∉ M → o' b = o b
  kept : ∀ b, b < w.heap.size → o b ∉ M → w'.heap[b]? = w.heap[b]?
/-- P holds in w and in every world that has w's blocks of the label L. -/
def Ft (P : World → Prop) (w : World) (o : Nat → Nat) (L : Nat) : Prop := ∀ w' : World, (∀ b, o b = L → b < w.heap.size → w'.heap[b]? = w.heap[b]?) → P w'

section
variable {P Q : World → Prop} {w w' w2 : World} {o o' o2 : Nat → Nat} {L L' : Nat} {M N : List Nat}
theorem St.refl (M : List Nat) (w : World) (o : Nat → Nat) : St M w o w o := ⟨rfl, rfl, rfl, Nat.le_refl _, fun _ _ _ => rfl, fun _ _ _ => rfl⟩
theorem St.trans (h : St M w o w' o') (k : St M w' o' w2 o2) : St M w o w2 o2 :=
  ⟨k.os.trans h.os, k.tape.trans h.tape, k.output.trans h.output, Nat.le_trans h.size k.size, fun b hb hm => (k.lab b (Nat.lt_of_lt_of_le hb h.size) (by rw [h.lab b hb hm]; exact hm)).trans (h.lab b hb hm),
   fun b hb hm => (k.kept b (Nat.lt_of_lt_of_le hb h.size) (by rw [h.lab b hb hm]; exact hm)).trans (h.kept b hb hm)⟩
/-- What is turned beside M lies at labels that the first world hasn't. -/
theorem St.then (h : St M w o w' o') (k : St N w' o' w2 o2) (hn : ∀ b, b < w.heap.size → o b ∈ N → o b ∈ M) : St M w o w2 o2 :=
  ⟨k.os.trans h.os, k.tape.trans h.tape, k.output.trans h.output, Nat.le_trans h.size k.size, fun b hb hm => (k.lab b (Nat.lt_of_lt_of_le hb h.size) (by rw [h.lab b hb hm]; exact fun hx => hm (hn b hb hx))).trans (h.lab b hb hm),
   fun b hb hm => (k.kept b (Nat.lt_of_lt_of_le hb h.size) (by rw [h.lab b hb hm]; exact fun hx => hm (hn b hb hx))).trans (h.kept b hb hm)⟩
theorem Ft.now (h : Ft P w o L) : P w := h w (fun _ _ _ => rfl)
theorem Ft.imp (h : Ft P w o L) (hi : ∀ w, P w → Q w) : Ft Q w o L := fun w' hw => hi _ (h w' hw)
theorem heap_lt {w w' : World} {k : Nat} (h : w'.heap[k]? = w.heap[k]?) (hlt : k < w.heap.size) : k < w'.heap.size := by
  rw [Array.getElem?_eq_getElem hlt] at h
  exact (Array.getElem?_eq_some_iff.1 h).1
theorem Ft.mono (h : Ft P w o L) (hl : ∀ b, o b = L → b < w.heap.size → o' b = L') : Ft P w o' L' := fun w' hw => h w' fun b hb hlt => hw b (hl b hb hlt) hlt
theorem Ft.st (h : Ft P w o L) (hs : St M w o w' o') (hL : L ∉ M) : Ft P w' o' L := fun w'' hw => h w'' fun b hb hlt =>
  (hw b ((hs.lab b hlt (by rw [hb]; exact hL)).trans hb) (Nat.lt_of_lt_of_le hlt hs.size)).trans (hs.kept b hlt (by rw [hb]; exact hL))
theorem Ft.and (h : Ft P w o L) (k : Ft Q w o L) : Ft (fun w => P w ∧ Q w) w o L := fun w' hw => ⟨h w' hw, k w' hw⟩

/-! ### Boxes -/
def Bx (b : Nat) (t : TypeId) (cs : List Value) (w : World) : Prop := w.heap[b]? = some (.cells cs.toArray t (0, 0))
theorem Ft.box {b t : Nat} {cs : List Value} (h : Bx b t cs w) (ho : o b = L) : Ft (Bx b t cs) w o L := fun w' hw => by
  have hlt : b < w.heap.size := (Array.getElem?_eq_some_iff.1 h).1
  exact (hw b ho hlt).trans h
theorem Ft.box_lab {b t : Nat} {cs : List Value} (h : Ft (Bx b t cs) w o L) : o b = L := by
  by_cases ho : o b = L
  · exact ho
  · have h1 : Bx b t cs w := h.now
    have hlt : b < w.heap.size := (Array.getElem?_eq_some_iff.1 h1).1
    have h2 := h { w with heap := w.heap.set b (.map #[] 0) hlt } (fun c hc hcl => by
      have : c ≠ b := fun e => ho (e ▸ hc)
      simp [Array.getElem?_set, Ne.symm this])
    unfold Bx at h2
    simp at h2
theorem Bx.lt {b t : Nat} {cs : List Value} (h : Bx b t cs w) : b < w.heap.size := (Array.getElem?_eq_some_iff.1 h).1
theorem Bx.cell {b t : Nat} {cs : List Value} (h : Bx b t cs w) (j : Nat) : w.cell? ((⟨b, 0, none⟩ : Addr).add j) = cs[j]? := by
  unfold Bx at h
  have : (⟨b, 0, none⟩ : Addr).add j = ⟨b, j, none⟩ := by unfold Addr.add; split <;> simp_all
  simp [World.cell?, this, h]
theorem Bx.cell2 {b t : Nat} {cs : List Value} (h : Bx b t cs w) (i j : Nat) : w.cell? (((⟨b, 0, none⟩ : Addr).add i).add j) = cs[i + j]? := by
  rw [← Bx.cell h (i + j)]
  congr 1
  unfold Addr.add
  by_cases hi : i = 0
  · subst hi; simp
  · by_cases hj : j = 0
    · subst hj; simp
    · simp [hi, hj]

theorem Bx.free {b t : Nat} {cs : List Value} (h : Bx b t cs w) (ad : Addr) (ha : ad.block = b) : w.frozen? ad = false := by
  unfold Bx at h
  simp [World.frozen?, ha, h]
end

/-! ### Rows that are read: each element by its cells -/
structure Enc (α : Type) where
  sz : Nat
  f : α → List Value
  len : ∀ x, (f x).length = sz
  one : ∀ x, (f x).all Value.oneCell' = true
def rdD {α : Type} (d : α) (xs : List α) (i : Int) : α := xs.getD i.toNat d
def RdC {α : Type} (E : Enc α) (A : Option Addr) (xs : List α) (w : World) : Prop :=
  0 < xs.length → ∃ ad, A = some ad ∧ ∀ (i : Nat) (x : α), xs[i]? = some x → ∀ (j : Nat) (v : Value), (E.f x)[j]? = some v → w.cell? ((ad.add (i * E.sz)).add j) = some v
section
variable {α : Type} {E : Enc α} {A : Option Addr} {ad : Addr} {xs : List α} {w : World}
theorem RdC.addr (h : RdC E A xs w) {i : Int} (hi : 0 ≤ i ∧ i < (xs.length : Int)) : ∃ ad, A = some ad := by
  obtain ⟨ad, ha, _⟩ := h (by omega)
  exact ⟨ad, ha⟩
theorem RdC.at {d : α} (h : RdC E (some ad) xs w) {i : Int} (hi : 0 ≤ i ∧ i < (xs.length : Int)) {j : Nat} {v : Value} (hv : (E.f (rdD d xs i))[j]? = some v) : w.cell? ((ad.add (i.toNat * E.sz)).add j) = some v := by
  obtain ⟨ad', ha, hc⟩ := h (by omega)
  cases ha
  have hl : i.toNat < xs.length := by omega
  exact hc i.toNat (rdD d xs i) (by simp [rdD, List.getD_eq_getElem?_getD, List.getElem?_eq_getElem hl]) j v hv
end
def encInt (k : IntKind) : Enc Int := ⟨1, fun x => [.int k x], fun _ => rfl, fun _ => rfl⟩
def encBool : Enc Bool := ⟨1, fun x => [.bool x], fun _ => rfl, fun _ => rfl⟩
def encStr : Enc ByteArray := ⟨1, fun x => [.string x], fun _ => rfl, fun _ => rfl⟩

section
variable {P : Program} {T : Tab} {w : World}
theorem load1 (ht : TabOK P T) {t : TypeId} {ad : Addr} {v : Value} (ha : aggT T t = some false) (h : w.cell? ad = some v) : LoadIs P t ad v w := by
  unfold LoadIs loadVar
  simp [run_isAgg' (w := w) ht ha, h]
theorem run_loadCells : ∀ (n i : Nat) (ad : Addr) (acc : Array Value) (cs : List Value), cs.length = n → (∀ j, j < n → w.cell? (ad.add (i + j)) = cs[j]?) → (loadCellsFrom ad i n acc).run P w = .ok (acc ++ cs.toArray) w
  | 0, i, ad, acc, cs, hl, _ => by
    obtain rfl : cs = [] := List.eq_nil_of_length_eq_zero hl
    simp [loadCellsFrom]
  | n + 1, i, ad, acc, [], hl, _ => by simp at hl
  | n + 1, i, ad, acc, c :: cs, hl, hc => by
    have h0 := hc 0 (by omega)
    simp only [Nat.add_zero, List.getElem?_cons_zero] at h0
    have ih := run_loadCells n (i + 1) ad (acc.push c) cs (by simpa using hl) (fun j hj => by
      have := hc (j + 1) (by omega)
      rw [show i + 1 + j = i + (j + 1) by omega]
      simpa using this)
    simp [loadCellsFrom, h0, ih]
theorem loadN (ht : TabOK P T) {t s b : Nat} {z : Value} {ad : Addr} {cs : List Value} (ha : aggT T t = some true) (hi : find T.inf t = some (s, b, z)) (hl : cs.length = s)
    (h : ∀ j, j < s → w.cell? (ad.add j) = cs[j]?) : LoadIs P t ad (.agg cs.toArray) w := by
  unfold LoadIs loadVar
  have := run_loadCells (P := P) (w := w) s 0 ad #[] cs hl (by simpa using h)
  simp [run_isAgg' (w := w) ht ha, run_sizeOf' ht hi, loadCells, this]
end
end Go.Proofs.XC
