/- Plain laws: what the plain functions answer, with no program in sight. -/
import Derived.Test.YtpciioffkjpieaaDoorRPA
set_option linter.unusedVariables false
set_option linter.unusedSimpArgs false
namespace Go.Proofs.YtpciioffkjpieaaDoor.Pure4
open Go Go.Proofs.XC Go.Proofs.YtpciioffkjpieaaDoor

/-! ### Maps, in words -/
theorem mfind_put {β : Type} : ∀ (l : List (Int × β)) (k : Int) (v : β) (j : Int), mfind (mput l k v) j = if k = j then some v else mfind l j
  | [], k, v, j => by simp [mput, mfind]
  | p :: l, k, v, j => by
    have ih := mfind_put l k v j
    unfold mput
    by_cases c : p.1 = k
    · rw [if_pos c, mfind, mfind]
      by_cases d : k = j
      · simp [d]
      · simp [d, c]
    · rw [if_neg c, mfind, mfind, ih]
      by_cases d : p.1 = j
      · have : ¬ k = j := fun e => c (d.trans e.symm)
        simp [d, this]
      · simp [d]
theorem mput_len {β : Type} : ∀ (l : List (Int × β)) (k : Int) (v : β), mfind l k = none → (mput l k v).length = l.length + 1
  | [], k, v, _ => rfl
  | p :: l, k, v, h => by
    unfold mfind at h
    by_cases c : p.1 = k
    · rw [if_pos c] at h; cases h
    · rw [if_neg c] at h
      unfold mput
      rw [if_neg c, List.length_cons, mput_len l k v h, List.length_cons]
def numT : List Bool → Nat
  | [] => 0
  | b :: l => (if b then 1 else 0) + numT l
theorem numT_le : ∀ H, numT H ≤ H.length
  | [] => by simp [numT]
  | b :: l => by have := numT_le l; unfold numT; simp only [List.length_cons]; split <;> omega
theorem numT_set : ∀ (H : List Bool) (i : Nat), i < H.length → H.getD i false = false → numT (H.set i true) = numT H + 1
  | [], i, h, _ => by simp at h
  | b :: l, 0, h, h2 => by
    simp at h2
    subst h2
    simp [numT]; omega
  | b :: l, i + 1, h, h2 => by
    simp only [List.set_cons_succ, numT]
    rw [numT_set l i (by simpa using h) (by simpa using h2)]
    omega
theorem numT_rep (n : Nat) : numT (List.replicate n false) = 0 := by
  induction n with
  | zero => rfl
  | succ n ih => rw [List.replicate_succ, numT, ih]; rfl
theorem sizes_set : ∀ (Q : List ByteArray) (i : Nat) (v : ByteArray), i < Q.length → Q.getD i ⟨#[]⟩ = ⟨#[]⟩ → sizes (Q.set i v) = sizes Q + v.size
  | [], i, v, h, _ => by simp at h
  | x :: l, 0, v, h, h2 => by
    simp at h2
    subst h2
    simp only [List.set_cons_zero, sizes]
    show v.size + sizes l = 0 + sizes l + v.size
    omega
  | x :: l, i + 1, v, h, h2 => by
    simp only [List.set_cons_succ, sizes]
    rw [sizes_set l i v (by simpa using h) (by simpa using h2)]
    omega
theorem sizes_rep (n : Nat) : sizes (List.replicate n (⟨#[]⟩ : ByteArray)) = 0 := by
  induction n with
  | zero => rfl
  | succ n ih => rw [List.replicate_succ, sizes, ih]; rfl
theorem getD_set {α : Type} (l : List α) (i j : Nat) (x d : α) (h : i < l.length) : (l.set i x).getD j d = if i = j then x else l.getD j d := by
  rw [List.getD_eq_getElem?_getD, List.getD_eq_getElem?_getD, List.getElem?_set]
  by_cases c : i = j
  · subst c; simp [h]
  · simp [c]
theorem getD_rep {α : Type} (n j : Nat) (d : α) : (List.replicate n d).getD j d = d := by
  rw [List.getD_eq_getElem?_getD, List.getElem?_replicate]
  split <;> rfl
/-! ### A slot -/
structure R (s : T83) (k : Int) (H : List Bool) (Q : List ByteArray) : Prop where
  key : s.key = k
  count : s.count = (H.length : Int)
  len : Q.length = H.length
  bytes : s.bytes = (sizes Q : Int)
  pos : 0 ≤ k
  nil0 : k = 0 → H = []
  nonnil : 0 < k → s.parts.isNil = false
  find : ∀ i : Nat, mfind s.parts.es i = if H.getD i false = true then some (Q.getD i ⟨#[]⟩) else none
  empty : ∀ i : Nat, H.getD i false = false → Q.getD i ⟨#[]⟩ = ⟨#[]⟩
  size : s.parts.length = numT H
  small : H.length ≤ 1000
  each : ∀ x ∈ Q, x.size ≤ 300
theorem R.zero : R ⟨0, 0, M.nil, 0⟩ 0 [] [] where
  key := rfl
  count := rfl
  len := rfl
  bytes := rfl
  pos := by omega
  nil0 := fun _ => rfl
  nonnil := fun h => by omega
  find := fun i => by simp [M.nil, M.es, mfind]
  empty := fun i _ => by simp
  size := rfl
  small := by simp
  each := by simp
theorem R.fresh (k : Int) (n : Nat) (hk : 0 < k) (hn : n ≤ 1000) : R ⟨k, n, M.new, 0⟩ k (List.replicate n false) (List.replicate n ⟨#[]⟩) where
  key := rfl
  count := by simp
  len := by simp
  bytes := by rw [sizes_rep]; rfl
  pos := by omega
  nil0 := fun h => by omega
  nonnil := fun h => rfl
  find := fun i => by rw [getD_rep]; rfl
  empty := fun i _ => getD_rep _ _ _
  size := by rw [numT_rep]; rfl
  small := by simpa using hn
  each := fun x hx => by rw [(List.mem_replicate.1 hx).2]; exact Nat.zero_le _
theorem R.total {s : T83} {k : Int} {H : List Bool} {Q : List ByteArray} (h : R s k H Q) : sizes Q ≤ 300000 := by
  have := sizes_le 300 Q h.each
  have h1 := h.small
  have h2 := h.len
  omega
def setH (H : List Bool) (i : Nat) : List Bool := if H.getD i false = true then H else H.set i true
def setQ (H : List Bool) (Q : List ByteArray) (i : Nat) (v : ByteArray) : List ByteArray := if H.getD i false = true then Q else Q.set i v
theorem R.has {s : T83} {k : Int} {H : List Bool} {Q : List ByteArray} (h : R s k H Q) (i : Nat) : M.has s.parts i = H.getD i false := by
  unfold M.has
  rw [h.find i]
  cases H.getD i false <;> simp
theorem R.get {s : T83} {k : Int} {H : List Bool} {Q : List ByteArray} (h : R s k H Q) (i : Nat) : M.get ⟨#[]⟩ s.parts i = Q.getD i ⟨#[]⟩ := by
  unfold M.get
  rw [h.find i]
  cases hh : H.getD i false with
  | true => simp
  | false => rw [h.empty i hh]; simp
theorem put_core {s : T83} {k : Int} {H : List Bool} {Q : List ByteArray} (h : R s k H Q) (hk : 0 < k) (i : Nat) (hi : i < H.length) (v : ByteArray) (hv : v.size ≤ 300) :
    ∃ s', parts_Slot_Put_j1 i v s.key s.count s.parts s.bytes = some (0, s') ∧ R s' k (setH H i) (setQ H Q i v) := by
  have ht := h.total
  have hl := h.len
  have hb := h.bytes
  unfold parts_Slot_Put_j1
  rw [h.has i, cNB]
  unfold setH setQ
  by_cases c : H.getD i false = true
  · rw [if_pos c, if_pos c, if_pos c]
    exact ⟨_, rfl, h⟩
  · have cf : H.getD i false = false := by simpa using c
    have hq := h.empty i cf
    have hs := sizes_set Q i v (by omega) hq
    rw [if_neg c, if_neg c, if_neg c, if_pos (h.nonnil hk), w64 (by omega) (by omega)]
    refine ⟨_, rfl, h.key, ?_, ?_, ?_, h.pos, fun e => by omega, fun _ => rfl, fun j => ?_, fun j hj => ?_, ?_, ?_, fun x hx => ?_⟩
    · rw [List.length_set]; exact h.count
    · rw [List.length_set, List.length_set]; exact hl
    · show s.bytes + (v.size : Int) = _
      rw [hs]; omega
    · show mfind (mput s.parts.es i v) j = _
      rw [mfind_put, getD_set _ _ _ _ _ hi, getD_set _ _ _ _ _ (by omega), h.find j]
      by_cases d : i = j
      · subst d; simp
      · have : ¬ (i : Int) = (j : Int) := by omega
        simp [d, this]
    · rw [getD_set _ _ _ _ _ hi] at hj
      rw [getD_set _ _ _ _ _ (by omega)]
      by_cases d : i = j
      · rw [if_pos d] at hj; cases hj
      · rw [if_neg d] at hj ⊢; exact h.empty j hj
    · rw [numT_set H i hi cf]
      have h1 : mfind s.parts.es i = none := by rw [h.find i, cf]; simp
      have h2 := mput_len s.parts.es i v h1
      have h3 : s.parts.length = s.parts.es.length := rfl
      have h4 := h.size
      show (mput s.parts.es i v).length = _
      omega
    · rw [List.length_set]; exact h.small
    · rcases List.mem_or_eq_of_mem_set hx with hx | rfl
      · exact h.each x hx
      · exact hv
/-- What a part brings. -/
def bad (k index count : Int) : Prop := count < 1 ∨ count > 4096 ∨ index < 0 ∨ index ≥ count ∨ k < 1
instance (k index count : Int) : Decidable (bad k index count) := by unfold bad; infer_instance
def putE (k : Int) (H : List Bool) (key index count : Int) : Int := if bad key index count then 6 else if key < k then 8 else if key = k then (if count = (H.length : Int) then 0 else 1) else 0
def putK (k : Int) (H : List Bool) (key index count : Int) : Int := if bad key index count then k else if key < k then k else key
def putH (k : Int) (H : List Bool) (key index count : Int) : List Bool := if bad key index count then H else if key < k then H else if key = k then (if count = (H.length : Int) then setH H index.toNat else H) else setH (List.replicate count.toNat false) index.toNat
def putQ (k : Int) (H : List Bool) (Q : List ByteArray) (key index count : Int) (v : ByteArray) : List ByteArray :=
  if bad key index count then Q else if key < k then Q else if key = k then (if count = (H.length : Int) then setQ H Q index.toNat v else Q) else setQ (List.replicate count.toNat false) (List.replicate count.toNat ⟨#[]⟩) index.toNat v
theorem put_eq {s : T83} {k : Int} {H : List Bool} {Q : List ByteArray} (h : R s k H Q) (key index count : Int) (hc : count ≤ 1000 ∨ count > 4096) (v : ByteArray) (hv : v.size ≤ 300) :
    ∃ s', parts_Slot_Put s key index count v = some (putE k H key index count, s') ∧ R s' (putK k H key index count) (putH k H key index count) (putQ k H Q key index count v) := by
  have hj : parts_Slot_Put s key index count v = parts_Slot_Put_j2 s key index count v (decide (bad key index count)) := by
    unfold parts_Slot_Put bad
    simp only [cD]
    by_cases c1 : count < 1
    · simp [c1]
    · by_cases c2 : count > 4096
      · simp [c2]
      · by_cases c3 : index < 0
        · simp [c3]
        · by_cases c4 : index ≥ count
          · simp [c4]
          · simp [c1, c2, c3, c4]
  rw [hj]
  unfold parts_Slot_Put_j2 putE putK putH putQ
  rw [cD]
  by_cases hb : bad key index count
  · simp only [if_pos hb]
    exact ⟨s, rfl, h⟩
  · simp only [if_neg hb]
    have hg : ¬ (count < 1) ∧ ¬ (count > 4096) ∧ ¬ (index < 0) ∧ ¬ (index ≥ count) ∧ ¬ (key < 1) := by
      unfold bad at hb
      refine ⟨?_, ?_, ?_, ?_, ?_⟩ <;> (intro hh; exact hb (by simp [hh]))
    rw [cD, h.key]
    by_cases c1 : key < k
    · simp only [if_pos c1]
      exact ⟨s, rfl, h⟩
    · simp only [if_neg c1]
      obtain ⟨i, rfl⟩ : ∃ i : Nat, index = i := ⟨index.toNat, by omega⟩
      obtain ⟨n, rfl⟩ : ∃ n : Nat, count = n := ⟨count.toNat, by omega⟩
      rw [cD, Int.toNat_natCast, Int.toNat_natCast]
      by_cases c2 : key > k
      · have c3 : ¬ key = k := by omega
        simp only [if_pos c2, if_neg c3]
        have hf := R.fresh key n (by omega) (by omega)
        obtain ⟨s', h1, h2⟩ := put_core hf (by omega) i (by simp; omega) v hv
        exact ⟨s', h1, h2⟩
      · have c3 : key = k := by omega
        subst c3
        have h1 : (n : Int) = (H.length : Int) ↔ ¬ ((n : Int) ≠ s.count) := by rw [h.count]; simp
        rw [if_neg c2, if_pos rfl, cN]
        by_cases c4 : (n : Int) = (H.length : Int)
        · rw [if_pos (by rw [h.count]; exact c4), if_pos c4]
          simp only [if_true, if_pos c4]
          obtain ⟨s', h1, h2⟩ := put_core h (by omega) i (by omega) v hv
          rw [h.key] at h1
          exact ⟨s', h1, h2⟩
        · rw [if_neg (by rw [h.count]; exact c4), if_neg c4]
          simp only [if_true, if_neg c4]
          exact ⟨s, rfl, h⟩
/-! ### The document's -/
theorem cpy_rep {α : Type} (n : Nat) (d : α) (ys : List α) (h : ys.length = n) : cpy 0 (List.replicate n d) ys = ys := by
  unfold cpy
  subst h
  simp
end Go.Proofs.YtpciioffkjpieaaDoor.Pure4
