/- Plain laws: what the plain functions answer, with no program in sight. -/
import Derived.Test.YtpciioffkjpieaaDoorRPB
set_option linter.unusedVariables false
set_option linter.unusedSimpArgs false
namespace Go.Proofs.YtpciioffkjpieaaDoor.Pure4
open Go Go.Proofs.XC Go.Proofs.YtpciioffkjpieaaDoor

/-! ### What a slot tells -/
def en : Nat → List Bool → List (Int × Bool)
  | _, [] => []
  | i, b :: l => ((i : Int), b) :: en (i + 1) l
def wh (b : Bool) : Nat → List Bool → List Int
  | _, [] => []
  | i, x :: l => if x = b then (i : Int) :: wh b (i + 1) l else wh b (i + 1) l
theorem wh_len (b : Bool) : ∀ (l : List Bool) (i : Nat), (wh b i l).length ≤ l.length
  | [], i => by simp [wh]
  | x :: l, i => by have := wh_len b l (i + 1); unfold wh; split <;> (simp only [List.length_cons]; omega)
theorem wh_false : ∀ (l : List Bool) (i : Nat), ((wh false i l).length : Int) = (l.length : Int) - (numT l : Int)
  | [], i => by simp [wh, numT]
  | x :: l, i => by
    have := wh_false l (i + 1)
    unfold wh numT
    cases x
    · simp only [if_true, List.length_cons, Bool.false_eq_true, if_false]; omega
    · simp only [Bool.true_eq_false, if_false, List.length_cons, if_true]; omega
theorem getD_at {α : Type} (l : List α) (i : Nat) (d : α) (h : i < l.length) : l.getD i d = l[i] := by simp [List.getD_eq_getElem?_getD, h]
theorem each_loop {s : T83} {k : Int} {H : List Bool} {Q : List ByteArray} (h : R s k H Q) : ∀ (f i : Nat), H.length < f + i → i ≤ H.length → parts_Slot_each_l1 s f i = some (en i (H.drop i))
  | 0, i, h1, h2 => by omega
  | f + 1, i, h1, h2 => by
    have ih := each_loop h f
    have hs := h.small
    unfold parts_Slot_each_l1
    rw [h.count, cD]
    by_cases c : i < H.length
    · have hw : IntKind.wrap .i64 ((i : Int) + 1) = ((i + 1 : Nat) : Int) := by rw [w64 (by omega) (by omega)]; omega
      rw [if_pos (by omega), hw, ih (i + 1) (by omega) (by omega), h.has i, List.drop_eq_getElem_cons c, en, getD_at H i _ c]
      rfl
    · rw [if_neg (by omega), List.drop_eq_nil_of_le (by omega)]; rfl
theorem each_eq {s : T83} {k : Int} {H : List Bool} {Q : List ByteArray} (h : R s k H Q) (K : Nat) (hK : 1002 ≤ K) : parts_Slot_each K s = some (en 0 H) := by
  have := each_loop h K 0 (by have := h.small; omega) (by omega)
  rw [List.drop_zero] at this
  exact this
theorem which_r2 (b : Bool) : ∀ (l : List Bool) (i : Nat) (acc : List Int), acc.length + l.length ≤ 100000 → parts_Slot_which_r2 b (en i l) acc = some (acc ++ wh b i l)
  | [], i, acc, h => by rw [en, wh, List.append_nil]; rfl
  | x :: l, i, acc, h => by
    have h' : acc.length + (l.length + 1) ≤ 100000 := h
    have ih := which_r2 b l (i + 1)
    rw [en, wh]
    unfold parts_Slot_which_r2
    rw [cE]
    by_cases c : x = b
    · rw [if_pos c, if_pos c, if_pos (by simp only [List.length_cons, List.length_nil]; omega), ih _ (by simp only [List.length_append, List.length_cons, List.length_nil]; omega), List.append_assoc]; rfl
    · rw [if_neg c, if_neg c, ih _ (by omega)]
theorem which_eq {s : T83} {k : Int} {H : List Bool} {Q : List ByteArray} (h : R s k H Q) (b : Bool) (K : Nat) (hK : 1002 ≤ K) : parts_Slot_which K s b = some (wh b 0 H) := by
  have hs := h.small
  unfold parts_Slot_which
  rw [each_eq h K hK, bS, which_r2 b H 0 [] (by simp; omega), List.nil_append]
/-! ### Whole -/
theorem whole_r3 {s : T83} {k : Int} {H : List Bool} {Q : List ByteArray} (h : R s k H Q) : ∀ (n i : Nat) (l : List Int), i + n = H.length → l.length + sizes (Q.drop i) ≤ 1000000 → parts_Slot_Whole_r3 s (en i (H.drop i)) l = some (strOfNums (l ++ numsOf (cat (Q.drop i))), true)
  | 0, i, l, h1, h2 => by
    have hl := h.len
    rw [List.drop_eq_nil_of_le (by omega), List.drop_eq_nil_of_le (by omega), en]
    unfold parts_Slot_Whole_r3 parts_Slot_Whole_j2 strings_Builder_String
    rw [bS]
    show some (strOfNums l, true) = _
    rw [show numsOf (cat []) = [] from rfl, List.append_nil]
  | n + 1, i, l, h1, h2 => by
    have hl := h.len
    have hq : i < Q.length := by omega
    have ih := whole_r3 h n (i + 1)
    rw [List.drop_eq_getElem_cons hq, sizes] at h2
    rw [List.drop_eq_getElem_cons (show i < H.length by omega), en]
    unfold parts_Slot_Whole_r3 strings_Builder_WriteString strings_Builder_copyCheck
    simp only [bS]
    rw [h.get i, getD_at Q i _ hq, if_pos (by omega), bS]
    show parts_Slot_Whole_r3 s (en (i + 1) (H.drop (i + 1))) (l ++ numsOf Q[i]) = _
    rw [ih _ (by omega) (by rw [List.length_append, numsOf_len]; omega), List.drop_eq_getElem_cons hq, cat, nums_app, List.append_assoc]
def wholeF (k : Int) (H : List Bool) (Q : List ByteArray) : ByteArray × Bool := if k = 0 ∨ numT H < H.length then (⟨#[]⟩, false) else (cat Q, true)
theorem whole_eq {s : T83} {k : Int} {H : List Bool} {Q : List ByteArray} (h : R s k H Q) (K : Nat) (hK : 1002 ≤ K) : parts_Slot_Whole K s = some (wholeF k H Q) := by
  have ht := h.total
  unfold parts_Slot_Whole wholeF
  rw [h.key, cE]
  by_cases c : k = 0
  · rw [if_pos c, if_pos (.inl c)]; rfl
  · rw [if_neg c]
    unfold parts_Slot_Whole_j4
    rw [cD, h.count, h.size]
    by_cases d : numT H < H.length
    · rw [if_pos (by omega), if_pos (.inr d)]
    · rw [if_neg (by omega), if_neg (by omega)]
      unfold parts_Slot_Whole_j1
      rw [each_eq h K hK, bS]
      have := whole_r3 h H.length 0 [] (by omega) (by rw [List.drop_zero, List.length_nil]; omega)
      rw [List.drop_zero, List.drop_zero, List.nil_append, str_nums] at this
      exact this
/-! ### Is it the document's? -/
end Go.Proofs.YtpciioffkjpieaaDoor.Pure4
