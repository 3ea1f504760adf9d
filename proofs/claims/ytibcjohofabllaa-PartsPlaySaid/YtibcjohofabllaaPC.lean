/- Plain laws: what the plain functions answer, with no program in sight. -/
import Derived.Test.YtibcjohofabllaaPB
set_option linter.unusedVariables false
set_option linter.unusedSimpArgs false
namespace Go.Proofs.Ytibcjohofabllaa.Pure
open Go Go.Proofs.XC Go.Proofs.Ytibcjohofabllaa

/-! ### What a slot tells -/
def en : Nat → List Bool → List (Int × Bool)
  | _, [] => []
  | i, b :: l => ((i : Int), b) :: en (i + 1) l
def wh (b : Bool) : Nat → List Bool → List Int
  | _, [] => []
  | i, x :: l => if x = b then (i : Int) :: wh b (i + 1) l else wh b (i + 1) l
theorem wh_len (b : Bool) : ∀ (l : List Bool) (i : Nat), (wh b i l).length ≤ l.length
  | [], i => by simp [wh]
  | x :: l, i => by have := wh_len b l (i + 1); unfold wh; split <;> (simp only [List.length_cons]; omega)
theorem wh_false : ∀ (l : List Bool) (i : Nat), ((wh false i l).length : Int) = (l.length : Int) - (numT l : Int)
  | [], i => by simp [wh, numT]
  | x :: l, i => by
    have := wh_false l (i + 1)
    unfold wh numT
    cases x
    · simp only [if_true, List.length_cons, Bool.false_eq_true, if_false]; omega
    · simp only [Bool.true_eq_false, if_false, List.length_cons, if_true]; omega
theorem getD_at {α : Type} (l : List α) (i : Nat) (d : α) (h : i < l.length) : l.getD i d = l[i] := by simp [List.getD_eq_getElem?_getD, h]
theorem each_loop {s : T29} {k : Int} {H : List Bool} {Q : List ByteArray} (h : R s k H Q) : ∀ (f i : Nat), H.length < f + i → i ≤ H.length → parts_Slot_each_l1 s f i = some (en i (H.drop i))
  | 0, i, h1, h2 => by omega
  | f + 1, i, h1, h2 => by
    have ih := each_loop h f
    have hs := h.small
    unfold parts_Slot_each_l1
    rw [h.count, cD]
    by_cases c : i < H.length
    · have hw : IntKind.wrap .i64 ((i : Int) + 1) = ((i + 1 : Nat) : Int) := by rw [w64 (by omega) (by omega)]; omega
      rw [if_pos (by omega), hw, ih (i + 1) (by omega) (by omega), h.has i, List.drop_eq_getElem_cons c, en, getD_at H i _ c]
      rfl
    · rw [if_neg (by omega), List.drop_eq_nil_of_le (by omega)]; rfl
theorem each_eq {s : T29} {k : Int} {H : List Bool} {Q : List ByteArray} (h : R s k H Q) (K : Nat) (hK : 1002 ≤ K) : parts_Slot_each K s = some (en 0 H) := by
  have := each_loop h K 0 (by have := h.small; omega) (by omega)
  rw [List.drop_zero] at this
  exact this
theorem which_r2 (b : Bool) : ∀ (l : List Bool) (i : Nat) (acc : List Int), acc.length + l.length ≤ 100000 → parts_Slot_which_r2 b (en i l) acc = some (acc ++ wh b i l)
  | [], i, acc, h => by rw [en, wh, List.append_nil]; rfl
  | x :: l, i, acc, h => by
    have h' : acc.length + (l.length + 1) ≤ 100000 := h
    have ih := which_r2 b l (i + 1)
    rw [en, wh]
    unfold parts_Slot_which_r2
    rw [cE]
    by_cases c : x = b
    · rw [if_pos c, if_pos c, if_pos (by simp only [List.length_cons, List.length_nil]; omega), ih _ (by simp only [List.length_append, List.length_cons, List.length_nil]; omega), List.append_assoc]; rfl
    · rw [if_neg c, if_neg c, ih _ (by omega)]
theorem which_eq {s : T29} {k : Int} {H : List Bool} {Q : List ByteArray} (h : R s k H Q) (b : Bool) (K : Nat) (hK : 1002 ≤ K) : parts_Slot_which K s b = some (wh b 0 H) := by
  have hs := h.small
  unfold parts_Slot_which
  rw [each_eq h K hK, bS, which_r2 b H 0 [] (by simp; omega), List.nil_append]
theorem rwhich_loop (k : Int) (H : List Bool) (Q : List ByteArray) (b : Bool) (hs : H.length ≤ 1000) : ∀ (f i : Nat) (acc : List Int), H.length < f + i → i ≤ H.length → acc.length ≤ i → tidewrackref04_Which_l2 ⟨k, H, Q⟩ b f acc i = some (acc ++ wh b i (H.drop i))
  | 0, i, acc, h1, h2, h3 => by omega
  | f + 1, i, acc, h1, h2, h3 => by
    have ih := rwhich_loop k H Q b hs f
    unfold tidewrackref04_Which_l2
    rw [cD]
    by_cases c : i < H.length
    · have hw : IntKind.wrap .i64 ((i : Int) + 1) = ((i + 1 : Nat) : Int) := by rw [w64 (by omega) (by omega)]; omega
      rw [if_pos (by show (i : Int) < (H.length : Int); omega), if_pos (by show 0 ≤ (i : Int) ∧ (i : Int) < (H.length : Int); omega), hw, cE, List.drop_eq_getElem_cons c, wh]
      show (if rdD false H i = b then _ else _) = _
      rw [rdD_get _ _ c]
      by_cases d : H[i] = b
      · rw [if_pos d, if_pos d, if_pos (by simp only [List.length_cons, List.length_nil]; omega), ih (i + 1) _ (by omega) (by omega) (by simp only [List.length_append, List.length_cons, List.length_nil]; omega), List.append_assoc]; rfl
      · rw [if_neg d, if_neg d, ih (i + 1) _ (by omega) (by omega) (by omega)]
    · rw [if_neg (by show ¬ (i : Int) < (H.length : Int); omega), List.drop_eq_nil_of_le (by omega), wh, List.append_nil]; rfl
theorem rwhich_eq (k : Int) (H : List Bool) (Q : List ByteArray) (b : Bool) (hs : H.length ≤ 1000) (K : Nat) (hK : 1002 ≤ K) : tidewrackref04_Which K ⟨k, H, Q⟩ b = some (wh b 0 H) := by
  have := rwhich_loop k H Q b hs K 0 [] (by omega) (by omega) (by simp)
  rw [List.drop_zero, List.nil_append] at this
  exact this
/-! ### Whole -/
theorem whole_r3 {s : T29} {k : Int} {H : List Bool} {Q : List ByteArray} (h : R s k H Q) : ∀ (n i : Nat) (l : List Int), i + n = H.length → l.length + sizes (Q.drop i) ≤ 1000000 → parts_Slot_Whole_r3 s (en i (H.drop i)) l = some (strOfNums (l ++ numsOf (cat (Q.drop i))), true)
  | 0, i, l, h1, h2 => by
    have hl := h.len
    rw [List.drop_eq_nil_of_le (by omega), List.drop_eq_nil_of_le (by omega), en]
    unfold parts_Slot_Whole_r3 parts_Slot_Whole_j2 strings_Builder_String
    rw [bS]
    show some (strOfNums l, true) = _
    rw [show numsOf (cat []) = [] from rfl, List.append_nil]
  | n + 1, i, l, h1, h2 => by
    have hl := h.len
    have hq : i < Q.length := by omega
    have ih := whole_r3 h n (i + 1)
    rw [List.drop_eq_getElem_cons hq, sizes] at h2
    rw [List.drop_eq_getElem_cons (show i < H.length by omega), en]
    unfold parts_Slot_Whole_r3 strings_Builder_WriteString strings_Builder_copyCheck
    simp only [bS]
    rw [h.get i, getD_at Q i _ hq, if_pos (by omega), bS]
    show parts_Slot_Whole_r3 s (en (i + 1) (H.drop (i + 1))) (l ++ numsOf Q[i]) = _
    rw [ih _ (by omega) (by rw [List.length_append, numsOf_len]; omega), List.drop_eq_getElem_cons hq, cat, nums_app, List.append_assoc]
def wholeF (k : Int) (H : List Bool) (Q : List ByteArray) : ByteArray × Bool := if k = 0 ∨ numT H < H.length then (⟨#[]⟩, false) else (cat Q, true)
theorem whole_eq {s : T29} {k : Int} {H : List Bool} {Q : List ByteArray} (h : R s k H Q) (K : Nat) (hK : 1002 ≤ K) : parts_Slot_Whole K s = some (wholeF k H Q) := by
  have ht := h.total
  unfold parts_Slot_Whole wholeF
  rw [h.key, cE]
  by_cases c : k = 0
  · rw [if_pos c, if_pos (.inl c)]; rfl
  · rw [if_neg c]
    unfold parts_Slot_Whole_j4
    rw [cD, h.count, h.size]
    by_cases d : numT H < H.length
    · rw [if_pos (by omega), if_pos (.inr d)]
    · rw [if_neg (by omega), if_neg (by omega)]
      unfold parts_Slot_Whole_j1
      rw [each_eq h K hK, bS]
      have := whole_r3 h H.length 0 [] (by omega) (by rw [List.drop_zero, List.length_nil]; omega)
      rw [List.drop_zero, List.drop_zero, List.nil_append, str_nums] at this
      exact this
theorem rall_loop (k : Int) (H : List Bool) (Q : List ByteArray) (K : Nat) (hQ : Q.length ≤ 1000) : ∀ (f i : Nat) (x : ByteArray), Q.length < f + i → i ≤ Q.length → x.size + sizes (Q.drop i) ≤ 1000000 → tidewrackref04_All_l2 K ⟨k, H, Q⟩ f x i = tidewrackref04_All_j1 K ⟨k, H, Q⟩ (x ++ cat (Q.drop i))
  | 0, i, x, h1, h2, h3 => by omega
  | f + 1, i, x, h1, h2, h3 => by
    have ih := rall_loop k H Q K hQ f
    unfold tidewrackref04_All_l2
    rw [cD]
    by_cases c : i < Q.length
    · have hw : IntKind.wrap .i64 ((i : Int) + 1) = ((i + 1 : Nat) : Int) := by rw [w64 (by omega) (by omega)]; omega
      rw [List.drop_eq_getElem_cons c, sizes] at h3
      rw [if_pos (by show (i : Int) < (Q.length : Int); omega), if_pos (by show 0 ≤ (i : Int) ∧ (i : Int) < (Q.length : Int); omega), hw]
      show (if ((x.size + (rdD ⟨#[]⟩ Q i).size : Nat) : Int) ≤ 9223372036854775807 then tidewrackref04_All_l2 K ⟨k, H, Q⟩ f (x ++ rdD ⟨#[]⟩ Q i) ((i + 1 : Nat) : Int) else none) = _
      rw [rdD_get _ _ c, if_pos (by omega), ih (i + 1) _ (by omega) (by omega) (by rw [app_size]; omega), List.drop_eq_getElem_cons c, cat, app_asc]
    · rw [if_neg (by show ¬ (i : Int) < (Q.length : Int); omega), List.drop_eq_nil_of_le (by omega), cat, app_empty]
theorem rall_eq {s : T29} {k : Int} {H : List Bool} {Q : List ByteArray} (h : R s k H Q) (K : Nat) (hK : 1002 ≤ K) : tidewrackref04_All K ⟨k, H, Q⟩ = some (cat Q, (wholeF k H Q).2) := by
  have ht := h.total
  have hl := h.len
  have hs := h.small
  have := rall_loop k H Q K (by omega) K 0 ⟨#[]⟩ (by omega) (by omega) (by rw [List.drop_zero]; show 0 + _ ≤ _; omega)
  unfold tidewrackref04_All
  rw [List.drop_zero, empty_app] at this
  rw [show (0 : Int) = ((0 : Nat) : Int) from rfl, this]
  unfold tidewrackref04_All_j1 wholeF
  rw [cD]
  have hp := h.pos
  by_cases c : k = 0
  · rw [if_neg (by show ¬ k > 0; omega), if_pos (.inl c)]
  · rw [if_pos (by show k > 0; omega), rwhich_eq k H Q false hs K hK, bS, wh_false]
    have hn := numT_le H
    by_cases d : numT H < H.length
    · rw [if_pos (.inr d)]
      congr 2
      simp; omega
    · rw [if_neg (by omega)]
      congr 2
      simp; omega
/-! ### Is it the document's? -/
theorem same_loop (l : List Int) (hl : l.length ≤ 100000) : ∀ (f i : Nat), l.length < f + i → i ≤ l.length → tidewracklaw01_Same_l2 l l f i = some true
  | 0, i, h1, h2 => by omega
  | f + 1, i, h1, h2 => by
    have ih := same_loop l hl f
    unfold tidewracklaw01_Same_l2
    rw [cD]
    by_cases c : i < l.length
    · have hw : IntKind.wrap .i64 ((i : Int) + 1) = ((i + 1 : Nat) : Int) := by rw [w64 (by omega) (by omega)]; omega
      rw [if_pos (by omega), if_pos (by omega), if_pos (by omega), cN, if_pos rfl, hw]
      exact ih (i + 1) (by omega) (by omega)
    · rw [if_neg (by omega)]; rfl
theorem same_eq (K : Nat) (l : List Int) (hl : l.length ≤ 1000) (hK : 1002 ≤ K) : tidewracklaw01_Same K l l = some true := by
  unfold tidewracklaw01_Same
  rw [cN, if_pos rfl]
  exact same_loop l (by omega) K 0 (by omega) (by omega)
theorem is_eq {s : T29} {k : Int} {H : List Bool} {Q : List ByteArray} (h : R s k H Q) (K : Nat) (hK : 1002 ≤ K) : tidewracklaw04_Is K s ⟨k, H, Q⟩ = some true := by
  have hs := h.small
  have hb := h.bytes
  have hw1 := wh_len true H 0
  have hw2 := wh_len false H 0
  have hj : tidewracklaw04_Is_j1 K s ⟨k, H, Q⟩ (cat Q, (wholeF k H Q).2) = some true := by
    unfold tidewracklaw04_Is_j1 parts_Slot_Key parts_Slot_Count parts_Slot_Have parts_Slot_Lacks parts_Slot_Bytes
    simp only [bS]
    rw [cE, if_pos (show s.key = k from h.key), cE, if_pos (show s.count = (H.length : Int) from h.count), which_eq h true K hK, bS, bS, rwhich_eq k H Q true hs K hK, bS, same_eq K _ (by omega) hK, bS, cond_true, which_eq h false K hK, bS, bS, rwhich_eq k H Q false hs K hK, bS, same_eq K _ (by omega) hK, bS, cond_true, cat_size, hb, beq_self_eq_true]
  unfold tidewracklaw04_Is
  rw [rall_eq h K hK, bS, whole_eq h K hK, bS]
  dsimp only
  rw [beq_self_eq_true, Bool.not_true, cond_false]
  unfold wholeF at hj ⊢
  by_cases c : k = 0 ∨ numT H < H.length
  · rw [if_pos c] at hj ⊢
    rw [cond_false, cSN, if_pos rfl]
    exact hj
  · rw [if_neg c] at hj ⊢
    rw [cond_true, cSN, if_pos rfl]
    exact hj
theorem clone_eq (s : T29) : parts_Slot_Clone s = some s := by
  unfold parts_Slot_Clone maps_Clone
  obtain ⟨k, c, ⟨m⟩, b⟩ := s
  cases m <;> rfl
end Go.Proofs.Ytibcjohofabllaa.Pure
