/- Plain laws: what the plain functions answer, with no program in sight. -/
import Derived.Test.YtmolecadkgffkaaDoorPI
set_option linter.unusedVariables false
set_option linter.unusedSimpArgs false
namespace Go.Proofs.YtmolecadkgffkaaDoor.Pure
open Go Go.Proofs.XC Go.Proofs.YtmolecadkgffkaaDoor

theorem text_nil {t : ByteArray} (h : encT (numsOf t) = []) : t = ⟨#[]⟩ := by
  have h1 := encT_ge (numsOf t)
  rw [h, numsOf_len] at h1
  exact size_zero (by simpa using h1)
theorem itemsB_len (x : T25) (f : T47) : (itemsB x f).length = x.Nums.length + (if f.text = true then 1 else 0) := by
  unfold itemsB
  rw [List.length_append, List.length_map]
  split <;> rfl
theorem itemsB_at (x : T25) (f : T47) (i : Nat) (c : i < x.Nums.length) : rdD (⟨#[]⟩ : ByteArray) (itemsB x f) (i : Int) = itoaB x.Nums[i] := by
  unfold rdD itemsB
  rw [Int.toNat_natCast, List.getD_eq_getElem?_getD, List.getElem?_append_left (by rw [List.length_map]; exact c), List.getElem?_map, List.getElem?_eq_getElem c]
  rfl
theorem itemsB_last (x : T25) (f : T47) (d : f.text = true) : rdD (⟨#[]⟩ : ByteArray) (itemsB x f) (x.Nums.length : Int) = strOfNums (encT (numsOf x.Text)) := by
  unfold rdD itemsB
  rw [if_pos d, Int.toNat_natCast, List.getD_eq_getElem?_getD, List.getElem?_append_right (by rw [List.length_map]; omega), List.length_map, Nat.sub_self]
  rfl
theorem own_end (K : Nat) (hK : 30000 ≤ K) (s : ByteArray) (x : T25) (f : T47) (h : IsL x s f) (l : List ByteArray) (k i : Nat) (hi : l.length ≤ i) : line_Parse_l3 K s (x.Word, l, true) (f, true) (k + 1) x.Nums x.Text i = some (x, 0) := by
  unfold line_Parse_l3
  rw [cD, if_neg (by dsimp only; omega), own_j2 K hK s _ _ _ (by have := h.text; omega)]
  have e : (⟨x.Word, x.Nums, x.Text⟩ : T25) = x := rfl
  dsimp only
  rw [e, if_pos h.line]
theorem own_loop (K : Nat) (hK : 30000 ≤ K) (s : ByteArray) (x : T25) (f : T47) (h : IsL x s f) : ∀ (k i : Nat), (itemsB x f).length < k + i → i ≤ x.Nums.length → line_Parse_l3 K s (x.Word, itemsB x f, true) (f, true) k (x.Nums.take i) ⟨#[]⟩ i = some (x, 0)
  | 0, i, h1, h2 => by
    have := itemsB_len x f
    split at this <;> omega
  | k + 1, i, h1, h2 => by
    have ih := own_loop K hK s x f h k
    have hl := itemsB_len x f
    obtain ⟨n1, n2, n3⟩ := h.ok
    have hf := find_some h.hf
    have hw : IntKind.wrap .i64 ((i : Int) + 1) = ((i + 1 : Nat) : Int) := by rw [w64 (by omega) (by omega)]; omega
    by_cases c : i < x.Nums.length
    · have hil : i < (itemsB x f).length := by omega
      unfold line_Parse_l3
      dsimp only
      rw [cD, if_pos (by omega), if_pos (by omega), cD, if_pos (by omega), itemsB_at x f i c, number_itoa _ (n3 _ (List.getElem_mem _)), bS, if_pos (by simp; omega)]
      unfold line_Parse_j4
      rw [Bool.not_true, cond_false, hw]
      have ht : x.Nums.take i ++ [x.Nums[i]] = x.Nums.take (i + 1) := by rw [List.take_succ_eq_append_getElem c]
      rw [ht]
      exact ih (i + 1) (by omega) (by omega)
    · have ei : i = x.Nums.length := by omega
      have ht : x.Nums.take i = x.Nums := List.take_of_length_le (by omega)
      rw [ht]
      by_cases d : f.text = true
      · rw [if_pos d] at hl
        have hil : i < (itemsB x f).length := by omega
        have htx := h.text
        have hen : (encT (numsOf x.Text)).length ≤ 4000 := by
          have h2 := h.len
          unfold lineL items at h2
          rw [if_pos d, joinL_snoc] at h2
          simp only [List.length_append] at h2
          omega
        unfold line_Parse_l3
        dsimp only
        rw [cD, if_pos (by omega), if_pos (by omega), cD, if_neg (by omega), ei, itemsB_last x f d,
          read_enc K hK _ (by rw [str_len]; omega) (numsOf x.Text) (nums_b _) (by rw [nums_of_str _ (encT_256 _ (nums_b _))]) (by rw [numsOf_len]; omega), bS, str_nums]
        unfold line_Parse_j4
        rw [Bool.not_true, cond_false, ← ei, hw]
        obtain ⟨k', rfl⟩ : ∃ k', k = k' + 1 := ⟨k - 1, by omega⟩
        exact own_end K hK s x f h _ k' (i + 1) (by omega)
      · rw [if_neg d] at hl
        have hT : x.Text = ⟨#[]⟩ := n2.resolve_left d
        have := own_end K hK s x f h (itemsB x f) k i (by omega)
        rw [hT] at this
        exact this
theorem own_parse_line (K : Nat) (hK : 30000 ≤ K) (s : ByteArray) (x : T25) (f : T47) (h : IsL x s f) : line_Parse K s = some (x, 0) := by
  have hsz : s.size ≤ 4000 := by rw [size_nums, h.nums]; exact h.len
  obtain ⟨n1, n2, n3⟩ := h.ok
  have hib := itemsB_nums x f n3
  have hf := find_some h.hf
  have hl := itemsB_len x f
  have hl7 : (itemsB x f).length ≤ 7 := by split at hl <;> omega
  obtain ⟨w, e, hw⟩ := split_line s hsz (numsOf x.Word) (itemsB x f) (find_40 h.hf) (fun y hy hc => by
    have := items_b x f (numsOf y) (by rw [← hib]; exact List.mem_map_of_mem hy) 44 hc
    omega) (by rw [h.nums, hib]; rfl)
  have hwx : w = x.Word := nums_inj hw
  subst hwx
  unfold line_Parse
  rw [cD, if_neg (by omega), e, bS, find_eq K (by omega), bS]
  dsimp only
  rw [h.hf, show fnd (some f) = (f, true) from rfl, Bool.not_true, cond_false]
  unfold line_Parse_j5
  rw [cond_false]
  unfold line_Parse_j1
  by_cases c : joinL ((itemsB x f).map numsOf) = []
  · rw [if_pos c]
    rw [hib] at c
    have hN : x.Nums = [] := by
      cases hx : x.Nums with
      | nil => rfl
      | cons n N =>
        exfalso
        have hn := n3 n (by rw [hx]; simp)
        have hd := digs10 hn.1 hn.2
        unfold items numL at c
        rw [hx] at c
        have c2 : digs n.toNat ++ tailL ((N.map fun n => digs n.toNat) ++ (if f.text = true then [encT (numsOf x.Text)] else [])) = [] := c
        have := congrArg List.length c2
        rw [List.length_append] at this
        simp at this
        rw [this.1] at hd
        simp at hd
    have hT : x.Text = ⟨#[]⟩ := by
      by_cases d : f.text = true
      · unfold items numL at c
        rw [hN, if_pos d] at c
        have c2 : encT (numsOf x.Text) ++ tailL [] = [] := c
        apply text_nil
        simpa [tailL] using c2
      · exact n2.resolve_left d
    obtain ⟨k, rfl⟩ : ∃ k, K = k + 1 := ⟨K - 1, by omega⟩
    have := own_end (k + 1) hK s x f h [] k 0 (by simp)
    rw [hN, hT] at this
    exact this
  · rw [if_neg c]
    exact own_loop K hK s x f h K 0 (by omega) (by omega)
end Go.Proofs.YtmolecadkgffkaaDoor.Pure
