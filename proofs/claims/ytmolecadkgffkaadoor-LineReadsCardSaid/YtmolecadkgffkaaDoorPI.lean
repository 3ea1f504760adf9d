/- Plain laws: what the plain functions answer, with no program in sight. -/
import Derived.Test.YtmolecadkgffkaaDoorPH
set_option linter.unusedVariables false
set_option linter.unusedSimpArgs false
namespace Go.Proofs.YtmolecadkgffkaaDoor.Pure
open Go Go.Proofs.XC Go.Proofs.YtmolecadkgffkaaDoor

/-! ### The own Parse -/
theorem splitB_small : ∀ (k : Nat) (s : ByteArray), ∀ t ∈ Lib.splitB ⟨#[44]⟩ 0 k s, t.size ≤ s.size
  | 0, s => by
    rw [Lib.splitB_zero]
    intro t ht; rw [List.mem_singleton.1 ht]; exact Nat.le_refl _
  | k + 1, s => by
    rcases Lib.indexB_cases s ⟨#[44]⟩ with h | ⟨i, h, hr⟩
    · rw [Lib.splitB_miss _ _ _ _ h]
      intro t ht; rw [List.mem_singleton.1 ht]; exact Nat.le_refl _
    · rw [Lib.splitB_hit _ _ _ _ _ h]
      intro t ht
      rcases List.mem_cons.1 ht with rfl | ht
      · rw [ext_size]; omega
      · have := splitB_small k _ t ht
        rw [ext_size] at this
        omega
theorem split_total (s : ByteArray) (hs : s.size ≤ 4000) : ∃ w l is, line_split s = some (w, l, is) ∧ l.length ≤ 5000 ∧ ∀ t ∈ l, t.size ≤ 5000 := by
  obtain ⟨a, b, e1, h1, h2, _⟩ := cut_eq s (by omega)
  obtain ⟨c, ok, e2, h3, _⟩ := suffix_eq b (by omega)
  unfold line_split
  rw [e1, bS]
  dsimp only
  rw [e2, bS]
  have hj : ∀ y : Bool, ∃ w l is, line_split_j2 (a, b, decide (0 ≤ idxI 40 (numsOf s))) (c, ok) y = some (w, l, is) ∧ l.length ≤ 5000 ∧ ∀ t ∈ l, t.size ≤ 5000 := by
    intro y
    unfold line_split_j2
    cases y with
    | true => exact ⟨_, _, _, rfl, by simp, by simp⟩
    | false =>
      rw [cond_false]
      unfold line_split_j1
      dsimp only
      rw [cS]
      by_cases hc : c = ⟨#[]⟩
      · rw [if_pos hc]; exact ⟨_, _, _, rfl, by simp, by simp⟩
      · have s44 : (⟨#[44]⟩ : ByteArray).size = 1 := rfl
        rw [if_neg hc]
        unfold strings_Split
        rw [if_pos ⟨by omega, by rw [s44]; omega⟩, bS]
        refine ⟨_, _, _, rfl, ?_, fun t ht => ?_⟩
        · rw [Lib.splitB_all _ (by rw [s44]; omega) 0 _ _ rfl]
          have := Lib.countB_le ⟨#[44]⟩ (by rw [s44]; omega) c.size c (Nat.le_refl _)
          omega
        · have := splitB_small _ _ t ht
          omega
  dsimp only
  rw [cNB]
  split
  · exact hj _
  · exact hj _
theorem split_line (s : ByteArray) (hs : s.size ≤ 4000) (W : List Int) (xs : List ByteArray) (h40 : (40 : Int) ∉ W) (h44 : ∀ y ∈ xs, (44 : Int) ∉ numsOf y) (he : numsOf s = W ++ [40] ++ joinL (xs.map numsOf) ++ [41]) :
    ∃ w, line_split s = some (w, if joinL (xs.map numsOf) = [] then [] else xs, true) ∧ numsOf w = W := by
  obtain ⟨a, b, e1, h1, h2, h5⟩ := cut_eq s (by omega)
  obtain ⟨c, ok, e2, h3, h4⟩ := suffix_eq b (by omega)
  have hi : idxI 40 (numsOf s) = W.length := by
    rw [he, List.append_assoc, List.append_assoc]
    exact idxI_hit 40 W _ h40
  obtain ⟨n1, n2⟩ := h5 (by rw [hi]; omega)
  rw [hi, Int.toNat_natCast, he] at n1 n2
  have n1' : numsOf a = W := by
    rw [n1, List.append_assoc, List.append_assoc, List.take_left']
    rfl
  have n2' : numsOf b = joinL (xs.map numsOf) ++ [41] := by
    rw [n2, List.append_assoc, List.drop_left']
    simp
  obtain ⟨k1, k2⟩ := h4 _ n2'
  refine ⟨a, ?_, n1'⟩
  unfold line_split
  rw [e1, bS]
  dsimp only
  rw [e2, bS, decide_eq_true (by rw [hi]; omega), k1, Bool.not_true, cond_false]
  unfold line_split_j2 line_split_j1
  dsimp only
  rw [cond_false, cS]
  by_cases hc : joinL (xs.map numsOf) = []
  · rw [if_pos hc, if_pos (nums_inj (by rw [k2, hc]; rfl))]
  · have s44 : (⟨#[44]⟩ : ByteArray).size = 1 := rfl
    rw [if_neg hc, if_neg (fun hh => hc (by rw [← k2, hh]; rfl))]
    unfold strings_Split
    rw [if_pos ⟨by omega, by rw [s44]; omega⟩, bS]
    cases xs with
    | nil => exact absurd rfl hc
    | cons x r =>
      rw [count_join r x c h44 k2, split_join r x c h44 k2]
abbrev E25 : T25 := ⟨⟨#[]⟩, [], ⟨#[]⟩⟩
def Good (s : ByteArray) (r : T25 × Int) : Prop := (r.2 = 1 ∧ r.1 = E25) ∨ (r.2 = 0 ∧ lineF r.1 = s)
theorem own_j2 (K : Nat) (hK : 30000 ≤ K) (s : ByteArray) (t10 : ByteArray × List ByteArray × Bool) (l : List Int) (x : ByteArray) (hx : x.size ≤ 5000) :
    line_Parse_j2 K s t10 l x = some (if lineF ⟨t10.1, l, x⟩ = s then (⟨t10.1, l, x⟩, 0) else (E25, 1)) := by
  unfold line_Parse_j2
  rw [own_line K hK _ (show x.size ≤ 20000 by omega), bS, cSN]
  split <;> rfl
theorem own_l3_total (K : Nat) (hK : 30000 ≤ K) (s : ByteArray) (t10 : ByteArray × List ByteArray × Bool) (t22 : T47 × Bool) (h1 : t10.2.1.length ≤ 5000) (h2 : ∀ t ∈ t10.2.1, t.size ≤ 5000) : ∀ (k i : Nat) (l : List Int) (x : ByteArray), t10.2.1.length < k + i → i ≤ t10.2.1.length → l.length ≤ i → x.size ≤ 5000 →
    ∃ r, line_Parse_l3 K s t10 t22 k l x i = some r ∧ Good s r
  | 0, i, l, x, a1, a2, a3, a4 => by omega
  | k + 1, i, l, x, a1, a2, a3, a4 => by
    have ih := own_l3_total K hK s t10 t22 h1 h2 k
    unfold line_Parse_l3
    rw [cD]
    by_cases c : i < t10.2.1.length
    · have hw : IntKind.wrap .i64 ((i : Int) + 1) = ((i + 1 : Nat) : Int) := by rw [w64 (by omega) (by omega)]; omega
      have hz := h2 t10.2.1[i] (List.getElem_mem _)
      have h4 : ∀ (l' : List Int) (x' : ByteArray) (y : Bool), l'.length ≤ i + 1 → x'.size ≤ 5000 → ∃ r, line_Parse_j4 i (line_Parse_l3 K s t10 t22 k) l' x' y = some r ∧ Good s r := by
        intro l' x' y hl hx'
        unfold line_Parse_j4
        cases y with
        | false => exact ⟨_, rfl, .inl ⟨rfl, rfl⟩⟩
        | true => rw [Bool.not_true, cond_false, hw]; exact ih (i + 1) l' x' (by omega) (by omega) hl hx'
      rw [if_pos (by omega), if_pos (by omega), cD, rdD_get _ _ c]
      split
      · obtain ⟨n, ok, e⟩ := number_total t10.2.1[i] (by omega)
        rw [e, bS, if_pos (by simp; omega)]
        exact h4 _ _ _ (by simp; omega) a4
      · obtain ⟨b, ok, e, hb⟩ := read_any K hK t10.2.1[i] hz
        rw [e, bS]
        exact h4 _ _ _ (by omega) hb
    · rw [if_neg (by omega), own_j2 K hK s t10 l x a4]
      refine ⟨_, rfl, ?_⟩
      by_cases g : lineF ⟨t10.1, l, x⟩ = s
      · rw [if_pos g]; exact .inr ⟨rfl, g⟩
      · rw [if_neg g]; exact .inl ⟨rfl, rfl⟩
theorem own_total (K : Nat) (hK : 30000 ≤ K) (s : ByteArray) (hs : s.size ≤ 4000) : ∃ r, line_Parse K s = some r ∧ Good s r := by
  obtain ⟨w, l, is, e, h1, h2⟩ := split_total s hs
  unfold line_Parse
  rw [cD, if_neg (by omega), e, bS, find_eq K (by omega), bS]
  have hj : ∀ y : Bool, ∃ r, line_Parse_j5 K s (w, l, is) (fnd (findF w)) y = some r ∧ Good s r := by
    intro y
    unfold line_Parse_j5
    cases y with
    | true => exact ⟨_, rfl, .inl ⟨rfl, rfl⟩⟩
    | false =>
      rw [cond_false]
      unfold line_Parse_j1
      exact own_l3_total K hK s (w, l, is) _ h1 h2 K 0 [] ⟨#[]⟩ (by dsimp only; omega) (by omega) (by simp) (Nat.zero_le _)
  dsimp only
  rw [cNB]
  split
  · exact hj _
  · exact hj _
/-! ### What is a line is parsed -/
theorem glob_40 : ∀ f ∈ glob0, (40 : Int) ∉ numsOf f.word := by decide +kernel
theorem find_40 {w : ByteArray} {f : T47} (h : findF w = some f) : (40 : Int) ∉ numsOf w := by
  have h2 := List.mem_of_find?_eq_some h
  have := glob_40 f h2
  rw [(find_some h).1] at this
  exact this
def itemsB (x : T25) (f : T47) : List ByteArray := x.Nums.map itoaB ++ (if f.text = true then [strOfNums (encT (numsOf x.Text))] else [])
theorem itemsB_nums (x : T25) (f : T47) (h : ∀ n ∈ x.Nums, inR n) : (itemsB x f).map numsOf = items x f := by
  unfold itemsB items
  rw [List.map_append, numL_eq _ h]
  split
  · rw [List.map_cons, List.map_nil, nums_of_str _ (encT_256 _ (nums_b _))]
  · rfl
theorem items_b (x : T25) (f : T47) : ∀ y ∈ items x f, ∀ c ∈ y, 0 ≤ c ∧ c < 256 ∧ c ≠ 44 := by
  intro y hy c hc
  unfold items numL at hy
  rcases List.mem_append.1 hy with hy | hy
  · obtain ⟨n, hn, rfl⟩ := List.mem_map.1 hy
    have := digs_range _ c hc
    omega
  · split at hy
    · rw [List.mem_singleton.1 hy] at hc
      rcases encT_b _ (nums_b _) c hc with h | h
      · unfold plainB at h; omega
      · omega
    · cases hy
theorem joinL_b : ∀ (r : List (List Int)), (∀ y ∈ r, ∀ c ∈ y, 0 ≤ c ∧ c < 256 ∧ c ≠ 44) → B256 (joinL r)
  | [], h => by intro c hc; cases hc
  | x :: r, h => by
    intro c hc
    rcases List.mem_append.1 (show c ∈ x ++ tailL r from hc) with hc | hc
    · have := h x (by simp) c hc; omega
    · unfold tailL at hc
      obtain ⟨y, hy, hc⟩ := List.mem_flatMap.1 hc
      rcases List.mem_cons.1 hc with rfl | hc
      · omega
      · have := h y (by simp [hy]) c hc; omega
theorem lineL_b (x : T25) (f : T47) : B256 (lineL x f) := by
  unfold lineL
  refine ((((nums_b _).append fun c hc => ?_).append (joinL_b _ (items_b x f))).append fun c hc => ?_)
  · rw [List.mem_singleton.1 hc]; omega
  · rw [List.mem_singleton.1 hc]; omega
theorem encT_ge : ∀ l : List Int, l.length ≤ (encT l).length
  | [] => by simp [encT]
  | b :: l => by
    have := encT_ge l
    have := encB_len b
    simp only [encT, List.flatMap_cons, List.length_append, List.length_cons] at *
    omega
structure IsL (x : T25) (s : ByteArray) (f : T47) : Prop where
  hf : findF x.Word = some f
  ok : fits x f
  len : (lineL x f).length ≤ 4000
  nums : numsOf s = lineL x f
  text : x.Text.size ≤ 4000
  line : lineF x = s
theorem isL_of {x : T25} {s : ByteArray} (h : lineF x = s) (hs : s ≠ ⟨#[]⟩) : ∃ f, IsL x s f := by
  have h0 := h
  unfold lineF at h
  cases hf : findF x.Word with
  | none => rw [hf] at h; exact absurd h.symm hs
  | some f =>
    rw [hf] at h
    dsimp only at h
    by_cases c : fits x f ∧ (lineL x f).length ≤ 4000
    · rw [if_pos c] at h
      refine ⟨f, hf, c.1, c.2, by rw [← h, nums_of_str _ (lineL_b x f)], ?_, h0⟩
      rcases c.1.2.1 with ht | ht
      · have h2 := c.2
        have h3 := encT_ge (numsOf x.Text)
        rw [numsOf_len] at h3
        unfold lineL items at h2
        rw [if_pos ht, joinL_snoc] at h2
        simp only [List.length_append] at h2
        omega
      · rw [ht]; exact Nat.zero_le _
    · rw [if_neg c] at h; exact absurd h.symm hs
end Go.Proofs.YtmolecadkgffkaaDoor.Pure
