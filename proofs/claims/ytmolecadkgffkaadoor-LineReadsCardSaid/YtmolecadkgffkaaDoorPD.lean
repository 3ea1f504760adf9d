/- Plain laws: what the plain functions answer, with no program in sight. -/
import Derived.Test.YtmolecadkgffkaaDoorPC
set_option linter.unusedVariables false
set_option linter.unusedSimpArgs false
namespace Go.Proofs.YtmolecadkgffkaaDoor.Pure
open Go Go.Proofs.XC Go.Proofs.YtmolecadkgffkaaDoor

/-! ### The line -/
def tailL (r : List (List Int)) : List Int := r.flatMap fun x => 44 :: x
def joinL : List (List Int) → List Int
  | [] => []
  | x :: r => x ++ tailL r
def inR (n : Int) : Prop := 0 ≤ n ∧ n ≤ 4294967295
instance (n : Int) : Decidable (inR n) := by unfold inR; infer_instance
def numL (N : List Int) : List (List Int) := N.map fun n => digs n.toNat
def items (x : T25) (f : T47) : List (List Int) := numL x.Nums ++ (if f.text = true then [encT (numsOf x.Text)] else [])
def lineL (x : T25) (f : T47) : List Int := numsOf x.Word ++ [40] ++ joinL (items x f) ++ [41]
def fits (x : T25) (f : T47) : Prop := (x.Nums.length : Int) = f.nums ∧ (f.text = true ∨ x.Text = ⟨#[]⟩) ∧ ∀ n ∈ x.Nums, inR n
instance (x : T25) (f : T47) : Decidable (fits x f) := by unfold fits; infer_instance
def lineF (x : T25) : ByteArray := match findF x.Word with
  | none => ⟨#[]⟩
  | some f => if fits x f ∧ (lineL x f).length ≤ 4000 then strOfNums (lineL x f) else ⟨#[]⟩
theorem glob_small : ∀ f ∈ glob0, f.word.size ≤ 8 ∧ 0 ≤ f.nums ∧ f.nums ≤ 6 := by decide
theorem find_some {w : ByteArray} {f : T47} (h : findF w = some f) : f.word = w ∧ w.size ≤ 8 ∧ 0 ≤ f.nums ∧ f.nums ≤ 6 := by
  have h1 := List.find?_some h
  have h2 := List.mem_of_find?_eq_some h
  have h3 : f.word = w := by simpa using h1
  have := glob_small f h2
  rw [h3] at this
  exact ⟨h3, this⟩
theorem join_nums (xs : List ByteArray) : numsOf (⟨(Lib.join (xs.map (·.data.toList)) (⟨#[44]⟩ : ByteArray).data.toList).toArray⟩ : ByteArray) = joinL (xs.map numsOf) := by
  rw [nums_mk]
  cases xs with
  | nil => rfl
  | cons x r =>
    rw [List.map_cons, Lib.join_cons, List.map_append, List.map_cons]
    show numsOf x ++ _ = numsOf x ++ tailL (r.map numsOf)
    congr 1
    unfold Lib.joinTail tailL
    induction r with
    | nil => rfl
    | cons y r ih =>
      simp only [List.map_cons, List.flatten_cons, List.map_append, List.flatMap_cons, ih]
      rfl
theorem tailL_len : ∀ (r : List (List Int)) (B : Nat), (∀ y ∈ r, y.length ≤ B) → (tailL r).length ≤ r.length * (B + 1)
  | [], B, h => by simp [tailL]
  | y :: r, B, h => by
    have := tailL_len r B fun z hz => h z (by simp [hz])
    have := h y (by simp)
    simp only [tailL, List.flatMap_cons, List.length_append, List.length_cons, Nat.add_mul] at *
    omega
theorem joinL_len (r : List (List Int)) (B : Nat) (h : ∀ y ∈ r, y.length ≤ B) : (joinL r).length ≤ r.length * (B + 1) := by
  cases r with
  | nil => simp [joinL]
  | cons y r =>
    have := tailL_len r B fun z hz => h z (by simp [hz])
    have := h y (by simp)
    simp only [joinL, List.length_append, List.length_cons, Nat.add_mul] at *
    omega
theorem join_len_eq (xs : List ByteArray) : (Lib.join (xs.map (·.data.toList)) (⟨#[44]⟩ : ByteArray).data.toList).length = (joinL (xs.map numsOf)).length := by
  rw [← join_nums, numsOf_len]
  rfl
theorem own_j3 (x : T25) (l : List ByteArray) (hw : x.Word.size ≤ 8) (hl : l.length ≤ 100) (hj : (joinL (l.map numsOf)).length ≤ 1000000) :
    line_Step_Line_j3 x l = some (if (numsOf x.Word ++ [40] ++ joinL (l.map numsOf) ++ [41]).length ≤ 4000 then strOfNums (numsOf x.Word ++ [40] ++ joinL (l.map numsOf) ++ [41]) else ⟨#[]⟩) := by
  have s40 : (⟨#[40]⟩ : ByteArray).size = 1 := rfl
  have s41 : (⟨#[41]⟩ : ByteArray).size = 1 := rfl
  unfold line_Step_Line_j3 strings_Join
  rw [s40, if_pos (by omega), join_len_eq, if_pos (by omega), bS]
  have hn := join_nums l
  generalize (⟨(Lib.join (l.map (·.data.toList)) (⟨#[44]⟩ : ByteArray).data.toList).toArray⟩ : ByteArray) = J at hn ⊢
  have hJ : J.size = (joinL (l.map numsOf)).length := by rw [← hn, numsOf_len]
  have hR : numsOf (((x.Word ++ (⟨#[40]⟩ : ByteArray)) ++ J) ++ (⟨#[41]⟩ : ByteArray)) = numsOf x.Word ++ [40] ++ joinL (l.map numsOf) ++ [41] := by
    rw [nums_app, nums_app, nums_app, hn]; rfl
  have hz : (((x.Word ++ (⟨#[40]⟩ : ByteArray)) ++ J) ++ (⟨#[41]⟩ : ByteArray)).size = (numsOf x.Word ++ [40] ++ joinL (l.map numsOf) ++ [41]).length := by rw [← hR, numsOf_len]
  rw [if_pos (by rw [app_size, s40, hJ]; omega), if_pos (by rw [app_size, app_size, s40, s41, hJ]; omega), cD, hz, ← hR, str_nums]
  by_cases c : (numsOf (((x.Word ++ (⟨#[40]⟩ : ByteArray)) ++ J) ++ (⟨#[41]⟩ : ByteArray))).length ≤ 4000
  · rw [if_neg (by omega), if_pos c]
  · rw [if_pos (by omega), if_neg c]
theorem own_l4 (K : Nat) (x : T25) (t : T47 × Bool) (hx : x.Nums.length ≤ 6) : ∀ (k i : Nat) (l : List ByteArray), x.Nums.length < k + i → i ≤ x.Nums.length → l.length ≤ i →
    line_Step_Line_l4 K x t k l i = if ∀ n ∈ x.Nums.drop i, inR n then line_Step_Line_j2 K x t (l ++ (x.Nums.drop i).map itoaB) else some ⟨#[]⟩
  | 0, i, l, h1, h2, h3 => by omega
  | k + 1, i, l, h1, h2, h3 => by
    have ih := own_l4 K x t hx k
    unfold line_Step_Line_l4
    rw [cD]
    by_cases c : i < x.Nums.length
    · have hw : IntKind.wrap .i64 ((i : Int) + 1) = ((i + 1 : Nat) : Int) := by rw [w64 (by omega) (by omega)]; omega
      rw [if_pos (by omega), if_pos (by omega), rdD_get _ _ c, cD, cD, List.drop_eq_getElem_cons c]
      by_cases a : inR x.Nums[i]
      · have a1 := a.1; have a2 := a.2
        rw [if_neg (by omega), if_neg (by omega), itoa_eq _ a1 a2, bS, if_pos (by simp; omega), hw, ih (i + 1) _ (by omega) (by omega) (by simp; omega)]
        by_cases d : ∀ n ∈ x.Nums.drop (i + 1), inR n
        · rw [if_pos d, if_pos (by intro n hn; rcases List.mem_cons.1 hn with rfl | hn; exact a; exact d n hn), List.append_assoc]; rfl
        · rw [if_neg d, if_neg (fun h => d fun n hn => h n (List.mem_cons_of_mem _ hn))]
      · rw [if_neg (show ¬ ∀ n ∈ x.Nums[i] :: x.Nums.drop (i + 1), inR n from fun h => a (h _ List.mem_cons_self))]
        unfold inR at a
        by_cases a1 : x.Nums[i] < 0
        · rw [if_pos a1]
        · rw [if_neg a1, if_pos (by omega)]
    · rw [if_neg (by omega), List.drop_eq_nil_of_le (by omega), if_pos (by simp), List.map_nil, List.append_nil]
theorem numL_eq (N : List Int) (h : ∀ n ∈ N, inR n) : (N.map itoaB).map numsOf = numL N := by
  unfold numL
  rw [List.map_map]
  apply List.map_congr_left
  intro n hn
  exact itoaB_nums n (h n hn).1
theorem numL_len (N : List Int) (h : ∀ n ∈ N, inR n) : ∀ y ∈ numL N, y.length ≤ 60000 := by
  intro y hy
  obtain ⟨n, hn, rfl⟩ := List.mem_map.1 hy
  have := digs10 (h n hn).1 (h n hn).2
  omega
theorem items_len (x : T25) (f : T47) (ht : x.Text.size ≤ 20000) (hN : x.Nums.length ≤ 6) (h : ∀ n ∈ x.Nums, inR n) : (joinL (items x f)).length ≤ 1000000 := by
  have := joinL_len (items x f) 60000 (by
    intro y hy
    unfold items at hy
    rcases List.mem_append.1 hy with hy | hy
    · exact numL_len _ h y hy
    · split at hy
      · rw [List.mem_singleton.1 hy]
        have := encT_len (numsOf x.Text)
        rw [numsOf_len] at this
        omega
      · cases hy)
  have hl : (items x f).length ≤ 7 := by
    unfold items numL
    rw [List.length_append, List.length_map]
    split <;> simp <;> omega
  have : (items x f).length * 60001 ≤ 7 * 60001 := Nat.mul_le_mul_right _ hl
  omega
theorem own_line (K : Nat) (hK : 30000 ≤ K) (x : T25) (ht : x.Text.size ≤ 20000) : line_Step_Line K x = some (lineF x) := by
  unfold line_Step_Line lineF
  rw [find_eq K (by omega), bS]
  cases hf : findF x.Word with
  | none => rfl
  | some f =>
    obtain ⟨e1, e2, e3, e4⟩ := find_some hf
    dsimp only [fnd]
    rw [Bool.not_true, cond_false, cN]
    by_cases a : (x.Nums.length : Int) = f.nums
    · rw [if_pos a]
      have hj1 : (f.text = true ∨ x.Text = ⟨#[]⟩) → line_Step_Line_j1 K x (f, true) = some (if fits x f ∧ (lineL x f).length ≤ 4000 then strOfNums (lineL x f) else ⟨#[]⟩) := by
        intro hT
        unfold line_Step_Line_j1
        have h4 := own_l4 K x (f, true) (by omega) K 0 [] (by omega) (by omega) (by simp)
        rw [List.drop_zero, List.nil_append] at h4
        rw [show (0 : Int) = ((0 : Nat) : Int) from rfl, h4]
        by_cases c : ∀ n ∈ x.Nums, inR n
        · rw [if_pos c]
          have hfit : fits x f := ⟨a, hT, c⟩
          have hil := items_len x f ht (by omega) c
          unfold line_Step_Line_j2
          dsimp only
          rw [cB]
          by_cases d : f.text = true
          · have hit : ((x.Nums.map itoaB) ++ [strOfNums (encT (numsOf x.Text))]).map numsOf = items x f := by
              unfold items
              rw [List.map_append, numL_eq _ c, if_pos d, List.map_cons, List.map_nil, nums_of_str _ (encT_256 _ (nums_b _))]
            rw [if_pos d, write_eq K _ (by omega) (by omega), bS, if_pos (by simp; omega), own_j3 x _ e2 (by simp; omega) (by rw [hit]; exact hil), hit]
            change some (if (lineL x f).length ≤ 4000 then strOfNums (lineL x f) else ⟨#[]⟩) = _
            by_cases g : (lineL x f).length ≤ 4000
            · rw [if_pos g, if_pos ⟨hfit, g⟩]
            · rw [if_neg g, if_neg (fun hh => g hh.2)]
          · have hit : (x.Nums.map itoaB).map numsOf = items x f := by
              unfold items
              rw [numL_eq _ c, if_neg d, List.append_nil]
            rw [if_neg d, own_j3 x _ e2 (by simp; omega) (by rw [hit]; exact hil), hit]
            change some (if (lineL x f).length ≤ 4000 then strOfNums (lineL x f) else ⟨#[]⟩) = _
            by_cases g : (lineL x f).length ≤ 4000
            · rw [if_pos g, if_pos ⟨hfit, g⟩]
            · rw [if_neg g, if_neg (fun hh => g hh.2)]
        · rw [if_neg c, if_neg (fun hh => c hh.1.2.2)]
      rw [cNB, cSN]
      by_cases d : f.text = true
      · rw [if_pos d]; exact hj1 (.inl d)
      · rw [if_neg d]
        by_cases g : x.Text = ⟨#[]⟩
        · rw [if_pos g]; exact hj1 (.inr g)
        · rw [if_neg g, if_neg (fun hh => by rcases hh.1.2.1 with h | h; exact d h; exact g h)]
    · rw [if_neg a, if_neg (fun hh => a hh.1.1)]
end Go.Proofs.YtmolecadkgffkaaDoor.Pure
