/- Plain laws: what the plain functions answer, with no program in sight. -/
import Derived.Test.YtmolecadkgffkaaDoorPD
set_option linter.unusedVariables false
set_option linter.unusedSimpArgs false
namespace Go.Proofs.YtmolecadkgffkaaDoor.Pure
open Go Go.Proofs.XC Go.Proofs.YtmolecadkgffkaaDoor

/-! ### The reference's line -/
theorem joinL_snoc (A : List (List Int)) (e : List Int) : joinL (A ++ [e]) = joinL A ++ (if A = [] then [] else [44]) ++ e := by
  cases A with
  | nil => simp [joinL, tailL]
  | cons a r =>
    rw [if_neg (by simp)]
    show a ++ tailL (r ++ [e]) = a ++ tailL r ++ [44] ++ e
    unfold tailL
    rw [List.flatMap_append]
    simp [List.append_assoc]
theorem size_nums (s : ByteArray) : s.size = (numsOf s).length := (numsOf_len s).symm
/-- What is added from the i-th number on. -/
def restL (i : Nat) (N : List Int) : List Int := if i = 0 then joinL (numL N) else tailL (numL N)
theorem restL_step (i : Nat) (n : Int) (N : List Int) : restL i (n :: N) = (if i = 0 then [] else [44]) ++ digs n.toNat ++ restL (i + 1) N := by
  unfold restL numL
  rw [if_neg (show ¬ i + 1 = 0 by omega)]
  by_cases h : i = 0
  · rw [if_pos h, if_pos h]; rfl
  · rw [if_neg h, if_neg h]
    unfold tailL
    rw [List.map_cons, List.flatMap_cons]
    simp
theorem ref_l5 (K : Nat) (x : T25) (t : Int × Bool) (hx : x.Nums.length ≤ 6) : ∀ (k i : Nat) (a : ByteArray), x.Nums.length < k + i → i ≤ x.Nums.length → a.size ≤ 100 + 11 * i →
    tidewrackref27_Line_l5 K x t k a i = if ∀ n ∈ x.Nums.drop i, inR n then tidewrackref27_Line_j2 K x t (a ++ strOfNums (restL i (x.Nums.drop i))) else some ⟨#[]⟩
  | 0, i, a, h1, h2, h3 => by omega
  | k + 1, i, a, h1, h2, h3 => by
    have ih := ref_l5 K x t hx k
    unfold tidewrackref27_Line_l5
    rw [cD]
    by_cases c : i < x.Nums.length
    · have hw : IntKind.wrap .i64 ((i : Int) + 1) = ((i + 1 : Nat) : Int) := by rw [w64 (by omega) (by omega)]; omega
      have hdrop : x.Nums.drop i = x.Nums[i] :: x.Nums.drop (i + 1) := List.drop_eq_getElem_cons c
      have hmem : x.Nums[i] ∈ x.Nums.drop i := by rw [hdrop]; exact List.mem_cons_self
      rw [if_pos (by omega), if_pos (by omega), rdD_get _ _ c, cD, cD]
      by_cases r : inR x.Nums[i]
      · have a1 := r.1; have a2 := r.2
        have hd := digs10 a1 a2
        have hib := itoaB_nums _ a1
        have his : (itoaB x.Nums[i]).size ≤ 10 := by rw [size_nums, hib]; omega
        have s44 : (⟨#[44]⟩ : ByteArray).size = 1 := rfl
        have hB : B256 (digs x.Nums[i].toNat) := fun z hz => by have := digs_range _ z hz; omega
        rw [if_neg (by omega), if_neg (by omega)]
        unfold tidewrackref27_Line_j6
        rw [cD, rdD_get _ _ c, itoa_eq _ a1 a2, bS, bS, hw]
        have key : ∀ b : ByteArray, b.size ≤ 100 + 11 * (i + 1) → numsOf b = numsOf a ++ ((if i = 0 then [] else [44]) ++ digs x.Nums[i].toNat) →
            tidewrackref27_Line_l5 K x t k b ((i + 1 : Nat) : Int) = if ∀ n ∈ x.Nums.drop i, inR n then tidewrackref27_Line_j2 K x t (a ++ strOfNums (restL i (x.Nums.drop i))) else some ⟨#[]⟩ := by
          intro b hb he
          rw [ih (i + 1) b (by omega) (by omega) hb]
          by_cases d : ∀ n ∈ x.Nums.drop (i + 1), inR n
          · rw [if_pos d, if_pos (show ∀ n ∈ x.Nums.drop i, inR n from fun n hn => by rw [hdrop] at hn; rcases List.mem_cons.1 hn with rfl | hn; exact r; exact d n hn)]
            congr 1
            rw [hdrop, restL_step, str_app, ← ByteArray.append_assoc]
            congr 1
            apply nums_inj
            rw [he, nums_app, nums_of_str]
            intro z hz
            rcases List.mem_append.1 hz with hz | hz
            · split at hz
              · cases hz
              · rw [List.mem_singleton.1 hz]; omega
            · exact hB z hz
          · rw [if_neg d, if_neg (show ¬ ∀ n ∈ x.Nums.drop i, inR n from fun h => d fun n hn => h n (by rw [hdrop]; exact List.mem_cons_of_mem _ hn))]
        by_cases e : i = 0
        · rw [if_neg (by omega), if_pos (by omega)]
          exact key _ (by rw [app_size]; omega) (by rw [nums_app, hib, if_pos e]; rfl)
        · rw [if_pos (by omega), if_pos (by rw [s44]; omega), if_pos (by rw [app_size, s44]; omega)]
          exact key _ (by rw [app_size, app_size, s44]; omega) (by rw [nums_app, nums_app, hib, if_neg e, List.append_assoc]; rfl)
      · rw [if_neg (show ¬ ∀ n ∈ x.Nums.drop i, inR n from fun h => r (h _ hmem))]
        unfold inR at r
        by_cases a1 : x.Nums[i] < 0
        · rw [if_pos a1]
        · rw [if_neg a1, if_pos (by omega)]
    · rw [if_neg (by omega), List.drop_eq_nil_of_le (by omega), if_pos (by simp)]
      have : strOfNums (restL i []) = ⟨#[]⟩ := by unfold restL numL; split <;> rfl
      rw [this]
      congr 1
      exact nums_inj (by rw [nums_app]; exact (List.append_nil _).symm)
theorem ref_j3 (K : Nat) (hK : 30000 ≤ K) (x : T25) (ht : x.Text.size ≤ 20000) (a : ByteArray) (ha : a.size ≤ 1000) : tidewrackref27_Line_j3 K x a = some (if (numsOf a ++ encT (numsOf x.Text) ++ [41]).length ≤ 4000 then strOfNums (numsOf a ++ encT (numsOf x.Text) ++ [41]) else ⟨#[]⟩) := by
  have he := encT_len (numsOf x.Text)
  rw [numsOf_len] at he
  have s41 : (⟨#[41]⟩ : ByteArray).size = 1 := rfl
  have hz := str_len (encT (numsOf x.Text))
  unfold tidewrackref27_Line_j3
  rw [text_eq K _ (by omega) (by omega), bS, if_pos (by rw [hz, s41]; omega), if_pos (by rw [app_size, hz, s41]; omega), cD]
  have hR : numsOf (a ++ (strOfNums (encT (numsOf x.Text)) ++ (⟨#[41]⟩ : ByteArray))) = numsOf a ++ encT (numsOf x.Text) ++ [41] := by
    rw [nums_app, nums_app, nums_of_str _ (encT_256 _ (nums_b _)), List.append_assoc]; rfl
  rw [size_nums, hR]
  by_cases c : (numsOf a ++ encT (numsOf x.Text) ++ [41]).length ≤ 4000
  · rw [if_neg (by omega), if_pos c, ← hR, str_nums]
  · rw [if_pos (by omega), if_neg c]
theorem restL_len (N : List Int) (hN : N.length ≤ 6) (h : ∀ n ∈ N, inR n) : (restL 0 N).length ≤ 100 := by
  unfold restL
  rw [if_pos rfl]
  have := joinL_len (numL N) 10 (by
    intro y hy
    obtain ⟨n, hn, rfl⟩ := List.mem_map.1 hy
    exact (digs10 (h n hn).1 (h n hn).2).1)
  unfold numL at this ⊢
  rw [List.length_map] at this
  omega
theorem numL_256 (N : List Int) : B256 (restL 0 N) := by
  unfold restL
  rw [if_pos rfl]
  have h1 : ∀ M : List Int, B256 (tailL (numL M)) := by
    intro M c hc
    unfold tailL at hc
    obtain ⟨y, hy, hc⟩ := List.mem_flatMap.1 hc
    obtain ⟨n, hn, rfl⟩ := List.mem_map.1 hy
    rcases List.mem_cons.1 hc with rfl | hc
    · omega
    · have := digs_range _ c hc; omega
  cases N with
  | nil => intro c hc; cases hc
  | cons n M =>
    intro c hc
    rcases List.mem_append.1 (show c ∈ digs n.toNat ++ tailL (numL M) from hc) with hc | hc
    · have := digs_range _ c hc; omega
    · exact h1 M c hc
theorem ref_line (K : Nat) (hK : 30000 ≤ K) (x : T25) (ht : x.Text.size ≤ 20000) : tidewrackref27_Line K x = some (lineF x) := by
  unfold tidewrackref27_Line lineF
  rw [form_eq, bS]
  cases hf : findF x.Word with
  | none => rfl
  | some f =>
    obtain ⟨e1, e2, e3, e4⟩ := find_some hf
    rw [show frm (some f) = (f.nums, f.text) from rfl]
    dsimp only
    rw [cD, if_neg (by omega), cN]
    by_cases a : (x.Nums.length : Int) = f.nums
    · rw [if_pos a]
      have s40 : (⟨#[40]⟩ : ByteArray).size = 1 := rfl
      have s44 : (⟨#[44]⟩ : ByteArray).size = 1 := rfl
      have hj1 : (f.text = true ∨ x.Text = ⟨#[]⟩) → tidewrackref27_Line_j1 K x (f.nums, f.text) = some (if fits x f ∧ (lineL x f).length ≤ 4000 then strOfNums (lineL x f) else ⟨#[]⟩) := by
        intro hT
        unfold tidewrackref27_Line_j1
        have h5 := ref_l5 K x (f.nums, f.text) (by omega) K 0 (x.Word ++ ⟨#[40]⟩) (by omega) (by omega) (by rw [app_size, s40]; omega)
        rw [List.drop_zero] at h5
        rw [if_pos (by rw [s40]; omega), show (0 : Int) = ((0 : Nat) : Int) from rfl, h5]
        by_cases c : ∀ n ∈ x.Nums, inR n
        · rw [if_pos c]
          have hfit : fits x f := ⟨a, hT, c⟩
          have hrl := restL_len x.Nums (by omega) c
          have hz : (strOfNums (restL 0 x.Nums)).size ≤ 100 := by rw [str_len]; exact hrl
          have hnA : numsOf ((x.Word ++ (⟨#[40]⟩ : ByteArray)) ++ strOfNums (restL 0 x.Nums)) = numsOf x.Word ++ [40] ++ joinL (numL x.Nums) := by
            rw [nums_app, nums_app, nums_of_str _ (numL_256 _)]; rfl
          have fin : ∀ b : ByteArray, b.size ≤ 1000 → numsOf b ++ encT (numsOf x.Text) ++ [41] = lineL x f → tidewrackref27_Line_j3 K x b = some (if fits x f ∧ (lineL x f).length ≤ 4000 then strOfNums (lineL x f) else ⟨#[]⟩) := by
            intro b hb he
            rw [ref_j3 K hK x ht b hb, he]
            by_cases g : (lineL x f).length ≤ 4000
            · rw [if_pos g, if_pos ⟨hfit, g⟩]
            · rw [if_neg g, if_neg (fun hh => g hh.2)]
          have hsz : ((x.Word ++ (⟨#[40]⟩ : ByteArray)) ++ strOfNums (restL 0 x.Nums)).size ≤ 200 := by rw [app_size, app_size, s40]; omega
          unfold tidewrackref27_Line_j2
          dsimp only
          rw [cB]
          by_cases d : f.text = true
          · rw [if_pos d]
            unfold tidewrackref27_Line_j4
            rw [cD]
            by_cases g : f.nums > 0
            · rw [if_pos g, if_pos (by rw [s44]; omega)]
              refine fin _ (by rw [app_size, s44]; omega) ?_
              have hne : numL x.Nums ≠ [] := by
                intro hh
                have := congrArg List.length hh
                unfold numL at this
                simp at this
                rw [this] at a
                simp at a
                omega
              unfold lineL items
              rw [nums_app, hnA, if_pos d, joinL_snoc, if_neg hne]
              simp only [List.append_assoc]
              rfl
            · rw [if_neg g]
              refine fin _ (by omega) ?_
              have hne : x.Nums = [] := List.eq_nil_of_length_eq_zero (by omega)
              unfold lineL items
              rw [hnA, if_pos d, hne]
              simp [numL, joinL, tailL]
          · rw [if_neg d]
            unfold tidewrackref27_Line_j4
            rw [cond_false]
            refine fin _ (by omega) ?_
            have hT' : x.Text = ⟨#[]⟩ := hT.resolve_left d
            unfold lineL items
            rw [hnA, if_neg d, hT', List.append_nil]
            show numsOf x.Word ++ [40] ++ joinL (numL x.Nums) ++ [] ++ [41] = _
            rw [List.append_nil]
        · rw [if_neg c, if_neg (fun hh => c hh.1.2.2)]
      rw [cNB, cSN]
      by_cases d : f.text = true
      · rw [if_pos d]; exact hj1 (.inl d)
      · rw [if_neg d]
        by_cases g : x.Text = ⟨#[]⟩
        · rw [if_pos g]; exact hj1 (.inr g)
        · rw [if_neg g, if_neg (fun hh => by rcases hh.1.2.1 with h | h; exact d h; exact g h)]
    · rw [if_neg a, if_neg (fun hh => a hh.1.1)]
end Go.Proofs.YtmolecadkgffkaaDoor.Pure
