/- Plain laws: what the plain functions answer, with no program in sight. -/
import Derived.Test.YtpciioffkjpieaaDoorQPH
set_option linter.unusedVariables false
set_option linter.unusedSimpArgs false
namespace Go.Proofs.YtpciioffkjpieaaDoor.Pure
open Go Go.Proofs.XC Go.Proofs.YtpciioffkjpieaaDoor

/-! ### A datagram's bytes -/
def OKg (g : T76) : Prop := (1 ≤ g.Epoch ∧ g.Epoch ≤ 4294967296) ∧ (1 ≤ g.Kind ∧ g.Kind ≤ 4) ∧ g.Nums.length ≤ 64 ∧ ∀ n ∈ g.Nums, 0 ≤ n ∧ n ≤ 4611686018427387904
instance (g : T76) : Decidable (OKg g) := by unfold OKg; infer_instance
def body (g : T76) : List Int := catN [g.Epoch, g.Kind, (g.Nums.length : Int)] ++ catN g.Nums ++ (dg g.Data.size ++ numsOf g.Data)
def bytesF (g : T76) : ByteArray := sealF (strOfNums (body g))
def chk (g : T76) : Int := if OKg g then (if (bytesF g).size > 8192 then 3 else 0) else 6
structure Sm (g : T76) : Prop where
  n : g.Nums.length ≤ 66
  d : g.Data.size ≤ 20000
theorem within_eq (a b c : Int) : gram_within a b c = some (decide (b ≤ a ∧ a ≤ c)) := by
  unfold gram_within
  rw [cD]
  by_cases h : b ≤ a
  · rw [if_pos (by omega)]; simp [h]
  · rw [if_neg (by omega)]; simp [h]
theorem right_loop (g : T76) (h : g.Nums.length ≤ 66) : ∀ (k i : Nat), g.Nums.length < k + i → i ≤ g.Nums.length → gram_Gram_right_l3 g k i = some (decide (∀ n ∈ g.Nums.drop i, 0 ≤ n ∧ n ≤ 4611686018427387904))
  | 0, i, h1, h2 => by omega
  | k + 1, i, h1, h2 => by
    have ih := right_loop g h k
    unfold gram_Gram_right_l3
    rw [cD]
    by_cases hi : i < g.Nums.length
    · have hw : IntKind.wrap .i64 ((i : Int) + 1) = ((i + 1 : Nat) : Int) := by rw [w64 (by omega) (by omega)]; omega
      rw [if_pos (by omega), if_pos (by omega), rdD_get _ _ hi, within_eq, bS, cNB, hw, ih (i + 1) (by omega) (by omega), List.drop_eq_getElem_cons hi]
      simp only [List.forall_mem_cons, decide_eq_true_eq]
      by_cases c : 0 ≤ g.Nums[i] ∧ g.Nums[i] ≤ 4611686018427387904
      · rw [if_pos c]; congr 1; simp only [decide_eq_decide]; exact ⟨fun h => ⟨c, h⟩, fun h => h.2⟩
      · rw [if_neg c]; congr 1; symm; exact decide_eq_false fun h => c h.1
    · rw [if_neg (by omega), List.drop_eq_nil_of_le (by omega)]
      simp [gram_Gram_right_j2]
theorem right_eq (K : Nat) (hK : 100 ≤ K) (g : T76) (h : Sm g) : gram_Gram_right K g = some (decide (OKg g)) := by
  unfold gram_Gram_right gram_Gram_right_j1
  have hl := right_loop g h.n K 0 (by have := h.n; omega) (by omega)
  rw [show ((0 : Nat) : Int) = 0 from rfl, List.drop_zero] at hl
  rw [within_eq, bS, cNB, within_eq, bS, cNB, cD, hl]
  unfold OKg
  simp only [decide_eq_true_eq]
  by_cases c1 : 1 ≤ g.Epoch ∧ g.Epoch ≤ 4294967296
  · rw [if_pos c1]
    by_cases c2 : 1 ≤ g.Kind ∧ g.Kind ≤ 4
    · rw [if_pos c2]
      by_cases c3 : g.Nums.length ≤ 64
      · rw [if_neg (by omega)]; exact congrArg some (decide_eq_decide.2 ⟨fun h => ⟨c1, c2, c3, h⟩, fun h => h.2.2.2⟩)
      · rw [if_pos (by omega)]; congr 1; symm; exact decide_eq_false fun h => c3 h.2.2.1
    · rw [if_neg c2]; congr 1; symm; exact decide_eq_false fun h => c2 h.2.1
  · rw [if_neg c1]; congr 1; symm; exact decide_eq_false fun h => c1 h.1
theorem catT_one (s : ByteArray) : catT [s] = dg s.size ++ numsOf s := by simp [catT]
theorem body_len (g : T76) (h : Sm g) : (body g).length ≤ 21000 := by
  unfold body
  have h1 := catN_len [g.Epoch, g.Kind, (g.Nums.length : Int)]
  have h2 := catN_len g.Nums
  have h3 := (dg9 (n := g.Data.size) (by have := h.d; omega)).2.1
  have h4 := numsOf_len g.Data
  have := h.n; have := h.d
  simp only [List.length_append, List.length_cons, List.length_nil] at *
  omega
theorem body_b (g : T76) (h : Sm g) : B256 (body g) := ((catN_b _).append (catN_b _)).append ((dg9 (by have := h.d; omega)).1.append (nums_b _))
theorem bytes_eq (K : Nat) (hK : 100000 ≤ K) (g : T76) (h : Sm g) : gram_Gram_bytes K g = some (bytesF g) := by
  unfold gram_Gram_bytes
  have hn := h.n
  have hd := h.d
  have hl := body_len g h
  have h1 := catN_len [g.Epoch, g.Kind, (g.Nums.length : Int)]
  have h2 := catN_len g.Nums
  simp only [List.length_cons, List.length_nil] at h1
  rw [onum_eq K [] _ (by simp) (by simp only [List.length_cons, List.length_nil]; omega) (by simp), bS, List.nil_append, onum_eq K _ _ (by omega) (by omega) (by omega), bS,
    otext_eq K _ _ (by simp) (fun s hs => by simp only [List.mem_singleton] at hs; subst hs; omega) (by simp only [List.length_cons, List.length_nil]; omega) (by simp only [List.length_append]; omega), bS, num_Out_Bytes, bS]
  simp only [catT_one]
  rw [show catN [g.Epoch, g.Kind, (g.Nums.length : Int)] ++ catN g.Nums ++ (dg g.Data.size ++ numsOf g.Data) = body g from rfl, seal_eq K _ (by rw [str_len]; omega) (by rw [str_len]; omega) (by omega), bS]
  rfl
theorem check_eq (K : Nat) (hK : 100000 ≤ K) (g : T76) (h : Sm g) : gram_Gram_Check K g = some (chk g) := by
  unfold gram_Gram_Check chk
  rw [right_eq K (by omega) g h, bS, cNB, bytes_eq K hK g h, bS, cD]
  simp only [decide_eq_true_eq]
  by_cases c : OKg g
  · rw [if_pos c, if_pos c]
    by_cases c2 : (bytesF g).size > 8192
    · rw [if_pos (by omega), if_pos c2]
    · rw [if_neg (by omega), if_neg c2]
  · rw [if_neg c, if_neg c]
theorem pack_eq (K : Nat) (hK : 100000 ≤ K) (g : T76) (h : Sm g) : gram_Gram_Pack K g = some (if chk g = 0 then bytesF g else E0) := by
  unfold gram_Gram_Pack
  rw [check_eq K hK g h, bS, cN, bytes_eq K hK g h, bS]
  by_cases c : chk g = 0
  · rw [if_pos c, if_pos c]
  · rw [if_neg c, if_neg c]
/-! ### The document's -/
end Go.Proofs.YtpciioffkjpieaaDoor.Pure
