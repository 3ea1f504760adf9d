/- Words of an own calculus over the model: how a call's frame, rows and boxes go through its operations. -/
import Derived.Test.YtmgopcmdljhjoaaY20
import Derived.Test.YtmgopcmdljhjoaaY16
import Derived.Laws.BitsLemmas
set_option linter.unusedSimpArgs false
set_option linter.unusedVariables false
namespace Go.Proofs.XC
open Go

/-! ### Texts and their bytes, in words -/
def B256 (l : List Int) : Prop := ∀ c ∈ l, 0 ≤ c ∧ c < 256
theorem B256.append {a b : List Int} (ha : B256 a) (hb : B256 b) : B256 (a ++ b) := fun c hc => (List.mem_append.1 hc).elim (ha c) (hb c)
theorem B256.left {a b : List Int} (h : B256 (a ++ b)) : B256 a := fun c hc => h c (List.mem_append_left _ hc)
theorem B256.right {a b : List Int} (h : B256 (a ++ b)) : B256 b := fun c hc => h c (List.mem_append_right _ hc)
theorem nums_get (s : ByteArray) (i : Nat) (h : i < s.size) : (numsOf s)[i]'(by rw [numsOf_len]; exact h) = bt s i := by
  simp only [numsOf, bt, List.getElem_map, Int.toNat_natCast, h, dif_pos]
  rfl
theorem nums_b (s : ByteArray) : B256 (numsOf s) := by
  intro c hc
  simp only [numsOf, List.mem_map] at hc
  obtain ⟨b, _, rfl⟩ := hc
  have := b.toNat_lt
  omega
theorem bt_range (s : ByteArray) (i : Nat) (h : i < s.size) : 0 ≤ bt s i ∧ bt s i < 256 := nums_b s _ (by rw [← nums_get s i h]; exact List.getElem_mem _)
theorem str_app (a b : List Int) : strOfNums (a ++ b) = strOfNums a ++ strOfNums b := by
  simp only [strOfNums, List.map_append]
  apply ByteArray.ext
  rw [ByteArray.data_append]
  simp
theorem nums_of_str (l : List Int) (h : B256 l) : numsOf (strOfNums l) = l := by
  simp only [numsOf, strOfNums, List.toList_toArray, List.map_map]
  conv => rhs; rw [← List.map_id l]
  apply List.map_congr_left
  intro x hx
  have := h x hx
  simp only [Function.comp, UInt8.toNat_ofNat']
  simp only [id]
  omega
theorem nums_app (a b : ByteArray) : numsOf (a ++ b) = numsOf a ++ numsOf b := by
  simp only [numsOf, ByteArray.data_append, Array.toList_append, List.map_append]
theorem nums_ext (s : ByteArray) (i j : Nat) : numsOf (s.extract i j) = ((numsOf s).take j).drop i := by
  simp only [numsOf, ByteArray.data_extract, Array.toList_extract, List.map_take, List.map_drop, List.extract_eq_take_drop]
  rw [List.drop_take]
theorem nums_inj {a b : ByteArray} (h : numsOf a = numsOf b) : a = b := by
  apply str_ext
  refine List.map_inj_right (fun x y e => ?_) |>.1 h
  exact UInt8.toNat_inj.1 (by exact_mod_cast e)
theorem str_nums (s : ByteArray) : strOfNums (numsOf s) = s := nums_inj (nums_of_str _ (nums_b s))
theorem str_inj {a b : List Int} (ha : B256 a) (hb : B256 b) (h : strOfNums a = strOfNums b) : a = b := by rw [← nums_of_str a ha, ← nums_of_str b hb, h]
theorem str_len (l : List Int) : (strOfNums l).size = l.length := strOfNums_size l
theorem app_size (a b : ByteArray) : (a ++ b).size = a.size + b.size := ByteArray.size_append
theorem ext_size (s : ByteArray) (i j : Nat) : (s.extract i j).size = min j s.size - i := by simp [ByteArray.size_extract]
theorem cSN {α : Type} (x y : ByteArray) (a b : α) : (bif !(ByteArray.toList x == ByteArray.toList y) then a else b) = if x = y then b else a := by
  rw [str_eq]; by_cases h : x = y <;> simp [h]
theorem size_zero {s : ByteArray} (h : s.size = 0) : s = ⟨#[]⟩ := by
  apply nums_inj
  have h1 := numsOf_len s
  rw [h] at h1
  rw [List.eq_nil_of_length_eq_zero h1]
  rfl
/-! ### Whole numbers -/
theorem fdiv_nat (a k n m : Nat) (h : k < m) (hn : 2 ^ k = n) : Int.fdiv (a : Int) (2 ^ min (Int.toNat (k : Int)) m) = ((a / n : Nat) : Int) := by
  subst hn
  have : min (Int.toNat (k : Int)) m = k := by simp; omega
  rw [this, Int.fdiv_eq_ediv_of_nonneg _ (by exact_mod_cast Nat.zero_le _)]
  simp
theorem tdiv_nat (a k : Nat) : Int.tdiv (a : Int) (k : Int) = ((a / k : Nat) : Int) := by rw [Int.tdiv_eq_ediv_of_nonneg (by omega)]; simp
theorem tmod_nat (a k : Nat) : Int.tmod (a : Int) (k : Int) = ((a % k : Nat) : Int) := by rw [Int.tmod_eq_emod_of_nonneg (by omega)]; simp
end Go.Proofs.XC
