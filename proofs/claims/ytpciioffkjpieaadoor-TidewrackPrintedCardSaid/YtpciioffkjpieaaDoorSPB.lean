/- Plain laws: what the plain functions answer, with no program in sight. -/
import Derived.Test.YtpciioffkjpieaaDoorSPA
set_option linter.unusedVariables false
set_option linter.unusedSimpArgs false
namespace Go.Proofs.YtpciioffkjpieaaDoor.Pure
open Go Go.Proofs.XC Go.Proofs.YtpciioffkjpieaaDoor

theorem str_append (a b : List Int) : strOfNums (a ++ b) = strOfNums a ++ strOfNums b := by
  simp only [strOfNums, List.map_append]
  apply ByteArray.ext
  rw [ByteArray.data_append]
  simp
theorem nums_str (l : List Int) (h : Bytes l) : numsOf (strOfNums l) = l := by
  simp only [numsOf, strOfNums, List.toList_toArray, List.map_map]
  conv => rhs; rw [← List.map_id l]
  apply List.map_congr_left
  intro x hx
  have := h x hx
  simp only [Function.comp, UInt8.toNat_ofNat']
  simp only [id]
  omega
theorem str_size (l : List Int) : (strOfNums l).size = l.length := by
  show (List.map _ l).toArray.size = _
  simp
theorem nums_append (a b : ByteArray) : numsOf (a ++ b) = numsOf a ++ numsOf b := by
  simp only [numsOf, ByteArray.data_append, Array.toList_append, List.map_append]
theorem nums_extract (s : ByteArray) (i j : Nat) : numsOf (s.extract i j) = ((numsOf s).take j).drop i := by
  simp only [numsOf, ByteArray.data_extract, Array.toList_extract, List.map_take, List.map_drop, List.extract_eq_take_drop]
  rw [List.drop_take]
def cutF (s : ByteArray) (n : Nat) : ByteArray := if s.size > n then s.extract 0 n else s
theorem cut_size (s : ByteArray) (n : Nat) : (cutF s n).size ≤ n := by
  unfold cutF; split
  · simp [ByteArray.size_extract]; omega
  · omega
def Nums64 (l : List Int) : Prop := ∀ x ∈ l, -9223372036854775808 ≤ x ∧ x ≤ 9223372036854775807
/-! ### Encoding -/
def fixR (r : Int) : Int := if r < 0 ∨ r > 1114111 ∨ (55296 ≤ r ∧ r ≤ 57343) then 65533 else r
def encB (r : Int) : List Int :=
  if r < 128 then [r] else if r < 2048 then [192 + r / 64, 128 + r % 64] else if r < 65536 then [224 + r / 4096, 128 + r / 64 % 64, 128 + r % 64]
  else [240 + r / 262144, 128 + r / 4096 % 64, 128 + r / 64 % 64, 128 + r % 64]
def encF (r : Int) : List Int := encB (fixR r)
theorem fix_range (r : Int) : 0 ≤ fixR r ∧ fixR r ≤ 1114111 ∧ ¬(55296 ≤ fixR r ∧ fixR r ≤ 57343) := by unfold fixR; split <;> omega
theorem enc_bytes (r : Int) : Bytes (encF r) ∧ (encF r).length ≤ 4 := by
  have := fix_range r
  unfold encF encB Bytes
  generalize fixR r = x at *
  split
  · simp; omega
  · split
    · simp; omega
    · split
      · simp; omega
      · simp; omega
theorem tm (x k : Int) (hx : 0 ≤ x) : Int.tmod x k = x % k := Int.tmod_eq_emod_of_nonneg hx
theorem td (x k : Int) (hx : 0 ≤ x) : Int.tdiv x k = x / k := Int.tdiv_eq_ediv_of_nonneg hx
theorem penc_step (l : List Int) (x : Int) (i : Int) (lp : List Int → Int → Option ByteArray) (hl : l.length ≤ 1000000) (h0 : 0 ≤ x) (h1 : x ≤ 1114111) :
    glyph_Encode_j3 l i lp x = lp (l ++ encB x) (IntKind.wrap .i64 (i + 1)) := by
  have m : ∀ y : Int, 0 ≤ y → y < 2147483648 → bits .and .i32 y 63 = y % 64 := fun y a b => bits_mask .i32 31 (by decide) wraps_i32 6 (by decide) y a b
  have or128 : ∀ y : Int, 0 ≤ y → y < 64 → bits .or .i32 128 y = 128 + y := fun y a b => bits_join .i32 31 (by decide) wraps_i32 6 128 y (by omega) (by decide) (by omega) a (by omega) (by omega)
  have or192 : ∀ y : Int, 0 ≤ y → y < 32 → bits .or .i32 192 y = 192 + y := fun y a b => bits_join .i32 31 (by decide) wraps_i32 5 192 y (by omega) (by decide) (by omega) a (by omega) (by omega)
  have or224 : ∀ y : Int, 0 ≤ y → y < 16 → bits .or .i32 224 y = 224 + y := fun y a b => bits_join .i32 31 (by decide) wraps_i32 4 224 y (by omega) (by decide) (by omega) a (by omega) (by omega)
  have or240 : ∀ y : Int, 0 ≤ y → y < 8 → bits .or .i32 240 y = 240 + y := fun y a b => bits_join .i32 31 (by decide) wraps_i32 3 240 y (by omega) (by decide) (by omega) a (by omega) (by omega)
  have s6 : Int.fdiv x (2 ^ min (Int.toNat 6) 32) = x / 64 := Int.fdiv_eq_ediv_of_nonneg _ (by decide)
  have s12 : Int.fdiv x (2 ^ min (Int.toNat 12) 32) = x / 4096 := Int.fdiv_eq_ediv_of_nonneg _ (by decide)
  have s18 : Int.fdiv x (2 ^ min (Int.toNat 18) 32) = x / 262144 := Int.fdiv_eq_ediv_of_nonneg _ (by decide)
  simp only [glyph_Encode_j3, cD, s6, s12, s18, m x h0 (by omega), m (x / 64) (by omega) (by omega), m (x / 4096) (by omega) (by omega), encB]
  by_cases c1 : x < 128
  · rw [if_pos c1, if_pos c1, if_pos (by simp; omega), wu8 (by omega) (by omega)]
  · rw [if_neg c1, if_neg c1]
    by_cases c2 : x < 2048
    · rw [if_pos c2, if_pos c2, if_pos (by simp; omega), or192 _ (by omega) (by omega), or128 _ (by omega) (by omega)]
      simp (disch := omega) only [wu8]
    · rw [if_neg c2, if_neg c2]
      by_cases c3 : x < 65536
      · rw [if_pos c3, if_pos c3, if_pos (by simp; omega), or224 _ (by omega) (by omega), or128 _ (by omega) (by omega), or128 _ (by omega) (by omega)]
        simp (disch := omega) only [wu8]
      · rw [if_neg c3, if_neg c3, if_pos (by simp; omega), or240 _ (by omega) (by omega), or128 _ (by omega) (by omega), or128 _ (by omega) (by omega), or128 _ (by omega) (by omega)]
        simp (disch := omega) only [wu8]
theorem penc_loop (p : List Int) (hp : p.length ≤ 1000) : ∀ (k : Nat) (l : List Int) (i : Nat), p.length < k + i → i ≤ p.length → l.length ≤ 4 * i → glyph_Encode_l2 p k l i = some (strOfNums (l ++ (p.drop i).flatMap encF))
  | 0, l, i, h, h', hl => by omega
  | k + 1, l, i, h, h', hl => by
    have ih := penc_loop p hp k
    unfold glyph_Encode_l2
    by_cases hi : i < p.length
    · have hw : IntKind.wrap .i64 ((i : Int) + 1) = ((i + 1 : Nat) : Int) := by rw [w64 (by omega) (by omega)]; omega
      rw [List.drop_eq_getElem_cons hi]
      have fin : (l ++ List.flatMap encF (p[i] :: List.drop (i + 1) p)) = (l ++ encF p[i]) ++ List.flatMap encF (List.drop (i + 1) p) := by simp only [List.flatMap_cons, List.append_assoc]
      have hb := (enc_bytes p[i]).2
      have hfx := fix_range p[i]
      have st : glyph_Encode_j3 l i (glyph_Encode_l2 p k) (fixR p[i]) = some (strOfNums (l ++ List.flatMap encF (p[i] :: List.drop (i + 1) p))) := by
        rw [penc_step l _ i _ (by omega) hfx.1 hfx.2.1, hw, fin]
        exact ih _ (i + 1) (by omega) (by omega) (by simp; unfold encF at hb; omega)
      simp only [cD, rdD_get 0 p hi]
      rw [if_pos (by omega), if_pos (by omega)]
      rw [← st]
      unfold fixR
      grind
    · simp only [cD]
      rw [if_neg (by omega), List.drop_eq_nil_of_le (by omega)]
      simp [glyph_Encode_j1]
theorem penc_eq (K : Nat) (p : List Int) (hp : p.length ≤ 1000) (hK : p.length < K) : glyph_Encode K p = some (strOfNums (p.flatMap encF)) := by
  have := penc_loop p hp K [] 0 (by omega) (by omega) (by simp)
  unfold glyph_Encode
  simpa using this
end Go.Proofs.YtpciioffkjpieaaDoor.Pure
