/- Plain laws: what the plain functions answer, with no program in sight. -/
import Derived.Test.YtpciioffkjpieaaDoorQPE
import Derived.KernelRfl
set_option linter.unusedVariables false
set_option linter.unusedSimpArgs false
namespace Go.Proofs.YtpciioffkjpieaaDoor.Pure
open Go Go.Proofs.XC Go.Proofs.YtpciioffkjpieaaDoor

/-! ### Texts as numbers below 256 -/
def nb (s : ByteArray) : List Nat := s.data.toList.map UInt8.toNat
def sOf (l : List Nat) : ByteArray := strOfNums (l.map fun (n : Nat) => (n : Int))
def B8 (l : List Nat) : Prop := ∀ x ∈ l, x < 256
theorem nb_len (s : ByteArray) : (nb s).length = s.size := by
  show (List.map _ _).length = s.data.size
  simp
theorem nb_b8 (s : ByteArray) : B8 (nb s) := by
  intro x hx
  obtain ⟨b, _, rfl⟩ := List.mem_map.1 hx
  exact b.toNat_lt
theorem nb_get (s : ByteArray) (i : Nat) (h : i < s.size) : bt s (i : Int) = (((nb s)[i]'(by rw [nb_len]; exact h) : Nat) : Int) := by
  simp only [nb, bt, List.getElem_map, Int.toNat_natCast, h, dif_pos]
  rfl
theorem nb_inj {a b : ByteArray} (h : nb a = nb b) : a = b := by
  apply str_ext
  exact List.map_inj_right (fun x y e => UInt8.toNat_inj.1 e) |>.1 h
theorem nb_append (a b : ByteArray) : nb (a ++ b) = nb a ++ nb b := by
  simp only [nb, ByteArray.data_append, Array.toList_append, List.map_append]
theorem nb_extract (s : ByteArray) (i j : Nat) : nb (s.extract i j) = ((nb s).take j).drop i := by
  simp only [nb, ByteArray.data_extract, Array.toList_extract, List.map_take, List.map_drop, List.extract_eq_take_drop]
  rw [List.drop_take]
theorem nb_sOf (l : List Nat) (h : B8 l) : nb (sOf l) = l := by
  simp only [nb, sOf, strOfNums, List.toList_toArray, List.map_map]
  conv => rhs; rw [← List.map_id l]
  apply List.map_congr_left
  intro x hx
  have := h x hx
  simp only [Function.comp, UInt8.toNat_ofNat', Int.toNat_natCast, id]
  omega
theorem sOf_size (l : List Nat) : (sOf l).size = l.length := by
  show (List.map _ (List.map _ l)).toArray.size = _
  simp
theorem sOf_nb (s : ByteArray) : sOf (nb s) = s := nb_inj (nb_sOf _ (nb_b8 s))

/-! ### The sum -/
def crc : Nat → List Nat → Nat
  | x, [] => x
  | x, b :: l => crc (stn 8 (x ^^^ b)) l
theorem crc_append : ∀ (a : List Nat) (x : Nat) (b : List Nat), crc x (a ++ b) = crc (crc x a) b
  | [], x, b => rfl
  | c :: a, x, b => by simp only [List.cons_append, crc, crc_append a]
theorem crc_lt : ∀ (l : List Nat) (x : Nat), x < 2 ^ 32 → B8 l → crc x l < 2 ^ 32
  | [], x, h, _ => h
  | b :: l, x, h, hb => crc_lt l _ (stn_lt 8 (Nat.xor_lt_two_pow h (by have := hb b (by simp); omega))) (fun y hy => hb y (by simp [hy]))
def ones : Nat := 4294967295
def sumF (l : List Nat) : Nat := ones ^^^ crc ones l
theorem sumF_lt (l : List Nat) (h : B8 l) : sumF l < 2 ^ 32 := Nat.xor_lt_two_pow (by decide) (crc_lt l _ (by decide) h)
theorem ones_sub (x : Nat) (h : x < 2 ^ 32) : ones ^^^ x = 4294967295 - x := by
  have e : 4294967295 - x = 2 ^ 32 - (x + 1) := by omega
  rw [e, show ones = 2 ^ 32 - 1 from rfl]
  apply Nat.eq_of_testBit_eq
  intro i
  rw [Nat.testBit_xor, Nat.testBit_two_pow_sub_one, Nat.testBit_two_pow_sub_succ h]
  by_cases hi : i < 32
  · simp [hi]
  · have : x.testBit i = false := Nat.testBit_lt_two_pow (Nat.lt_of_lt_of_le h (Nat.pow_le_pow_right (by decide) (by omega)))
    simp [hi, this]
theorem of_inner (l : List ByteArray) (i : Nat) (lp : Int → Int → Option Int) (s : ByteArray) (hs : rdD (⟨#[]⟩ : ByteArray) l (i : Int) = s) (hsz : s.size ≤ 1000000) : ∀ (k x j : Nat), s.size < k + j → j ≤ s.size → x < 2 ^ 32 →
    sum_Of_l4 l i lp k x j = lp ((crc x ((nb s).drop j) : Nat) : Int) (IntKind.wrap .i64 ((i : Int) + 1))
  | 0, x, j, h, h', hx => by omega
  | k + 1, x, j, h, h', hx => by
    have ih := of_inner l i lp s hs hsz k
    have hN := nb_len s
    unfold sum_Of_l4
    rw [hs]
    by_cases hj : j < s.size
    · have hw : IntKind.wrap .i64 ((j : Int) + 1) = ((j + 1 : Nat) : Int) := by rw [w64 (by omega) (by omega)]; omega
      have hb := nb_b8 s _ (List.getElem_mem (by omega : j < (nb s).length))
      rw [List.drop_eq_getElem_cons (by omega : j < (nb s).length), nb_get s j hj]
      simp only [cD, hw, step_eq x _ hx hb, bS, crc]
      rw [if_pos (by omega), if_pos (by omega)]
      exact ih _ (j + 1) (by omega) (by omega) (stn_lt 8 (Nat.xor_lt_two_pow hx (by omega)))
    · simp only [cD]
      rw [if_neg (by omega), List.drop_eq_nil_of_le (by omega)]
      rfl
theorem flat_b8 (l : List ByteArray) : B8 (l.flatMap nb) := by
  intro x hx
  obtain ⟨s, _, h⟩ := List.mem_flatMap.1 hx
  exact nb_b8 s x h
theorem of_outer (K : Nat) (p : List ByteArray) (hp : p.length ≤ 1000000) (hs : ∀ s ∈ p, s.size ≤ 1000000 ∧ s.size < K) : ∀ (k x i : Nat), p.length < k + i → i ≤ p.length → x < 2 ^ 32 →
    sum_Of_l2 K p k x i = some ((ones ^^^ crc x ((p.drop i).flatMap nb) : Nat) : Int)
  | 0, x, i, h, h', hx => by omega
  | k + 1, x, i, h, h', hx => by
    have ih := of_outer K p hp hs k
    unfold sum_Of_l2
    by_cases hi : i < p.length
    · have hw : IntKind.wrap .i64 ((i : Int) + 1) = ((i + 1 : Nat) : Int) := by rw [w64 (by omega) (by omega)]; omega
      have hsz := hs _ (List.getElem_mem hi)
      have := of_inner p i (sum_Of_l2 K p k) p[i] (rdD_get _ _ hi) hsz.1 K x 0 (by omega) (by omega) hx
      simp only [cD]
      rw [if_pos (by omega), if_pos (by omega)]
      rw [show ((0 : Nat) : Int) = 0 from rfl] at this
      rw [this, hw, List.drop_zero, List.drop_eq_getElem_cons hi, List.flatMap_cons, crc_append]
      exact ih _ (i + 1) (by omega) (by omega) (crc_lt _ _ hx (nb_b8 _))
    · simp only [cD]
      rw [if_neg (by omega), List.drop_eq_nil_of_le (by omega)]
      simp only [sum_Of_j1, List.flatMap_nil, crc]
      rw [show (4294967295 : Int) = ((ones : Nat) : Int) from rfl, bx32 (by decide) hx]
theorem of_eq (K : Nat) (p : List ByteArray) (hp : p.length ≤ 1000000) (hK : p.length < K) (hs : ∀ s ∈ p, s.size ≤ 1000000 ∧ s.size < K) : sum_Of K p = some ((sumF (p.flatMap nb) : Nat) : Int) := by
  have := of_outer K p hp hs K ones 0 (by omega) (by omega) (by decide)
  unfold sum_Of sumF
  simpa [ones] using this
/-! ### The document's sum -/
theorem st1_ref (x : Nat) (hx : x < 2 ^ 32) : (if Int.tmod (x : Int) 2 = 1 then bits .xor .i64 (IntKind.wrap .i64 (Int.tdiv (x : Int) 2)) 3988292384 else IntKind.wrap .i64 (Int.tdiv (x : Int) 2)) = ((st1 x : Nat) : Int) := by
  have e1 : Int.tmod (x : Int) 2 = ((x % 2 : Nat) : Int) := by rw [Int.tmod_eq_emod_of_nonneg (by omega)]; omega
  have e2 : Int.tdiv (x : Int) 2 = ((x / 2 : Nat) : Int) := by rw [Int.tdiv_eq_ediv_of_nonneg (by omega)]; omega
  rw [e1, e2, w64 (by omega) (by omega)]
  unfold st1
  rw [Nat.shiftRight_eq_div_pow, Nat.testBit_zero, Nat.pow_one]
  by_cases h : x % 2 = 1
  · rw [if_pos (by omega), show (3988292384 : Int) = ((PP : Nat) : Int) from rfl, bx64 (by omega) (by decide)]
    simp [h]
  · rw [if_neg (by omega)]
    simp [h]
/-! ### Seals -/
def tailF (x : Nat) : List Nat := [x % 256, x / 256 % 256, x / 65536 % 256, x / 16777216 % 256]
theorem tail_b8 (x : Nat) : B8 (tailF x) := by intro y hy; simp only [tailF, List.mem_cons, List.not_mem_nil, or_false] at hy; omega
theorem u8_nat (n : Nat) : IntKind.wrap .u8 (n : Int) = ((n % 256 : Nat) : Int) := by rw [wu8']; omega
theorem tail_eq (x : Nat) : sum_tail (x : Int) = some (sOf (tailF x)) := by
  have f8 : Int.fdiv (x : Int) (2 ^ min (Int.toNat 8) 32) = ((x / 256 : Nat) : Int) := fd x 8 256 (by omega) (by decide)
  have f16 : Int.fdiv (x : Int) (2 ^ min (Int.toNat 16) 32) = ((x / 65536 : Nat) : Int) := fd x 16 65536 (by omega) (by decide)
  have f24 : Int.fdiv (x : Int) (2 ^ min (Int.toNat 24) 32) = ((x / 16777216 : Nat) : Int) := fd x 24 16777216 (by omega) (by decide)
  unfold sum_tail sOf tailF
  rw [f8, f16, f24, u8_nat, u8_nat, u8_nat, u8_nat, List.map_cons, List.map_cons, List.map_cons, List.map_cons, List.map_nil]
theorem tail_len (x : Nat) : (sOf (tailF x)).size = 4 := by rw [sOf_size]; rfl
def sealF (s : ByteArray) : ByteArray := s ++ sOf (tailF (sumF (nb s)))
theorem of_one (K : Nat) (s : ByteArray) (hs : s.size ≤ 1000000) (hK : s.size < K) (hK1 : 1 < K) : sum_Of K [s] = some ((sumF (nb s) : Nat) : Int) := by
  have := of_eq K [s] (by simp) (by simpa using hK1) (by intro t ht; simp only [List.mem_singleton] at ht; subst ht; exact ⟨hs, hK⟩)
  rw [List.flatMap_cons, List.flatMap_nil, List.append_nil] at this
  exact this
theorem glue (s t : ByteArray) (hs : s.size ≤ 1000000) (hz : t.size = 4) : (if ((s.size + t.size : Nat) : Int) ≤ 9223372036854775807 then some (s ++ t) else none) = some (s ++ t) := by
  rw [if_pos (by rw [hz]; omega)]
theorem seal_eq (K : Nat) (s : ByteArray) (hs : s.size ≤ 1000000) (hK : s.size < K) (hK1 : 1 < K) : sum_Seal K s = some (sealF s) := by
  unfold sum_Seal
  rw [of_one K s hs hK hK1, bS, tail_eq, bS]
  exact glue s _ hs (tail_len _)
theorem rtail (x : Nat) (hl : x < 2 ^ 32) : strOfNums ([(IntKind.wrap .u8 (Int.tmod (x : Int) 256)), (IntKind.wrap .u8 (Int.tmod (IntKind.wrap .i64 (Int.tdiv (x : Int) 256)) 256)), (IntKind.wrap .u8 (Int.tmod (IntKind.wrap .i64 (Int.tdiv (x : Int) 65536)) 256)), (IntKind.wrap .u8 (IntKind.wrap .i64 (Int.tdiv (x : Int) 16777216)))] : List Int) = sOf (tailF x) := by
  have t1 : ∀ k : Nat, Int.tdiv (x : Int) k = ((x / k : Nat) : Int) := fun k => by rw [Int.tdiv_eq_ediv_of_nonneg (by omega)]; simp
  have t2 : ∀ y : Nat, Int.tmod (y : Int) 256 = ((y % 256 : Nat) : Int) := fun y => by rw [Int.tmod_eq_emod_of_nonneg (by omega)]; simp
  have a1 := t1 256
  have a2 := t1 65536
  have a3 := t1 16777216
  rw [show ((256 : Nat) : Int) = 256 from rfl] at a1
  rw [show ((65536 : Nat) : Int) = 65536 from rfl] at a2
  rw [show ((16777216 : Nat) : Int) = 16777216 from rfl] at a3
  rw [a1, a2, a3, w64 (x := ((x / 256 : Nat) : Int)) (by omega) (by omega), w64 (x := ((x / 65536 : Nat) : Int)) (by omega) (by omega), w64 (x := ((x / 16777216 : Nat) : Int)) (by omega) (by omega), t2, t2, t2, u8_nat, u8_nat, u8_nat, u8_nat]
  unfold sOf tailF
  rw [List.map_cons, List.map_cons, List.map_cons, List.map_cons, List.map_nil, Nat.mod_mod, Nat.mod_mod, Nat.mod_mod]
end Go.Proofs.YtpciioffkjpieaaDoor.Pure
