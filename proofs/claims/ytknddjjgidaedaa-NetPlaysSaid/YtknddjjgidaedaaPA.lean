/- Plain laws: what the plain functions answer, with no program in sight. -/
import Derived.Test.YtknddjjgidaedaaD
import Derived.Test.YtknddjjgidaedaaY23
import Derived.Laws.BitsLemmas
import Derived.KernelRfl
set_option linter.unusedVariables false
set_option linter.unusedSimpArgs false
namespace Go.Proofs.Ytknddjjgidaedaa.Pure
open Go Go.Proofs.XC Go.Proofs.Ytknddjjgidaedaa

/-! ### Bits of natural numbers -/
theorem bx_nat (k : IntKind) (j : Nat) (hj : j ≤ k.bits) (hk : ∀ n : Int, 0 ≤ n → n < 2 ^ j → k.wrap n = n) (a b : Nat) (ha : a < 2 ^ j) (hb : b < 2 ^ j) : bits .xor k a b = ((a ^^^ b : Nat) : Int) := by
  have hp : 2 ^ j ≤ 2 ^ k.bits := Nat.pow_le_pow_right (by decide) hj
  have ha' : a % 2 ^ k.bits = a := Nat.mod_eq_of_lt (Nat.lt_of_lt_of_le ha hp)
  have hb' : b % 2 ^ k.bits = b := Nat.mod_eq_of_lt (Nat.lt_of_lt_of_le hb hp)
  simp only [bits, BitVec.ofInt_natCast, BitVec.toNat_xor, BitVec.toNat_ofNat, ha', hb']
  exact hk _ (Int.natCast_nonneg _) (by exact_mod_cast Nat.xor_lt_two_pow ha hb)
theorem wraps_u32 (n : Int) (h₀ : 0 ≤ n) (h₁ : n < 2 ^ 32) : IntKind.u32.wrap n = n := by rw [IntKind.wrap_u32]; omega
theorem wraps_i64 (n : Int) (h₀ : 0 ≤ n) (h₁ : n < 2 ^ 32) : IntKind.i64.wrap n = n := w64 (by omega) (by omega)
theorem bx32 {a b : Nat} (ha : a < 2 ^ 32) (hb : b < 2 ^ 32) : bits .xor .u32 a b = ((a ^^^ b : Nat) : Int) := bx_nat .u32 32 (by decide) wraps_u32 a b ha hb
theorem bx64 {a b : Nat} (ha : a < 2 ^ 32) (hb : b < 2 ^ 32) : bits .xor .i64 a b = ((a ^^^ b : Nat) : Int) := bx_nat .i64 32 (by decide) wraps_i64 a b ha hb
theorem bx8 {a b : Nat} (ha : a < 2 ^ 8) (hb : b < 2 ^ 8) : bits .xor .u8 a b = ((a ^^^ b : Nat) : Int) := bx_nat .u8 8 (by decide) wraps_u8 a b ha hb
theorem and15 {a : Nat} (ha : a < 2 ^ 32) : bits .and .u32 a 15 = ((a % 16 : Nat) : Int) := by
  have := bits_mask .u32 32 (by decide) wraps_u32 4 (by decide) a (by omega) (by exact_mod_cast ha)
  exact this
theorem and1 {a : Nat} (ha : a < 2 ^ 32) : bits .and .u32 a 1 = ((a % 2 : Nat) : Int) := by
  have := bits_mask .u32 32 (by decide) wraps_u32 1 (by decide) a (by omega) (by exact_mod_cast ha)
  exact this
theorem fd (a k n : Nat) (h : k < 32) (hn : 2 ^ k = n) : Int.fdiv (a : Int) (2 ^ min (Int.toNat (k : Int)) 32) = ((a / n : Nat) : Int) := by
  subst hn
  have : min (Int.toNat (k : Int)) 32 = k := by simp; omega
  rw [this, Int.fdiv_eq_ediv_of_nonneg _ (by exact_mod_cast Nat.zero_le _)]
  simp

/-! ### A bit more: the shift register -/
def PP : Nat := 3988292384
def st1 (x : Nat) : Nat := (x >>> 1) ^^^ (if x.testBit 0 then PP else 0)
theorem xor_zero_eq {a b : Nat} (h : a ^^^ b = 0) : a = b := by
  have : a ^^^ b ^^^ b = b := by rw [h]; simp
  rw [Nat.xor_assoc] at this
  simpa using this
theorem st1_xor (a b : Nat) : st1 (a ^^^ b) = st1 a ^^^ st1 b := by
  unfold st1
  rw [Nat.shiftRight_xor_distrib, Nat.testBit_xor]
  generalize a >>> 1 = x
  generalize b >>> 1 = y
  cases a.testBit 0 <;> cases b.testBit 0 <;> simp only [Bool.false_bne, Bool.true_bne, bne_self_eq_false, Bool.false_eq_true, if_true, if_false, Bool.not_false, Bool.not_true, Nat.xor_zero, Bool.xor_false, Bool.xor_true, Bool.xor_self, Bool.false_xor, Bool.true_xor]
  · rw [Nat.xor_assoc]
  · rw [Nat.xor_assoc, Nat.xor_comm y, ← Nat.xor_assoc]
  · rw [Nat.xor_assoc, ← Nat.xor_assoc PP, Nat.xor_comm PP y, Nat.xor_assoc y, Nat.xor_self, Nat.xor_zero]
theorem st1_two (h : Nat) : st1 (2 * h) = h := by
  unfold st1
  rw [Nat.shiftRight_eq_div_pow]
  simp [Nat.testBit_zero]
def stn : Nat → Nat → Nat
  | 0, x => x
  | n + 1, x => stn n (st1 x)
theorem stn_xor : ∀ (n a b : Nat), stn n (a ^^^ b) = stn n a ^^^ stn n b
  | 0, a, b => rfl
  | n + 1, a, b => by simp only [stn, st1_xor, stn_xor n]
theorem stn_add : ∀ (m n x : Nat), stn (m + n) x = stn n (stn m x)
  | 0, n, x => by simp [stn]
  | m + 1, n, x => by rw [show m + 1 + n = (m + n) + 1 by omega]; simp only [stn, stn_add m n]
theorem stn_pow : ∀ (n h : Nat), stn n (2 ^ n * h) = h
  | 0, h => by simp [stn]
  | n + 1, h => by
    have : 2 ^ (n + 1) * h = 2 * (2 ^ n * h) := by rw [Nat.pow_succ]; simp [Nat.mul_comm, Nat.mul_left_comm]
    simp only [stn, this, st1_two, stn_pow n]
theorem st1_lt {x : Nat} (h : x < 2 ^ 32) : st1 x < 2 ^ 32 := by
  unfold st1
  refine Nat.xor_lt_two_pow ?_ ?_
  · rw [Nat.shiftRight_eq_div_pow]; omega
  · split <;> decide
theorem stn_lt : ∀ (n : Nat) {x : Nat}, x < 2 ^ 32 → stn n x < 2 ^ 32
  | 0, x, h => h
  | n + 1, x, h => stn_lt n (st1_lt h)
theorem st1_inj0 {x : Nat} (h : x < 2 ^ 32) (h0 : st1 x = 0) : x = 0 := by
  unfold st1 at h0
  have h1 := xor_zero_eq h0
  rw [Nat.shiftRight_eq_div_pow, Nat.testBit_zero] at h1
  by_cases hp : x % 2 = 1
  · simp only [hp, decide_true, if_true, PP] at h1; omega
  · simp only [hp, decide_false, Bool.false_eq_true, if_false] at h1; omega
theorem stn_inj0 : ∀ (n : Nat) {x : Nat}, x < 2 ^ 32 → stn n x = 0 → x = 0
  | 0, x, h, h0 => h0
  | n + 1, x, h, h0 => st1_inj0 h (stn_inj0 n (st1_lt h) h0)
theorem split_xor (n a : Nat) : a = (2 ^ n * (a / 2 ^ n)) ^^^ (a % 2 ^ n) := by
  apply Nat.eq_of_testBit_eq
  intro i
  rw [Nat.testBit_xor, Nat.testBit_mod_two_pow, Nat.testBit_two_pow_mul, Nat.testBit_div_two_pow]
  by_cases h : n ≤ i
  · have : ¬ i < n := by omega
    simp [h, this]
  · have : i < n := by omega
    simp [h, this]
theorem nib (a : Nat) : stn 4 a = (a / 16) ^^^ stn 4 (a % 16) := by
  conv => lhs; rw [split_xor 4 a, stn_xor, stn_pow]
/-! ### Texts as numbers below 256 -/
def nb (s : ByteArray) : List Nat := s.data.toList.map UInt8.toNat
def sOf (l : List Nat) : ByteArray := strOfNums (l.map fun (n : Nat) => (n : Int))
def B8 (l : List Nat) : Prop := ∀ x ∈ l, x < 256
theorem nb_len (s : ByteArray) : (nb s).length = s.size := by
  show (List.map _ _).length = s.data.size
  simp
theorem nb_b8 (s : ByteArray) : B8 (nb s) := by
  intro x hx
  obtain ⟨b, _, rfl⟩ := List.mem_map.1 hx
  exact b.toNat_lt
theorem nb_get (s : ByteArray) (i : Nat) (h : i < s.size) : bt s (i : Int) = (((nb s)[i]'(by rw [nb_len]; exact h) : Nat) : Int) := by
  simp only [nb, bt, List.getElem_map, Int.toNat_natCast, h, dif_pos]
  rfl
theorem nb_inj {a b : ByteArray} (h : nb a = nb b) : a = b := by
  apply str_ext
  exact List.map_inj_right (fun x y e => UInt8.toNat_inj.1 e) |>.1 h
theorem nb_append (a b : ByteArray) : nb (a ++ b) = nb a ++ nb b := by
  simp only [nb, ByteArray.data_append, Array.toList_append, List.map_append]
theorem nb_extract (s : ByteArray) (i j : Nat) : nb (s.extract i j) = ((nb s).take j).drop i := by
  simp only [nb, ByteArray.data_extract, Array.toList_extract, List.map_take, List.map_drop, List.extract_eq_take_drop]
  rw [List.drop_take]
theorem nb_sOf (l : List Nat) (h : B8 l) : nb (sOf l) = l := by
  simp only [nb, sOf, strOfNums, List.toList_toArray, List.map_map]
  conv => rhs; rw [← List.map_id l]
  apply List.map_congr_left
  intro x hx
  have := h x hx
  simp only [Function.comp, UInt8.toNat_ofNat', Int.toNat_natCast, id]
  omega
theorem sOf_size (l : List Nat) : (sOf l).size = l.length := by
  show (List.map _ (List.map _ l)).toArray.size = _
  simp
theorem sOf_nb (s : ByteArray) : sOf (nb s) = s := nb_inj (nb_sOf _ (nb_b8 s))

theorem u8_nat (n : Nat) : IntKind.wrap .u8 (n : Int) = ((n % 256 : Nat) : Int) := by rw [wu8']; omega
def num : List Nat → Nat
  | [] => 0
  | b :: l => b + 256 * num l
theorem num_cons (b : Nat) (l : List Nat) (h : b < 256) : num (b :: l) = (2 ^ 8 * num l) ^^^ b := by
  have := split_xor 8 (b + 256 * num l)
  rw [show (b + 256 * num l) / 2 ^ 8 = num l by omega, show (b + 256 * num l) % 2 ^ 8 = b by omega] at this
  exact this
theorem num_inj : ∀ (a b : List Nat), a.length = b.length → B8 a → B8 b → num a = num b → a = b
  | [], [], _, _, _, _ => rfl
  | [], _ :: _, h, _, _, _ => by simp at h
  | _ :: _, [], h, _, _, _ => by simp at h
  | x :: a, y :: b, h, ha, hb, e => by
    have h1 := ha x (by simp)
    have h2 := hb y (by simp)
    simp only [num] at e
    have e1 : x = y := by omega
    have e2 : num a = num b := by omega
    rw [e1, num_inj a b (by simpa using h) (fun z hz => ha z (by simp [hz])) (fun z hz => hb z (by simp [hz])) e2]
theorem two_xor (k a b : Nat) : 2 ^ k * (a ^^^ b) = (2 ^ k * a) ^^^ (2 ^ k * b) := by
  have : (a ^^^ b) <<< k = a <<< k ^^^ b <<< k := Nat.shiftLeft_xor_distrib
  simp only [Nat.shiftLeft_eq] at this
  rw [Nat.mul_comm, this, Nat.mul_comm a, Nat.mul_comm b]
theorem b8_set {l : List Nat} (h : B8 l) (i x : Nat) (hx : x < 256) : B8 (l.set i x) := by
  intro y hy
  rcases List.mem_or_eq_of_mem_set hy with h1 | h1
  · exact h y h1
  · omega
theorem num_set : ∀ (l : List Nat) (i d : Nat) (hi : i < l.length), B8 l → d < 256 → num (l.set i (l[i] ^^^ d)) = num l ^^^ (2 ^ (8 * i) * d)
  | b :: l, 0, d, hi, h, hd => by
    have hb := h b (by simp)
    have : b ^^^ d < 2 ^ 8 := Nat.xor_lt_two_pow (by omega) (by omega)
    simp only [List.set_cons_zero, List.getElem_cons_zero]
    rw [num_cons _ l (by omega), num_cons b l hb]
    simp [Nat.xor_assoc]
  | b :: l, i + 1, d, hi, h, hd => by
    have hb := h b (by simp)
    have ih := num_set l i d (by simpa using hi) (fun z hz => h z (by simp [hz])) hd
    simp only [List.set_cons_succ, List.getElem_cons_succ]
    rw [num_cons _ _ hb, num_cons _ _ hb, ih, two_xor, ← Nat.mul_assoc, ← Nat.pow_add, show 8 + 8 * i = 8 * (i + 1) by omega]
    rw [Nat.xor_assoc, Nat.xor_assoc, Nat.xor_comm b]
/-- The bits that a mask turns, in a text of n bytes. -/
def diff (n k m : Nat) : Nat := (2 ^ k * m) % 2 ^ (8 * n)
theorem diff_step (n k m : Nat) (hk : k < 8 * n) : diff n k m = (2 ^ k * (m % 2)) ^^^ diff n (k + 1) (m / 2) := by
  unfold diff
  apply Nat.eq_of_testBit_eq
  intro i
  rw [Nat.testBit_xor, Nat.testBit_mod_two_pow, Nat.testBit_mod_two_pow, Nat.testBit_two_pow_mul, Nat.testBit_two_pow_mul, Nat.testBit_two_pow_mul]
  have e1 : ∀ j, (m % 2).testBit j = (decide (j < 1) && m.testBit j) := fun j => Nat.testBit_mod_two_pow m 1 j
  have e2 : ∀ j, (m / 2).testBit j = m.testBit (j + 1) := fun j => by
    have := @Nat.testBit_div_two_pow 1 m j
    simpa [Nat.add_comm] using this
  rw [e1, e2]
  by_cases h1 : i < k
  · have a1 : ¬ k ≤ i := by omega
    have a2 : ¬ k + 1 ≤ i := by omega
    simp [a1, a2]
  · by_cases h2 : i = k
    · subst h2
      have a2 : ¬ i + 1 ≤ i := by omega
      simp [a2, hk]
    · have a1 : k ≤ i := by omega
      have a2 : k + 1 ≤ i := by omega
      have a3 : ¬ i - k < 1 := by omega
      have a4 : i - (k + 1) + 1 = i - k := by omega
      simp [a1, a2, a3, a4]
theorem diff_zero (n k : Nat) : diff n k 0 = 0 := by simp [diff]
theorem diff_far (n k m : Nat) (hk : 8 * n ≤ k) : diff n k m = 0 := by
  unfold diff
  obtain ⟨j, rfl⟩ := Nat.exists_eq_add_of_le hk
  rw [Nat.pow_add, Nat.mul_assoc, Nat.mul_mod_right]
abbrev ints (l : List Nat) : List Int := l.map fun (n : Nat) => (n : Int)
theorem nums_ints (s : ByteArray) : numsOf s = ints (nb s) := by simp only [numsOf, nb, ints, List.map_map]; rfl
theorem rd_ints (l : List Nat) (i : Nat) (h : i < l.length) : rdD 0 (ints l) (i : Int) = ((l[i] : Nat) : Int) := by
  rw [rdD_get 0 (ints l) (by simpa using h)]; simp
theorem bit_byte (m j : Nat) (hj : j < 8) : m % 2 * 2 ^ j < 256 := by
  have : j = 0 ∨ j = 1 ∨ j = 2 ∨ j = 3 ∨ j = 4 ∨ j = 5 ∨ j = 6 ∨ j = 7 := by omega
  rcases this with rfl | rfl | rfl | rfl | rfl | rfl | rfl | rfl <;> omega
theorem bit_place (k d : Nat) : 2 ^ (8 * (k / 8)) * (d * 2 ^ (k % 8)) = 2 ^ k * d := by
  have : 2 ^ k = 2 ^ (8 * (k / 8)) * 2 ^ (k % 8) := by rw [← Nat.pow_add]; congr 1; omega
  rw [this, Nat.mul_comm d, Nat.mul_assoc]
theorem div8 (k : Nat) (hk : k < 100000) : IntKind.wrap .i64 (Int.tdiv (k : Int) 8) = ((k / 8 : Nat) : Int) := by
  rw [Int.tdiv_eq_ediv_of_nonneg (by omega), w64 (by omega) (by omega)]; omega
theorem mod8 (k : Nat) : Int.tmod (k : Int) 8 = ((k % 8 : Nat) : Int) := by rw [Int.tmod_eq_emod_of_nonneg (by omega)]; omega
theorem shl_byte (m j : Nat) (hj : j < 8) : IntKind.wrap .u8 (((m % 2 : Nat) : Int) * 2 ^ min (Int.toNat ((j : Nat) : Int)) 8) = ((m % 2 * 2 ^ j : Nat) : Int) := by
  have h := bit_byte m j hj
  have e : min (Int.toNat ((j : Nat) : Int)) 8 = j := by rw [Int.toNat_natCast]; omega
  rw [e, show ((m % 2 : Nat) : Int) * 2 ^ j = ((m % 2 * 2 ^ j : Nat) : Int) by simp, u8_nat, Nat.mod_eq_of_lt h]
theorem ints_len (l : List Nat) : (ints l).length = l.length := by simp
theorem len8 (l : List Nat) (h : l.length ≤ 1000) : IntKind.wrap .i64 (8 * ((ints l).length : Int)) = ((8 * l.length : Nat) : Int) := by
  rw [ints_len, w64 (by omega) (by omega)]; omega
/-- One bit more. -/
theorem turn_bit (l : List Nat) (h : B8 l) (k m : Nat) (hk : k < 8 * l.length) (hl : l.length ≤ 1000) :
    ∃ l', (ints l).set (k / 8) (bits .xor .u8 ((l[k / 8]'(by omega) : Nat) : Int) ((m % 2 * 2 ^ (k % 8) : Nat) : Int)) = ints l' ∧ B8 l' ∧ l'.length = l.length ∧ num l' = num l ^^^ (2 ^ k * (m % 2)) := by
  have hb := h _ (List.getElem_mem (by omega : k / 8 < l.length))
  have hd := bit_byte m (k % 8) (by omega)
  refine ⟨l.set (k / 8) (l[k / 8]'(by omega) ^^^ (m % 2 * 2 ^ (k % 8))), ?_, b8_set h _ _ (Nat.xor_lt_two_pow (n := 8) (by omega) (by omega)), by simp, ?_⟩
  · rw [bx8 (by omega) (by omega)]
    simp only [ints, List.map_set]
  · rw [num_set l _ _ (by omega) h hd, bit_place]
theorem turn_loop : ∀ (f m k : Nat) (l : List Nat), B8 l → l.length ≤ 1000 → m < 2 ^ f → m < 2 ^ 32 → k ≤ 8 * l.length →
    ∃ l', sum_Turn_l2 (f + 1) m (ints l) k = some (sOf l') ∧ B8 l' ∧ l'.length = l.length ∧ num l' = num l ^^^ diff l.length k m
  | f, m, k, l, h, hl, hm, hm2, hk => by
    rw [sum_Turn_l2, cN, cD, len8 l hl]
    by_cases h0 : m = 0
    · subst h0
      exact ⟨l, by rw [if_pos (by rfl)]; rfl, h, rfl, by rw [diff_zero]; simp⟩
    · rw [if_neg (by omega)]
      by_cases hlt : k < 8 * l.length
      · rw [if_pos (by omega)]
        cases f with
        | zero => omega
        | succ f =>
          obtain ⟨l1, e1, b1, n1, u1⟩ := turn_bit l h k m hlt hl
          obtain ⟨l', e2, b2, n2, u2⟩ := turn_loop f (m / 2) (k + 1) l1 b1 (by omega) (by rw [Nat.pow_succ] at hm; omega) (by omega) (by omega)
          have hw : IntKind.wrap .i64 ((k : Int) + 1) = ((k + 1 : Nat) : Int) := by rw [w64 (by omega) (by omega)]; omega
          refine ⟨l', ?_, b2, by omega, ?_⟩
          · unfold sum_Turn_j3
            rw [div8 k (by omega), mod8, ints_len, if_pos (by omega), if_pos (by omega), and1 hm2, u8_nat, Nat.mod_eq_of_lt (by omega : m % 2 < 256), shl_byte m _ (by omega), rd_ints l _ (by omega), Int.toNat_natCast, e1, hw]
            have := fd m 1 2 (by omega) (by decide)
            rw [show ((1 : Nat) : Int) = 1 from rfl] at this
            rw [this]
            exact e2
          · rw [u2, u1, n1, diff_step l.length k m hlt, Nat.xor_assoc]
      · rw [if_neg (by omega)]
        exact ⟨l, rfl, h, rfl, by rw [diff_far _ _ _ (by omega)]; simp⟩
theorem rturn_loop (p0 : ByteArray) (p1 : Int) (m : Nat) (hm : m < 2 ^ 32) (at_ : Nat) (hat : mxI 0 (mnI p1 (IntKind.wrap .i64 (8 * (((numsOf p0)).length : Int)))) = (at_ : Int)) (ha : at_ ≤ 8000) :
    ∀ (f j : Nat) (l : List Nat), 32 < f + j → j ≤ 32 → B8 l → l.length ≤ 1000 → ∃ l', tidewrackref02_Turn_l2 p0 p1 m f (ints l) j = some (sOf l') ∧ B8 l' ∧ l'.length = l.length ∧ num l' = num l ^^^ diff l.length (at_ + j) (m / 2 ^ j)
  | 0, j, l, h, h', hb, hl => by omega
  | f + 1, j, l, h, h', hb, hl => by
    have ih := rturn_loop p0 p1 m hm at_ hat ha f
    unfold tidewrackref02_Turn_l2
    rw [hat, cD, cD, len8 l hl, w64 (x := (at_ : Int) + (j : Int)) (by omega) (by omega)]
    by_cases hj : j < 32
    · rw [if_pos (by omega)]
      by_cases hlt : at_ + j < 8 * l.length
      · rw [if_pos (by omega)]
        unfold tidewrackref02_Turn_j3
        have hw : IntKind.wrap .i64 ((j : Int) + 1) = ((j + 1 : Nat) : Int) := by rw [w64 (by omega) (by omega)]; omega
        have e0 : Int.fdiv (m : Int) (2 ^ min (Int.toNat (j : Int)) 32) = ((m / 2 ^ j : Nat) : Int) := fd m j _ hj rfl
        have e1 : Int.tmod ((m / 2 ^ j : Nat) : Int) 2 = ((m / 2 ^ j % 2 : Nat) : Int) := by
          generalize m / 2 ^ j = q
          rw [Int.tmod_eq_emod_of_nonneg (by omega)]; omega
        have hnext : m / 2 ^ j / 2 = m / 2 ^ (j + 1) := by rw [Nat.div_div_eq_div_mul, ← Nat.pow_succ]
        have hds := diff_step l.length (at_ + j) (m / 2 ^ j) hlt
        rw [hnext] at hds
        rw [if_pos (by omega), e0, e1, cE, hat, w64 (x := (at_ : Int) + (j : Int)) (by omega) (by omega), show (at_ : Int) + (j : Int) = ((at_ + j : Nat) : Int) by omega, div8 _ (by omega), mod8, ints_len, hw]
        by_cases hbit : m / 2 ^ j % 2 = 1
        · obtain ⟨l1, e2, b1, n1, u1⟩ := turn_bit l hb (at_ + j) (m / 2 ^ j) hlt hl
          obtain ⟨l', e3, b2, n2, u2⟩ := ih (j + 1) l1 (by omega) (by omega) b1 (by omega)
          have hsh := shl_byte 1 ((at_ + j) % 8) (by omega)
          rw [show ((1 % 2 : Nat) : Int) = 1 from rfl, show 1 % 2 * 2 ^ ((at_ + j) % 8) = 1 * 2 ^ ((at_ + j) % 8) from rfl] at hsh
          rw [hbit] at e2
          refine ⟨l', ?_, b2, by omega, ?_⟩
          · rw [if_pos (by omega), if_pos (by omega), if_pos (by omega), hsh, rd_ints l _ (by omega), Int.toNat_natCast, e2]
            exact e3
          · rw [u2, u1, n1, hds, Nat.xor_assoc]; rfl
        · obtain ⟨l', e3, b2, n2, u2⟩ := ih (j + 1) l (by omega) (by omega) hb hl
          refine ⟨l', ?_, b2, by omega, ?_⟩
          · rw [if_neg (by omega)]; exact e3
          · rw [u2, hds, show m / 2 ^ j % 2 = 0 by omega]; simp; rfl
      · rw [if_neg (by omega)]
        exact ⟨l, rfl, hb, rfl, by rw [diff_far _ _ _ (by omega)]; simp⟩
    · rw [if_neg (by omega)]
      have : j = 32 := by omega
      subst this
      exact ⟨l, rfl, hb, rfl, by rw [Nat.div_eq_of_lt hm, diff_zero]; simp⟩
def clampAt (p : Int) (n : Nat) : Nat := (max 0 (min p (8 * n))).toNat
theorem clamp_eq (s : ByteArray) (p : Int) (hs : s.size ≤ 1000) : mxI 0 (mnI p (IntKind.wrap .i64 (8 * (((numsOf s)).length : Int)))) = ((clampAt p s.size : Nat) : Int) ∧ clampAt p s.size ≤ 8 * s.size := by
  have e : IntKind.wrap .i64 (8 * (((numsOf s)).length : Int)) = ((8 * s.size : Nat) : Int) := by rw [numsOf_len, w64 (by omega) (by omega)]; omega
  rw [e]
  unfold clampAt mxI mnI
  refine ⟨?_, by omega⟩
  (repeat' split) <;> omega
theorem turn_eq (K : Nat) (hK : 33 ≤ K) (s : ByteArray) (p : Int) (m : Nat) (hs : s.size ≤ 1000) (hm : m < 2 ^ 32) : ∃ u, sum_Turn K s p m = some u ∧ u.size = s.size ∧ num (nb u) = num (nb s) ^^^ diff s.size (clampAt p s.size) m := by
  obtain ⟨f, rfl⟩ : ∃ f, K = f + 1 := ⟨K - 1, by omega⟩
  have hc := clamp_eq s p hs
  have hN := nb_len s
  have hm2 : m < 2 ^ f := Nat.lt_of_lt_of_le hm (Nat.pow_le_pow_right (by decide) (by omega))
  obtain ⟨l', e, b, n, u⟩ := turn_loop f m (clampAt p s.size) (nb s) (nb_b8 s) (by omega) hm2 hm (by omega)
  refine ⟨sOf l', ?_, by rw [sOf_size]; omega, ?_⟩
  · unfold sum_Turn
    rw [hc.1, nums_ints]
    exact e
  · rw [nb_sOf _ b, u, hN]
theorem rturn_eq (K : Nat) (hK : 33 ≤ K) (s : ByteArray) (p : Int) (m : Nat) (hs : s.size ≤ 1000) (hm : m < 2 ^ 32) : ∃ u, tidewrackref02_Turn K s p m = some u ∧ u.size = s.size ∧ num (nb u) = num (nb s) ^^^ diff s.size (clampAt p s.size) m := by
  have hc := clamp_eq s p hs
  have hN := nb_len s
  obtain ⟨l', e, b, n, u⟩ := rturn_loop s p m hm _ hc.1 (by omega) K 0 (nb s) (by omega) (by omega) (nb_b8 s) (by omega)
  refine ⟨sOf l', ?_, by rw [sOf_size]; omega, ?_⟩
  · unfold tidewrackref02_Turn
    rw [nums_ints]
    exact e
  · rw [nb_sOf _ b, u, hN]; simp
theorem text_inj {a b : ByteArray} (h : a.size = b.size) (e : num (nb a) = num (nb b)) : a = b :=
  nb_inj (num_inj _ _ (by rw [nb_len, nb_len, h]) (nb_b8 a) (nb_b8 b) e)
end Go.Proofs.Ytknddjjgidaedaa.Pure
