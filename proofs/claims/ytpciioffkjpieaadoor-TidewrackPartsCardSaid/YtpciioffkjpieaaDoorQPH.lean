/- Plain laws: what the plain functions answer, with no program in sight. -/
import Derived.Test.YtpciioffkjpieaaDoorQPG
set_option linter.unusedVariables false
set_option linter.unusedSimpArgs false
namespace Go.Proofs.YtpciioffkjpieaaDoor.Pure
open Go Go.Proofs.XC Go.Proofs.YtpciioffkjpieaaDoor

def num : List Nat → Nat
  | [] => 0
  | b :: l => b + 256 * num l
theorem num_cons (b : Nat) (l : List Nat) (h : b < 256) : num (b :: l) = (2 ^ 8 * num l) ^^^ b := by
  have := split_xor 8 (b + 256 * num l)
  rw [show (b + 256 * num l) / 2 ^ 8 = num l by omega, show (b + 256 * num l) % 2 ^ 8 = b by omega] at this
  exact this
theorem crc_num : ∀ (l : List Nat) (x : Nat), B8 l → crc x l = stn (8 * l.length) (x ^^^ num l)
  | [], x, _ => by simp [crc, num, stn]
  | b :: l, x, h => by
    have hb := h b (by simp)
    rw [crc, crc_num l _ (fun y hy => h y (by simp [hy])), List.length_cons, Nat.mul_add, Nat.mul_one, Nat.add_comm, stn_add, num_cons b l hb, Nat.xor_comm (2 ^ 8 * num l) b, ← Nat.xor_assoc, stn_xor 8 (x ^^^ b) (2 ^ 8 * num l), stn_pow]
theorem num_inj : ∀ (a b : List Nat), a.length = b.length → B8 a → B8 b → num a = num b → a = b
  | [], [], _, _, _, _ => rfl
  | [], _ :: _, h, _, _, _ => by simp at h
  | _ :: _, [], h, _, _, _ => by simp at h
  | x :: a, y :: b, h, ha, hb, e => by
    have h1 := ha x (by simp)
    have h2 := hb y (by simp)
    simp only [num] at e
    have e1 : x = y := by omega
    have e2 : num a = num b := by omega
    rw [e1, num_inj a b (by simpa using h) (fun z hz => ha z (by simp [hz])) (fun z hz => hb z (by simp [hz])) e2]
theorem two_xor (k a b : Nat) : 2 ^ k * (a ^^^ b) = (2 ^ k * a) ^^^ (2 ^ k * b) := by
  have : (a ^^^ b) <<< k = a <<< k ^^^ b <<< k := Nat.shiftLeft_xor_distrib
  simp only [Nat.shiftLeft_eq] at this
  rw [Nat.mul_comm, this, Nat.mul_comm a, Nat.mul_comm b]
theorem b8_set {l : List Nat} (h : B8 l) (i x : Nat) (hx : x < 256) : B8 (l.set i x) := by
  intro y hy
  rcases List.mem_or_eq_of_mem_set hy with h1 | h1
  · exact h y h1
  · omega
theorem num_set : ∀ (l : List Nat) (i d : Nat) (hi : i < l.length), B8 l → d < 256 → num (l.set i (l[i] ^^^ d)) = num l ^^^ (2 ^ (8 * i) * d)
  | b :: l, 0, d, hi, h, hd => by
    have hb := h b (by simp)
    have : b ^^^ d < 2 ^ 8 := Nat.xor_lt_two_pow (by omega) (by omega)
    simp only [List.set_cons_zero, List.getElem_cons_zero]
    rw [num_cons _ l (by omega), num_cons b l hb]
    simp [Nat.xor_assoc]
  | b :: l, i + 1, d, hi, h, hd => by
    have hb := h b (by simp)
    have ih := num_set l i d (by simpa using hi) (fun z hz => h z (by simp [hz])) hd
    simp only [List.set_cons_succ, List.getElem_cons_succ]
    rw [num_cons _ _ hb, num_cons _ _ hb, ih, two_xor, ← Nat.mul_assoc, ← Nat.pow_add, show 8 + 8 * i = 8 * (i + 1) by omega]
    rw [Nat.xor_assoc, Nat.xor_assoc, Nat.xor_comm b]
/-- The bits that a mask turns, in a text of n bytes. -/
def diff (n k m : Nat) : Nat := (2 ^ k * m) % 2 ^ (8 * n)
theorem diff_step (n k m : Nat) (hk : k < 8 * n) : diff n k m = (2 ^ k * (m % 2)) ^^^ diff n (k + 1) (m / 2) := by
  unfold diff
  apply Nat.eq_of_testBit_eq
  intro i
  rw [Nat.testBit_xor, Nat.testBit_mod_two_pow, Nat.testBit_mod_two_pow, Nat.testBit_two_pow_mul, Nat.testBit_two_pow_mul, Nat.testBit_two_pow_mul]
  have e1 : ∀ j, (m % 2).testBit j = (decide (j < 1) && m.testBit j) := fun j => Nat.testBit_mod_two_pow m 1 j
  have e2 : ∀ j, (m / 2).testBit j = m.testBit (j + 1) := fun j => by
    have := @Nat.testBit_div_two_pow 1 m j
    simpa [Nat.add_comm] using this
  rw [e1, e2]
  by_cases h1 : i < k
  · have a1 : ¬ k ≤ i := by omega
    have a2 : ¬ k + 1 ≤ i := by omega
    simp [a1, a2]
  · by_cases h2 : i = k
    · subst h2
      have a2 : ¬ i + 1 ≤ i := by omega
      simp [a2, hk]
    · have a1 : k ≤ i := by omega
      have a2 : k + 1 ≤ i := by omega
      have a3 : ¬ i - k < 1 := by omega
      have a4 : i - (k + 1) + 1 = i - k := by omega
      simp [a1, a2, a3, a4]
theorem diff_zero (n k : Nat) : diff n k 0 = 0 := by simp [diff]
theorem diff_far (n k m : Nat) (hk : 8 * n ≤ k) : diff n k m = 0 := by
  unfold diff
  obtain ⟨j, rfl⟩ := Nat.exists_eq_add_of_le hk
  rw [Nat.pow_add, Nat.mul_assoc, Nat.mul_mod_right]
abbrev ints (l : List Nat) : List Int := l.map fun (n : Nat) => (n : Int)
theorem nums_ints (s : ByteArray) : numsOf s = ints (nb s) := by simp only [numsOf, nb, ints, List.map_map]; rfl
theorem rd_ints (l : List Nat) (i : Nat) (h : i < l.length) : rdD 0 (ints l) (i : Int) = ((l[i] : Nat) : Int) := by
  rw [rdD_get 0 (ints l) (by simpa using h)]; simp
theorem bit_byte (m j : Nat) (hj : j < 8) : m % 2 * 2 ^ j < 256 := by
  have : j = 0 ∨ j = 1 ∨ j = 2 ∨ j = 3 ∨ j = 4 ∨ j = 5 ∨ j = 6 ∨ j = 7 := by omega
  rcases this with rfl | rfl | rfl | rfl | rfl | rfl | rfl | rfl <;> omega
theorem bit_place (k d : Nat) : 2 ^ (8 * (k / 8)) * (d * 2 ^ (k % 8)) = 2 ^ k * d := by
  have : 2 ^ k = 2 ^ (8 * (k / 8)) * 2 ^ (k % 8) := by rw [← Nat.pow_add]; congr 1; omega
  rw [this, Nat.mul_comm d, Nat.mul_assoc]
theorem div8 (k : Nat) (hk : k < 100000) : IntKind.wrap .i64 (Int.tdiv (k : Int) 8) = ((k / 8 : Nat) : Int) := by
  rw [Int.tdiv_eq_ediv_of_nonneg (by omega), w64 (by omega) (by omega)]; omega
theorem mod8 (k : Nat) : Int.tmod (k : Int) 8 = ((k % 8 : Nat) : Int) := by rw [Int.tmod_eq_emod_of_nonneg (by omega)]; omega
theorem shl_byte (m j : Nat) (hj : j < 8) : IntKind.wrap .u8 (((m % 2 : Nat) : Int) * 2 ^ min (Int.toNat ((j : Nat) : Int)) 8) = ((m % 2 * 2 ^ j : Nat) : Int) := by
  have h := bit_byte m j hj
  have e : min (Int.toNat ((j : Nat) : Int)) 8 = j := by rw [Int.toNat_natCast]; omega
  rw [e, show ((m % 2 : Nat) : Int) * 2 ^ j = ((m % 2 * 2 ^ j : Nat) : Int) by simp, u8_nat, Nat.mod_eq_of_lt h]
theorem ints_len (l : List Nat) : (ints l).length = l.length := by simp
theorem len8 (l : List Nat) (h : l.length ≤ 1000) : IntKind.wrap .i64 (8 * ((ints l).length : Int)) = ((8 * l.length : Nat) : Int) := by
  rw [ints_len, w64 (by omega) (by omega)]; omega
/-- One bit more. -/
theorem turn_bit (l : List Nat) (h : B8 l) (k m : Nat) (hk : k < 8 * l.length) (hl : l.length ≤ 1000) :
    ∃ l', (ints l).set (k / 8) (bits .xor .u8 ((l[k / 8]'(by omega) : Nat) : Int) ((m % 2 * 2 ^ (k % 8) : Nat) : Int)) = ints l' ∧ B8 l' ∧ l'.length = l.length ∧ num l' = num l ^^^ (2 ^ k * (m % 2)) := by
  have hb := h _ (List.getElem_mem (by omega : k / 8 < l.length))
  have hd := bit_byte m (k % 8) (by omega)
  refine ⟨l.set (k / 8) (l[k / 8]'(by omega) ^^^ (m % 2 * 2 ^ (k % 8))), ?_, b8_set h _ _ (Nat.xor_lt_two_pow (n := 8) (by omega) (by omega)), by simp, ?_⟩
  · rw [bx8 (by omega) (by omega)]
    simp only [ints, List.map_set]
  · rw [num_set l _ _ (by omega) h hd, bit_place]
theorem turn_loop : ∀ (f m k : Nat) (l : List Nat), B8 l → l.length ≤ 1000 → m < 2 ^ f → m < 2 ^ 32 → k ≤ 8 * l.length →
    ∃ l', sum_Turn_l2 (f + 1) m (ints l) k = some (sOf l') ∧ B8 l' ∧ l'.length = l.length ∧ num l' = num l ^^^ diff l.length k m
  | f, m, k, l, h, hl, hm, hm2, hk => by
    rw [sum_Turn_l2, cN, cD, len8 l hl]
    by_cases h0 : m = 0
    · subst h0
      exact ⟨l, by rw [if_pos (by rfl)]; rfl, h, rfl, by rw [diff_zero]; simp⟩
    · rw [if_neg (by omega)]
      by_cases hlt : k < 8 * l.length
      · rw [if_pos (by omega)]
        cases f with
        | zero => omega
        | succ f =>
          obtain ⟨l1, e1, b1, n1, u1⟩ := turn_bit l h k m hlt hl
          obtain ⟨l', e2, b2, n2, u2⟩ := turn_loop f (m / 2) (k + 1) l1 b1 (by omega) (by rw [Nat.pow_succ] at hm; omega) (by omega) (by omega)
          have hw : IntKind.wrap .i64 ((k : Int) + 1) = ((k + 1 : Nat) : Int) := by rw [w64 (by omega) (by omega)]; omega
          refine ⟨l', ?_, b2, by omega, ?_⟩
          · unfold sum_Turn_j3
            rw [div8 k (by omega), mod8, ints_len, if_pos (by omega), if_pos (by omega), and1 hm2, u8_nat, Nat.mod_eq_of_lt (by omega : m % 2 < 256), shl_byte m _ (by omega), rd_ints l _ (by omega), Int.toNat_natCast, e1, hw]
            have := fd m 1 2 (by omega) (by decide)
            rw [show ((1 : Nat) : Int) = 1 from rfl] at this
            rw [this]
            exact e2
          · rw [u2, u1, n1, diff_step l.length k m hlt, Nat.xor_assoc]
      · rw [if_neg (by omega)]
        exact ⟨l, rfl, h, rfl, by rw [diff_far _ _ _ (by omega)]; simp⟩
def clampAt (p : Int) (n : Nat) : Nat := (max 0 (min p (8 * n))).toNat
theorem clamp_eq (s : ByteArray) (p : Int) (hs : s.size ≤ 1000) : mxI 0 (mnI p (IntKind.wrap .i64 (8 * (((numsOf s)).length : Int)))) = ((clampAt p s.size : Nat) : Int) ∧ clampAt p s.size ≤ 8 * s.size := by
  have e : IntKind.wrap .i64 (8 * (((numsOf s)).length : Int)) = ((8 * s.size : Nat) : Int) := by rw [numsOf_len, w64 (by omega) (by omega)]; omega
  rw [e]
  unfold clampAt mxI mnI
  refine ⟨?_, by omega⟩
  (repeat' split) <;> omega
theorem turn_eq (K : Nat) (hK : 33 ≤ K) (s : ByteArray) (p : Int) (m : Nat) (hs : s.size ≤ 1000) (hm : m < 2 ^ 32) : ∃ u, sum_Turn K s p m = some u ∧ u.size = s.size ∧ num (nb u) = num (nb s) ^^^ diff s.size (clampAt p s.size) m := by
  obtain ⟨f, rfl⟩ : ∃ f, K = f + 1 := ⟨K - 1, by omega⟩
  have hc := clamp_eq s p hs
  have hN := nb_len s
  have hm2 : m < 2 ^ f := Nat.lt_of_lt_of_le hm (Nat.pow_le_pow_right (by decide) (by omega))
  obtain ⟨l', e, b, n, u⟩ := turn_loop f m (clampAt p s.size) (nb s) (nb_b8 s) (by omega) hm2 hm (by omega)
  refine ⟨sOf l', ?_, by rw [sOf_size]; omega, ?_⟩
  · unfold sum_Turn
    rw [hc.1, nums_ints]
    exact e
  · rw [nb_sOf _ b, u, hN]
theorem text_inj {a b : ByteArray} (h : a.size = b.size) (e : num (nb a) = num (nb b)) : a = b :=
  nb_inj (num_inj _ _ (by rw [nb_len, nb_len, h]) (nb_b8 a) (nb_b8 b) e)
theorem num_tail (x : Nat) (h : x < 2 ^ 32) : num (tailF x) = x := by simp only [tailF, num]; omega
theorem stn_inj {n a b : Nat} (ha : a < 2 ^ 32) (hb : b < 2 ^ 32) (h : stn n a = stn n b) : a = b := by
  have : stn n (a ^^^ b) = 0 := by rw [stn_xor, h, Nat.xor_self]
  exact xor_zero_eq (stn_inj0 n (Nat.xor_lt_two_pow ha hb) this)
/-- A text is sealed just if its register ends as it must. -/
theorem open_iff (u : ByteArray) (h : 4 ≤ u.size) : (openF u).2 = true ↔ crc ones (nb u) = stn 32 ones := by
  have hsp : nb u = nb (u.extract 0 (u.size - 4)) ++ nb (u.extract (u.size - 4) u.size) := by rw [← nb_append, split4 u (by omega)]
  have hbl : (nb (u.extract (u.size - 4) u.size)).length = 4 := by rw [nb_len, ByteArray.size_extract]; omega
  have hf := nb_b8 (u.extract 0 (u.size - 4))
  have hbb := nb_b8 (u.extract (u.size - 4) u.size)
  have hcl := crc_lt _ ones (by decide) hf
  have hnl : num (nb (u.extract (u.size - 4) u.size)) < 2 ^ 32 := by
    generalize nb (u.extract (u.size - 4) u.size) = l at *
    match l, hbl with
    | [a, b, c, d], _ =>
      have := hbb a (by simp); have := hbb b (by simp); have := hbb c (by simp); have := hbb d (by simp)
      simp only [num]; omega
  rw [hsp, crc_append, crc_num _ _ hbb, hbl]
  unfold openF
  rw [if_neg (by omega)]
  have key : u.extract (u.size - 4) u.size = sOf (tailF (sumF (nb (u.extract 0 (u.size - 4))))) ↔ stn (8 * 4) (crc ones (nb (u.extract 0 (u.size - 4))) ^^^ num (nb (u.extract (u.size - 4) u.size))) = stn 32 ones := by
    constructor
    · intro e
      rw [e, nb_sOf _ (tail_b8 _), num_tail _ (sumF_lt _ hf)]
      unfold sumF
      rw [Nat.xor_comm ones, ← Nat.xor_assoc, Nat.xor_self, Nat.zero_xor]
    · intro e
      have e1 := stn_inj (Nat.xor_lt_two_pow hcl hnl) (by decide) e
      apply nb_inj
      apply num_inj _ _ (by rw [hbl, nb_sOf _ (tail_b8 _)]; rfl) hbb (nb_b8 _)
      rw [nb_sOf _ (tail_b8 _), num_tail _ (sumF_lt _ hf)]
      unfold sumF
      have e2 := congrArg (fun z => crc ones (nb (u.extract 0 (u.size - 4))) ^^^ z) e1
      simp only [← Nat.xor_assoc, Nat.xor_self, Nat.zero_xor] at e2
      rw [e2, Nat.xor_comm]
  rw [← key]
  by_cases c : u.extract (u.size - 4) u.size = sOf (tailF (sumF (nb (u.extract 0 (u.size - 4)))))
  · rw [if_pos c]; simp [c]
  · rw [if_neg c]; simp [c]
end Go.Proofs.YtpciioffkjpieaaDoor.Pure
