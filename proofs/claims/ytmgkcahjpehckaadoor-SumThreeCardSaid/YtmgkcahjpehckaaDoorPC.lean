/- Plain laws: what the plain functions answer, with no program in sight. -/
import Derived.Test.YtmgkcahjpehckaaDoorPB
set_option linter.unusedVariables false
set_option linter.unusedSimpArgs false
namespace Go.Proofs.YtmgkcahjpehckaaDoor.Pure
open Go Go.Proofs.XC Go.Proofs.YtmgkcahjpehckaaDoor

/-! ### A text as one number -/
def num : List Nat → Nat
  | [] => 0
  | b :: l => b + 256 * num l
theorem num_cons (b : Nat) (l : List Nat) (h : b < 256) : num (b :: l) = (2 ^ 8 * num l) ^^^ b := by
  have := split_xor 8 (b + 256 * num l)
  rw [show (b + 256 * num l) / 2 ^ 8 = num l by omega, show (b + 256 * num l) % 2 ^ 8 = b by omega] at this
  exact this
theorem crc_num : ∀ (l : List Nat) (x : Nat), B8 l → crc x l = stn (8 * l.length) (x ^^^ num l)
  | [], x, _ => by simp [crc, num, stn]
  | b :: l, x, h => by
    have hb := h b (by simp)
    rw [crc, crc_num l _ (fun y hy => h y (by simp [hy])), List.length_cons, Nat.mul_add, Nat.mul_one, Nat.add_comm, stn_add, num_cons b l hb, Nat.xor_comm (2 ^ 8 * num l) b, ← Nat.xor_assoc, stn_xor 8 (x ^^^ b) (2 ^ 8 * num l), stn_pow]
theorem two_xor (k a b : Nat) : 2 ^ k * (a ^^^ b) = (2 ^ k * a) ^^^ (2 ^ k * b) := by
  have : (a ^^^ b) <<< k = a <<< k ^^^ b <<< k := Nat.shiftLeft_xor_distrib
  simp only [Nat.shiftLeft_eq] at this
  rw [Nat.mul_comm, this, Nat.mul_comm a, Nat.mul_comm b]
def xl (a b : List Nat) : List Nat := List.zipWith (fun x y => x ^^^ y) a b
theorem xl_b8 : ∀ (a b : List Nat), B8 a → B8 b → B8 (xl a b)
  | [], _, _, _ => by intro x hx; simp [xl] at hx
  | _ :: _, [], _, _ => by intro x hx; simp [xl] at hx
  | x :: a, y :: b, ha, hb => by
    intro z hz
    simp only [xl, List.zipWith_cons_cons, List.mem_cons] at hz
    rcases hz with rfl | hz
    · exact Nat.xor_lt_two_pow (n := 8) (ha x (by simp)) (hb y (by simp))
    · exact xl_b8 a b (fun w h => ha w (by simp [h])) (fun w h => hb w (by simp [h])) z hz
theorem xl_num : ∀ (a b : List Nat), a.length = b.length → B8 a → B8 b → num (xl a b) = num a ^^^ num b
  | [], [], _, _, _ => rfl
  | [], _ :: _, h, _, _ => by simp at h
  | _ :: _, [], h, _, _ => by simp at h
  | x :: a, y :: b, h, ha, hb => by
    have h1 := ha x (by simp)
    have h2 := hb y (by simp)
    have ih := xl_num a b (by simpa using h) (fun w h => ha w (by simp [h])) (fun w h => hb w (by simp [h]))
    have hxy : x ^^^ y < 256 := Nat.xor_lt_two_pow (n := 8) h1 h2
    have e : xl (x :: a) (y :: b) = (x ^^^ y) :: xl a b := rfl
    rw [e, num_cons _ _ hxy, num_cons _ _ h1, num_cons _ _ h2, ih, two_xor]
    rw [Nat.xor_assoc, Nat.xor_assoc, ← Nat.xor_assoc (2 ^ 8 * num b), Nat.xor_comm (2 ^ 8 * num b) x, Nat.xor_assoc x, Nat.xor_comm (2 ^ 8 * num b) y]
theorem xl_len (a b : List Nat) (h : a.length = b.length) : (xl a b).length = a.length := by simp [xl]; omega
theorem xl_get (a b : List Nat) (i : Nat) (h1 : i < a.length) (h2 : i < b.length) (h3 : i < (xl a b).length) : (xl a b)[i] = a[i] ^^^ b[i] := by simp [xl]
abbrev ints (l : List Nat) : List Int := l.map fun (n : Nat) => (n : Int)
theorem str_ints (l : List Nat) : strOfNums (ints l) = sOf l := rfl
theorem three_loop (K n : Nat) (p0 p1 p2 : ByteArray) (hn : mnI (mnI (mnI ((p0).size : Int) ((p1).size : Int)) ((p2).size : Int)) 60 = (n : Int)) (h0 : n ≤ p0.size) (h1 : n ≤ p1.size) (h2 : n ≤ p2.size) (h60 : n ≤ 60) (X : List Nat) (hX : X = xl (xl ((nb p0).take n) ((nb p1).take n)) ((nb p2).take n)) (hl : X.length = n) :
    ∀ (k i : Nat), n < k + i → i ≤ n → tidewracklaw02_SumThree_l3 K p0 p1 p2 k (ints (X.take i ++ List.replicate (n - i) 0)) i = tidewracklaw02_SumThree_j1 K p0 p1 p2 (ints X)
  | 0, i, h, h' => by omega
  | k + 1, i, h, h' => by
    have ih := three_loop K n p0 p1 p2 hn h0 h1 h2 h60 X hX hl k
    have b0 := nb_b8 p0
    have b1 := nb_b8 p1
    have b2 := nb_b8 p2
    have n0 := nb_len p0
    have n1 := nb_len p1
    have n2 := nb_len p2
    unfold tidewracklaw02_SumThree_l3
    rw [hn]
    by_cases hi : i < n
    · have hw : IntKind.wrap .i64 ((i : Int) + 1) = ((i + 1 : Nat) : Int) := by rw [w64 (by omega) (by omega)]; omega
      have hll : (ints (X.take i ++ List.replicate (n - i) 0)).length = n := by simp; omega
      have e0 := b0 _ (List.getElem_mem (by omega : i < (nb p0).length))
      have e1 := b1 _ (List.getElem_mem (by omega : i < (nb p1).length))
      have e2 := b2 _ (List.getElem_mem (by omega : i < (nb p2).length))
      have hx01 : (nb p0)[i]'(by omega) ^^^ (nb p1)[i]'(by omega) < 2 ^ 8 := Nat.xor_lt_two_pow (by omega) (by omega)
      rw [cD, if_pos (by omega), if_pos (by omega), if_pos (by omega), if_pos (by omega), if_pos (by omega), nb_get p0 i (by omega), nb_get p1 i (by omega), nb_get p2 i (by omega), bx8 (by omega) (by omega), bx8 hx01 (by omega), hw, Int.toNat_natCast]
      have hXi : X[i]'(by omega) = (nb p0)[i]'(by omega) ^^^ (nb p1)[i]'(by omega) ^^^ (nb p2)[i]'(by omega) := by
        subst hX
        rw [xl_get _ _ _ (by rw [xl_len _ _ (by simp; omega)]; simp; omega) (by simp; omega), xl_get _ _ _ (by simp; omega) (by simp; omega)]
        simp
      rw [← hXi, ← ih (i + 1) (by omega) (by omega)]
      congr 1
      simp only [ints]
      rw [show ((X[i]'(by omega) : Nat) : Int) = (fun n : Nat => (n : Int)) (X[i]'(by omega)) from rfl, ← List.map_set]
      congr 1
      rw [List.set_append_right _ _ (by rw [List.length_take]; omega), List.take_succ_eq_append_getElem (by omega : i < X.length)]
      obtain ⟨m, hm⟩ : ∃ m, n - i = m + 1 := ⟨n - i - 1, by omega⟩
      rw [hm, List.replicate_succ, show n - (i + 1) = m by omega, List.append_assoc, List.length_take, show i - min i X.length = 0 by omega, List.set_cons_zero]
      rfl
    · have : i = n := by omega
      subst this
      rw [cD, if_neg (by omega), Nat.sub_self, List.replicate_zero, List.append_nil, List.take_of_length_le (by omega)]
theorem SumThree (x0 : ByteArray) (w0 : x0.size ≤ 140737488351232) (x1 : ByteArray) (w1 : x1.size ≤ 140737488351232) (x2 : ByteArray) (w2 : x2.size ≤ 140737488351232) : ∃ K, tidewracklaw02_SumThree K x0 x1 x2 = some true := by
  suffices h : ∀ K, 1000 ≤ K → tidewracklaw02_SumThree K x0 x1 x2 = some true from ⟨1000, h _ (Nat.le_refl _)⟩
  intro K hK
  obtain ⟨n, hn, h0, h1, h2, h60⟩ : ∃ n : Nat, mnI (mnI (mnI ((x0).size : Int) ((x1).size : Int)) ((x2).size : Int)) 60 = (n : Int) ∧ n ≤ x0.size ∧ n ≤ x1.size ∧ n ≤ x2.size ∧ n ≤ 60 := by
    refine ⟨(mnI (mnI (mnI ((x0).size : Int) ((x1).size : Int)) ((x2).size : Int)) 60).toNat, ?_, ?_, ?_, ?_, ?_⟩ <;> unfold mnI <;> (repeat' split) <;> omega
  have n0 := nb_len x0
  have n1 := nb_len x1
  have n2 := nb_len x2
  have la : ((nb x0).take n).length = n := by simp; omega
  have lb : ((nb x1).take n).length = n := by simp; omega
  have lc : ((nb x2).take n).length = n := by simp; omega
  have ba : B8 ((nb x0).take n) := fun y hy => nb_b8 x0 y (List.mem_of_mem_take hy)
  have bb : B8 ((nb x1).take n) := fun y hy => nb_b8 x1 y (List.mem_of_mem_take hy)
  have bc : B8 ((nb x2).take n) := fun y hy => nb_b8 x2 y (List.mem_of_mem_take hy)
  have lab : (xl ((nb x0).take n) ((nb x1).take n)).length = n := by rw [xl_len _ _ (by omega), la]
  have lX : (xl (xl ((nb x0).take n) ((nb x1).take n)) ((nb x2).take n)).length = n := by rw [xl_len _ _ (by omega), lab]
  have bX := xl_b8 _ _ (xl_b8 _ _ ba bb) bc
  have nX : num (xl (xl ((nb x0).take n) ((nb x1).take n)) ((nb x2).take n)) = num ((nb x0).take n) ^^^ num ((nb x1).take n) ^^^ num ((nb x2).take n) := by
    rw [xl_num _ _ (by omega) (xl_b8 _ _ ba bb) bc, xl_num _ _ (by omega) ba bb]
  have lp := three_loop K n x0 x1 x2 hn h0 h1 h2 h60 _ rfl lX K 0 (by omega) (by omega)
  unfold tidewracklaw02_SumThree
  rw [awake_eq K (by omega), bS, Bool.not_true, cond_false, hn, if_pos (by omega), if_pos (by omega), Int.toNat_natCast]
  have e0 : List.replicate n (0 : Int) = ints (List.take 0 (xl (xl ((nb x0).take n) ((nb x1).take n)) ((nb x2).take n)) ++ List.replicate (n - 0) 0) := by simp
  rw [show ((0 : Nat) : Int) = 0 from rfl] at lp
  rw [e0, lp]
  have ext : ∀ y : ByteArray, nb (y.extract 0 n) = (nb y).take n := fun y => by rw [nb_extract, List.drop_zero]
  have es : ∀ y : ByteArray, (y.extract 0 n).size ≤ 60 := fun y => by rw [ByteArray.size_extract]; omega
  have hs := sOf_size (xl (xl ((nb x0).take n) ((nb x1).take n)) ((nb x2).take n))
  have hlt : ∀ l : List Nat, B8 l → sumF l < 2 ^ 32 := sumF_lt
  unfold tidewracklaw02_SumThree_j1
  rw [str_ints, of_one K _ (by omega) (by omega) (by omega), bS, hn, if_pos (by omega), Int.toNat_natCast, of_one K _ (by have := es x0; omega) (by have := es x0; omega) (by omega), bS, if_pos (by omega),
    of_one K _ (by have := es x1; omega) (by have := es x1; omega) (by omega), bS, if_pos (by omega), of_one K _ (by have := es x2; omega) (by have := es x2; omega) (by omega), bS, ext, ext, ext, nb_sOf _ bX]
  rw [bx32 (hlt _ ba) (hlt _ bb), bx32 (Nat.xor_lt_two_pow (hlt _ ba) (hlt _ bb)) (hlt _ bc)]
  have key : sumF (xl (xl ((nb x0).take n) ((nb x1).take n)) ((nb x2).take n)) = sumF ((nb x0).take n) ^^^ sumF ((nb x1).take n) ^^^ sumF ((nb x2).take n) := by
    unfold sumF
    rw [crc_num _ _ bX, crc_num _ _ ba, crc_num _ _ bb, crc_num _ _ bc, lX, la, lb, lc, nX]
    simp only [stn_xor]
    generalize stn (8 * n) (num ((nb x0).take n)) = a
    generalize stn (8 * n) (num ((nb x1).take n)) = b
    generalize stn (8 * n) (num ((nb x2).take n)) = c
    generalize stn (8 * n) ones = s
    generalize ones = o
    apply Nat.eq_of_testBit_eq
    intro i
    simp only [Nat.testBit_xor]
    cases a.testBit i <;> cases b.testBit i <;> cases c.testBit i <;> cases s.testBit i <;> cases o.testBit i <;> rfl
  rw [key, tidewracklaw02_SumThree_j2, beq_self_eq_true]
end Go.Proofs.YtmgkcahjpehckaaDoor.Pure
