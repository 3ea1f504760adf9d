/- Plain laws: what the plain functions answer, with no program in sight. -/
import Derived.Test.YtpciioffkjpieaaDoorQPX
set_option linter.unusedVariables false
set_option linter.unusedSimpArgs false
namespace Go.Proofs.YtpciioffkjpieaaDoor.Pure4
open Go Go.Proofs.XC Go.Proofs.YtpciioffkjpieaaDoor

/-! ### Parts -/
theorem ext_ext (s : ByteArray) (o e a b : Nat) (h : o + b ≤ e) : (s.extract o e).extract a b = s.extract (o + a) (o + b) := by
  apply nums_inj
  rw [nums_ext, nums_ext, nums_ext, List.take_drop, List.drop_drop, List.take_take, Nat.min_eq_left (by omega)]
theorem ext_all (s : ByteArray) (o : Nat) : (s.extract o s.size).extract 0 (s.extract o s.size).size = s.extract o s.size := by
  apply nums_inj
  rw [nums_ext, List.drop_zero, List.take_of_length_le (by rw [numsOf_len]; omega)]
theorem ext_min (s : ByteArray) (o e : Nat) : s.extract o (min e s.size) = s.extract o e := by
  apply nums_inj
  rw [nums_ext, nums_ext]
  congr 1
  by_cases h : e ≤ s.size
  · rw [Nat.min_eq_left h]
  · rw [Nat.min_eq_right (by omega), List.take_of_length_le (by rw [numsOf_len]; omega), List.take_of_length_le (by rw [numsOf_len]; omega)]
theorem ext_zero (s : ByteArray) : s.extract 0 s.size = s := by
  apply nums_inj
  rw [nums_ext, List.drop_zero, List.take_of_length_le (by rw [numsOf_len]; omega)]
/-- How large a part is; how many there are. -/
def pn (size : Int) : Nat := (mxI 1 (mnI size 8000)).toNat
theorem pn_range (size : Int) : 1 ≤ pn size ∧ pn size ≤ 8000 ∧ mxI 1 (mnI size 8000) = ((pn size : Nat) : Int) := by
  have : 1 ≤ mxI 1 (mnI size 8000) ∧ mxI 1 (mnI size 8000) ≤ 8000 := by unfold mxI mnI; (repeat' split) <;> omega
  unfold pn; omega
def pm (s : ByteArray) (n : Nat) : Nat := max 1 ((s.size + n - 1) / n)
theorem pm_lt (s : ByteArray) (n : Nat) (hn : 1 ≤ n) (i : Nat) : i + 1 < pm s n ↔ i * n + n < s.size := by
  have h1 : i + 2 ≤ (s.size + n - 1) / n ↔ (i + 2) * n ≤ s.size + n - 1 := Nat.le_div_iff_mul_le (by omega)
  have h2 : (i + 2) * n = i * n + n + n := by rw [Nat.add_mul]; omega
  unfold pm
  omega
theorem pm_le (s : ByteArray) (n : Nat) (hn : 1 ≤ n) : pm s n ≤ max 1 s.size := by
  have : (s.size + n - 1) / n ≤ s.size := by
    rcases Nat.eq_zero_or_pos s.size with h | h
    · rw [h]; rw [Nat.div_eq_of_lt (by omega)]; omega
    · have h1 : s.size + n - 1 ≤ s.size * n := by
        obtain ⟨k, rfl⟩ : ∃ k, n = k + 1 := ⟨n - 1, by omega⟩
        rw [Nat.mul_add]
        have : k ≤ s.size * k := Nat.le_mul_of_pos_left _ h
        omega
      calc (s.size + n - 1) / n ≤ (s.size * n) / n := Nat.div_le_div_right h1
        _ = s.size := Nat.mul_div_cancel _ (by omega)
  unfold pm; omega
theorem pm_pos (s : ByteArray) (n : Nat) : 1 ≤ pm s n := by unfold pm; omega
theorem off_le (s : ByteArray) (n : Nat) (hn : 1 ≤ n) (i : Nat) (hi : i < pm s n) : i * n ≤ s.size ∧ (i ≠ 0 → i * n < s.size) := by
  cases i with
  | zero => omega
  | succ i =>
    have := (pm_lt s n hn i).1 hi
    have h2 : (i + 1) * n = i * n + n := by rw [Nat.add_mul]; omega
    omega
def pc (s : ByteArray) (n i : Nat) : ByteArray := s.extract (i * n) (i * n + n)
def pcs (s : ByteArray) (n : Nat) : Nat → Nat → List ByteArray
  | _, 0 => []
  | i, c + 1 => pc s n i :: pcs s n (i + 1) c
theorem pcs_len (s : ByteArray) (n : Nat) : ∀ c i, (pcs s n i c).length = c
  | 0, i => rfl
  | c + 1, i => by rw [pcs, List.length_cons, pcs_len s n c]
theorem pcs_get (s : ByteArray) (n : Nat) : ∀ c i j (h : j < (pcs s n i c).length), (pcs s n i c)[j] = pc s n (i + j)
  | 0, i, j, h => by simp [pcs] at h
  | c + 1, i, 0, h => by simp [pcs]
  | c + 1, i, j + 1, h => by
    simp only [pcs, List.getElem_cons_succ]
    rw [pcs_get s n c (i + 1) j]
    congr 1
    omega
def parts (s : ByteArray) (n : Nat) : List ByteArray := pcs s n 0 (pm s n)
theorem parts_len (s : ByteArray) (n : Nat) : (parts s n).length = pm s n := pcs_len _ _ _ _
theorem parts_get (s : ByteArray) (n j : Nat) (h : j < (parts s n).length) : (parts s n)[j] = pc s n j := by
  have := pcs_get s n (pm s n) 0 j h
  rw [Nat.zero_add] at this
  exact this
theorem pc_last (s : ByteArray) (n i : Nat) (h : s.size ≤ i * n + n) : pc s n i = s.extract (i * n) s.size := by
  unfold pc
  rw [← ext_min s (i * n) (i * n + n), Nat.min_eq_right h]
theorem pc_size (s : ByteArray) (n i : Nat) : (pc s n i).size = min (i * n + n) s.size - i * n := ext_size _ _ _
theorem split_loop (s : ByteArray) (hs : s.size ≤ 1000) (size : Int) : ∀ (k i : Nat) (l : List ByteArray), pm s (pn size) < k + i → i < pm s (pn size) → l.length ≤ i →
    parts_Split_l2 size k (s.extract (i * pn size) s.size) l = some (l ++ pcs s (pn size) i (pm s (pn size) - i))
  | 0, i, l, h1, h2, h3 => by omega
  | k + 1, i, l, h1, h2, h3 => by
    obtain ⟨n1, n2, n3⟩ := pn_range size
    have ih := split_loop s hs size k
    have hle := pm_le s (pn size) n1
    have ho := off_le s (pn size) n1 i h2
    have hsz := ext_size s (i * pn size) s.size
    unfold parts_Split_l2
    rw [n3, cD]
    by_cases c : i + 1 < pm s (pn size)
    · have hc := (pm_lt s (pn size) n1 i).1 c
      have hi1 : (i + 1) * pn size = i * pn size + pn size := by rw [Nat.add_mul]; omega
      have e1 : (s.extract (i * pn size) s.size).extract 0 (Int.toNat ((pn size : Nat) : Int)) = pc s (pn size) i := by
        rw [Int.toNat_natCast, ext_ext s _ _ _ _ (by omega)]; rfl
      have e2 : (s.extract (i * pn size) s.size).extract (Int.toNat ((pn size : Nat) : Int)) (s.extract (i * pn size) s.size).size = s.extract ((i + 1) * pn size) s.size := by
        rw [Int.toNat_natCast, ext_ext s _ _ _ _ (by omega), hi1]
        congr 1; omega
      rw [if_pos (by omega), if_pos (by omega), if_pos (by omega), if_pos (by simp only [List.length_cons, List.length_nil]; omega), e1, e2, ih (i + 1) _ (by omega) c (by simp only [List.length_append, List.length_cons, List.length_nil]; omega)]
      rw [show pm s (pn size) - i = (pm s (pn size) - (i + 1)) + 1 by omega, pcs, List.append_assoc]; rfl
    · have hc : s.size ≤ i * pn size + pn size := by
        have := mt (pm_lt s (pn size) n1 i).2 c
        omega
      rw [if_neg (by omega)]
      unfold parts_Split_j1
      rw [if_pos (by simp only [List.length_cons, List.length_nil]; omega), show pm s (pn size) - i = 0 + 1 by omega, pcs, pcs, pc_last s _ i hc]
theorem split_eq (K : Nat) (s : ByteArray) (hs : s.size ≤ 1000) (size : Int) (hK : 1002 ≤ K) : parts_Split K s size = some (parts s (pn size)) := by
  have hle := pm_le s (pn size) (pn_range size).1
  have hp := pm_pos s (pn size)
  have := split_loop s hs size K 0 [] (by omega) (by omega) (by simp)
  rw [Nat.zero_mul, ext_zero, Nat.sub_zero, List.nil_append] at this
  exact this
theorem rsplit_count (s : ByteArray) (hs : s.size ≤ 1000) (size : Int) : mxI 1 (IntKind.wrap .i64 (Int.tdiv (IntKind.wrap .i64 ((IntKind.wrap .i64 (((s).size : Int) + ((pn size : Nat) : Int))) - 1)) ((pn size : Nat) : Int))) = ((pm s (pn size) : Nat) : Int) := by
  obtain ⟨n1, n2, n3⟩ := pn_range size
  rw [w64 (x := (s.size : Int) + (pn size : Nat)) (by omega) (by omega), w64 (x := (s.size : Int) + (pn size : Nat) - 1) (by omega) (by omega)]
  have e : (s.size : Int) + (pn size : Nat) - 1 = ((s.size + pn size - 1 : Nat) : Int) := by omega
  have hd : (s.size + pn size - 1) / pn size ≤ s.size + pn size := Nat.le_trans (Nat.div_le_self _ _) (by omega)
  rw [e, tdiv_nat]
  unfold pm
  generalize (s.size + pn size - 1) / pn size = q at *
  rw [w64 (by omega) (by omega)]
  unfold mxI
  split <;> omega
theorem cut_eq (s : ByteArray) (n : Nat) : ∃ t, tidewracklaw01_Cut s n = some t ∧ t.size ≤ n := by
  unfold tidewracklaw01_Cut
  rw [cD]
  by_cases h : (s.size : Int) > n
  · rw [if_pos h, if_pos (by omega), if_pos (by omega), Int.toNat_natCast]
    exact ⟨_, rfl, by rw [ext_size]; omega⟩
  · rw [if_neg h]
    exact ⟨s, rfl, by omega⟩
/-! ### Joined -/
def cat : List ByteArray → ByteArray
  | [] => ⟨#[]⟩
  | x :: l => x ++ cat l
theorem empty_app (x : ByteArray) : (⟨#[]⟩ : ByteArray) ++ x = x := by
  apply nums_inj; rw [nums_app]; rfl
theorem app_empty (x : ByteArray) : x ++ (⟨#[]⟩ : ByteArray) = x := by
  apply nums_inj; rw [nums_app]; exact List.append_nil _
theorem app_asc (x y z : ByteArray) : x ++ y ++ z = x ++ (y ++ z) := by
  apply nums_inj; simp only [nums_app, List.append_assoc]
theorem cat_pcs (s : ByteArray) (n : Nat) (hn : 1 ≤ n) : ∀ c i, i + c = pm s n → 1 ≤ c → cat (pcs s n i c) = s.extract (i * n) s.size
  | 0, i, h, h1 => by omega
  | 1, i, h, h1 => by
    have : s.size ≤ i * n + n := by
      have := mt (pm_lt s n hn i).2 (by omega)
      omega
    simp only [pcs, cat, app_empty, pc_last s n i this]
  | c + 2, i, h, h1 => by
    have hlt := (pm_lt s n hn i).1 (by omega)
    rw [pcs, cat, cat_pcs s n hn (c + 1) (i + 1) (by omega) (by omega)]
    apply nums_inj
    have hi : (i + 1) * n = i * n + n := by rw [Nat.add_mul]; omega
    rw [nums_app, pc, nums_ext, nums_ext, nums_ext, hi]
    have e : ((numsOf s).take s.size).drop (i * n + n) = (((numsOf s).take s.size).drop (i * n)).drop n := by rw [List.drop_drop]
    have e2 : ((numsOf s).take (i * n + n)).drop (i * n) = (((numsOf s).take s.size).drop (i * n)).take n := by
      rw [List.take_drop, List.take_take, Nat.min_eq_left (by omega)]
    rw [e, e2, List.take_append_drop]
theorem cat_parts (s : ByteArray) (n : Nat) (hn : 1 ≤ n) : cat (parts s n) = s := by
  unfold parts
  rw [cat_pcs s n hn (pm s n) 0 (by omega) (pm_pos s n), Nat.zero_mul, ext_zero]
def sizes : List ByteArray → Nat
  | [] => 0
  | x :: l => x.size + sizes l
theorem cat_size : ∀ l, (cat l).size = sizes l
  | [] => rfl
  | x :: l => by rw [cat, app_size, cat_size l, sizes]
theorem sizes_le (b : Nat) : ∀ l : List ByteArray, (∀ x ∈ l, x.size ≤ b) → sizes l ≤ l.length * b
  | [], _ => by simp [sizes]
  | x :: l, h => by
    have h1 := h x (by simp)
    have h2 := sizes_le b l fun y hy => h y (by simp [hy])
    rw [sizes, List.length_cons, Nat.add_mul]; omega
theorem sizes_app (a b : List ByteArray) : sizes (a ++ b) = sizes a + sizes b := by
  induction a with
  | nil => simp [sizes]
  | cons x a ih => rw [List.cons_append, sizes, sizes, ih]; omega
theorem cat_app (a b : List ByteArray) : cat (a ++ b) = cat a ++ cat b := by
  induction a with
  | nil => rw [List.nil_append, cat, empty_app]
  | cons x a ih => rw [List.cons_append, cat, cat, ih, app_asc]
end Go.Proofs.YtpciioffkjpieaaDoor.Pure4
