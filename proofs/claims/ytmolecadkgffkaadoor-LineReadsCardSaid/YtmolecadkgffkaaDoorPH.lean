/- Plain laws: what the plain functions answer, with no program in sight. -/
import Derived.Test.YtmolecadkgffkaaDoorPG
set_option linter.unusedVariables false
set_option linter.unusedSimpArgs false
namespace Go.Proofs.YtmolecadkgffkaaDoor.Pure
open Go Go.Proofs.XC Go.Proofs.YtmolecadkgffkaaDoor

/-! ### Numbers and texts are read -/
theorem number_total (t : ByteArray) (h : t.size ≤ 100000) : ∃ n ok, line_number t = some (n, ok) := by
  unfold line_number strconv_Atoi
  rw [if_pos (by omega), bS, cB]
  split
  · rw [cD]
    split
    · rw [cD]
      split
      · rw [itoa_eq _ (by assumption) (by assumption), bS]; exact ⟨_, _, rfl⟩
      · exact ⟨_, _, rfl⟩
    · exact ⟨_, _, rfl⟩
  · exact ⟨_, _, rfl⟩
theorem number_itoa (n : Int) (h : inR n) : line_number (itoaB n) = some (n, true) := by
  have hd := digs10 h.1 h.2
  have hz : (itoaB n).size ≤ 10 := by rw [size_nums, itoaB_nums _ h.1]; omega
  unfold line_number strconv_Atoi
  rw [if_pos (by omega), bS, atoi_itoa n h.1 h.2]
  dsimp only
  rw [cond_true, cD, if_pos h.1, cD, if_pos h.2, itoa_eq _ h.1 h.2, bS, str_eq, decide_eq_true rfl]
abbrev dg16 : ByteArray := ⟨#[48, 49, 50, 51, 52, 53, 54, 55, 56, 57, 65, 66, 67, 68, 69, 70]⟩
theorem hexv_range : ∀ n : Fin 256, -1 ≤ Lib.indexByte dg16.data.toList n.val.toUInt8 ∧ Lib.indexByte dg16.data.toList n.val.toUInt8 ≤ 15 := by decide +kernel
theorem hexv_hexD : ∀ k : Fin 16, Lib.indexByte dg16.data.toList (hexD (k.val : Int)).toNat.toUInt8 = (k.val : Int) := by decide +kernel
theorem byte_of : ∀ h l : Fin 16, IntKind.wrap .u8 (bits .or .i64 (IntKind.wrap .i64 ((h.val : Int) * 2 ^ min (Int.toNat 4) 64)) (l.val : Int)) = (h.val : Int) * 16 + (l.val : Int) := by decide +kernel
theorem wrap_u8 (x : Int) : 0 ≤ IntKind.wrap .u8 x ∧ IntKind.wrap .u8 x < 256 := by
  simp only [IntKind.wrap, IntKind.bits, IntKind.signed]
  simp
  omega
theorem read_total (K : Nat) (hK : 30000 ≤ K) (p : ByteArray) (hp : p.size ≤ 5000) : ∀ (k i : Nat) (l : List Int), p.size < k + i → i ≤ p.size → l.length ≤ i → B256 l → ∃ a ok, line_read_l2 K p k l i = some (a, ok) ∧ a.size ≤ 5000
  | 0, i, l, h1, h2, h3, h4 => by omega
  | k + 1, i, l, h1, h2, h3, h4 => by
    have ih := read_total K hK p hp k
    unfold line_read_l2
    rw [cD]
    by_cases c : i < p.size
    · have hw : IntKind.wrap .i64 ((i : Int) + 1) = ((i + 1 : Nat) : Int) := by rw [w64 (by omega) (by omega)]; omega
      have hw2 : IntKind.wrap .i64 ((i : Int) + 2) = ((i + 2 : Nat) : Int) := by rw [w64 (by omega) (by omega)]; omega
      have hb := bt_range p i c
      rw [if_pos (by omega), if_pos (by omega), cN, cD, hw, hw2]
      by_cases a : bt p i = 37
      · rw [if_pos a]
        by_cases d : i + 2 < p.size
        · rw [if_neg (by omega), if_pos (by omega), if_pos (by omega)]
          unfold strings_IndexByte
          rw [bS, bS, cD]
          have hw3 : IntKind.wrap .i64 (((i + 2 : Nat) : Int) + 1) = ((i + 3 : Nat) : Int) := by rw [w64 (by omega) (by omega)]; omega
          have h34 : ∀ (u v : Int) (y : Bool), ∃ a ok, line_read_j4 l i (line_read_l2 K p k) u v y = some (a, ok) ∧ a.size ≤ 5000 := by
            intro u v y
            unfold line_read_j4 line_read_j3
            cases y with
            | true => exact ⟨_, _, rfl, Nat.zero_le _⟩
            | false =>
              rw [cond_false, if_pos (by simp; omega), hw2, hw3]
              refine ih (i + 3) _ (by omega) (by omega) (by simp; omega) (h4.append fun z hz => ?_)
              rw [List.mem_singleton.1 hz]
              exact wrap_u8 _
          split
          · exact h34 _ _ _
          · exact h34 _ _ _
        · rw [if_pos (by omega)]; exact ⟨_, _, rfl, Nat.zero_le _⟩
      · rw [if_neg a, if_pos (by simp; omega)]
        exact ih (i + 1) _ (by omega) (by omega) (by simp; omega) (h4.append fun z hz => by rw [List.mem_singleton.1 hz]; exact hb)
    · rw [if_neg (by omega)]
      have hz := str_len l
      unfold line_read_j1
      rw [write_eq K _ (by omega) (by omega), bS]
      exact ⟨_, _, rfl, by omega⟩
theorem read_any (K : Nat) (hK : 30000 ≤ K) (p : ByteArray) (hp : p.size ≤ 5000) : ∃ a ok, line_read K p = some (a, ok) ∧ a.size ≤ 5000 := by
  unfold line_read
  exact read_total K hK p hp K 0 [] (by omega) (by omega) (by simp) (fun c hc => by cases hc)
theorem drop_bt {p : ByteArray} {i : Nat} {c : Int} {r : List Int} (h : (numsOf p).drop i = c :: r) : i < p.size ∧ bt p i = c ∧ (numsOf p).drop (i + 1) = r := by
  have hn := numsOf_len p
  have hi : i < (numsOf p).length := by
    by_cases hi : i < (numsOf p).length
    · exact hi
    · rw [List.drop_eq_nil_of_le (by omega)] at h; cases h
  rw [List.drop_eq_getElem_cons hi] at h
  injection h with h1 h2
  rw [nums_get p i (by omega)] at h1
  exact ⟨by omega, h1, h2⟩
theorem read_enc_loop (K : Nat) (hK : 30000 ≤ K) (p : ByteArray) (hp : p.size ≤ 5000) (T : List Int) (hT : B256 T) (he : numsOf p = encT T) (hTl : T.length ≤ 5000) : ∀ (R l : List Int) (k i : Nat), l ++ R = T → (numsOf p).drop i = encT R → i ≤ p.size → p.size < k + i → l.length ≤ i →
    line_read_l2 K p k l i = some (strOfNums T, true)
  | R, l, 0, i, h1, h2, h3, h4, h5 => by omega
  | [], l, k + 1, i, h1, h2, h3, h4, h5 => by
    have hn := numsOf_len p
    have hi : ¬ i < p.size := by
      intro hi
      rw [List.drop_eq_getElem_cons (by omega)] at h2
      cases h2
    unfold line_read_l2
    rw [cD, if_neg (by omega)]
    rw [List.append_nil] at h1
    subst h1
    have hz := str_len l
    unfold line_read_j1
    rw [write_eq K _ (by omega) (by omega), bS, str_eq, nums_of_str _ hT, ← he, str_nums, decide_eq_true rfl]
  | c :: R, l, k + 1, i, h1, h2, h3, h4, h5 => by
    have hcb : 0 ≤ c ∧ c < 256 := hT c (by rw [← h1]; simp)
    have ih := read_enc_loop K hK p hp T hT he hTl R (l ++ [c]) k
    have hd : encT (c :: R) = encB c ++ encT R := rfl
    rw [hd] at h2
    have hll : l.length ≤ 5000 := by rw [← h1, List.length_append] at hTl; omega
    unfold line_read_l2
    by_cases a : plainB c
    · unfold encB at h2
      rw [if_pos a] at h2
      obtain ⟨b1, b2, b3⟩ := drop_bt h2
      have hw : IntKind.wrap .i64 ((i : Int) + 1) = ((i + 1 : Nat) : Int) := by rw [w64 (by omega) (by omega)]; omega
      unfold plainB at a
      rw [cD, if_pos (by omega), if_pos (by omega), cN, if_neg (by omega), if_pos (by simp; omega), hw, b2]
      exact ih (i + 1) (by rw [← h1]; simp) b3 (by omega) (by omega) (by simp; omega)
    · unfold encB at h2
      rw [if_neg a] at h2
      obtain ⟨b1, b2, b3⟩ := drop_bt h2
      obtain ⟨c1, c2, c3⟩ := drop_bt b3
      obtain ⟨d1, d2, d3⟩ := drop_bt c3
      have hw : IntKind.wrap .i64 ((i : Int) + 1) = ((i + 1 : Nat) : Int) := by rw [w64 (by omega) (by omega)]; omega
      have hw2 : IntKind.wrap .i64 ((i : Int) + 2) = ((i + 2 : Nat) : Int) := by rw [w64 (by omega) (by omega)]; omega
      have hw3 : IntKind.wrap .i64 (((i + 2 : Nat) : Int) + 1) = ((i + 3 : Nat) : Int) := by rw [w64 (by omega) (by omega)]; omega
      have v1 := hexv_hexD ⟨(c / 16).toNat, by omega⟩
      have v2 := hexv_hexD ⟨(c % 16).toNat, by omega⟩
      have v3 := byte_of ⟨(c / 16).toNat, by omega⟩ ⟨(c % 16).toNat, by omega⟩
      have x1 : (((c / 16).toNat : Nat) : Int) = c / 16 := by omega
      have x2 : (((c % 16).toNat : Nat) : Int) = c % 16 := by omega
      simp only [x1, x2] at v1 v2 v3
      have v4 : c / 16 * 16 + c % 16 = c := by omega
      rw [v4] at v3
      rw [cD, if_pos (by omega), if_pos (by omega), cN, if_pos b2, cD, hw, hw2, if_neg (by omega), if_pos (by omega), if_pos (by omega)]
      unfold strings_IndexByte
      rw [bS, bS, c2, d2, v1, v2, cD, if_neg (by omega), decide_eq_false (by omega)]
      unfold line_read_j4 line_read_j3
      rw [cond_false, v3, if_pos (by simp; omega), hw2, hw3]
      exact ih (i + 3) (by rw [← h1]; simp) d3 (by omega) (by omega) (by simp; omega)
theorem read_enc (K : Nat) (hK : 30000 ≤ K) (p : ByteArray) (hp : p.size ≤ 5000) (T : List Int) (hT : B256 T) (he : numsOf p = encT T) (hTl : T.length ≤ 5000) : line_read K p = some (strOfNums T, true) := by
  unfold line_read
  exact read_enc_loop K hK p hp T hT he hTl T [] K 0 rfl (by rw [List.drop_zero]; exact he) (by omega) (by omega) (by simp)
end Go.Proofs.YtmolecadkgffkaaDoor.Pure
