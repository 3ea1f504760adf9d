/- Plain laws: what the plain functions answer, with no program in sight. -/
import Derived.Test.YtmolecadkgffkaaDoorPA
set_option linter.unusedVariables false
set_option linter.unusedSimpArgs false
namespace Go.Proofs.YtmolecadkgffkaaDoor.Pure
open Go Go.Proofs.XC Go.Proofs.YtmolecadkgffkaaDoor

theorem hex_ref : ∀ n : Fin 256, (0 ≤ (IntKind.wrap .i64 ((IntKind.wrap .i64 (Int.tdiv (IntKind.wrap .i64 (n.val : Int)) 16)) + 1)) ∧ (IntKind.wrap .i64 ((IntKind.wrap .i64 (Int.tdiv (IntKind.wrap .i64 (n.val : Int)) 16)) + 1)) ≤ (((⟨#[48, 49, 50, 51, 52, 53, 54, 55, 56, 57, 65, 66, 67, 68, 69, 70]⟩ : ByteArray)).size : Int) ∧ 0 ≤ (IntKind.wrap .i64 (Int.tdiv (IntKind.wrap .i64 (n.val : Int)) 16)) ∧ (IntKind.wrap .i64 (Int.tdiv (IntKind.wrap .i64 (n.val : Int)) 16)) ≤ ((Int.toNat (IntKind.wrap .i64 ((IntKind.wrap .i64 (Int.tdiv (IntKind.wrap .i64 (n.val : Int)) 16)) + 1)) : Nat) : Int)) ∧ (0 ≤ (IntKind.wrap .i64 ((Int.tmod (IntKind.wrap .i64 (n.val : Int)) 16) + 1)) ∧ (IntKind.wrap .i64 ((Int.tmod (IntKind.wrap .i64 (n.val : Int)) 16) + 1)) ≤ (((⟨#[48, 49, 50, 51, 52, 53, 54, 55, 56, 57, 65, 66, 67, 68, 69, 70]⟩ : ByteArray)).size : Int) ∧ 0 ≤ (Int.tmod (IntKind.wrap .i64 (n.val : Int)) 16) ∧ (Int.tmod (IntKind.wrap .i64 (n.val : Int)) 16) ≤ ((Int.toNat (IntKind.wrap .i64 ((Int.tmod (IntKind.wrap .i64 (n.val : Int)) 16) + 1)) : Nat) : Int)) ∧
    numsOf (ByteArray.extract (⟨#[48, 49, 50, 51, 52, 53, 54, 55, 56, 57, 65, 66, 67, 68, 69, 70]⟩ : ByteArray) (Int.toNat (IntKind.wrap .i64 (Int.tdiv (IntKind.wrap .i64 (n.val : Int)) 16))) (Int.toNat (IntKind.wrap .i64 ((IntKind.wrap .i64 (Int.tdiv (IntKind.wrap .i64 (n.val : Int)) 16)) + 1)))) = [hexD ((n.val : Int) / 16)] ∧ numsOf (ByteArray.extract (⟨#[48, 49, 50, 51, 52, 53, 54, 55, 56, 57, 65, 66, 67, 68, 69, 70]⟩ : ByteArray) (Int.toNat (Int.tmod (IntKind.wrap .i64 (n.val : Int)) 16)) (Int.toNat (IntKind.wrap .i64 ((Int.tmod (IntKind.wrap .i64 (n.val : Int)) 16) + 1)))) = [hexD ((n.val : Int) % 16)] := by decide +kernel
theorem encB_len (b : Int) : (encB b).length ≤ 3 ∧ 1 ≤ (encB b).length := by unfold encB; split <;> simp
theorem encT_len : ∀ l : List Int, (encT l).length ≤ 3 * l.length
  | [] => by simp [encT]
  | b :: l => by
    have := encT_len l
    have := encB_len b
    simp only [encT, List.flatMap_cons, List.length_append, List.length_cons] at *
    omega
theorem hexD_range (k : Int) (h0 : 0 ≤ k) (h1 : k < 16) : 48 ≤ hexD k ∧ hexD k ≤ 70 ∧ (hexD k ≤ 57 ∨ 65 ≤ hexD k) := by unfold hexD; split <;> omega
theorem encB_b (b : Int) (h0 : 0 ≤ b) (h1 : b < 256) : ∀ c ∈ encB b, plainB c ∨ c = 37 := by
  unfold encB; split
  · intro c hc; rw [List.mem_singleton.1 hc]; exact .inl (by assumption)
  · have e1 := hexD_range (b / 16) (by omega) (by omega)
    have e2 := hexD_range (b % 16) (by omega) (by omega)
    intro c hc
    simp only [List.mem_cons, List.mem_nil_iff, or_false] at hc
    rcases hc with rfl | rfl | rfl
    · exact .inr rfl
    · exact .inl (by unfold plainB; omega)
    · exact .inl (by unfold plainB; omega)
theorem encT_b : ∀ l : List Int, B256 l → ∀ c ∈ encT l, plainB c ∨ c = 37
  | [], _ => by intro c hc; cases hc
  | b :: l, h => by
    intro c hc
    simp only [encT, List.flatMap_cons, List.mem_append] at hc
    rcases hc with hc | hc
    · exact encB_b b (h b (by simp)).1 (h b (by simp)).2 c hc
    · exact encT_b l (fun x hx => h x (by simp [hx])) c hc
theorem encT_256 (l : List Int) (h : B256 l) : B256 (encT l) := fun c hc => by
  rcases encT_b l h c hc with h | h
  · unfold plainB at h; omega
  · omega
theorem one_size {s : ByteArray} {x : Int} (h : numsOf s = [x]) : s.size = 1 := by
  have := numsOf_len s
  rw [h] at this
  simpa using this.symm
theorem write_loop (p : ByteArray) (hp : p.size ≤ 100000) : ∀ (k i : Nat) (l : List Int), p.size < k + i → i ≤ p.size → l.length ≤ 3 * i → line_write_l2 p k l i = some (strOfNums (l ++ encT ((numsOf p).drop i)))
  | 0, i, l, h1, h2, h3 => by omega
  | k + 1, i, l, h1, h2, h3 => by
    have ih := write_loop p hp k
    have hn := numsOf_len p
    unfold line_write_l2
    rw [cD]
    by_cases c : i < p.size
    · have hw : IntKind.wrap .i64 ((i : Int) + 1) = ((i + 1 : Nat) : Int) := by rw [w64 (by omega) (by omega)]; omega
      have hb := bt_range p i c
      have hd : encT ((numsOf p).drop i) = encB (bt p i) ++ encT ((numsOf p).drop (i + 1)) := by
        rw [List.drop_eq_getElem_cons (by omega : i < (numsOf p).length), nums_get p i c]; rfl
      rw [if_pos (by omega), if_pos (by omega), plain_eq _ hb.1 hb.2, bS, cD, hd]
      by_cases a : plainB (bt p i)
      · unfold strings_Builder_WriteByte strings_Builder_copyCheck encB
        rw [if_pos a, bS, if_pos (by simp; omega), bS, hw, if_pos a, ← List.append_assoc]
        exact ih (i + 1) _ (by omega) (by omega) (by simp; omega)
      · rw [if_neg a]
        obtain ⟨⟨a1, a2, a3, a4⟩, ⟨b1, b2, b3, b4⟩, e1, e2⟩ := hex_own ⟨(bt p i).toNat, by omega⟩
        have hv : (((bt p i).toNat : Nat) : Int) = bt p i := by omega
        simp only [hv] at a1 a2 a3 a4 b1 b2 b3 b4 e1 e2
        have s1 := one_size e1
        have s2 := one_size e2
        have s37 : (⟨#[37]⟩ : ByteArray).size = 1 := rfl
        rw [if_pos a1, if_pos a2, if_pos a3, if_pos a4, if_pos (by rw [s1, s37]; omega), if_pos b1, if_pos b2, if_pos b3, if_pos b4, if_pos (by rw [app_size, s1, s2, s37]; omega)]
        unfold strings_Builder_WriteString strings_Builder_copyCheck encB
        rw [bS, if_pos (by simp only [app_size, s1, s2, s37]; omega), bS, hw, if_neg a, ← List.append_assoc]
        have := ih (i + 1) (l ++ [37, hexD (bt p i / 16), hexD (bt p i % 16)]) (by omega) (by omega) (by simp; omega)
        rw [← this, nums_app, nums_app, e1, e2]
        rfl
    · rw [if_neg (by omega), List.drop_eq_nil_of_le (by omega)]
      unfold line_write_j1 strings_Builder_String
      rw [bS]
      simp [encT]
theorem write_eq (K : Nat) (p : ByteArray) (hp : p.size ≤ 100000) (hK : p.size < K) : line_write K p = some (strOfNums (encT (numsOf p))) := by
  unfold line_write
  have := write_loop p hp K 0 [] (by omega) (by omega) (by simp)
  rw [List.drop_zero, List.nil_append] at this
  exact this
theorem ext_one (p : ByteArray) (i : Nat) (h : i < p.size) : numsOf (p.extract i (i + 1)) = [bt p i] := by
  have hn := numsOf_len p
  rw [nums_ext, List.take_succ_eq_append_getElem (by omega), List.drop_append_of_le_length (by rw [List.length_take]; omega), List.drop_eq_nil_of_le (by rw [List.length_take]; omega), nums_get p i h]
  rfl
theorem text_loop (p : ByteArray) (hp : p.size ≤ 100000) : ∀ (k i : Nat) (x : ByteArray), p.size < k + i → i ≤ p.size → x.size ≤ 3 * i → tidewrackref27_text_l2 p k x i = some (x ++ strOfNums (encT ((numsOf p).drop i)))
  | 0, i, x, h1, h2, h3 => by omega
  | k + 1, i, x, h1, h2, h3 => by
    have ih := text_loop p hp k
    have hn := numsOf_len p
    unfold tidewrackref27_text_l2
    rw [cD]
    by_cases c : i < p.size
    · have hw : IntKind.wrap .i64 ((i : Int) + 1) = ((i + 1 : Nat) : Int) := by rw [w64 (by omega) (by omega)]; omega
      have hb := bt_range p i c
      have hwb : IntKind.wrap .i64 (bt p i) = bt p i := w64 (by omega) (by omega)
      have hd : encT ((numsOf p).drop i) = encB (bt p i) ++ encT ((numsOf p).drop (i + 1)) := by
        rw [List.drop_eq_getElem_cons (by omega : i < (numsOf p).length), nums_get p i c]; rfl
      have h3' : ∀ y : Bool, y = decide (plainB (bt p i)) → tidewrackref27_text_j3 p x i (tidewrackref27_text_l2 p k) y = some (x ++ strOfNums (encT ((numsOf p).drop i))) := by
        intro y hy
        unfold tidewrackref27_text_j3
        rw [hy, cD, hd]
        by_cases a : plainB (bt p i)
        · have e := ext_one p i c
          have s1 := one_size e
          unfold encB
          rw [if_pos a, if_pos a, hw, Int.toNat_natCast, Int.toNat_natCast, if_pos (by omega), if_pos (by omega), if_pos (by omega), if_pos (by omega), if_pos (by rw [s1]; omega), ih (i + 1) _ (by omega) (by omega) (by rw [app_size, s1]; omega), str_app]
          have e2 : p.extract i (i + 1) = strOfNums [bt p i] := by rw [← e, str_nums]
          rw [e2, ByteArray.append_assoc]
        · rw [if_neg a]
          obtain ⟨⟨a1, a2, a3, a4⟩, ⟨b1, b2, b3, b4⟩, e1, e2⟩ := hex_ref ⟨(bt p i).toNat, by omega⟩
          have hv : (((bt p i).toNat : Nat) : Int) = bt p i := by omega
          simp only [hv] at a1 a2 a3 a4 b1 b2 b3 b4 e1 e2
          have s1 := one_size e1
          have s2 := one_size e2
          have s37 : (⟨#[37]⟩ : ByteArray).size = 1 := rfl
          rw [if_pos a1, if_pos a2, if_pos a3, if_pos a4, if_pos (by rw [s1, s37]; omega), if_pos b1, if_pos b2, if_pos b3, if_pos b4, if_pos (by rw [app_size, s1, s2, s37]; omega), if_pos (by rw [app_size, app_size, s1, s2, s37]; omega), hw,
            ih (i + 1) _ (by omega) (by omega) (by rw [app_size, app_size, app_size, s1, s2, s37]; omega)]
          unfold encB
          have hB : B256 [37, hexD (bt p i / 16), hexD (bt p i % 16)] := by
            have r1 := hexD_range (bt p i / 16) (by omega) (by omega)
            have r2 := hexD_range (bt p i % 16) (by omega) (by omega)
            intro c hc
            simp only [List.mem_cons, List.mem_nil_iff, or_false] at hc
            rcases hc with rfl | rfl | rfl <;> omega
          rw [if_neg a, str_app]
          congr 1
          apply nums_inj
          have e37 : numsOf (⟨#[37]⟩ : ByteArray) = [37] := rfl
          simp only [nums_app, e1, e2, e37, nums_of_str _ hB, List.append_assoc]
          rfl
      rw [if_pos (by omega), if_pos (by omega), hwb, cD, cD, cN, cN, cN]
      by_cases a1 : bt p i > 32
      · rw [if_pos a1]
        by_cases a2 : bt p i < 127
        · rw [if_pos a2]
          by_cases a3 : bt p i = 37
          · rw [if_pos a3]; exact h3' _ (decide_eq_false (by unfold plainB; omega)).symm
          · rw [if_neg a3]
            by_cases a4 : bt p i = 40
            · rw [if_pos a4]; exact h3' _ (decide_eq_false (by unfold plainB; omega)).symm
            · rw [if_neg a4]
              by_cases a5 : bt p i = 41
              · rw [if_pos a5]; exact h3' _ (decide_eq_false (by unfold plainB; omega)).symm
              · rw [if_neg a5]
                refine h3' _ ?_
                by_cases a6 : bt p i = 44
                · rw [a6]; rfl
                · rw [decide_eq_true (p := plainB (bt p i)) (by unfold plainB; omega)]; simp [a6]
        · rw [if_neg a2]; exact h3' _ (decide_eq_false (by unfold plainB; omega)).symm
      · rw [if_neg a1]; exact h3' _ (decide_eq_false (by unfold plainB; omega)).symm
    · rw [if_neg (by omega), List.drop_eq_nil_of_le (by omega)]
      unfold tidewrackref27_text_j1
      have : strOfNums (encT []) = ⟨#[]⟩ := rfl
      rw [this]
      congr 1
      apply nums_inj
      rw [nums_app]
      show numsOf x = numsOf x ++ []
      rw [List.append_nil]
theorem text_eq (K : Nat) (p : ByteArray) (hp : p.size ≤ 100000) (hK : p.size < K) : tidewrackref27_text K p = some (strOfNums (encT (numsOf p))) := by
  unfold tidewrackref27_text
  have := text_loop p hp K 0 ⟨#[]⟩ (by omega) (by omega) (Nat.zero_le _)
  rw [List.drop_zero] at this
  refine this.trans ?_
  congr 1
end Go.Proofs.YtmolecadkgffkaaDoor.Pure
