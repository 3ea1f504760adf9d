/- Plain laws: what the plain functions answer, with no program in sight. -/
import Derived.Test.YthddmlhmejnhlaaDoorQPB
set_option linter.unusedVariables false
set_option linter.unusedSimpArgs false
namespace Go.Proofs.YthddmlhmejnhlaaDoor.Pure
open Go Go.Proofs.XC Go.Proofs.YthddmlhmejnhlaaDoor

theorem need_eq (b : Int) : tidewrackref05_need b = some ((leadOf b).1.need, (leadOf b).1.low, (leadOf b).1.high) := by
  simp only [tidewrackref05_need, tidewrackref05_need_j1, tidewrackref05_need_j2, tidewrackref05_need_j3, tidewrackref05_need_j4, tidewrackref05_need_j5, cD, cE, cond_false, leadOf]
  grind (splits := 60)
theorem need0 (b : Int) : (leadOf b).1.need = 0 ↔ (leadOf b).2 = false := by unfold leadOf; grind (splits := 40)
theorem next_Z (c : Int) : nextF Z c = beginF c := by unfold nextF; simp
def Good (B : List Int) (d : T27) (acc : List Int) (i : Nat) (R : Option (List Int × Int)) : Prop :=
  ∃ left, R = some (acc ++ (dec d (B.drop i)).2, left) ∧ 0 ≤ left ∧ (left > 0 ↔ (dec d (B.drop i)).1.Need > 0)
theorem inner (p0 : ByteArray) (hp : p0.size ≤ 1000) (acc : List Int) (hacc : acc.length ≤ 1000) (i : Nat) (lp : List Int → Int → Option (List Int × Int)) (t : Int × Int × Int) (b : Int) (hl : (leadOf b).2 = true) (ht : t.1 = (leadOf b).1.need)
    (hlp : ∀ (x : Int) (i' : Nat), i < i' → i' ≤ p0.size → Good (numsOf p0) Z (acc ++ [x]) i' (lp (acc ++ [x]) i')) :
    ∀ (k j : Nat) (r : Int), 1 ≤ j → (j : Int) ≤ t.1 → i + j ≤ p0.size → 4 < k + j → Inv ⟨b, r, t.1 + 1 - j⟩ →
      Good (numsOf p0) ⟨b, r, t.1 + 1 - j⟩ acc (i + j) (tidewrackref05_Runes_l4 p0 acc i lp t k (loOf ⟨b, r, t.1 + 1 - j⟩) (hiOf ⟨b, r, t.1 + 1 - j⟩) r j)
  | 0, j, r, h1, hj, hij, hk, hI => by
    have := lead_need b hl
    omega
  | k + 1, j, r, h1, hj, hij, hk, hI => by
    have ih := inner p0 hp acc hacc i lp t b hl ht hlp k
    have hn := lead_need b hl
    have hsm := hI.small
    simp only at hsm
    have hN := numsOf_len p0
    have hij2 : IntKind.wrap .i64 ((i : Int) + (j : Int)) = ((i + j : Nat) : Int) := by rw [w64 (by omega) (by omega)]; omega
    have hj1 : IntKind.wrap .i64 ((j : Int) + 1) = ((j + 1 : Nat) : Int) := by rw [w64 (by omega) (by omega)]; omega
    have hneed : ¬ (t.1 + 1 - (j : Int)) ≤ 0 := by omega
    unfold tidewrackref05_Runes_l4
    rw [cD, if_pos hj, cD, hij2]
    by_cases hlt : i + j < p0.size
    · rw [if_pos (by omega)]
      have hcb := numsOf_bytes p0 (bt p0 ((i + j : Nat) : Int)) (by rw [← numsOf_get p0 (i + j) hlt]; exact List.getElem_mem _)
      have hdrop : (numsOf p0).drop (i + j) = bt p0 ((i + j : Nat) : Int) :: (numsOf p0).drop (i + j + 1) := by
        rw [List.drop_eq_getElem_cons (by omega : i + j < (numsOf p0).length), numsOf_get p0 (i + j) hlt]
      unfold tidewrackref05_Runes_j5
      rw [hij2, if_pos (by omega)]
      generalize hc : bt p0 ((i + j : Nat) : Int) = c at *
      rw [w64 (x := c) (by omega) (by omega), cD, cD]
      have bad : ¬(loOf ⟨b, r, t.1 + 1 - j⟩ ≤ c ∧ c ≤ hiOf ⟨b, r, t.1 + 1 - j⟩) → Good (numsOf p0) ⟨b, r, t.1 + 1 - j⟩ acc (i + j) (tidewrackref05_Runes_j3 p0 acc i lp t r j) := by
        intro hf
        have hnx0 : nextF ⟨b, r, t.1 + 1 - j⟩ c = ((beginF c).1, 65533 :: (beginF c).2) := by unfold nextF; rw [if_neg hneed, if_neg hf]
        have := hlp 65533 (i + j) (by omega) (by omega)
        unfold tidewrackref05_Runes_j3
        rw [cD, if_neg (by omega), hij2, cE, if_neg (by omega), if_pos (by simp; omega)]
        obtain ⟨left, e, l0, l1⟩ := this
        refine ⟨left, ?_, l0, ?_⟩
        · rw [e, hdrop]
          rw [dec, dec, next_Z, hnx0]
          simp only [List.append_assoc, List.singleton_append, List.cons_append, List.nil_append]
        · rw [l1, hdrop]
          rw [dec, dec, next_Z, hnx0]
      by_cases c1 : c < loOf ⟨b, r, t.1 + 1 - j⟩
      · rw [if_pos c1]; exact bad (by omega)
      · rw [if_neg c1]
        by_cases c2 : c > hiOf ⟨b, r, t.1 + 1 - j⟩
        · rw [if_pos c2]; exact bad (by omega)
        · rw [if_neg c2]
          have hf : loOf ⟨b, r, t.1 + 1 - j⟩ ≤ c ∧ c ≤ hiOf ⟨b, r, t.1 + 1 - j⟩ := by omega
          unfold tidewrackref05_Runes_j6
          rw [hij2, hc, w64 (x := c) (by omega) (by omega), tm c 64 (by omega), w64 (x := r * 64) (by omega) (by omega), w64 (x := r * 64 + c % 64) (by omega) (by omega), hj1]
          have hnx := next_inv _ c hI hcb.1 hcb.2
          by_cases hlast : (j : Int) = t.1
          · obtain ⟨k2, rfl⟩ : ∃ k2, k = k2 + 1 := ⟨k - 1, by omega⟩
            unfold tidewrackref05_Runes_l4
            rw [cD, if_neg (by omega)]
            unfold tidewrackref05_Runes_j3
            rw [cD, if_pos (by omega), if_pos (by simp; omega)]
            have hw2 : IntKind.wrap .i64 ((i : Int) + ((j + 1 : Nat) : Int)) = ((i + j + 1 : Nat) : Int) := by rw [w64 (by omega) (by omega)]; omega
            rw [hw2]
            obtain ⟨left, e, l0, l1⟩ := hlp (r * 64 + c % 64) (i + j + 1) (by omega) (by omega)
            refine ⟨left, ?_, l0, ?_⟩
            · rw [e, hdrop]
              simp only [dec, nextF, hneed, if_false, hf, and_self, if_true, if_pos (show t.1 + 1 - (j : Int) = 1 by omega), List.append_assoc]
            · rw [l1, hdrop]
              simp only [dec, nextF, hneed, if_false, hf, and_self, if_true, if_pos (show t.1 + 1 - (j : Int) = 1 by omega)]
          · have hnf : nextF ⟨b, r, t.1 + 1 - j⟩ c = (⟨b, r * 64 + c % 64, t.1 + 1 - ((j + 1 : Nat) : Int)⟩, []) := by
              simp only [nextF, hneed, if_false, hf, and_self, if_true, if_neg (show ¬ t.1 + 1 - (j : Int) = 1 by omega)]
              congr 2
              omega
            rw [hnf] at hnx
            have := ih (j + 1) (r * 64 + c % 64) (by omega) (by omega) (by omega) (by omega) hnx.1
            have e1 : loOf ⟨b, r * 64 + c % 64, t.1 + 1 - ((j + 1 : Nat) : Int)⟩ = 128 := by unfold loOf; rw [if_pos]; simp only; omega
            have e2 : hiOf ⟨b, r * 64 + c % 64, t.1 + 1 - ((j + 1 : Nat) : Int)⟩ = 191 := by unfold hiOf; rw [if_pos]; simp only; omega
            rw [e1, e2] at this
            obtain ⟨left, e, l0, l1⟩ := this
            refine ⟨left, ?_, l0, ?_⟩
            · rw [e, hdrop]
              simp only [dec, hnf, List.nil_append, Nat.add_assoc]
            · rw [l1, hdrop]
              simp only [dec, hnf, Nat.add_assoc]
    · rw [if_neg (by omega)]
      unfold tidewrackref05_Runes_j3
      rw [cD, if_neg (by omega), hij2, cE, if_pos (by omega)]
      refine ⟨j, ?_, by omega, ?_⟩
      · rw [List.drop_eq_nil_of_le (by omega)]; simp [dec]
      · rw [List.drop_eq_nil_of_le (by omega)]; simp [dec]; omega
theorem outer (K : Nat) (hK : 10 ≤ K) (p0 : ByteArray) (hp : p0.size ≤ 400) : ∀ (k : Nat) (acc : List Int) (i : Nat), p0.size < k + i → i ≤ p0.size → acc.length ≤ i → Good (numsOf p0) Z acc i (tidewrackref05_Runes_l2 K p0 k acc i)
  | 0, acc, i, h, h', hl => by omega
  | k + 1, acc, i, h, h', hl => by
    have ih := outer K hK p0 hp k
    have hN := numsOf_len p0
    unfold tidewrackref05_Runes_l2
    by_cases hi : i < p0.size
    · have hw : IntKind.wrap .i64 ((i : Int) + 1) = ((i + 1 : Nat) : Int) := by rw [w64 (by omega) (by omega)]; omega
      have hcb := numsOf_bytes p0 (bt p0 (i : Int)) (by rw [← numsOf_get p0 i hi]; exact List.getElem_mem _)
      have hdrop : (numsOf p0).drop i = bt p0 (i : Int) :: (numsOf p0).drop (i + 1) := by
        rw [List.drop_eq_getElem_cons (by omega : i < (numsOf p0).length), numsOf_get p0 i hi]
      rw [cD, if_pos (by omega), if_pos (by omega)]
      generalize hc : bt p0 (i : Int) = b at *
      simp only [w64 (x := b) (by omega) (by omega), cD, hw, need_eq, bS, cE]
      have one : ∀ x : Int, beginF b = (Z, [x]) → Good (numsOf p0) Z acc i (tidewrackref05_Runes_l2 K p0 k (acc ++ [x]) ((i + 1 : Nat) : Int)) := by
        intro x hx
        obtain ⟨left, e, l0, l1⟩ := ih (acc ++ [x]) (i + 1) (by omega) (by omega) (by simp; omega)
        refine ⟨left, ?_, l0, ?_⟩
        · rw [e, hdrop]; simp only [dec, next_Z, hx, List.append_assoc]
        · rw [l1, hdrop]; simp only [dec, next_Z, hx]
      by_cases c1 : b < 128
      · rw [if_pos c1, if_pos (by simp; omega)]
        exact one b (by unfold beginF; rw [if_pos c1])
      · rw [if_neg c1]
        by_cases c2 : (leadOf b).1.need = 0
        · rw [if_pos c2, if_pos (by simp; omega)]
          exact one 65533 (by unfold beginF; rw [if_neg c1, if_pos ((need0 b).1 c2)])
        · rw [if_neg c2]
          have hlt : (leadOf b).2 = true := by
            cases h2 : (leadOf b).2 with
            | true => rfl
            | false => exact absurd ((need0 b).2 h2) c2
          have hn := lead_need b hlt
          have hm : rdD 0 ([0, 32, 16, 8] : List Int) (leadOf b).1.need = msk (leadOf b).1.need := by rcases hn with hn | hn | hn <;> rw [hn] <;> rfl
          have hmp : msk (leadOf b).1.need ≠ 0 := by unfold msk; split <;> (try split) <;> omega
          rw [if_pos (by simp; omega), hm, if_pos hmp, tm b _ (by omega)]
          have hbeg : beginF b = (⟨b, b % msk (leadOf b).1.need, (leadOf b).1.need⟩, []) := by
            unfold beginF; rw [if_neg c1, if_neg (by rw [hlt]; simp)]; rfl
          have hbi := (begin_inv b hcb.1 hcb.2).1
          rw [hbeg] at hbi
          have := inner p0 (by omega) acc (by omega) i (tidewrackref05_Runes_l2 K p0 k) ((leadOf b).1.need, (leadOf b).1.low, (leadOf b).1.high) b hlt rfl
            (fun x i' h1 h2 => ih (acc ++ [x]) i' (by omega) h2 (by simp; omega)) K 1 (b % msk (leadOf b).1.need) (by omega) (by simp; omega) (by omega) (by omega) (by
              rw [show (leadOf b).1.need + 1 - ((1 : Nat) : Int) = (leadOf b).1.need by omega]; exact hbi)
          rw [show (leadOf b).1.need + 1 - ((1 : Nat) : Int) = (leadOf b).1.need by omega] at this
          have e1 : loOf ⟨b, b % msk (leadOf b).1.need, (leadOf b).1.need⟩ = (leadOf b).1.low := by unfold loOf; rw [if_neg]; simp
          have e2 : hiOf ⟨b, b % msk (leadOf b).1.need, (leadOf b).1.need⟩ = (leadOf b).1.high := by unfold hiOf; rw [if_neg]; simp
          rw [e1, e2] at this
          obtain ⟨left, e, l0, l1⟩ := this
          refine ⟨left, ?_, l0, ?_⟩
          · rw [show ((1 : Nat) : Int) = 1 from rfl] at e
            rw [e, hdrop]; simp only [dec, next_Z, hbeg, List.nil_append]
          · rw [l1, hdrop]; simp only [dec, next_Z, hbeg]
    · rw [cD, if_neg (by omega)]
      refine ⟨0, ?_, by omega, ?_⟩
      · rw [List.drop_eq_nil_of_le (by omega)]; simp [tidewrackref05_Runes_j1, dec]
      · rw [List.drop_eq_nil_of_le (by omega)]; simp [dec]
theorem runes_eq (K : Nat) (hK : 401 ≤ K) (p0 : ByteArray) (hp : p0.size ≤ 400) : ∃ left, tidewrackref05_Runes K p0 = some ((dec Z (numsOf p0)).2, left) ∧ 0 ≤ left ∧ (left > 0 ↔ (dec Z (numsOf p0)).1.Need > 0) := by
  have := outer K (by omega) p0 hp K [] 0 (by omega) (by omega) (by simp)
  unfold Good at this
  simpa [tidewrackref05_Runes] using this
end Go.Proofs.YthddmlhmejnhlaaDoor.Pure
