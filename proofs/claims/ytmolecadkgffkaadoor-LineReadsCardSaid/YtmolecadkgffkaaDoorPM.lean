/- Plain laws: what the plain functions answer, with no program in sight. -/
import Derived.Test.YtmolecadkgffkaaDoorPK
set_option linter.unusedVariables false
set_option linter.unusedSimpArgs false
namespace Go.Proofs.YtmolecadkgffkaaDoor.Pure
open Go Go.Proofs.XC Go.Proofs.YtmolecadkgffkaaDoor

/-! ### The reference's Parse -/
theorem scan40 (K : Nat) (p : ByteArray) (hp : p.size ≤ 5000) : ∀ (k i : Nat), p.size < k + i → i ≤ p.size →
    ∃ j : Nat, i ≤ j ∧ j ≤ p.size ∧ tidewrackref27_Parse_l19 K p k i = tidewrackref27_Parse_j1 K p (j : Int) ∧ (∀ t : Nat, i ≤ t → t < j → bt p t ≠ 40) ∧ (j < p.size → bt p j = 40)
  | 0, i, h1, h2 => by omega
  | k + 1, i, h1, h2 => by
    have ih := scan40 K p hp k
    unfold tidewrackref27_Parse_l19
    rw [cD]
    by_cases c : i < p.size
    · have hw : IntKind.wrap .i64 ((i : Int) + 1) = ((i + 1 : Nat) : Int) := by rw [w64 (by omega) (by omega)]; omega
      rw [if_pos (by omega), if_pos (by omega), cN, hw]
      by_cases a : bt p i = 40
      · rw [if_pos a]
        exact ⟨i, Nat.le_refl _, h2, rfl, fun t h3 h4 => by omega, fun _ => a⟩
      · rw [if_neg a]
        obtain ⟨j, e1, e2, e3, e4, e5⟩ := ih (i + 1) (by omega) (by omega)
        refine ⟨j, by omega, e2, e3, fun t h3 h4 => ?_, e5⟩
        by_cases ht : t = i
        · subst ht; exact a
        · exact e4 t (by omega) h4
    · rw [if_neg (by omega)]
      exact ⟨i, Nat.le_refl _, h2, rfl, fun t h3 h4 => by omega, fun h => by omega⟩
theorem ref_j4 (K : Nat) (hK : 30000 ≤ K) (p : ByteArray) (a : Nat) (N l : List Int) (hl : l.length ≤ 10000) :
    tidewrackref27_Parse_j4 K p (a : Int) N l = some (if lineF ⟨p.extract 0 a, N, strOfNums l⟩ = p then (⟨p.extract 0 a, N, strOfNums l⟩, 0) else (E25, 1)) := by
  unfold tidewrackref27_Parse_j4
  rw [Int.toNat_natCast, ref_line K hK _ (show (strOfNums l).size ≤ 20000 by rw [str_len]; omega), bS, cSN]
  split <;> rfl
def hv (b : Int) : Int := if 48 ≤ b ∧ b ≤ 57 then b - 48 else if 65 ≤ b ∧ b ≤ 70 then b - 55 else 0
theorem hv_hexD : ∀ k : Fin 16, hv (hexD (k.val : Int)) = (k.val : Int) := by decide +kernel
theorem hv_range (b : Int) : 0 ≤ hv b ∧ hv b ≤ 15 := by
  unfold hv
  split
  · omega
  · split <;> omega
theorem hexstep (p : ByteArray) (x : Int) (l : List Int) (lp : Int → List Int → Option (T25 × Int)) (k : Nat) (u : Int) (i : Nat) (hi : i < 2) (hu : 0 ≤ u ∧ u ≤ 1000)
    (h1 : 0 ≤ bt p (IntKind.wrap .i64 (x + 1)) ∧ bt p (IntKind.wrap .i64 (x + 1)) < 256) (h2 : 0 ≤ bt p (IntKind.wrap .i64 (x + 2)) ∧ bt p (IntKind.wrap .i64 (x + 2)) < 256) :
    tidewrackref27_Parse_l9 p x l lp (k + 1) u (i : Int) = tidewrackref27_Parse_l9 p x l lp k (16 * u + hv (if i = 0 then bt p (IntKind.wrap .i64 (x + 1)) else bt p (IntKind.wrap .i64 (x + 2)))) ((i + 1 : Nat) : Int) := by
  rw [tidewrackref27_Parse_l9]
  have hl : ((([(bt p (IntKind.wrap .i64 (x + 1))), (bt p (IntKind.wrap .i64 (x + 2)))] : List Int)).length : Int) = 2 := rfl
  have hr : rdD 0 ([(bt p (IntKind.wrap .i64 (x + 1))), (bt p (IntKind.wrap .i64 (x + 2)))] : List Int) (i : Int) = (if i = 0 then bt p (IntKind.wrap .i64 (x + 1)) else bt p (IntKind.wrap .i64 (x + 2))) := by
    rcases (show i = 0 ∨ i = 1 by omega) with rfl | rfl <;> rfl
  have hb : 0 ≤ (if i = 0 then bt p (IntKind.wrap .i64 (x + 1)) else bt p (IntKind.wrap .i64 (x + 2))) ∧ (if i = 0 then bt p (IntKind.wrap .i64 (x + 1)) else bt p (IntKind.wrap .i64 (x + 2))) < 256 := by
    split <;> assumption
  have hw : IntKind.wrap .i64 ((i : Int) + 1) = ((i + 1 : Nat) : Int) := by rw [w64 (by omega) (by omega)]; omega
  unfold tidewrackref27_Parse_j10 tidewrackref27_Parse_j11
  simp only [hl, hr, hw]
  generalize (if i = 0 then bt p (IntKind.wrap .i64 (x + 1)) else bt p (IntKind.wrap .i64 (x + 2))) = b at hb ⊢
  have w1 : IntKind.wrap .i64 (16 * u) = 16 * u := w64 (by omega) (by omega)
  have w2 : IntKind.wrap .i64 b = b := w64 (by omega) (by omega)
  rw [w1, w2]
  rw [cD, if_pos (by omega), if_pos (by omega), cD, cD, cD]
  have w3 : IntKind.wrap .i64 (b - 48) = b - 48 := w64 (by omega) (by omega)
  have w4 : IntKind.wrap .i64 (b - 55) = b - 55 := w64 (by omega) (by omega)
  have w5 : IntKind.wrap .i64 (16 * u + (b - 48)) = 16 * u + (b - 48) := w64 (by omega) (by omega)
  have w6 : IntKind.wrap .i64 (16 * u + (b - 55)) = 16 * u + (b - 55) := w64 (by omega) (by omega)
  rw [w3, w4, w5, w6]
  simp only [cD, cond_false]
  unfold hv
  by_cases a1 : b ≥ 48
  · rw [if_pos a1]
    by_cases a2 : b ≤ 57
    · rw [if_pos a2, if_pos (show 48 ≤ b ∧ b ≤ 57 by omega)]
    · rw [if_neg a2, if_neg (show ¬ (48 ≤ b ∧ b ≤ 57) by omega)]
      by_cases a3 : b ≥ 65
      · rw [if_pos a3]
        by_cases a4 : b ≤ 70
        · rw [if_pos a4, if_pos (show 65 ≤ b ∧ b ≤ 70 by omega)]
        · rw [if_neg a4, if_neg (show ¬ (65 ≤ b ∧ b ≤ 70) by omega), Int.add_zero]
      · rw [if_neg a3, if_neg (show ¬ (65 ≤ b ∧ b ≤ 70) by omega), Int.add_zero]
  · rw [if_neg a1, if_neg (show ¬ (48 ≤ b ∧ b ≤ 57) by omega), if_neg (show ¬ (65 ≤ b ∧ b ≤ 70) by omega), if_neg (show ¬ (b ≥ 65) by omega), Int.add_zero]
theorem hex2 (p : ByteArray) (x : Int) (l : List Int) (lp : Int → List Int → Option (T25 × Int)) (k : Nat)
    (h1 : 0 ≤ bt p (IntKind.wrap .i64 (x + 1)) ∧ bt p (IntKind.wrap .i64 (x + 1)) < 256) (h2 : 0 ≤ bt p (IntKind.wrap .i64 (x + 2)) ∧ bt p (IntKind.wrap .i64 (x + 2)) < 256) :
    tidewrackref27_Parse_l9 p x l lp (k + 3) 0 0 = tidewrackref27_Parse_j8 x l lp (16 * hv (bt p (IntKind.wrap .i64 (x + 1))) + hv (bt p (IntKind.wrap .i64 (x + 2)))) := by
  have r1 := hv_range (bt p (IntKind.wrap .i64 (x + 1)))
  have e1 := hexstep p x l lp (k + 2) 0 0 (by omega) (by omega) h1 h2
  have e2 := hexstep p x l lp (k + 1) (hv (bt p (IntKind.wrap .i64 (x + 1)))) 1 (by omega) (by omega) h1 h2
  rw [if_pos rfl, Int.mul_zero, Int.zero_add] at e1
  rw [if_neg (by omega)] at e2
  rw [show ((0 : Nat) : Int) = 0 from rfl] at e1
  rw [e1]
  show tidewrackref27_Parse_l9 p x l lp (k + 1 + 1) _ ((1 : Nat) : Int) = _
  rw [e2, tidewrackref27_Parse_l9, cD, if_neg (by simp)]
theorem text_total (K : Nat) (hK : 30000 ≤ K) (p : ByteArray) (hp : p.size ≤ 4000) (a : Nat) (N : List Int) : ∀ (k i : Nat) (l : List Int), p.size - i < k → i ≤ 5000 → l.length ≤ i →
    ∃ r, tidewrackref27_Parse_l5 K p a N k i l = some r ∧ Good p r
  | 0, i, l, h1, h2, h3 => by omega
  | k + 1, i, l, h1, h2, h3 => by
    have ih := text_total K hK p hp a N k
    unfold tidewrackref27_Parse_l5
    rw [w64 (show -9223372036854775808 ≤ (p.size : Int) - 1 by omega) (by omega), cD]
    by_cases c : (i : Int) < (p.size : Int) - 1
    · have hw : IntKind.wrap .i64 ((i : Int) + 1) = ((i + 1 : Nat) : Int) := by rw [w64 (by omega) (by omega)]; omega
      have hw2 : IntKind.wrap .i64 ((i : Int) + 2) = ((i + 2 : Nat) : Int) := by rw [w64 (by omega) (by omega)]; omega
      have hw3 : IntKind.wrap .i64 ((i : Int) + 3) = ((i + 3 : Nat) : Int) := by rw [w64 (by omega) (by omega)]; omega
      have h6 : ∃ r, tidewrackref27_Parse_j6 p i l (tidewrackref27_Parse_l5 K p a N k) = some r ∧ Good p r := by
        unfold tidewrackref27_Parse_j6
        rw [if_pos (by omega), if_pos (by simp; omega), hw]
        exact ih (i + 1) _ (by omega) (by omega) (by simp; omega)
      rw [if_pos c, if_pos (by omega), hw2]
      have h7 : ∀ y, (y = true → i + 2 < p.size) → ∃ r, tidewrackref27_Parse_j7 K p i l (tidewrackref27_Parse_l5 K p a N k) y = some r ∧ Good p r := by
        intro y hy
        unfold tidewrackref27_Parse_j7
        cases y with
        | false => rw [cond_false]; exact h6
        | true =>
          have hy' := hy rfl
          rw [cond_true, hw, hw2, if_pos (by omega), if_pos (by omega)]
          obtain ⟨K', rfl⟩ : ∃ K', K = K' + 3 := ⟨K - 3, by omega⟩
          rw [hex2 _ _ _ _ _ (by rw [hw]; exact bt_range p (i + 1) (by omega)) (by rw [hw2]; exact bt_range p (i + 2) (by omega))]
          unfold tidewrackref27_Parse_j8
          rw [if_pos (by simp; omega), hw3]
          exact ih (i + 3) _ (by omega) (by omega) (by simp; omega)
      cases hb : (bt p (i : Int) == (37 : Int)) with
      | true => rw [cond_true]; exact h7 _ (fun h => by have := of_decide_eq_true h; omega)
      | false => rw [cond_false]; exact h7 _ (fun h => by cases h)
    · rw [if_neg c, ref_j4 K hK p a N l (by omega)]
      refine ⟨_, rfl, ?_⟩
      by_cases g : lineF ⟨p.extract 0 a, N, strOfNums l⟩ = p
      · rw [if_pos g]; exact .inr ⟨rfl, g⟩
      · rw [if_neg g]; exact .inl ⟨rfl, rfl⟩
theorem dig_total (p : ByteArray) (hp : p.size ≤ 4000) (t : Int × Bool) (N : List Int) (n : Int) (lp : Int → List Int → Int → Option (T25 × Int)) : ∀ (k i : Nat) (v : Int) (c : Nat), p.size - i < k → i ≤ 5000 → c ≤ 11 →
    ∃ (i' : Nat) (v' : Int), tidewrackref27_Parse_l16 p t N n lp k i v c = tidewrackref27_Parse_j14 t N n lp i' v' ∧ i ≤ i' ∧ (i' ≤ i ∨ i' ≤ p.size)
  | 0, i, v, c, h1, h2, h3 => by omega
  | k + 1, i, v, c, h1, h2, h3 => by
    have ih := dig_total p hp t N n lp k
    have stop : ∃ (i' : Nat) (v' : Int), tidewrackref27_Parse_j14 t N n lp i v = tidewrackref27_Parse_j14 t N n lp i' v' ∧ i ≤ i' ∧ (i' ≤ i ∨ i' ≤ p.size) := ⟨i, v, rfl, Nat.le_refl _, .inl (Nat.le_refl _)⟩
    unfold tidewrackref27_Parse_l16
    rw [cD]
    by_cases a : i < p.size
    · have hw : IntKind.wrap .i64 ((i : Int) + 1) = ((i + 1 : Nat) : Int) := by rw [w64 (by omega) (by omega)]; omega
      have hwc : IntKind.wrap .i64 ((c : Int) + 1) = ((c + 1 : Nat) : Int) := by rw [w64 (by omega) (by omega)]; omega
      rw [if_pos (by omega), if_pos (by omega), cD, cD, cD]
      by_cases b1 : bt p (i : Int) ≥ 48
      · rw [if_pos b1]
        by_cases b2 : bt p (i : Int) ≤ 57
        · rw [if_pos b2]
          by_cases b3 : (c : Int) < 11
          · rw [if_pos b3]
            unfold tidewrackref27_Parse_j17
            rw [if_pos (by omega), hw, hwc]
            obtain ⟨i', v', e, g1, g2⟩ := ih (i + 1) _ (c + 1) (by omega) (by omega) (by omega)
            exact ⟨i', v', e, by omega, by omega⟩
          · rw [if_neg b3]; exact stop
        · rw [if_neg b2]; exact stop
      · rw [if_neg b1]; exact stop
    · rw [if_neg (by omega)]; exact stop
theorem nums_total (K : Nat) (hK : 30000 ≤ K) (p : ByteArray) (hp : p.size ≤ 4000) (a : Nat) (t : Int × Bool) (ht : t.1 ≤ 6) : ∀ (k n i : Nat) (N : List Int), 6 < k + n → i ≤ p.size + 1 + n → N.length ≤ n →
    n ≤ 6 → ∃ r, tidewrackref27_Parse_l12 K p a t k i N n = some r ∧ Good p r
  | 0, n, i, N, h1, h2, h3, h4 => by omega
  | k + 1, n, i, N, h1, h2, h3, h4 => by
    have ih := nums_total K hK p hp a t ht k
    unfold tidewrackref27_Parse_l12
    rw [cD]
    by_cases c : (n : Int) < t.1
    · rw [if_pos c]
      obtain ⟨i', v', e, g1, g2⟩ := dig_total p hp t N n (tidewrackref27_Parse_l12 K p a t k) K i 0 0 (by omega) (by omega) (by omega)
      rw [show ((0 : Nat) : Int) = 0 from rfl] at e
      rw [e]
      have hw : IntKind.wrap .i64 ((i' : Int) + 1) = ((i' + 1 : Nat) : Int) := by rw [w64 (by omega) (by omega)]; omega
      have hwn : IntKind.wrap .i64 ((n : Int) + 1) = ((n + 1 : Nat) : Int) := by rw [w64 (by omega) (by omega)]; omega
      have h15 : ∀ y : Bool, ∃ r, tidewrackref27_Parse_j15 N n (tidewrackref27_Parse_l12 K p a t k) i' v' y = some r ∧ Good p r := by
        intro y
        unfold tidewrackref27_Parse_j15 tidewrackref27_Parse_j13
        rw [hw, hwn]
        cases y with
        | true => exact ih (n + 1) (i' + 1) _ (by omega) (by omega) (by simp; omega) (by omega)
        | false => exact ih (n + 1) i' _ (by omega) (by omega) (by simp; omega) (by omega)
      unfold tidewrackref27_Parse_j14
      rw [if_pos (by simp; omega)]
      cases decide ((n : Int) < IntKind.wrap .i64 (t.1 - 1)) with
      | true => rw [cond_true]; exact h15 _
      | false => rw [cond_false]; exact h15 _
    · rw [if_neg c]
      unfold tidewrackref27_Parse_j3
      exact text_total K hK p hp a N K i [] (by omega) (by omega) (by simp)
theorem ref_total (K : Nat) (hK : 30000 ≤ K) (p : ByteArray) (hp : p.size ≤ 4000) : ∃ r, tidewrackref27_Parse K p = some r ∧ Good p r := by
  unfold tidewrackref27_Parse
  rw [cD, if_neg (by omega)]
  obtain ⟨j, e1, e2, e3, e4, e5⟩ := scan40 K p (by omega) K 0 (by omega) (by omega)
  rw [show ((0 : Nat) : Int) = 0 from rfl] at e3
  rw [e3]
  unfold tidewrackref27_Parse_j1
  rw [if_pos (by omega), if_pos (by omega), form_eq, bS, cD, Int.toNat_natCast]
  have hE : ∃ r, (some (E25, (1 : Int)) : Option (T25 × Int)) = some r ∧ Good p r := ⟨_, rfl, .inl ⟨rfl, rfl⟩⟩
  have h18 : ∀ y, (frm (findF (p.extract 0 j))).1 ≤ 6 → ∃ r, tidewrackref27_Parse_j18 K p j (frm (findF (p.extract 0 j))) y = some r ∧ Good p r := by
    intro y h6
    unfold tidewrackref27_Parse_j18
    cases y with
    | true => exact hE
    | false =>
      have hw : IntKind.wrap .i64 ((j : Int) + 1) = ((j + 1 : Nat) : Int) := by rw [w64 (by omega) (by omega)]; omega
      rw [cond_false]
      unfold tidewrackref27_Parse_j2
      rw [hw]
      exact nums_total K hK p hp j _ h6 K 0 (j + 1) [] (by omega) (by omega) (by simp) (by omega)
  have h6 : (frm (findF (p.extract 0 j))).1 ≤ 6 := by
    cases hf : findF (p.extract 0 j) with
    | none => decide
    | some f => exact (find_some hf).2.2.2
  split
  · exact h18 _ h6
  · exact h18 _ h6
end Go.Proofs.YtmolecadkgffkaaDoor.Pure
