/- Plain laws: what the plain functions answer, with no program in sight. -/
import Derived.Test.YtbdocgjhidalfaaD
import Derived.Test.YtbdocgjhidalfaaX12
set_option linter.unusedVariables false
set_option linter.unusedSimpArgs false
namespace Go.Proofs.Ytbdocgjhidalfaa.Pure
open Go Go.Proofs.XC Go.Proofs.Ytbdocgjhidalfaa

def oneF (s : T22) (n : Int) : T22 :=
  if n = 0 then ⟨0, 0, false, false, false⟩
  else if n = 1 then ⟨s.Fore, s.Back, true, s.Under, s.Inverse⟩
  else if n = 22 then ⟨s.Fore, s.Back, false, s.Under, s.Inverse⟩
  else if n = 4 then ⟨s.Fore, s.Back, s.Bold, true, s.Inverse⟩
  else if n = 24 then ⟨s.Fore, s.Back, s.Bold, false, s.Inverse⟩
  else if n = 7 then ⟨s.Fore, s.Back, s.Bold, s.Under, true⟩
  else if n = 27 then ⟨s.Fore, s.Back, s.Bold, s.Under, false⟩
  else if 30 ≤ n ∧ n ≤ 37 then ⟨n - 29, s.Back, s.Bold, s.Under, s.Inverse⟩
  else if n = 39 then ⟨0, s.Back, s.Bold, s.Under, s.Inverse⟩
  else if 40 ≤ n ∧ n ≤ 47 then ⟨s.Fore, n - 39, s.Bold, s.Under, s.Inverse⟩
  else if n = 49 then ⟨s.Fore, 0, s.Bold, s.Under, s.Inverse⟩
  else s
theorem one_eq (s : T22) (n : Int) : style_Style_one s n = some (oneF s n) := by
  simp only [style_Style_one, style_Style_one_j1, style_Style_one_j2, style_Style_one_j3, style_Style_one_j4, style_Style_one_j5, cD, cE]
  have h1 : 30 ≤ n → n < 38 → IntKind.wrap .i64 ((IntKind.wrap .i64 (n - 30)) + 1) = n - 29 := fun a b => by rw [w64 (x := n - 30) (by omega) (by omega), w64 (by omega) (by omega)]; omega
  have h2 : 40 ≤ n → n < 48 → IntKind.wrap .i64 ((IntKind.wrap .i64 (n - 40)) + 1) = n - 39 := fun a b => by rw [w64 (x := n - 40) (by omega) (by omega), w64 (by omega) (by omega)]; omega
  unfold oneF
  grind (splits := 40)

def skipN (xs : List Int) : Nat := match xs with | 5 :: _ => 2 | 2 :: _ => 4 | _ => 0
/-- By numbers, on what is left of them; m: how many are passed over. -/
def run : Nat → T22 → List Int → T22
  | _, s, [] => s
  | m + 1, s, _ :: xs => run m s xs
  | 0, s, x :: xs => if x = 38 ∨ x = 48 then run (skipN xs) s xs else run 0 (oneF s x) xs
theorem run_skip (s : T22) (x : Int) (xs : List Int) (h : x = 38 ∨ x = 48) : run 0 s (x :: xs) = run (skipN xs) s xs := by
  rw [run, if_pos h]
theorem run_one (s : T22) (x : Int) (xs : List Int) (h : ¬(x = 38 ∨ x = 48)) : run 0 s (x :: xs) = run 0 (oneF s x) xs := by
  rw [run, if_neg h]
theorem run_drop : ∀ (m : Nat) (s : T22) (xs : List Int), run m s xs = run 0 s (xs.drop m)
  | 0, s, xs => by simp
  | m + 1, s, [] => by simp [run]
  | m + 1, s, x :: xs => by rw [run, run_drop m s xs]; simp
theorem skip_eq (xs : List Int) : style_skip xs = some (min (skipN xs) xs.length : Nat) := by
  cases xs with
  | nil => rfl
  | cons x xs =>
    simp only [style_skip, style_skip_j1, style_skip_j2, cD, cE, rdD, List.length_cons, Int.toNat_zero, List.getD_cons_zero]
    have h : skipN (x :: xs) = if x = 5 then 2 else if x = 2 then 4 else 0 := by unfold skipN; grind
    rw [h]
    grind
theorem prog_loop (p : List Int) (hp : p.length ≤ 1000) : ∀ (k : Nat) (s : T22) (i : Nat), p.length < k + i → i ≤ p.length → style_Style_Set_l2 p k s i = some (run 0 s (p.drop i))
  | 0, s, i, h, h' => by omega
  | k + 1, s, i, h, h' => by
    have ih := prog_loop p hp k
    unfold style_Style_Set_l2
    by_cases hi : i < p.length
    · rw [List.drop_eq_getElem_cons hi]
      have hw : IntKind.wrap .i64 ((i : Int) + 1) = ((i + 1 : Nat) : Int) := by rw [w64 (by omega) (by omega)]; omega
      have hx : rdD 0 p (i : Int) = p[i] := rdD_get _ _ hi
      have c1 : (i : Int) < (p.length : Int) := by omega
      simp only [cD, cE, style_Style_Set_j3, hw, hx, one_eq, bS, List.take_length, Int.toNat_natCast, skip_eq]
      by_cases h38 : p[i] = 38 ∨ p[i] = 48
      · rw [run_skip _ _ _ h38, run_drop, List.drop_drop]
        have hh : style_Style_Set_l2 p k s (IntKind.wrap .i64 ((IntKind.wrap .i64 ((i:Int) + ((min (skipN (p.drop (i+1))) (p.drop (i+1)).length : Nat) : Int))) + 1)) = some (run 0 s (p.drop (i + 1 + skipN (p.drop (i+1))))) := by
          have hl : (p.drop (i+1)).length = p.length - (i + 1) := by simp
          rw [hl, w64 (x := (i:Int) + _) (by omega) (by omega), w64 (by omega) (by omega)]
          have := ih s (i + min (skipN (p.drop (i+1))) (p.length - (i+1)) + 1) (by omega) (by omega)
          rw [show ((i:Int) + ((min (skipN (p.drop (i+1))) (p.length - (i+1)) : Nat) : Int) + 1) = ((i + min (skipN (p.drop (i+1))) (p.length - (i+1)) + 1 : Nat) : Int) from by omega, this]
          congr 2
          rcases Nat.le_total (skipN (p.drop (i+1))) (p.length - (i+1)) with hm | hm
          · rw [Nat.min_eq_left hm]; congr 1; omega
          · rw [Nat.min_eq_right hm, List.drop_eq_nil_of_le (by omega), List.drop_eq_nil_of_le (by omega)]
        grind
      · rw [run_one _ _ _ h38]
        have := ih (oneF s p[i]) (i + 1) (by omega) (by omega)
        grind
    · have c1 : ¬ (i : Int) < (p.length : Int) := by omega
      simp only [cD, if_neg c1, style_Style_Set_j1, List.drop_eq_nil_of_le (Nat.le_of_not_lt hi), run]

def setF (s : T22) (xs : List Int) : T22 := if xs.length = 0 then ⟨0, 0, false, false, false⟩ else run 0 s xs
theorem set_eq (K : Nat) (s : T22) (xs : List Int) (h : xs.length ≤ 1000) (hK : xs.length < K) : style_Style_Set K s xs = some (setF s xs) := by
  have := prog_loop xs h K s 0 (by omega) (by omega)
  simp only [style_Style_Set, setF, cE]
  grind
theorem ref_loop (p : List Int) (hp : p.length ≤ 1000) : ∀ (k : Nat) (s : T22) (m i : Nat), p.length < k + i → i ≤ p.length → m ≤ 4 → tidewrackref08_Set_l2 p k s m i = some (run m s (p.drop i))
  | 0, s, m, i, h, h', hm => by omega
  | k + 1, s, m, i, h, h', hm => by
    have ih := ref_loop p hp k
    unfold tidewrackref08_Set_l2
    by_cases hi : i < p.length
    · rw [List.drop_eq_getElem_cons hi]
      have hw : IntKind.wrap .i64 ((i : Int) + 1) = ((i + 1 : Nat) : Int) := by rw [w64 (by omega) (by omega)]; omega
      have hx : rdD 0 p (i : Int) = p[i] := rdD_get _ _ hi
      have c1 : (i : Int) < (p.length : Int) := by omega
      have c0 : (0 : Int) ≤ (i : Int) := by omega
      cases m with
      | succ m =>
        have c2 : ((m + 1 : Nat) : Int) > 0 := by omega
        have hm2 : IntKind.wrap .i64 (((m + 1 : Nat) : Int) - 1) = (m : Int) := by rw [w64 (by omega) (by omega)]; omega
        have := ih s m (i + 1) (by omega) (by omega) (by omega)
        simp only [cD, if_pos c1, if_pos (And.intro c0 c1), if_pos c2, hm2, hw, run, this]
      | zero =>
        simp only [cD, cE, hw, hx, if_pos c1, if_pos (And.intro c0 c1), Int.natCast_zero, Int.ofNat_zero, gt_iff_lt, Int.lt_irrefl, if_false]
        by_cases h38 : p[i] = 38 ∨ p[i] = 48
        · rw [run_skip _ _ _ h38]
          simp only [tidewrackref08_Set_j16, tidewrackref08_Set_j17, cD, cE, cond_true, hw]
          have i0 := ih s 0 (i + 1) (by omega) (by omega) (by omega)
          have i2 := ih s 2 (i + 1) (by omega) (by omega) (by omega)
          have i4 := ih s 4 (i + 1) (by omega) (by omega) (by omega)
          by_cases hi2 : i + 1 < p.length
          · have hs : skipN (p.drop (i + 1)) = if p[i + 1] = 5 then 2 else if p[i + 1] = 2 then 4 else 0 := by
              rw [List.drop_eq_getElem_cons hi2]; unfold skipN; grind
            have hx2 : rdD 0 p ((i + 1 : Nat) : Int) = p[i + 1] := rdD_get _ _ hi2
            simp only [hx2, hs]
            grind
          · have hs : skipN (p.drop (i + 1)) = 0 := by rw [List.drop_eq_nil_of_le (by omega)]; rfl
            rw [hs]
            grind
        · rw [run_one _ _ _ h38]
          have i0 := ih (oneF s p[i]) 0 (i + 1) (by omega) (by omega) (by omega)
          have e1 : 30 ≤ p[i] → p[i] ≤ 37 → IntKind.wrap .i64 (p[i] - 29) = p[i] - 29 := fun a b => by rw [w64 (by omega) (by omega)]
          have e2 : 40 ≤ p[i] → p[i] ≤ 47 → IntKind.wrap .i64 (p[i] - 39) = p[i] - 39 := fun a b => by rw [w64 (by omega) (by omega)]
          simp only [Int.natCast_zero, Int.ofNat_zero] at i0
          generalize tidewrackref08_Set_l2 p k = lp at *
          generalize p[i] = x at *
          have hf : ∀ st' : T22, st' = oneF s x → lp st' 0 ((i + 1 : Nat) : Int) = some (run 0 (oneF s x) (p.drop (i + 1))) := fun _ h => h ▸ i0
          have hx9 : x = 0 ∨ x = 1 ∨ x = 22 ∨ x = 4 ∨ x = 24 ∨ x = 7 ∨ x = 27 ∨ x = 39 ∨ x = 49 ∨ (x ≠ 0 ∧ x ≠ 1 ∧ x ≠ 22 ∧ x ≠ 4 ∧ x ≠ 24 ∧ x ≠ 7 ∧ x ≠ 27 ∧ x ≠ 39 ∧ x ≠ 49) := by omega
          rcases hx9 with rfl | rfl | rfl | rfl | rfl | rfl | rfl | rfl | rfl | hne
          iterate 9 · (simp only [tidewrackref08_Set_j16, tidewrackref08_Set_j3, tidewrackref08_Set_j4, tidewrackref08_Set_j5, tidewrackref08_Set_j6, tidewrackref08_Set_j7, tidewrackref08_Set_j8, tidewrackref08_Set_j9, tidewrackref08_Set_j10, tidewrackref08_Set_j11, tidewrackref08_Set_j12, tidewrackref08_Set_j13, tidewrackref08_Set_j14, tidewrackref08_Set_j15, ↓cD, ↓cE, ↓reduceIte, ↓cond_true, ↓cond_false, hx, hw]; exact hf _ rfl)
          obtain ⟨n0, n1, n22, n4, n24, n7, n27, n39, n49⟩ := hne
          have n38 : x ≠ 38 := fun h => h38 (.inl h)
          have n48 : x ≠ 48 := fun h => h38 (.inr h)
          have hall : ∀ b30 b37 b40 b47 : Prop, True := by intros; trivial
          by_cases a30 : 30 ≤ x <;> by_cases a37 : x ≤ 37 <;> by_cases a40 : 40 ≤ x <;> by_cases a47 : x ≤ 47 <;> try (exfalso; omega)
          all_goals simp only [tidewrackref08_Set_j16, tidewrackref08_Set_j3, tidewrackref08_Set_j4, tidewrackref08_Set_j5, tidewrackref08_Set_j6, tidewrackref08_Set_j7, tidewrackref08_Set_j8, tidewrackref08_Set_j9, tidewrackref08_Set_j10, tidewrackref08_Set_j11, tidewrackref08_Set_j12, tidewrackref08_Set_j13, tidewrackref08_Set_j14, tidewrackref08_Set_j15, ↓cD, ↓cE, ↓reduceIte, ↓cond_true, ↓cond_false, hx, hw, ge_iff_le, n0, n1, n22, n4, n24, n7, n27, n39, n49, n38, n48, a30, a37, a40, a47, e1, e2]
          all_goals (refine hf _ ?_; simp only [oneF, ↓reduceIte, n0, n1, n22, n4, n24, n7, n27, n39, n49, a30, a37, a40, a47, true_and, and_true, and_self, false_and, and_false, e1, e2])
    · have c1 : ¬ (i : Int) < (p.length : Int) := by omega
      simp only [cD, if_neg c1, tidewrackref08_Set_j1, List.drop_eq_nil_of_le (Nat.le_of_not_lt hi), run]
end Go.Proofs.Ytbdocgjhidalfaa.Pure
