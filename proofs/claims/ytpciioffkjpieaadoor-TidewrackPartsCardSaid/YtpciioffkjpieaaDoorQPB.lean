/- Plain laws: what the plain functions answer, with no program in sight. -/
import Derived.Test.YtpciioffkjpieaaDoorQPA
set_option linter.unusedVariables false
set_option linter.unusedSimpArgs false
namespace Go.Proofs.YtpciioffkjpieaaDoor.Pure
open Go Go.Proofs.XC Go.Proofs.YtpciioffkjpieaaDoor

/-! ### A number is read -/
abbrev E0 : ByteArray := ⟨#[]⟩
def pn : List Int → Nat → Int → Except Int (Int × Nat)
  | [], i, _ => if 9 ≤ i then .error 1 else .error 2
  | b :: bs, i, n => if 9 ≤ i then .error 1 else if 128 ≤ b then pn bs (i + 1) (n + (b - 128) * ((128 ^ i : Nat) : Int))
    else if (0 < i ∧ b = 0) ∨ n + b * ((128 ^ i : Nat) : Int) > 4611686018427387904 then .error 1 else .ok (n + b * ((128 ^ i : Nat) : Int), i + 1)
theorem pn_big {b : Int} {bs : List Int} {i : Nat} {n : Int} (hi : i < 9) (hb : 128 ≤ b) : pn (b :: bs) i n = pn bs (i + 1) (n + (b - 128) * ((128 ^ i : Nat) : Int)) := by
  rw [pn, if_neg (by omega), if_pos hb]
theorem pn_err {b : Int} {bs : List Int} {i : Nat} {n : Int} (hi : i < 9) (hb : ¬ 128 ≤ b) (h : (0 < i ∧ b = 0) ∨ n + b * ((128 ^ i : Nat) : Int) > 4611686018427387904) : pn (b :: bs) i n = .error 1 := by
  rw [pn, if_neg (by omega), if_neg hb, if_pos h]
theorem pn_fin {b : Int} {bs : List Int} {i : Nat} {n : Int} (hi : i < 9) (hb : ¬ 128 ≤ b) (h : ¬ ((0 < i ∧ b = 0) ∨ n + b * ((128 ^ i : Nat) : Int) > 4611686018427387904)) : pn (b :: bs) i n = .ok (n + b * ((128 ^ i : Nat) : Int), i + 1) := by
  rw [pn, if_neg (by omega), if_neg hb, if_neg h]
theorem pw (i : Nat) (h : i ≤ 8) : (2 : Int) ^ min (Int.toNat (IntKind.wrap .i64 (7 * (i : Int)))) 64 = ((128 ^ i : Nat) : Int) := by
  rw [w64 (by omega) (by omega), show min (Int.toNat (7 * (i : Int))) 64 = 7 * i from by omega, Int.pow_mul]
  norm_cast
theorem and127 (m : Nat) (h : m < 256) : bits .and .u8 (m : Int) 127 = ((m % 128 : Nat) : Int) := by
  have : ∀ m : Fin 256, bits .and .u8 ((m : Nat) : Int) 127 = (((m : Nat) % 128 : Nat) : Int) := by decide +kernel
  exact this ⟨m, h⟩
theorem wr63 (n : Int) (h₀ : 0 ≤ n) (h₁ : n < 2 ^ 63) : IntKind.i64.wrap n = n := w64 (by omega) (by omega)
theorem p9 (i : Nat) (h : i ≤ 8) : 128 ^ i * 128 ≤ 9223372036854775808 := by
  have : 128 ^ (i + 1) ≤ 128 ^ 9 := Nat.pow_le_pow_right (by decide) (by omega)
  rw [Nat.pow_succ] at this; omega
/-- A byte more. -/
theorem orF (n : Nat) (b i : Nat) (hi : i ≤ 8) (hn : n < 128 ^ i) (hb : b < 256) :
    bits .or .i64 (n : Int) (IntKind.wrap .i64 ((IntKind.wrap .i64 (bits .and .u8 (b : Int) 127)) * 2 ^ min (Int.toNat (IntKind.wrap .i64 (7 * (i : Int)))) 64)) = ((n + b % 128 * 128 ^ i : Nat) : Int) := by
  have h9 := p9 i hi
  have hm : b % 128 * 128 ^ i ≤ 127 * 128 ^ i := Nat.mul_le_mul_right _ (by omega)
  rw [pw i hi, and127 b hb, w64 (x := ((b % 128 : Nat) : Int)) (by omega) (by omega), ← Int.natCast_mul, w64 (by omega) (by omega)]
  have hj := bits_nat .i64 63 (by decide) wr63 n (b % 128 * 128 ^ i) (by omega) (by omega)
  rw [hj.2]
  have he : 128 ^ i = 2 ^ (7 * i) := by rw [Nat.pow_mul]
  rw [Nat.or_comm, Nat.mul_comm, he, ← Nat.two_pow_add_eq_or_of_lt (by rw [← he]; exact hn)]
  congr 1; omega
def resI (s : ByteArray) : Except Int (Int × Nat) → Int × T169
  | .ok (n, k) => (n, ⟨s.extract k s.size, 0⟩)
  | .error c => (0, ⟨E0, c⟩)
theorem bt_nat (s : ByteArray) (i : Nat) (h : i < s.size) : ∃ b : Nat, b < 256 ∧ bt s (i : Int) = (b : Int) := by
  have := bt_range s i h
  exact ⟨(bt s i).toNat, by omega, by omega⟩
theorem inum_loop (s : ByteArray) (hs : s.size ≤ 1000000) : ∀ (k n i : Nat), 9 < k + i → i ≤ 9 → i ≤ s.size → n < 128 ^ i → num_In_Num_l2 ⟨s, 0⟩ k n i = some (resI s (pn ((numsOf s).drop i) i n))
  | 0, n, i, h, h', hl, hn => by omega
  | k + 1, n, i, h, h', hl, hn => by
    have ih := inum_loop s hs k
    unfold num_In_Num_l2
    have hN := numsOf_len s
    have hm : ((i : Int) < mnI ((s.size : Nat) : Int) 9) ↔ (i < s.size ∧ i < 9) := by unfold mnI; split <;> omega
    rw [cD]
    by_cases hi : i < s.size ∧ i < 9
    · rw [if_pos (hm.2 hi), if_pos (by simp only; omega), if_pos (by rw [w64 (by omega) (by omega)]; omega)]
      have h9 := p9 i (by omega)
      have hw : IntKind.wrap .i64 ((i : Int) + 1) = ((i + 1 : Nat) : Int) := by rw [w64 (by omega) (by omega)]; omega
      obtain ⟨b, hb, he⟩ := bt_nat s i hi.1
      rw [List.drop_eq_getElem_cons (by omega : i < (numsOf s).length), nums_get s i hi.1]
      simp only [num_In_Num_j4, num_In_Num_j3]
      rw [he, orF n b i (by omega) hn hb, hw]
      rw [cD]
      have hmm : b % 128 * 128 ^ i ≤ 127 * 128 ^ i := Nat.mul_le_mul_right _ (by omega)
      by_cases c : b ≥ 128
      · rw [if_pos (by omega), pn_big hi.2 (by omega), ih _ (i + 1) (by omega) (by omega) (by omega) (by rw [Nat.pow_succ]; omega)]
        have e1 : (b : Int) - 128 = ((b % 128 : Nat) : Int) := by omega
        rw [e1, ← Int.natCast_mul, ← Int.natCast_add]
      · rw [if_neg (by omega), cD, cE]
        have e1 : b % 128 = b := Nat.mod_eq_of_lt (by omega)
        have e2 : ((n + b * 128 ^ i : Nat) : Int) = (n : Int) + (b : Int) * ((128 ^ i : Nat) : Int) := by rw [Int.natCast_add, Int.natCast_mul]
        rw [e1]
        have fail : (num_In_Fail ⟨s, 0⟩ 1).bind (fun t406 => (some (0, t406) : Option (Int × T169))) = some (resI s (.error 1)) := rfl
        by_cases c1 : 0 < i ∧ (b : Int) = 0
        · rw [pn_err hi.2 (by omega) (.inl c1), if_pos (by omega), if_pos c1.2]
          exact fail
        · by_cases c2 : ((n + b * 128 ^ i : Nat) : Int) > 4611686018427387904
          · have c3 : decide (((n + b * 128 ^ i : Nat) : Int) > 4611686018427387904) = true := decide_eq_true c2
            rw [pn_err hi.2 (by omega) (.inr (by omega)), c3]
            split
            · split
              · exact fail
              · exact fail
            · exact fail
          · have c3 : decide (((n + b * 128 ^ i : Nat) : Int) > 4611686018427387904) = false := decide_eq_false c2
            have fine : (if (0 : Int) ≤ ((i + 1 : Nat) : Int) then (if ((i + 1 : Nat) : Int) ≤ ((s.size : Nat) : Int) then (some ((((n + b * 128 ^ i : Nat) : Int)), (⟨(ByteArray.extract s (Int.toNat ((i + 1 : Nat) : Int)) s.size), 0⟩ : T169))) else none) else none) = some (resI s (.ok (((n + b * 128 ^ i : Nat) : Int), i + 1))) := by
              rw [if_pos (by omega), if_pos (by omega)]; rfl
            rw [pn_fin hi.2 (by omega) (by omega), ← e2, c3]
            split
            · rw [if_neg (by omega)]
              exact fine
            · exact fine
    · rw [if_neg (fun h => hi (hm.1 h))]
      simp only [num_In_Num_j1]
      rw [cD]
      by_cases c : s.size ≥ 9
      · rw [if_pos (by omega)]
        have : pn ((numsOf s).drop i) i (n : Int) = .error 1 := by
          have h9 : i = 9 := by omega
          subst h9
          cases (numsOf s).drop 9 <;> simp [pn]
        rw [this]; rfl
      · rw [if_neg (by omega)]
        have : pn ((numsOf s).drop i) i (n : Int) = .error 2 := by
          rw [List.drop_eq_nil_of_le (by omega)]
          simp [pn]; omega
        rw [this]; rfl
theorem inum_eq (K : Nat) (hK : 10 ≤ K) (s : ByteArray) (hs : s.size ≤ 1000000) : num_In_Num K ⟨s, 0⟩ = some (resI s (pn (numsOf s) 0 0)) := by
  unfold num_In_Num
  have := inum_loop s hs K 0 0 (by omega) (by omega) (by omega) (by simp)
  simpa using this
theorem inum_bad (K : Nat) (hK : 10 ≤ K) (s : ByteArray) (e : Int) (hs : s.size = 0) (he : e ≠ 0) : num_In_Num K ⟨s, e⟩ = some (0, ⟨s, e⟩) := by
  obtain ⟨K, rfl⟩ : ∃ k, K = k + 1 := ⟨K - 1, by omega⟩
  unfold num_In_Num num_In_Num_l2
  rw [cD, if_neg (by unfold mnI; split <;> simp only [hs] at * <;> omega)]
  simp only [num_In_Num_j1, cD, hs]
  rw [if_neg (by omega)]
  simp only [num_In_Fail, cE, num_In_Fail_j1]
  rw [if_neg he]
  rfl
/-! ### What was written is read -/
theorem pn_dg : ∀ (j m i : Nat) (n : Int) (rest : List Int), m ≤ j → i + (dg m).length ≤ 9 → (0 < i → 0 < m) → n + m * ((128 ^ i : Nat) : Int) ≤ 4611686018427387904 → pn (dg m ++ rest) i n = .ok (n + m * ((128 ^ i : Nat) : Int), i + (dg m).length)
  | j, m, i, n, rest, hj, hl, h0, hn => by
    by_cases c : m < 128
    · rw [dg_lt c] at hl ⊢
      simp only [List.length_singleton] at hl
      simp only [List.cons_append, List.nil_append, pn]
      rw [if_neg (by omega), if_neg (by omega), if_neg (by
        rintro (⟨h1, h2⟩ | h1)
        · have := h0 h1; omega
        · omega)]
      rfl
    · rw [dg_ge c] at hl ⊢
      simp only [List.length_cons] at hl
      simp only [List.cons_append, pn]
      rw [if_neg (by omega), if_pos (by omega)]
      have e1 : (((m % 128 + 128 : Nat) : Int) - 128) = ((m % 128 : Nat) : Int) := by omega
      have e2 : n + ((m % 128 : Nat) : Int) * ((128 ^ i : Nat) : Int) + ((m / 128 : Nat) : Int) * ((128 ^ (i + 1) : Nat) : Int) = n + (m : Int) * ((128 ^ i : Nat) : Int) := by
        have hm : (m : Int) = ((m % 128 : Nat) : Int) + 128 * ((m / 128 : Nat) : Int) := by omega
        have hp : ((128 ^ (i + 1) : Nat) : Int) = ((128 ^ i : Nat) : Int) * 128 := by rw [Nat.pow_succ, Int.natCast_mul]; rfl
        rw [hm, hp]
        generalize ((128 ^ i : Nat) : Int) = q
        generalize ((m % 128 : Nat) : Int) = a
        generalize ((m / 128 : Nat) : Int) = d
        clear hm hp hn
        grind
      cases j with
      | zero => omega
      | succ j =>
        rw [e1, pn_dg j (m / 128) (i + 1) _ rest (by omega) (by omega) (fun _ => by omega) (by rw [e2]; exact hn), e2]
        simp only [List.length_cons]
        rw [show i + 1 + (dg (m / 128)).length = i + ((dg (m / 128)).length + 1) from by omega]
theorem pn_only : ∀ (bs : List Int) (i : Nat) (n r : Int) (k : Nat), B256 bs → pn bs i n = .ok (r, k) → ∃ m : Nat, r = n + m * ((128 ^ i : Nat) : Int) ∧ dg m = bs.take (k - i) ∧ i < k ∧ k ≤ i + bs.length ∧ (0 < i → 0 < m) ∧ r ≤ 4611686018427387904
  | [], i, n, r, k, hb, h => by simp only [pn] at h; split at h <;> cases h
  | b :: bs, i, n, r, k, hb, h => by
    have h256 := hb b (by simp)
    simp only [pn] at h
    split at h
    · cases h
    · split at h
      · rename_i c
        obtain ⟨m, h1, h2, h3, h4, h5, h6⟩ := pn_only bs (i + 1) _ r k (fun c hc => hb c (by simp [hc])) h
        have hm := h5 (by omega)
        have hdiv : ((b - 128).toNat + 128 * m) / 128 = m := by omega
        have hmod : ((b - 128).toNat + 128 * m) % 128 = (b - 128).toNat := by omega
        refine ⟨(b - 128).toNat + 128 * m, ?_, ?_, by omega, by simp only [List.length_cons]; omega, fun _ => by omega, h6⟩
        · have hp : ((128 ^ (i + 1) : Nat) : Int) = ((128 ^ i : Nat) : Int) * 128 := by rw [Nat.pow_succ, Int.natCast_mul]; rfl
          have e1 : (((b - 128).toNat + 128 * m : Nat) : Int) = (b - 128) + 128 * (m : Int) := by omega
          rw [h1, hp, e1]
          generalize ((128 ^ i : Nat) : Int) = q
          clear h1 h hp e1 hdiv hmod h2
          grind
        · rw [dg_ge (by omega), hmod, hdiv, h2, show k - i = (k - (i + 1)) + 1 from by omega, List.take_succ_cons]
          congr 1
          omega
      · rename_i c
        split at h
        · cases h
        · rename_i c2
          injection h with h
          injection h with h1 h2
          subst h1; subst h2
          refine ⟨b.toNat, by rw [Int.toNat_of_nonneg h256.1], ?_, by omega, by simp, fun hi => ?_, by omega⟩
          · rw [dg_lt (by omega), show i + 1 - i = 1 from by omega]
            simp only [List.take_succ_cons, List.take_zero]
            rw [Int.toNat_of_nonneg h256.1]
          · have : b ≠ 0 := fun e => c2 (.inl ⟨hi, e⟩)
            omega
theorem inum_ok (K : Nat) (hK : 10 ≤ K) (s : ByteArray) (m : Nat) (rest : List Int) (hs : s.size ≤ 1000000) (hm : m ≤ 4611686018427387904) (h : numsOf s = dg m ++ rest) : num_In_Num K ⟨s, 0⟩ = some ((m : Int), ⟨strOfNums rest, 0⟩) := by
  have h9 := dg9 hm
  have hb : B256 (dg m ++ rest) := h ▸ nums_b s
  rw [inum_eq K hK s hs, h, pn_dg m m 0 0 rest (Nat.le_refl _) (by omega) (by omega) (by simp; omega)]
  simp only [resI]
  have : s.extract (0 + (dg m).length) s.size = strOfNums rest := by
    apply nums_inj
    rw [nums_ext, nums_of_str _ hb.right, List.take_of_length_le (by rw [numsOf_len]; omega), h]
    simp
  rw [this]; simp
theorem iraw_eq (s : ByteArray) (n : Nat) (h : n ≤ s.size) : num_In_Raw ⟨s, 0⟩ n = some (s.extract 0 n, ⟨s.extract n s.size, 0⟩) := by
  unfold num_In_Raw
  have : mxI 0 (n : Int) = n := by unfold mxI; split <;> omega
  rw [this, cD, if_neg (by simp only; omega), if_pos (by omega), if_pos (by simp only; omega)]
  rfl
theorem itext_ok (K : Nat) (hK : 10 ≤ K) (s t : ByteArray) (rest : List Int) (hs : s.size ≤ 1000000) (ht : t.size ≤ 1000000) (h : numsOf s = dg t.size ++ (numsOf t ++ rest)) : num_In_Text K ⟨s, 0⟩ = some (t, ⟨strOfNums rest, 0⟩) := by
  have hb : B256 (dg t.size ++ (numsOf t ++ rest)) := h ▸ nums_b s
  have hl := numsOf_len t
  have hsz : (strOfNums (numsOf t ++ rest)).size = t.size + rest.length := by rw [str_len, List.length_append, hl]
  unfold num_In_Text
  rw [inum_ok K hK s t.size _ hs (by omega) h, bS]
  simp only
  rw [iraw_eq _ _ (by omega), bS]
  have e1 : (strOfNums (numsOf t ++ rest)).extract 0 t.size = t := by
    apply nums_inj
    rw [nums_ext, nums_of_str _ hb.right]
    simp [← hl]
  have e2 : (strOfNums (numsOf t ++ rest)).extract t.size (strOfNums (numsOf t ++ rest)).size = strOfNums rest := by
    apply nums_inj
    rw [nums_ext, nums_of_str _ hb.right, nums_of_str _ hb.right.right, List.take_of_length_le (by rw [hsz, List.length_append]; omega)]
    simp [← hl]
  rw [e1, e2]
end Go.Proofs.YtpciioffkjpieaaDoor.Pure
