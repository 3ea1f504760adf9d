/- Plain laws: what the plain functions answer, with no program in sight. -/
import Derived.Test.YthmdgjdgnfoloaaDoorPK
set_option linter.unusedVariables false
set_option linter.unusedSimpArgs false
namespace Go.Proofs.YthmdgjdgnfoloaaDoor.Pure
open Go Go.Proofs.XC Go.Proofs.YthmdgjdgnfoloaaDoor

/-! ### Both readers, number by number -/
theorem pn_code : ∀ (bs : List Int) (i : Nat) (n c : Int), pn bs i n = .error c → c ≠ 0
  | [], i, n, c, h => by
    simp only [pn] at h
    split at h <;> (injection h with h; omega)
  | b :: bs, i, n, c, h => by
    simp only [pn] at h
    split at h
    · injection h with h; omega
    · split at h
      · exact pn_code bs _ _ c h
      · split at h
        · injection h with h; omega
        · cases h
theorem num_step (K : Nat) (hK : 10 ≤ K) (s : ByteArray) (hs : s.size ≤ 1000000) :
    (∃ (m : Nat) (s' : ByteArray), m ≤ 4611686018427387904 ∧ num_In_Num K ⟨s, 0⟩ = some ((m : Int), ⟨s', 0⟩) ∧ tidewrackref01_Read K ⟨s, 0⟩ = some (⟨s', 0⟩, (m : Int)) ∧ numsOf s = dg m ++ numsOf s' ∧ s'.size ≤ s.size) ∨
    (∃ c : Int, c ≠ 0 ∧ num_In_Num K ⟨s, 0⟩ = some (0, ⟨E0, c⟩) ∧ tidewrackref01_Read K ⟨s, 0⟩ = some (⟨E0, c⟩, 0)) := by
  rw [inum_eq K hK s hs, rread_eq K hK s hs]
  cases hp : pn (numsOf s) 0 0 with
  | error c => exact .inr ⟨c, pn_code _ _ _ _ hp, rfl, rfl⟩
  | ok v =>
    obtain ⟨n, k⟩ := v
    obtain ⟨m, h1, h2, h3, h4, h5, h6⟩ := pn_only _ _ _ _ _ (nums_b s) hp
    rw [numsOf_len] at h4
    have hn : n = (m : Int) := by simpa using h1
    subst hn
    refine .inl ⟨m, s.extract k s.size, by omega, rfl, rfl, ?_, by rw [ext_size]; omega⟩
    rw [nums_ext, List.take_of_length_le (by rw [numsOf_len]; exact Nat.le_refl _), h2, Nat.sub_zero, List.take_append_drop]
theorem num_bad (K : Nat) (hK : 10 ≤ K) (c : Int) (hc : c ≠ 0) : num_In_Num K ⟨E0, c⟩ = some (0, ⟨E0, c⟩) ∧ tidewrackref01_Read K ⟨E0, c⟩ = some (⟨E0, c⟩, 0) := by
  refine ⟨inum_bad K hK E0 c rfl hc, ?_⟩
  unfold tidewrackref01_Read
  rw [cN, if_neg hc]
theorem limited_bad (K : Nat) (hK : 10 ≤ K) (c : Int) (hc : c ≠ 0) (m : Int) (hm : 0 ≤ m) : book_limited K ⟨E0, c⟩ m = some (0, ⟨E0, c⟩) := by
  unfold book_limited
  rw [(num_bad K hK c hc).1, bS, cD, if_neg (by simp only; omega)]
theorem fail1 (s : ByteArray) : num_In_Fail ⟨s, 0⟩ 1 = some ⟨E0, 1⟩ := rfl
theorem read2_bad (K : Nat) (hK : 10 ≤ K) (t : Int × T88) (ht : t.1 ≤ 1024) (c : Int) (hc : c ≠ 0) : ∀ (k i : Nat) (acc : List T49), 1024 < k + i → i ≤ 1024 → acc.length ≤ i → book_Read_l2 K t k ⟨E0, c⟩ acc i = some ([], ⟨E0, c⟩)
  | 0, i, acc, h1, h2, h3 => by omega
  | k + 1, i, acc, h1, h2, h3 => by
    have ih := read2_bad K hK t ht c hc k
    unfold book_Read_l2
    rw [cD]
    by_cases hi : (i : Int) < t.1
    · have hw : IntKind.wrap .i64 ((i : Int) + 1) = ((i + 1 : Nat) : Int) := by rw [w64 (by omega) (by omega)]; omega
      rw [if_pos hi, limited_bad K hK c hc _ (by decide), bS]
      simp only
      rw [limited_bad K hK c hc _ (by decide), bS]
      simp only
      rw [if_pos (by simp only [List.length_cons, List.length_nil]; omega), hw]
      exact ih (i + 1) _ (by omega) (by omega) (by simp only [List.length_append, List.length_cons, List.length_nil]; omega)
    · rw [if_neg hi]
      unfold book_Read_j1 num_In_Err
      rw [bS, cN, if_neg (by simpa using hc)]
theorem ref3_bad (K : Nat) (t : T60 × Int) (c : Int) (hc : c ≠ 0) (k : Nat) (acc : List T69) (i : Int) : tidewrackref12_Read_l3 K t (k + 1) ⟨E0, c⟩ acc i = some (⟨E0, c⟩, []) := by
  have hj : tidewrackref12_Read_j2 ⟨E0, c⟩ acc = some (⟨E0, c⟩, []) := by
    unfold tidewrackref12_Read_j2
    rw [cN, if_neg hc]
  unfold tidewrackref12_Read_l3
  rw [hj, cE, if_neg hc]
  cases decide (i < t.2) <;> rfl
theorem both_loop (K : Nat) (hK : 10 ≤ K) (n : Nat) (hn : n ≤ 1024) (t : Int × T88) (ht : t.1 = n) (t' : T60 × Int) (ht' : t'.2 = n) : ∀ (k i : Nat) (s : ByteArray) (acc : List T49), 1025 < k + i → i ≤ n → s.size ≤ 1000000 → acc.length = i →
    ∃ (L : List T49) (s' : ByteArray) (e : Int), book_Read_l2 K t k ⟨s, 0⟩ acc i = some (L, ⟨s', e⟩) ∧ tidewrackref12_Read_l3 K t' k ⟨s, 0⟩ (tgs acc) i = some (⟨s', e⟩, tgs L) ∧ L.length ≤ 1024 ∧ s'.size ≤ s.size ∧ (e = 0 → L.length = n ∧ ∃ r, L = acc ++ r ∧ numsOf s = catG r ++ numsOf s')
  | 0, i, s, acc, h1, h2, h3, h4 => by omega
  | k + 1, i, s, acc, h1, h2, h3, h4 => by
    have ih := both_loop K hK n hn t ht t' ht' k
    by_cases hi : i < n
    · have hw : IntKind.wrap .i64 ((i : Int) + 1) = ((i + 1 : Nat) : Int) := by rw [w64 (by omega) (by omega)]; omega
      obtain ⟨k', rfl⟩ : ∃ j, k = j + 1 := ⟨k - 1, by omega⟩
      have hta := tgs_len acc
      unfold book_Read_l2 tidewrackref12_Read_l3
      rw [ht, ht', cD, if_pos (by omega), cD, if_pos (by omega), cE, if_pos rfl]
      unfold tidewrackref12_Read_j4
      rcases num_step K hK s h3 with ⟨m, s1, hm, e1, r1, b1, z1⟩ | ⟨c, hc, e1, r1⟩
      · by_cases c1 : (m : Int) > 1114111
        · -- too great a rune
          have l1 : book_limited K ⟨s, 0⟩ 1114111 = some (0, ⟨E0, 1⟩) := by
            unfold book_limited
            rw [e1, bS, cD, if_pos c1]; rfl
          refine ⟨[], E0, 1, ?_, ?_, by simp, by show (0 : Nat) ≤ _; omega, fun h => absurd h (by decide)⟩
          · rw [l1, bS]
            simp only
            rw [limited_bad K hK 1 (by decide) _ (by decide), bS]
            simp only
            rw [if_pos (by simp only [List.length_cons, List.length_nil]; omega), hw]
            exact read2_bad K hK t (by omega) 1 (by decide) _ (i + 1) _ (by omega) (by omega) (by simp only [List.length_append, List.length_cons, List.length_nil]; omega)
          · rw [r1, bS]
            simp only
            rw [cE, if_pos rfl]
            unfold tidewrackref12_Read_j7
            rw [cD, if_pos c1]; rfl
        · have l1 : book_limited K ⟨s, 0⟩ 1114111 = some ((m : Int), ⟨s1, 0⟩) := by
            unfold book_limited
            rw [e1, bS, cD, if_neg c1]
          rw [l1, bS, r1, bS]
          simp only
          rw [cE, if_pos rfl]
          unfold tidewrackref12_Read_j7
          rw [cD, if_neg c1]
          unfold tidewrackref12_Read_j5
          simp only
          rcases num_step K hK s1 (by omega) with ⟨m2, s2, hm2, e2, r2, b2, z2⟩ | ⟨c, hc, e2, r2⟩
          · by_cases c2 : (m2 : Int) > 647
            · have l2 : book_limited K ⟨s1, 0⟩ 647 = some (0, ⟨E0, 1⟩) := by
                unfold book_limited
                rw [e2, bS, cD, if_pos c2]; rfl
              refine ⟨[], E0, 1, ?_, ?_, by simp, by show (0 : Nat) ≤ _; omega, fun h => absurd h (by decide)⟩
              · rw [l2, bS]
                simp only
                rw [if_pos (by simp only [List.length_cons, List.length_nil]; omega), hw]
                exact read2_bad K hK t (by omega) 1 (by decide) _ (i + 1) _ (by omega) (by omega) (by simp only [List.length_append, List.length_cons, List.length_nil]; omega)
              · rw [r2, bS]
                simp only
                rw [cE, if_pos rfl]
                unfold tidewrackref12_Read_j6
                rw [cD, if_pos c2]; rfl
            · have l2 : book_limited K ⟨s1, 0⟩ 647 = some ((m2 : Int), ⟨s2, 0⟩) := by
                unfold book_limited
                rw [e2, bS, cD, if_neg c2]
              have hg : tgs (acc ++ [⟨IntKind.wrap .i32 (m : Int), (m2 : Int)⟩]) = tgs acc ++ [⟨(m : Int), (m2 : Int)⟩] := by
                unfold tgs
                rw [List.map_append, w32 (by omega) (by omega)]
                show _ ++ [tg ⟨(m : Int), (m2 : Int)⟩] = _
                unfold tg
                simp only
                rw [w64 (by omega) (by omega)]
              obtain ⟨L, s', e, f1, f2, f3, f4, f5⟩ := ih (i + 1) s2 (acc ++ [⟨IntKind.wrap .i32 (m : Int), (m2 : Int)⟩]) (by omega) (by omega) (by omega) (by simp only [List.length_append, List.length_cons, List.length_nil]; omega)
              rw [hg] at f2
              refine ⟨L, s', e, ?_, ?_, f3, by omega, fun he => ?_⟩
              · rw [l2, bS]
                simp only
                rw [if_pos (by simp only [List.length_cons, List.length_nil]; omega), hw]
                exact f1
              · rw [r2, bS]
                simp only
                rw [cE, if_pos rfl]
                unfold tidewrackref12_Read_j6
                rw [cD, if_neg c2, if_pos (by simp only [List.length_cons, List.length_nil]; omega), hw]
                exact f2
              · obtain ⟨g1, r, g2, g3⟩ := f5 he
                refine ⟨g1, ⟨IntKind.wrap .i32 (m : Int), (m2 : Int)⟩ :: r, by rw [g2, List.append_assoc]; rfl, ?_⟩
                show numsOf s = (dg (clipN (IntKind.wrap .i64 (IntKind.wrap .i32 (m : Int)))) ++ (dg (clipN (m2 : Int)) ++ [])) ++ catG r ++ numsOf s'
                rw [w32 (by omega) (by omega), w64 (by omega) (by omega), clip_id m hm, clip_id m2 hm2, List.append_nil, List.append_assoc, List.append_assoc, ← g3, ← b2, ← b1]
          · refine ⟨[], E0, c, ?_, ?_, by simp, by show (0 : Nat) ≤ _; omega, fun h => absurd h hc⟩
            · have l2 : book_limited K ⟨s1, 0⟩ 647 = some (0, ⟨E0, c⟩) := by
                unfold book_limited
                rw [e2, bS, cD, if_neg (by simp only; omega)]
              rw [l2, bS]
              simp only
              rw [if_pos (by simp only [List.length_cons, List.length_nil]; omega), hw]
              exact read2_bad K hK t (by omega) c hc _ (i + 1) _ (by omega) (by omega) (by simp only [List.length_append, List.length_cons, List.length_nil]; omega)
            · rw [r2, bS]
              simp only
              rw [cE, if_neg hc]
              unfold tidewrackref12_Read_j6
              rw [cond_false, if_pos (by simp only [List.length_cons, List.length_nil]; omega)]
              exact ref3_bad K t' c hc k' _ _
      · refine ⟨[], E0, c, ?_, ?_, by simp, by show (0 : Nat) ≤ _; omega, fun h => absurd h hc⟩
        · have l1 : book_limited K ⟨s, 0⟩ 1114111 = some (0, ⟨E0, c⟩) := by
            unfold book_limited
            rw [e1, bS, cD, if_neg (by simp only; omega)]
          rw [l1, bS]
          simp only
          rw [limited_bad K hK c hc _ (by decide), bS]
          simp only
          rw [if_pos (by simp only [List.length_cons, List.length_nil]; omega), hw]
          exact read2_bad K hK t (by omega) c hc _ (i + 1) _ (by omega) (by omega) (by simp only [List.length_append, List.length_cons, List.length_nil]; omega)
        · rw [r1, bS]
          simp only
          rw [cE, if_neg hc]
          unfold tidewrackref12_Read_j7
          rw [cond_false]
          unfold tidewrackref12_Read_j5
          simp only
          rw [(num_bad K hK c hc).2, bS]
          simp only
          rw [cE, if_neg hc]
          unfold tidewrackref12_Read_j6
          rw [cond_false, if_pos (by simp only [List.length_cons, List.length_nil]; omega)]
          exact ref3_bad K t' c hc k' _ _
    · have : i = n := by omega
      subst this
      refine ⟨acc, s, 0, ?_, ?_, by omega, Nat.le_refl _, fun _ => ⟨h4, [], by simp, by simp [catG]⟩⟩
      · unfold book_Read_l2
        rw [ht, cD, if_neg (by omega)]
        unfold book_Read_j1 num_In_Err
        rw [bS, cN, if_pos rfl]
      · unfold tidewrackref12_Read_l3
        rw [ht', cD, if_neg (by omega)]
        unfold tidewrackref12_Read_j2
        rw [cN, if_pos rfl]
theorem both_read (K : Nat) (hK : 2000 ≤ K) (s : ByteArray) (hs : s.size ≤ 1000000) :
    ∃ (L : List T49) (s' : ByteArray) (e : Int), book_Read K ⟨s, 0⟩ = some (L, ⟨s', e⟩) ∧ tidewrackref12_Read K ⟨s, 0⟩ = some (⟨s', e⟩, tgs L) ∧ L.length ≤ 1024 ∧ s'.size ≤ s.size ∧ (e = 0 → numsOf s = pkF L ++ numsOf s') := by
  obtain ⟨k, rfl⟩ : ∃ j, K = j + 1 := ⟨K - 1, by omega⟩
  unfold book_Read tidewrackref12_Read
  rcases num_step (k + 1) (by omega) s hs with ⟨m, s1, hm, e1, r1, b1, z1⟩ | ⟨c, hc, e1, r1⟩
  · by_cases c1 : (m : Int) > 1024
    · refine ⟨[], E0, 1, ?_, ?_, by simp, by show (0 : Nat) ≤ _; omega, fun h => absurd h (by decide)⟩
      · have l1 : book_limited (k + 1) ⟨s, 0⟩ 1024 = some (0, ⟨E0, 1⟩) := by
          unfold book_limited
          rw [e1, bS, cD, if_pos c1]; rfl
        rw [l1, bS]
        exact read2_bad (k + 1) (by omega) (0, ⟨E0, 1⟩) (by simp only; omega) 1 (by decide) _ 0 [] (by omega) (by omega) (by simp)
      · rw [r1, bS]
        simp only
        rw [cE, if_pos rfl]
        unfold tidewrackref12_Read_j8
        rw [cD, if_pos c1]; rfl
    · have l1 : book_limited (k + 1) ⟨s, 0⟩ 1024 = some ((m : Int), ⟨s1, 0⟩) := by
        unfold book_limited
        rw [e1, bS, cD, if_neg c1]
      obtain ⟨L, s', e, f1, f2, f3, f4, f5⟩ := both_loop (k + 1) (by omega) m (by omega) ((m : Int), ⟨s1, 0⟩) rfl (⟨s1, 0⟩, (m : Int)) rfl (k + 1) 0 s1 [] (by omega) (by omega) (by omega) rfl
      refine ⟨L, s', e, ?_, ?_, f3, by omega, fun he => ?_⟩
      · rw [l1, bS]; exact f1
      · rw [r1, bS]
        simp only
        rw [cE, if_pos rfl]
        unfold tidewrackref12_Read_j8
        rw [cD, if_neg c1]
        exact f2
      · obtain ⟨g1, r, g2, g3⟩ := f5 he
        rw [List.nil_append] at g2
        subst g2
        show numsOf s = ((dg (clipN (L.length : Int)) ++ []) ++ catG L) ++ numsOf s'
        rw [g1, clip_id m hm, List.append_nil, List.append_assoc, ← g3, ← b1]
  · refine ⟨[], E0, c, ?_, ?_, by simp, by show (0 : Nat) ≤ _; omega, fun h => absurd h hc⟩
    · have l1 : book_limited (k + 1) ⟨s, 0⟩ 1024 = some (0, ⟨E0, c⟩) := by
        unfold book_limited
        rw [e1, bS, cD, if_neg (by simp only; omega)]
      rw [l1, bS]
      exact read2_bad (k + 1) (by omega) (0, ⟨E0, c⟩) (by simp only; omega) c hc _ 0 [] (by omega) (by omega) (by simp)
    · rw [r1, bS]
      simp only
      rw [cE, if_neg hc]
      unfold tidewrackref12_Read_j8 tidewrackref12_Read_j1
      rw [cond_false]
      exact ref3_bad (k + 1) _ c hc k _ _
def cutF' (s : ByteArray) (n : Nat) : ByteArray := if s.size > n then s.extract 0 n else s
theorem cut_eq (s : ByteArray) (n : Nat) : tidewracklaw01_Cut s (n : Int) = some (cutF' s n) := by
  unfold tidewracklaw01_Cut cutF'
  rw [cD]
  by_cases c : s.size > n
  · rw [if_pos (by omega), if_pos (by omega), if_pos (by omega), if_pos c, Int.toNat_natCast]
  · rw [if_neg (by omega), if_neg c]
theorem cut_size (s : ByteArray) (n : Nat) : (cutF' s n).size ≤ n := by
  unfold cutF'
  split
  · rw [ext_size]; omega
  · omega
theorem BookReads (x0 : ByteArray) (w0 : x0.size ≤ 140737488351232) : ∃ K, tidewracklaw12_BookReads K x0 = some true := by
  suffices h : ∀ K, 100000 ≤ K → tidewracklaw12_BookReads K x0 = some true from ⟨100000, h _ (Nat.le_refl _)⟩
  intro K hK
  have hs := cut_size x0 120
  have hc := cut_eq x0 120
  rw [show ((120 : Nat) : Int) = 120 from rfl] at hc
  unfold tidewracklaw12_BookReads num_Of
  rw [awake_eq K hK, bS, Bool.not_true, cond_false, hc, bS, bS]
  generalize cutF' x0 120 = s at hs
  obtain ⟨L, s', e, f1, f2, f3, f4, f5⟩ := both_read K (by omega) s (by omega)
  rw [f1, bS, f2, bS]
  simp only
  rw [same_eq K L (by omega) (by omega), bS, Bool.not_true, cond_false]
  unfold num_In_Left num_In_Err
  rw [bS, cN, if_pos rfl, bS, cN, if_pos rfl]
  unfold tidewracklaw12_BookReads_j1
  simp only
  rw [cN]
  by_cases he : e = 0
  · have h5 := f5 he
    have hw : IntKind.wrap .i64 ((s.size : Int) - (s'.size : Int)) = ((s.size - s'.size : Nat) : Int) := by rw [w64 (by omega) (by omega)]; omega
    have hlen := congrArg List.length h5
    rw [List.length_append, numsOf_len, numsOf_len] at hlen
    rw [if_pos he, hw, if_pos (by omega), if_pos (by omega), pack_eq K L (by omega) (by omega), bS, Int.toNat_natCast]
    have : strOfNums (pkF L) = s.extract 0 (s.size - s'.size) := by
      apply nums_inj
      rw [nums_of_str _ (pk_b L), nums_ext, h5, List.drop_zero, show s.size - s'.size = (pkF L).length by omega, List.take_left]
    rw [this, beq_self_eq_true]
  · rw [if_neg he]
end Go.Proofs.YthmdgjdgnfoloaaDoor.Pure
