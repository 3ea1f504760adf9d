/- Plain laws: what the plain functions answer, with no program in sight. -/
import Derived.Test.YticilepdpobheaaDoorPK
set_option linter.unusedVariables false
set_option linter.unusedSimpArgs false
namespace Go.Proofs.YticilepdpobheaaDoor.Pure
open Go Go.Proofs.XC Go.Proofs.YticilepdpobheaaDoor

theorem bytes_ne (g : T23) : bytesF g ≠ E0 := fun h => by
  have h2 : (bytesF g).size = (strOfNums (body g)).size + 4 := seal_size _
  rw [h] at h2
  have : (E0 : ByteArray).size = 0 := rfl
  omega
theorem seal_inj {a b : ByteArray} (h : sealF a = sealF b) : a = b := by
  have h1 := open_seal a
  rw [h, open_seal b] at h1
  exact (Prod.mk.inj h1).1.symm
theorem gnum_eq (g : T23) (i : Int) (h : g.Nums.length ≤ 1000) : gram_Gram_Num g i = some (if 0 ≤ i ∧ i < (g.Nums.length : Int) then rdD 0 g.Nums i else 0) := by
  unfold gram_Gram_Num
  rw [within_eq, bS, cNB, w64 (by omega) (by omega)]
  simp only [decide_eq_true_eq]
  by_cases c : 0 ≤ i ∧ i < (g.Nums.length : Int)
  · rw [if_pos (by omega), if_pos c, if_pos c]
  · rw [if_neg (by omega), if_neg c]
theorem back_j1 (K : Nat) (hK : 100000 ≤ K) (g : T23) (h : Sm g) (p : Int) : tidewracklaw03_GramBack_j1 K p (g, g) (if chk g = 0 then bytesF g else E0) (if 0 ≤ p ∧ p < (g.Nums.length : Int) then rdD 0 g.Nums p else 0) = some true := by
  have hn := h.n
  unfold tidewracklaw03_GramBack_j1 tidewracklaw03_GramBack_j2
  simp only
  rw [check_eq K hK g h, bS, rcheck_eq K hK g h, bS, cN, if_pos rfl, rpack_eq K hK g h, bS, cSN, if_pos rfl, gnum_eq g p (by omega), bS, cN, if_pos rfl, bS, cN]
  by_cases c : chk g = 0
  · rw [if_pos c, if_pos c, parse_bytes K hK g h c, bS, cE, if_pos rfl, is_refl K g (by omega) (by omega), bS]
  · rw [if_neg c, if_neg c, str_eq, decide_eq_true rfl]
theorem GramBack (x0 : T23) (w0 : (WF.wfT23) x0) (x1 : Int) (w1 : (Lit.int .i64 x1).wf = true) : ∃ K, tidewracklaw03_GramBack K x0 x1 = some true := by
  suffices h : ∀ K, 100000 ≤ K → tidewracklaw03_GramBack K x0 x1 = some true from ⟨100000, h _ (Nat.le_refl _)⟩
  intro K hK
  unfold tidewracklaw03_GramBack
  have hs := (own_sm x0).1
  have hj := back_j1 K hK (ownF x0) hs x1
  rw [awake_eq K hK, bS, Bool.not_true, cond_false, own_eq, bS]
  simp only
  rw [pack_eq K hK _ hs, bS, cD]
  unfold tidewracklaw03_GramBack_j3
  simp only
  by_cases c : 0 ≤ x1 ∧ x1 < ((ownF x0).Nums.length : Int)
  · rw [if_pos c] at hj
    rw [if_pos (by omega), cD, if_pos c.2, if_pos c]
    exact hj
  · rw [if_neg c] at hj
    by_cases c2 : x1 ≥ 0
    · rw [if_pos c2, cD, if_neg (by omega)]; exact hj
    · rw [if_neg c2, cond_false]; exact hj
theorem parses_j1 (K : Nat) (hK : 100000 ≤ K) (s : ByteArray) : tidewracklaw03_GramParses_j1 K s = some true := by
  unfold tidewracklaw03_GramParses_j1
  obtain ⟨r, h1, h2, h3, h4, h5, h6, h7⟩ := parse_both K hK s
  have hn := h3.n
  rw [h1, bS, h2, bS, cE, if_pos rfl, is_refl K _ (by omega) (by omega), bS, cond_true, cN]
  by_cases c : r.2 = 0
  · obtain ⟨g1, g2⟩ := h4 c
    rw [if_pos c, pack_eq K hK _ h3, bS, if_pos g1, g2, str_eq, decide_eq_true rfl]
  · rw [if_neg c]
theorem GramParses (x0 : ByteArray) (w0 : x0.size ≤ 140737488351232) (x1 : Bool) : ∃ K, tidewracklaw03_GramParses K x0 x1 = some true := by
  suffices h : ∀ K, 100000 ≤ K → tidewracklaw03_GramParses K x0 x1 = some true from ⟨100000, h _ (Nat.le_refl _)⟩
  intro K hK
  unfold tidewracklaw03_GramParses
  have hz := cut_size x0 300
  rw [awake_eq K hK, bS, Bool.not_true, cond_false, show (300 : Int) = ((300 : Nat) : Int) from rfl, cut_eq, bS, seal_eq K _ (by omega) (by omega) (by omega), bS, parses_j1 K hK, parses_j1 K hK]
  cases x1 <;> rfl
theorem GramApart (x0 : T23) (w0 : (WF.wfT23) x0) (x1 : T23) (w1 : (WF.wfT23) x1) : ∃ K, tidewracklaw03_GramApart K x0 x1 = some true := by
  suffices h : ∀ K, 100000 ≤ K → tidewracklaw03_GramApart K x0 x1 = some true from ⟨100000, h _ (Nat.le_refl _)⟩
  intro K hK
  unfold tidewracklaw03_GramApart
  have h1 := (own_sm x0).1
  have h2 := (own_sm x1).1
  rw [awake_eq K hK, bS, Bool.not_true, cond_false, own_eq, bS, own_eq, bS]
  generalize ownF x0 = a at *
  generalize ownF x1 = b at *
  simp only
  have e2 : ∀ g : T23, (ByteArray.toList (if chk g = 0 then bytesF g else E0) == ByteArray.toList (⟨#[]⟩ : ByteArray)) = (chk g != 0) := fun g => by
    rw [str_eq]
    by_cases c : chk g = 0
    · rw [if_pos c, decide_eq_false (bytes_ne g)]; simp [c]
    · rw [if_neg c, decide_eq_true rfl]; simp [c]
  rw [pack_eq K hK a h1, bS, pack_eq K hK b h2, bS, rcheck_eq K hK a h1, bS, cN, rcheck_eq K hK b h2, bS]
  unfold tidewracklaw03_GramApart_j2
  simp only
  rw [rcheck_eq K hK a h1, bS, e2, beq_self_eq_true, cond_true, rcheck_eq K hK b h2, bS, e2, beq_self_eq_true]
  by_cases c1 : chk a = 0
  · rw [if_pos c1]
    by_cases c2 : chk b = 0
    · rw [cN, if_pos c2]
      unfold tidewracklaw03_GramApart_j1
      simp only
      obtain ⟨v, f1, f2⟩ := is_eq K a b (by have := h1.n; omega) (by have := h1.n; omega)
      rw [f1, bS, if_pos c1, if_pos c2, str_eq]
      have : decide (bytesF a = bytesF b) = v := by
        cases v with
        | true => exact decide_eq_true (by rw [f2.1 rfl])
        | false =>
          refine decide_eq_false fun h => ?_
          have p1 := parse_bytes K hK a h1 c1
          rw [h, parse_bytes K hK b h2 c2] at p1
          have := f2.2 ((Prod.mk.inj (Option.some.inj p1)).1.symm)
          cases this
      rw [this]; simp
    · rw [cN, if_neg c2]
  · rw [if_neg c1, cond_true]
theorem GramLongest (x0 : Int) (w0 : (Lit.int .i64 x0).wf = true) : ∃ K, tidewracklaw03_GramLongest K x0 = some true := by
  suffices h : ∀ K, 100000 ≤ K → tidewracklaw03_GramLongest K x0 = some true from ⟨100000, h _ (Nat.le_refl _)⟩
  intro K hK
  unfold tidewracklaw03_GramLongest
  obtain ⟨n, hn, he⟩ := and_le x0 16383 (by decide)
  rw [show ((16383 : Nat) : Int) = 16383 from rfl] at he
  rw [awake_eq K hK, bS, Bool.not_true, cond_false, he, if_pos (by omega), if_pos (by omega), Int.toNat_natCast]
  have hz : (strOfNums (List.replicate n (0 : Int))).size = n := by rw [str_len]; simp
  have hz2 : (strOfNums (List.replicate (Int.toNat 8193) (0 : Int))).size = 8193 := by rw [str_len, List.length_replicate]; rfl
  have hs : Sm ⟨1, 4, [], strOfNums (List.replicate n (0 : Int))⟩ := ⟨by simp, by show (strOfNums (List.replicate n (0 : Int))).size ≤ 20000; omega⟩
  have hb : (bytesF ⟨1, 4, [], strOfNums (List.replicate n (0 : Int))⟩).size = 7 + (dg n).length + n := by
    unfold bytesF
    rw [seal_size, str_len]
    unfold body
    simp only [catN, List.flatMap_cons, List.flatMap_nil, List.append_nil, List.length_nil]
    rw [show clipN 1 = 1 from clip_id 1 (by decide), show clipN 4 = 4 from clip_id 4 (by decide), show clipN (((0 : Nat) : Int)) = 0 from clip_id 0 (by decide), dg_lt (n := 1) (by decide), dg_lt (n := 4) (by decide), dg_lt (n := 0) (by decide), hz]
    simp only [List.length_append, List.length_cons, List.length_nil, numsOf_len, hz]
    omega
  have hd : (dg n).length = if n < 128 then 1 else 2 := by
    by_cases c : n < 128
    · rw [if_pos c, dg_lt c]; rfl
    · rw [if_neg c, dg_ge c, dg_lt (by omega)]; rfl
  have hok : OKg ⟨1, 4, [], strOfNums (List.replicate n (0 : Int))⟩ := ⟨by simp, by simp, by simp, by simp⟩
  have hc : chk ⟨1, 4, [], strOfNums (List.replicate n (0 : Int))⟩ = if n + 9 > 8192 then 3 else 0 := by
    unfold chk
    rw [if_pos hok, hb, hd]
    by_cases c : n + 9 > 8192
    · rw [if_pos c, if_pos (by split <;> omega)]
    · rw [if_neg c, if_neg (by split <;> omega)]
  have hp : gram_Parse K (strOfNums (List.replicate (Int.toNat 8193) (0 : Int))) = some (⟨0, 0, [], ⟨#[]⟩⟩, 3) := by
    unfold gram_Parse
    rw [cD, if_pos (by rw [hz2]; omega)]
  rw [pack_eq K hK _ hs, bS, hp, bS, check_eq K hK _ hs, bS, hc, w64 (by omega) (by omega)]
  by_cases c : n + 9 > 8192
  · rw [if_pos c, if_neg (by decide), decide_eq_true (show ((n : Int) + 9 > 8192) by omega), str_eq, decide_eq_true rfl]
    rfl
  · rw [if_neg c, if_pos rfl, decide_eq_false (show ¬ ((n : Int) + 9 > 8192) by omega), str_eq, decide_eq_false (bytes_ne _)]
    simp only [beq_self_eq_true, cond_true, cond_false]
    rw [show ((0 : Int) == 3) = false from rfl, beq_self_eq_true, cond_true, cD]
    by_cases c2 : n < 128
    · rw [if_pos (by omega)]
    · rw [if_neg (by omega), hb, hd, if_neg c2]
      exact congrArg some (beq_iff_eq.2 (by omega))
theorem burst (K : Nat) (hK : 100 ≤ K) (s : ByteArray) (hs : s.size ≤ 900) (p : Int) (m : Nat) (hm : m < 2 ^ 32) : ∃ u, sum_Turn K (sealF s) p m = some u ∧ u.size = s.size + 4 ∧ (u ≠ sealF s → (openF u).2 = false) := by
  have hz := seal_size s
  have hop : (openF (sealF s)).2 = true := by rw [open_seal]
  generalize sealF s = t at *
  obtain ⟨u, eu, zu, nu⟩ := turn_eq K (by omega) t p m (by omega) hm
  refine ⟨u, eu, by omega, fun hut => ?_⟩
  have hcl := (clamp_eq t p (by omega)).2
  have h1 := (open_iff t (by omega)).1 hop
  have h2 := open_iff u (by omega)
  rw [crc_num _ _ (nb_b8 _), nb_len] at h1 h2
  rw [nu, zu, ← Nat.xor_assoc, stn_xor, h1] at h2
  have hd : diff t.size (clampAt p t.size) m = 2 ^ clampAt p t.size * (m % 2 ^ (8 * t.size - clampAt p t.size)) := by
    unfold diff
    have : 2 ^ (8 * t.size) = 2 ^ clampAt p t.size * 2 ^ (8 * t.size - clampAt p t.size) := by rw [← Nat.pow_add]; congr 1; omega
    rw [this, Nat.mul_mod_mul_left]
  have hst : stn (8 * t.size) (diff t.size (clampAt p t.size) m) = stn (8 * t.size - clampAt p t.size) (m % 2 ^ (8 * t.size - clampAt p t.size)) := by
    have e : 8 * t.size = clampAt p t.size + (8 * t.size - clampAt p t.size) := by omega
    rw [hd]
    conv => lhs; rw [e]
    rw [stn_add, show clampAt p t.size + (8 * t.size - clampAt p t.size) - clampAt p t.size = 8 * t.size - clampAt p t.size by omega, stn_pow]
  have hlt : m % 2 ^ (8 * t.size - clampAt p t.size) < 2 ^ 32 := Nat.lt_of_le_of_lt (Nat.mod_le _ _) hm
  have : ¬ (openF u).2 = true := by
    rw [h2]
    intro e
    apply hut
    have e1 : stn (8 * t.size) (diff t.size (clampAt p t.size) m) = 0 := by
      have := congrArg (fun z => stn 32 ones ^^^ z) e
      simpa [← Nat.xor_assoc] using this
    rw [hst] at e1
    have e2 := stn_inj0 _ hlt e1
    refine text_inj zu ?_
    rw [nu, hd, e2]; simp
  simpa using this
theorem GramTold (x0 : T23) (w0 : (WF.wfT23) x0) (x1 : Int) (w1 : (Lit.int .i64 x1).wf = true) (x2 : Int) (w2 : (Lit.int .u32 x2).wf = true) : ∃ K, tidewracklaw03_GramTold K x0 x1 x2 = some true := by
  suffices h : ∀ K, 100000 ≤ K → tidewracklaw03_GramTold K x0 x1 x2 = some true from ⟨100000, h _ (Nat.le_refl _)⟩
  intro K hK
  obtain ⟨m, rfl⟩ : ∃ m : Nat, x2 = (m : Int) := ⟨x2.toNat, by have := wfu32 w2; omega⟩
  have hm : m < 2 ^ 32 := by have := wfu32 w2; omega
  unfold tidewracklaw03_GramTold
  obtain ⟨h1, h1d⟩ := own_sm x0
  rw [awake_eq K hK, bS, Bool.not_true, cond_false, own_eq, bS]
  generalize ownF x0 = a at *
  simp only
  rw [pack_eq K hK a h1, bS, rcheck_eq K hK a h1, bS, cN]
  have hn := h1.n
  by_cases c : chk a = 0
  · rw [if_pos c, if_pos c]
    have hl : (body a).length ≤ 890 := by
      unfold body
      have g1 := catN_len [a.Epoch, a.Kind, (a.Nums.length : Int)]
      have g2 := catN_len a.Nums
      have g3 := (dg9 (n := a.Data.size) (by omega)).2.1
      have g4 := numsOf_len a.Data
      simp only [List.length_append, List.length_cons, List.length_nil] at *
      omega
    have hz : (bytesF a).size = (body a).length + 4 := by unfold bytesF; rw [seal_size, str_len]
    obtain ⟨u, f1, f2, f3⟩ := burst K (by omega) (strOfNums (body a)) (by rw [str_len]; omega) x1 m hm
    rw [str_len] at f2
    rw [show sealF (strOfNums (body a)) = bytesF a from rfl] at f1 f3
    rw [f1, bS]
    obtain ⟨r, g1, g2, g3, g4, g5, g6, g7⟩ := parse_both K hK u
    rw [g1, bS, cS]
    by_cases hu : u = bytesF a
    · subst hu
      rw [parse_bytes K hK a h1 c] at g1
      obtain rfl := Option.some.inj g1
      rw [if_pos rfl, cE, if_pos rfl, is_refl K _ (by simp only; omega) (by simp only; omega), bS]
    · have h4 := g7 (by omega) (f3 hu)
      rw [if_neg hu, cE, if_pos h4, g5 (by rw [h4]; decide), is_refl K _ (by simp) (by simp; omega), bS]
  · rw [if_neg c, if_neg c, str_eq, decide_eq_true rfl]
end Go.Proofs.YticilepdpobheaaDoor.Pure
