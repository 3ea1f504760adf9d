/- Plain laws: what the plain functions answer, with no program in sight. -/
import Derived.Test.YtaojnfjidbppjaaDoorPD
set_option linter.unusedVariables false
set_option linter.unusedSimpArgs false
namespace Go.Proofs.YtaojnfjidbppjaaDoor.Pure
open Go Go.Proofs.XC Go.Proofs.YtaojnfjidbppjaaDoor

/-! ### What is encoded is decoded -/
theorem begin_lead (b : Int) {T : T47} (h : leadOf b = (T, true)) (hb : 128 ≤ b) : beginF b = (⟨b, b % msk T.need, T.need⟩, []) := by
  unfold beginF
  rw [if_neg (by omega), h]
  simp [msk]
theorem fit_first (b r : Int) {T : T47} (h : leadOf b = (T, true)) (c : Int) (hn : 1 ≤ T.need) (h1 : T.low ≤ c) (h2 : c ≤ T.high) :
    nextF ⟨b, r, T.need⟩ c = if T.need = 1 then (Z, [r * 64 + c % 64]) else (⟨b, r * 64 + c % 64, T.need - 1⟩, []) := by
  unfold nextF loOf hiOf
  simp only [h, Int.lt_irrefl, if_false]
  rw [if_neg (by omega), if_pos ⟨h1, h2⟩]
theorem fit_later (b r n : Int) {T : T47} (h : leadOf b = (T, true)) (c : Int) (hn : 1 ≤ n) (hn2 : n < T.need) (h1 : 128 ≤ c) (h2 : c ≤ 191) :
    nextF ⟨b, r, n⟩ c = if n = 1 then (Z, [r * 64 + c % 64]) else (⟨b, r * 64 + c % 64, n - 1⟩, []) := by
  unfold nextF loOf hiOf
  simp only [h]
  rw [if_neg (by omega), if_pos hn2, if_pos hn2, if_pos ⟨h1, h2⟩]
theorem dec2 {b c1 : Int} {T : T47} (h : leadOf b = (T, true)) (hb : 128 ≤ b) (hn : T.need = 1) (h1 : T.low ≤ c1) (h2 : c1 ≤ T.high) : dec Z [b, c1] = (Z, [b % 32 * 64 + c1 % 64]) := by
  have := fit_first b (b % msk T.need) h c1 (by omega) h1 h2
  rw [if_pos hn, hn, show msk 1 = 32 from rfl] at this
  simp only [dec, next_Z, begin_lead b h hb, hn, show msk 1 = 32 from rfl, this, List.nil_append, List.append_nil]
theorem dec3 {b c1 c2 : Int} {T : T47} (h : leadOf b = (T, true)) (hb : 128 ≤ b) (hn : T.need = 2) (h1 : T.low ≤ c1) (h2 : c1 ≤ T.high) (h3 : 128 ≤ c2) (h4 : c2 ≤ 191) :
    dec Z [b, c1, c2] = (Z, [(b % 16 * 64 + c1 % 64) * 64 + c2 % 64]) := by
  have e1 := fit_first b (b % msk T.need) h c1 (by omega) h1 h2
  rw [if_neg (by omega), hn, show msk 2 = 16 from rfl, show (2 : Int) - 1 = 1 from rfl] at e1
  have e2 := fit_later b (b % 16 * 64 + c1 % 64) 1 h c2 (by omega) (by omega) h3 h4
  rw [if_pos rfl] at e2
  simp only [dec, next_Z, begin_lead b h hb, hn, show msk 2 = 16 from rfl, e1, e2, List.nil_append, List.append_nil]
theorem dec4 {b c1 c2 c3 : Int} {T : T47} (h : leadOf b = (T, true)) (hb : 128 ≤ b) (hn : T.need = 3) (h1 : T.low ≤ c1) (h2 : c1 ≤ T.high) (h3 : 128 ≤ c2) (h4 : c2 ≤ 191) (h5 : 128 ≤ c3) (h6 : c3 ≤ 191) :
    dec Z [b, c1, c2, c3] = (Z, [((b % 8 * 64 + c1 % 64) * 64 + c2 % 64) * 64 + c3 % 64]) := by
  have e1 := fit_first b (b % msk T.need) h c1 (by omega) h1 h2
  rw [if_neg (by omega), hn, show msk 3 = 8 from rfl, show (3 : Int) - 1 = 2 from rfl] at e1
  have e2 := fit_later b (b % 8 * 64 + c1 % 64) 2 h c2 (by omega) (by omega) h3 h4
  rw [if_neg (by omega), show (2 : Int) - 1 = 1 from rfl] at e2
  have e3 := fit_later b ((b % 8 * 64 + c1 % 64) * 64 + c2 % 64) 1 h c3 (by omega) (by omega) h5 h6
  rw [if_pos rfl] at e3
  simp only [dec, next_Z, begin_lead b h hb, hn, show msk 3 = 8 from rfl, e1, e2, e3, List.nil_append, List.append_nil]
theorem lead_of1 {b : Int} (h1 : 194 ≤ b) (h2 : b ≤ 223) : leadOf b = (⟨194, 223, 1, 128, 191⟩, true) := by unfold leadOf; rw [if_pos ⟨h1, h2⟩]
theorem dec_enc (x : Int) (hx : valid x) : dec Z (encB x) = (Z, [x]) := by
  unfold valid at hx
  unfold encB
  by_cases c1 : x < 128
  · rw [if_pos c1]
    simp only [dec, next_Z, beginF, if_pos c1, List.append_nil]
  · rw [if_neg c1]
    by_cases c2 : x < 2048
    · rw [if_pos c2, dec2 (lead_of1 (by omega) (by omega)) (by omega) rfl (by show (128 : Int) ≤ _; omega) (by show _ ≤ (191 : Int); omega)]
      congr 2; omega
    · rw [if_neg c2]
      by_cases c3 : x < 65536
      · rw [if_pos c3]
        have fin : ∀ T : T47, leadOf (224 + x / 4096) = (T, true) → T.need = 2 → T.low ≤ 128 + x / 64 % 64 → 128 + x / 64 % 64 ≤ T.high → dec Z [224 + x / 4096, 128 + x / 64 % 64, 128 + x % 64] = (Z, [x]) := by
          intro T h hn h1 h2
          rw [dec3 h (by omega) hn h1 h2 (by omega) (by omega)]
          congr 2; omega
        by_cases a1 : x < 4096
        · exact fin ⟨224, 224, 2, 160, 191⟩ (by unfold leadOf; rw [if_neg (by omega), if_pos (by omega)]) rfl (by show (160 : Int) ≤ _; omega) (by show _ ≤ (191 : Int); omega)
        · by_cases a2 : x < 53248
          · exact fin ⟨225, 236, 2, 128, 191⟩ (by unfold leadOf; rw [if_neg (by omega), if_neg (by omega), if_pos (by omega)]) rfl (by show (128 : Int) ≤ _; omega) (by show _ ≤ (191 : Int); omega)
          · by_cases a3 : x < 57344
            · exact fin ⟨237, 237, 2, 128, 159⟩ (by unfold leadOf; rw [if_neg (by omega), if_neg (by omega), if_neg (by omega), if_pos (by omega)]) rfl (by show (128 : Int) ≤ _; omega) (by show _ ≤ (159 : Int); omega)
            · exact fin ⟨238, 239, 2, 128, 191⟩ (by unfold leadOf; rw [if_neg (by omega), if_neg (by omega), if_neg (by omega), if_neg (by omega), if_pos (by omega)]) rfl (by show (128 : Int) ≤ _; omega) (by show _ ≤ (191 : Int); omega)
      · rw [if_neg c3]
        have fin : ∀ T : T47, leadOf (240 + x / 262144) = (T, true) → T.need = 3 → T.low ≤ 128 + x / 4096 % 64 → 128 + x / 4096 % 64 ≤ T.high → dec Z [240 + x / 262144, 128 + x / 4096 % 64, 128 + x / 64 % 64, 128 + x % 64] = (Z, [x]) := by
          intro T h hn h1 h2
          rw [dec4 h (by omega) hn h1 h2 (by omega) (by omega) (by omega) (by omega)]
          congr 2; omega
        by_cases a1 : x < 262144
        · exact fin ⟨240, 240, 3, 144, 191⟩ (by unfold leadOf; rw [if_neg (by omega), if_neg (by omega), if_neg (by omega), if_neg (by omega), if_neg (by omega), if_pos (by omega)]) rfl (by show (144 : Int) ≤ _; omega) (by show _ ≤ (191 : Int); omega)
        · by_cases a2 : x < 1048576
          · exact fin ⟨241, 243, 3, 128, 191⟩ (by unfold leadOf; rw [if_neg (by omega), if_neg (by omega), if_neg (by omega), if_neg (by omega), if_neg (by omega), if_neg (by omega), if_pos (by omega)]) rfl (by show (128 : Int) ≤ _; omega) (by show _ ≤ (191 : Int); omega)
          · exact fin ⟨244, 244, 3, 128, 143⟩ (by unfold leadOf; rw [if_neg (by omega), if_neg (by omega), if_neg (by omega), if_neg (by omega), if_neg (by omega), if_neg (by omega), if_neg (by omega), if_pos (by omega)]) rfl (by show (128 : Int) ≤ _; omega) (by show _ ≤ (143 : Int); omega)
theorem fix_valid (r : Int) : valid (fixR r) := fix_range r
theorem dec_encF (r : Int) : dec Z (encF r) = (Z, [fixR r]) := dec_enc _ (fix_valid r)
theorem dec_encs : ∀ l : List Int, dec Z (l.flatMap encF) = (Z, l.map fixR)
  | [] => rfl
  | r :: l => by rw [List.flatMap_cons, dec_append, dec_encF, dec_encs l]; rfl
theorem encs_bytes (l : List Int) : Bytes (l.flatMap encF) := by
  intro c hc
  obtain ⟨r, _, h⟩ := List.mem_flatMap.1 hc
  exact (enc_bytes r).1 c h
theorem encs_len : ∀ l : List Int, (l.flatMap encF).length ≤ 4 * l.length
  | [] => by simp
  | r :: l => by
    have := encs_len l
    have := (enc_bytes r).2
    simp only [List.flatMap_cons, List.length_append, List.length_cons]; omega
theorem enc_head (x : Int) (hx : valid x) : ∃ b t, encB x = b :: t ∧ ¬(128 ≤ b ∧ b ≤ 191) := by
  unfold valid at hx
  unfold encB
  split
  · exact ⟨_, _, rfl, by omega⟩
  · split
    · exact ⟨_, _, rfl, by omega⟩
    · split
      · exact ⟨_, _, rfl, by omega⟩
      · exact ⟨_, _, rfl, by omega⟩
theorem fit_range {d : T24} (h : Inv d) (hd : ¬ d.Need ≤ 0) : 128 ≤ loOf d ∧ hiOf d ≤ 191 := by
  rcases h with rfl | ⟨hl, _⟩
  · exact absurd (by simp) hd
  · unfold loOf hiOf
    rcases lead_cases _ hl with ⟨a, b, e⟩ | ⟨a, e⟩ | ⟨a, b, e⟩ | ⟨a, e⟩ | ⟨a, b, e⟩ | ⟨a, e⟩ | ⟨a, b, e⟩ | ⟨a, e⟩ <;> rw [e] <;> simp only <;> split <;> omega
/-- Behind whatever came, a rune that is encoded is told. -/
theorem dec_heal (d : T24) (h : Inv d) (r : Int) : ∃ pre, dec d (encF r) = (Z, pre ++ [fixR r]) ∧ pre.length ≤ 1 := by
  have hz := dec_encF r
  obtain ⟨b, t, e, hb⟩ := enc_head _ (fix_valid r)
  unfold encF at hz ⊢
  rw [e] at hz ⊢
  by_cases hd : d.Need ≤ 0
  · exact ⟨[], by rw [h.zero hd, hz]; rfl, by simp⟩
  · have hf := fit_range h hd
    refine ⟨[65533], ?_, by simp⟩
    have : nextF d b = ((beginF b).1, 65533 :: (beginF b).2) := by unfold nextF; rw [if_neg hd, if_neg (by omega)]
    simp only [dec, next_Z, this] at hz ⊢
    simp only [Prod.mk.injEq] at hz
    rw [hz.1, List.cons_append, hz.2]; rfl
theorem back_loop (K : Nat) (p0 L : List Int) (hL : (List.drop 0 (List.take (Int.toNat (if 40 < ((p0).length : Int) then 40 else ((p0).length : Int))) p0)) = L) (hl : L.length ≤ 40) (hw : ∀ x ∈ L, -2147483648 ≤ x ∧ x ≤ 2147483647) : ∀ (k i : Nat), L.length < k + i → i ≤ L.length →
    tidewracklaw05_GlyphBack_l2 K p0 k (strOfNums ((L.take i).flatMap encF)) ((L.take i).map fixR) i = tidewracklaw05_GlyphBack_j1 K p0 (strOfNums (L.flatMap encF)) (L.map fixR)
  | 0, i, h, h' => by omega
  | k + 1, i, h, h' => by
    have ih := back_loop K p0 L hL hl hw k
    unfold tidewracklaw05_GlyphBack_l2
    rw [hL]
    by_cases hi : i < L.length
    · have hw1 : IntKind.wrap .i64 ((i : Int) + 1) = ((i + 1 : Nat) : Int) := by rw [w64 (by omega) (by omega)]; omega
      have hx := hw _ (List.getElem_mem hi)
      have e1 : strOfNums ((L.take i).flatMap encF) ++ strOfNums (encF L[i]) = strOfNums ((L.take (i + 1)).flatMap encF) := by
        rw [← str_append, List.take_succ_eq_append_getElem hi, List.flatMap_append]
        simp
      have e2 : (L.take i).map fixR ++ [fixR L[i]] = (L.take (i + 1)).map fixR := by
        rw [List.take_succ_eq_append_getElem hi, List.map_append]; rfl
      have l1 := encs_len (L.take i)
      have l2 := (enc_bytes L[i]).2
      have l3 : (L.take i).length = i := by simp; omega
      have s1 := str_size ((L.take i).flatMap encF)
      have s2 := str_size (encF L[i])
      have fin := ih (i + 1) (by omega) (by omega)
      rw [← e1, ← e2] at fin
      simp only [cD, rdD_get 0 L hi, w64 (x := L[i]) (by omega) (by omega), renc_eq, bS, hw1]
      rw [if_pos (by omega), if_pos (by omega), if_pos (by omega)]
      have a1 : ((L.take i).map fixR).length + ([65533] : List Int).length ≤ 1000000000 := by simp; omega
      have a2 : ((L.take i).map fixR).length + ([L[i]] : List Int).length ≤ 1000000000 := by simp; omega
      rw [if_pos a1, if_pos a2, ← fin]
      unfold fixR
      grind
    · simp only [cD]
      rw [if_neg (by omega), List.take_of_length_le (by omega)]
theorem GlyphBack (x0 : List Int) (w0 : ∀ y ∈ x0, (WF.wfi32) y) (l0 : x0.length ≤ maxLen) : ∃ K, tidewracklaw05_GlyphBack K x0 = some true := by
  suffices h : ∀ K, 1000 ≤ K → tidewracklaw05_GlyphBack K x0 = some true from ⟨1000, h _ (Nat.le_refl _)⟩
  intro K hK
  unfold tidewracklaw05_GlyphBack
  rw [awake_eq K (by omega), bS]
  obtain ⟨L, hL⟩ : ∃ L, (List.drop 0 (List.take (Int.toNat (if 40 < ((x0).length : Int) then 40 else ((x0).length : Int))) x0)) = L := ⟨_, rfl⟩
  have hl : L.length ≤ 40 := by rw [← hL]; simp only [List.drop_zero, List.length_take]; split <;> omega
  have hw : ∀ x ∈ L, -2147483648 ≤ x ∧ x ≤ 2147483647 := by
    intro x hx
    rw [← hL, List.drop_zero] at hx
    exact wf32 (w0 x (List.mem_of_mem_take hx))
  simp only [Bool.not_true, cond_false]
  rw [if_pos (by split <;> omega), if_pos (by split <;> omega)]
  have := back_loop K x0 L hL hl hw K 0 (by omega) (by omega)
  rw [show ((0 : Nat) : Int) = 0 from rfl] at this
  have e0 : strOfNums ((L.take 0).flatMap encF) = (⟨#[]⟩ : ByteArray) := rfl
  have e1 : (L.take 0).map fixR = [] := rfl
  rw [e0, e1] at this
  rw [this]
  unfold tidewracklaw05_GlyphBack_j1
  have hen := encs_len L
  have hsz := str_size (L.flatMap encF)
  rw [hL, penc_eq K L (by omega) (by omega), bS, cS, if_pos rfl, decode_eq K _ (by omega) (by omega) (by omega), bS, nums_str _ (encs_bytes L)]
  have hda : decAll (L.flatMap encF) = L.map fixR := by unfold decAll; rw [dec_encs]; simp [endF]
  rw [hda, same_eq K _ _ (valid64 (fun x hx => by obtain ⟨r, _, rfl⟩ := List.mem_map.1 hx; exact fix_valid r)) (by simp; omega) (by simp; omega)]
  simp [bS]
theorem GlyphHeals (x0 : ByteArray) (w0 : x0.size ≤ 140737488351232) (x1 : Int) (w1 : (Lit.int .i32 x1).wf = true) : ∃ K, tidewracklaw05_GlyphHeals K x0 x1 = some true := by
  suffices h : ∀ K, 1000 ≤ K → tidewracklaw05_GlyphHeals K x0 x1 = some true from ⟨1000, h _ (Nat.le_refl _)⟩
  intro K hK
  have hsz := cut_size x0 60
  unfold tidewracklaw05_GlyphHeals
  rw [awake_eq K (by omega), bS, show (60 : Int) = ((60 : Nat) : Int) from rfl, cut_eq, bS]
  generalize cutF x0 60 = s at *
  have hx := wf32 w1
  have hen := (enc_bytes x1).2
  have hes := str_size (encF x1)
  have hN := numsOf_len s
  have hp := penc_eq K [x1] (by simp) (by simp; omega)
  rw [show [x1].flatMap encF = encF x1 by simp] at hp
  have hss : (s ++ strOfNums (encF x1)).size = s.size + (strOfNums (encF x1)).size := ByteArray.size_append
  rw [Bool.not_true, cond_false, hp, bS, if_pos (by omega), decode_eq K _ (by omega) (by omega) (by omega), bS, nums_append, nums_str _ (enc_bytes x1).1]
  obtain ⟨pre, hh, _⟩ := dec_heal _ (decZ _ (numsOf_bytes s)).1 x1
  obtain ⟨q, hq⟩ : ∃ q, decAll (numsOf s ++ encF x1) = q ++ [fixR x1] := by
    refine ⟨(dec Z (numsOf s)).2 ++ pre, ?_⟩
    unfold decAll
    rw [dec_append, hh]
    simp [endF]
  have hql := decAll_len (numsOf s ++ encF x1) (fun c hc => by
    rcases List.mem_append.1 hc with h | h
    · exact numsOf_bytes s c h
    · exact (enc_bytes x1).1 c h)
  rw [hq] at hql ⊢
  have hll : (q ++ [fixR x1]).length = q.length + 1 := by simp
  have hqb : q.length ≤ 100 := by
    have := hql.1
    rw [hll, List.length_append] at this; omega
  have fin : ∀ want : Int, want = fixR x1 → tidewracklaw05_GlyphHeals_j1 (q ++ [fixR x1]) want = some true := by
    intro want hwt
    subst hwt
    have hfx := fix_range x1
    unfold tidewracklaw05_GlyphHeals_j1
    have hw1 : IntKind.wrap .i64 (((q ++ [fixR x1]).length : Int) - 1) = (q.length : Int) := by rw [hll, w64 (by omega) (by omega)]; omega
    rw [cD, if_pos (by omega), hw1, if_pos (by omega), rdD_get 0 _ (by omega : q.length < (q ++ [fixR x1]).length)]
    rw [List.getElem_append_right (Nat.le_refl _)]
    simp only [Nat.sub_self, List.getElem_cons_zero]
    rw [w64 (by omega) (by omega), beq_self_eq_true]
  simp only [cD]
  rw [w64 (x := x1) (by omega) (by omega)]
  by_cases a : x1 < 0
  · rw [if_pos a]; exact fin _ (by unfold fixR; rw [if_pos (by omega)])
  · rw [if_neg a]
    by_cases b : x1 > 1114111
    · rw [if_pos b]; exact fin _ (by unfold fixR; rw [if_pos (by omega)])
    · rw [if_neg b]
      by_cases c : x1 ≥ 55296
      · rw [if_pos c]
        by_cases e : x1 ≤ 57343
        · rw [if_pos e]; exact fin _ (by unfold fixR; rw [if_pos (by omega)])
        · rw [if_neg e]; exact fin _ (by unfold fixR; rw [if_neg (by omega)])
      · rw [if_neg c]; exact fin _ (by unfold fixR; rw [if_neg (by omega)])
end Go.Proofs.YtaojnfjidbppjaaDoor.Pure
