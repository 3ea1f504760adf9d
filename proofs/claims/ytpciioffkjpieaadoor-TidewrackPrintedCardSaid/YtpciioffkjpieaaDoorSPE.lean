/- Plain laws: what the plain functions answer, with no program in sight. -/
import Derived.Test.YtpciioffkjpieaaDoorSPD
set_option linter.unusedVariables false
set_option linter.unusedSimpArgs false
namespace Go.Proofs.YtpciioffkjpieaaDoor.Pure
open Go Go.Proofs.XC Go.Proofs.YtpciioffkjpieaaDoor

/-! ### What is encoded is decoded -/
theorem begin_lead (b : Int) {T : T192} (h : leadOf b = (T, true)) (hb : 128 ≤ b) : beginF b = (⟨b, b % msk T.need, T.need⟩, []) := by
  unfold beginF
  rw [if_neg (by omega), h]
  simp [msk]
theorem fit_first (b r : Int) {T : T192} (h : leadOf b = (T, true)) (c : Int) (hn : 1 ≤ T.need) (h1 : T.low ≤ c) (h2 : c ≤ T.high) :
    nextF ⟨b, r, T.need⟩ c = if T.need = 1 then (Z, [r * 64 + c % 64]) else (⟨b, r * 64 + c % 64, T.need - 1⟩, []) := by
  unfold nextF loOf hiOf
  simp only [h, Int.lt_irrefl, if_false]
  rw [if_neg (by omega), if_pos ⟨h1, h2⟩]
theorem fit_later (b r n : Int) {T : T192} (h : leadOf b = (T, true)) (c : Int) (hn : 1 ≤ n) (hn2 : n < T.need) (h1 : 128 ≤ c) (h2 : c ≤ 191) :
    nextF ⟨b, r, n⟩ c = if n = 1 then (Z, [r * 64 + c % 64]) else (⟨b, r * 64 + c % 64, n - 1⟩, []) := by
  unfold nextF loOf hiOf
  simp only [h]
  rw [if_neg (by omega), if_pos hn2, if_pos hn2, if_pos ⟨h1, h2⟩]
theorem dec2 {b c1 : Int} {T : T192} (h : leadOf b = (T, true)) (hb : 128 ≤ b) (hn : T.need = 1) (h1 : T.low ≤ c1) (h2 : c1 ≤ T.high) : dec Z [b, c1] = (Z, [b % 32 * 64 + c1 % 64]) := by
  have := fit_first b (b % msk T.need) h c1 (by omega) h1 h2
  rw [if_pos hn, hn, show msk 1 = 32 from rfl] at this
  simp only [dec, next_Z, begin_lead b h hb, hn, show msk 1 = 32 from rfl, this, List.nil_append, List.append_nil]
theorem dec3 {b c1 c2 : Int} {T : T192} (h : leadOf b = (T, true)) (hb : 128 ≤ b) (hn : T.need = 2) (h1 : T.low ≤ c1) (h2 : c1 ≤ T.high) (h3 : 128 ≤ c2) (h4 : c2 ≤ 191) :
    dec Z [b, c1, c2] = (Z, [(b % 16 * 64 + c1 % 64) * 64 + c2 % 64]) := by
  have e1 := fit_first b (b % msk T.need) h c1 (by omega) h1 h2
  rw [if_neg (by omega), hn, show msk 2 = 16 from rfl, show (2 : Int) - 1 = 1 from rfl] at e1
  have e2 := fit_later b (b % 16 * 64 + c1 % 64) 1 h c2 (by omega) (by omega) h3 h4
  rw [if_pos rfl] at e2
  simp only [dec, next_Z, begin_lead b h hb, hn, show msk 2 = 16 from rfl, e1, e2, List.nil_append, List.append_nil]
theorem dec4 {b c1 c2 c3 : Int} {T : T192} (h : leadOf b = (T, true)) (hb : 128 ≤ b) (hn : T.need = 3) (h1 : T.low ≤ c1) (h2 : c1 ≤ T.high) (h3 : 128 ≤ c2) (h4 : c2 ≤ 191) (h5 : 128 ≤ c3) (h6 : c3 ≤ 191) :
    dec Z [b, c1, c2, c3] = (Z, [((b % 8 * 64 + c1 % 64) * 64 + c2 % 64) * 64 + c3 % 64]) := by
  have e1 := fit_first b (b % msk T.need) h c1 (by omega) h1 h2
  rw [if_neg (by omega), hn, show msk 3 = 8 from rfl, show (3 : Int) - 1 = 2 from rfl] at e1
  have e2 := fit_later b (b % 8 * 64 + c1 % 64) 2 h c2 (by omega) (by omega) h3 h4
  rw [if_neg (by omega), show (2 : Int) - 1 = 1 from rfl] at e2
  have e3 := fit_later b ((b % 8 * 64 + c1 % 64) * 64 + c2 % 64) 1 h c3 (by omega) (by omega) h5 h6
  rw [if_pos rfl] at e3
  simp only [dec, next_Z, begin_lead b h hb, hn, show msk 3 = 8 from rfl, e1, e2, e3, List.nil_append, List.append_nil]
theorem lead_of1 {b : Int} (h1 : 194 ≤ b) (h2 : b ≤ 223) : leadOf b = (⟨194, 223, 1, 128, 191⟩, true) := by unfold leadOf; rw [if_pos ⟨h1, h2⟩]
theorem dec_enc (x : Int) (hx : valid x) : dec Z (encB x) = (Z, [x]) := by
  unfold valid at hx
  unfold encB
  by_cases c1 : x < 128
  · rw [if_pos c1]
    simp only [dec, next_Z, beginF, if_pos c1, List.append_nil]
  · rw [if_neg c1]
    by_cases c2 : x < 2048
    · rw [if_pos c2, dec2 (lead_of1 (by omega) (by omega)) (by omega) rfl (by show (128 : Int) ≤ _; omega) (by show _ ≤ (191 : Int); omega)]
      congr 2; omega
    · rw [if_neg c2]
      by_cases c3 : x < 65536
      · rw [if_pos c3]
        have fin : ∀ T : T192, leadOf (224 + x / 4096) = (T, true) → T.need = 2 → T.low ≤ 128 + x / 64 % 64 → 128 + x / 64 % 64 ≤ T.high → dec Z [224 + x / 4096, 128 + x / 64 % 64, 128 + x % 64] = (Z, [x]) := by
          intro T h hn h1 h2
          rw [dec3 h (by omega) hn h1 h2 (by omega) (by omega)]
          congr 2; omega
        by_cases a1 : x < 4096
        · exact fin ⟨224, 224, 2, 160, 191⟩ (by unfold leadOf; rw [if_neg (by omega), if_pos (by omega)]) rfl (by show (160 : Int) ≤ _; omega) (by show _ ≤ (191 : Int); omega)
        · by_cases a2 : x < 53248
          · exact fin ⟨225, 236, 2, 128, 191⟩ (by unfold leadOf; rw [if_neg (by omega), if_neg (by omega), if_pos (by omega)]) rfl (by show (128 : Int) ≤ _; omega) (by show _ ≤ (191 : Int); omega)
          · by_cases a3 : x < 57344
            · exact fin ⟨237, 237, 2, 128, 159⟩ (by unfold leadOf; rw [if_neg (by omega), if_neg (by omega), if_neg (by omega), if_pos (by omega)]) rfl (by show (128 : Int) ≤ _; omega) (by show _ ≤ (159 : Int); omega)
            · exact fin ⟨238, 239, 2, 128, 191⟩ (by unfold leadOf; rw [if_neg (by omega), if_neg (by omega), if_neg (by omega), if_neg (by omega), if_pos (by omega)]) rfl (by show (128 : Int) ≤ _; omega) (by show _ ≤ (191 : Int); omega)
      · rw [if_neg c3]
        have fin : ∀ T : T192, leadOf (240 + x / 262144) = (T, true) → T.need = 3 → T.low ≤ 128 + x / 4096 % 64 → 128 + x / 4096 % 64 ≤ T.high → dec Z [240 + x / 262144, 128 + x / 4096 % 64, 128 + x / 64 % 64, 128 + x % 64] = (Z, [x]) := by
          intro T h hn h1 h2
          rw [dec4 h (by omega) hn h1 h2 (by omega) (by omega) (by omega) (by omega)]
          congr 2; omega
        by_cases a1 : x < 262144
        · exact fin ⟨240, 240, 3, 144, 191⟩ (by unfold leadOf; rw [if_neg (by omega), if_neg (by omega), if_neg (by omega), if_neg (by omega), if_neg (by omega), if_pos (by omega)]) rfl (by show (144 : Int) ≤ _; omega) (by show _ ≤ (191 : Int); omega)
        · by_cases a2 : x < 1048576
          · exact fin ⟨241, 243, 3, 128, 191⟩ (by unfold leadOf; rw [if_neg (by omega), if_neg (by omega), if_neg (by omega), if_neg (by omega), if_neg (by omega), if_neg (by omega), if_pos (by omega)]) rfl (by show (128 : Int) ≤ _; omega) (by show _ ≤ (191 : Int); omega)
          · exact fin ⟨244, 244, 3, 128, 143⟩ (by unfold leadOf; rw [if_neg (by omega), if_neg (by omega), if_neg (by omega), if_neg (by omega), if_neg (by omega), if_neg (by omega), if_neg (by omega), if_pos (by omega)]) rfl (by show (128 : Int) ≤ _; omega) (by show _ ≤ (143 : Int); omega)
theorem fix_valid (r : Int) : valid (fixR r) := fix_range r
theorem dec_encF (r : Int) : dec Z (encF r) = (Z, [fixR r]) := dec_enc _ (fix_valid r)
theorem dec_encs : ∀ l : List Int, dec Z (l.flatMap encF) = (Z, l.map fixR)
  | [] => rfl
  | r :: l => by rw [List.flatMap_cons, dec_append, dec_encF, dec_encs l]; rfl
theorem encs_bytes (l : List Int) : Bytes (l.flatMap encF) := by
  intro c hc
  obtain ⟨r, _, h⟩ := List.mem_flatMap.1 hc
  exact (enc_bytes r).1 c h
theorem encs_len : ∀ l : List Int, (l.flatMap encF).length ≤ 4 * l.length
  | [] => by simp
  | r :: l => by
    have := encs_len l
    have := (enc_bytes r).2
    simp only [List.flatMap_cons, List.length_append, List.length_cons]; omega
theorem enc_head (x : Int) (hx : valid x) : ∃ b t, encB x = b :: t ∧ ¬(128 ≤ b ∧ b ≤ 191) := by
  unfold valid at hx
  unfold encB
  split
  · exact ⟨_, _, rfl, by omega⟩
  · split
    · exact ⟨_, _, rfl, by omega⟩
    · split
      · exact ⟨_, _, rfl, by omega⟩
      · exact ⟨_, _, rfl, by omega⟩
theorem fit_range {d : T44} (h : Inv d) (hd : ¬ d.Need ≤ 0) : 128 ≤ loOf d ∧ hiOf d ≤ 191 := by
  rcases h with rfl | ⟨hl, _⟩
  · exact absurd (by simp) hd
  · unfold loOf hiOf
    rcases lead_cases _ hl with ⟨a, b, e⟩ | ⟨a, e⟩ | ⟨a, b, e⟩ | ⟨a, e⟩ | ⟨a, b, e⟩ | ⟨a, e⟩ | ⟨a, b, e⟩ | ⟨a, e⟩ <;> rw [e] <;> simp only <;> split <;> omega
/-- Behind whatever came, a rune that is encoded is told. -/
theorem dec_heal (d : T44) (h : Inv d) (r : Int) : ∃ pre, dec d (encF r) = (Z, pre ++ [fixR r]) ∧ pre.length ≤ 1 := by
  have hz := dec_encF r
  obtain ⟨b, t, e, hb⟩ := enc_head _ (fix_valid r)
  unfold encF at hz ⊢
  rw [e] at hz ⊢
  by_cases hd : d.Need ≤ 0
  · exact ⟨[], by rw [h.zero hd, hz]; rfl, by simp⟩
  · have hf := fit_range h hd
    refine ⟨[65533], ?_, by simp⟩
    have : nextF d b = ((beginF b).1, 65533 :: (beginF b).2) := by unfold nextF; rw [if_neg hd, if_neg (by omega)]
    simp only [dec, next_Z, this] at hz ⊢
    simp only [Prod.mk.injEq] at hz
    rw [hz.1, List.cons_append, hz.2]; rfl
end Go.Proofs.YtpciioffkjpieaaDoor.Pure
