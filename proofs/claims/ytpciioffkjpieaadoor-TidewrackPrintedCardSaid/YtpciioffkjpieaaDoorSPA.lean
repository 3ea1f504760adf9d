/- Plain laws: what the plain functions answer, with no program in sight. -/
import Derived.Test.YtpciioffkjpieaaDoorD
import Derived.Laws.BitsLemmas
set_option linter.unusedVariables false
set_option linter.unusedSimpArgs false
namespace Go.Proofs.YtpciioffkjpieaaDoor.Pure
open Go Go.Proofs.XC Go.Proofs.YtpciioffkjpieaaDoor

/-! ### The kinds of first bytes -/
def leadOf (b : Int) : T192 × Bool :=
  if 194 ≤ b ∧ b ≤ 223 then (⟨194, 223, 1, 128, 191⟩, true)
  else if b = 224 then (⟨224, 224, 2, 160, 191⟩, true)
  else if 225 ≤ b ∧ b ≤ 236 then (⟨225, 236, 2, 128, 191⟩, true)
  else if b = 237 then (⟨237, 237, 2, 128, 159⟩, true)
  else if 238 ≤ b ∧ b ≤ 239 then (⟨238, 239, 2, 128, 191⟩, true)
  else if b = 240 then (⟨240, 240, 3, 144, 191⟩, true)
  else if 241 ≤ b ∧ b ≤ 243 then (⟨241, 243, 3, 128, 191⟩, true)
  else if b = 244 then (⟨244, 244, 3, 128, 143⟩, true)
  else (⟨0, 0, 0, 0, 0⟩, false)
theorem find_step (b : Int) (k i : Nat) (hi : i < 8) : glyph_find_l2 b (k + 1) i = if (rdD zT192 glob3 i).first ≤ b ∧ b ≤ (rdD zT192 glob3 i).last then some (rdD zT192 glob3 i, true) else glyph_find_l2 b k ((i + 1 : Nat) : Int) := by
  have hw : IntKind.wrap .i64 ((i : Int) + 1) = ((i + 1 : Nat) : Int) := by rw [w64 (by omega) (by omega)]; omega
  have hl : (glob3.length : Int) = 8 := rfl
  rw [glyph_find_l2]
  simp only [glyph_find_j3, cD, hw, hl]
  rw [if_pos (by omega), if_pos (by omega)]
  grind (splits := 40)
theorem find_eq (K : Nat) (hK : 9 ≤ K) (b : Int) : glyph_find K b = some (leadOf b) := by
  obtain ⟨k, rfl⟩ : ∃ k, K = k + 9 := ⟨K - 9, by omega⟩
  unfold glyph_find
  rw [show (0 : Int) = ((0 : Nat) : Int) from rfl, find_step b _ 0 (by omega), find_step b _ 1 (by omega), find_step b _ 2 (by omega), find_step b _ 3 (by omega), find_step b _ 4 (by omega), find_step b _ 5 (by omega), find_step b _ 6 (by omega), find_step b _ 7 (by omega)]
  have h8 : glyph_find_l2 b (k + 1) ((7 + 1 : Nat) : Int) = some (⟨0, 0, 0, 0, 0⟩, false) := by
    rw [glyph_find_l2]
    simp only [cD, glyph_find_j1]
    rw [if_neg (by omega)]
  rw [h8]
  simp only [rdD, glob3, Int.toNat_natCast, List.getD_cons_zero, List.getD_cons_succ, Int.toNat_zero]
  unfold leadOf
  grind (splits := 40)
def beginF (b : Int) : T44 × List Int :=
  if b < 128 then (⟨0, 0, 0⟩, [b])
  else if (leadOf b).2 = false then (⟨0, 0, 0⟩, [65533])
  else (⟨b, b % (if (leadOf b).1.need = 1 then 32 else if (leadOf b).1.need = 2 then 16 else 8), (leadOf b).1.need⟩, [])
theorem lead_need (b : Int) (h : (leadOf b).2 = true) : (leadOf b).1.need = 1 ∨ (leadOf b).1.need = 2 ∨ (leadOf b).1.need = 3 := by
  revert h; unfold leadOf; grind (splits := 40)
theorem begin_eq (K : Nat) (hK : 9 ≤ K) (b : Int) (h0 : 0 ≤ b) (h1 : b < 256) : glyph_begin K b = some (beginF b) := by
  simp only [glyph_begin, cD, find_eq K hK, bS, beginF, w32 (x := b) (by omega) (by omega)]
  by_cases h : b < 128
  · simp [h]
  · simp only [h, if_false]
    cases hl : (leadOf b).2 with
    | false => rfl
    | true =>
      simp only [Bool.not_true, cond_false, Bool.true_eq_false, if_false]
      have m5 : bits .and .i32 b 31 = b % 32 := bits_mask .i32 31 (by decide) wraps_i32 5 (by decide) b h0 (by omega)
      have m4 : bits .and .i32 b 15 = b % 16 := bits_mask .i32 31 (by decide) wraps_i32 4 (by decide) b h0 (by omega)
      have m3 : bits .and .i32 b 7 = b % 8 := bits_mask .i32 31 (by decide) wraps_i32 3 (by decide) b h0 (by omega)
      rcases lead_need b hl with hn | hn | hn <;> rw [hn] <;> simp only [if_pos (show (0 : Int) ≤ 1 by decide), if_pos (show (0 : Int) ≤ 2 by decide), if_pos (show (0 : Int) ≤ 3 by decide)]
      · rw [show Int.fdiv 63 (2 ^ min (Int.toNat 1) 32) = 31 from rfl, m5]; rfl
      · rw [show Int.fdiv 63 (2 ^ min (Int.toNat 2) 32) = 15 from rfl, m4]; rfl
      · rw [show Int.fdiv 63 (2 ^ min (Int.toNat 3) 32) = 7 from rfl, m3]; rfl
/-- What the next byte may be. -/
def loOf (d : T44) : Int := if d.Need < (leadOf d.Lead).1.need then 128 else (leadOf d.Lead).1.low
def hiOf (d : T44) : Int := if d.Need < (leadOf d.Lead).1.need then 191 else (leadOf d.Lead).1.high
theorem fits_eq (K : Nat) (hK : 9 ≤ K) (d : T44) (c : Int) : glyph_Decoder_fits K d c = some (decide (loOf d ≤ c ∧ c ≤ hiOf d)) := by
  simp only [glyph_Decoder_fits, find_eq K hK, bS, cD, loOf, hiOf]
  by_cases h : d.Need < (leadOf d.Lead).1.need
  · simp only [h, if_true]; grind
  · simp only [h, if_false]; grind
def nextF (d : T44) (c : Int) : T44 × List Int :=
  if d.Need ≤ 0 then beginF c
  else if loOf d ≤ c ∧ c ≤ hiOf d then (if d.Need = 1 then (⟨0, 0, 0⟩, [d.Rune * 64 + c % 64]) else (⟨d.Lead, d.Rune * 64 + c % 64, d.Need - 1⟩, []))
  else ((beginF c).1, 65533 :: (beginF c).2)
theorem begin_len (c : Int) : (beginF c).2.length ≤ 1 := by unfold beginF; split <;> (try split) <;> simp
theorem next_len (d : T44) (c : Int) : (nextF d c).2.length ≤ 2 := by
  have := begin_len c
  unfold nextF; split <;> (try split) <;> (try split) <;> simp <;> omega
theorem next_eq (K : Nat) (hK : 9 ≤ K) (d : T44) (c : Int) (h0 : 0 ≤ c) (h1 : c < 256) (hr0 : 0 ≤ d.Rune) (hr1 : d.Rune < 33554432) (hn : d.Need ≤ 3) : glyph_Decoder_Next K d c = some (nextF d c) := by
  simp only [glyph_Decoder_Next, begin_eq K hK c h0 h1, fits_eq K hK, bS, cD, cE, nextF]
  by_cases hd : d.Need ≤ 0
  · simp [hd]
  · simp only [hd, if_false]
    have e1 : IntKind.wrap .i64 (d.Need - 1) = d.Need - 1 := w64 (by omega) (by omega)
    have m6 : bits .and .i32 c 63 = c % 64 := bits_mask .i32 31 (by decide) wraps_i32 6 (by decide) c h0 (by omega)
    have e2 : d.Rune * 2 ^ min (Int.toNat 6) 32 = d.Rune * 64 := rfl
    have j6 : bits .or .i32 (d.Rune * 64) (c % 64) = d.Rune * 64 + c % 64 := i32_or6 _ _ (by omega) (by omega) (by omega) (by omega) (by omega)
    by_cases hf : loOf d ≤ c ∧ c ≤ hiOf d
    · simp only [hf, and_self, decide_true, Bool.not_true, cond_false, if_true]
      simp only [glyph_Decoder_Next_j1]
      rw [e1, e2, w32 (x := d.Rune * 64) (by omega) (by omega), w32 (x := c) (by omega) (by omega), m6, j6]
      by_cases h2 : d.Need = 1
      · rw [if_pos (by omega), if_pos h2]
      · rw [if_neg (by omega), if_neg h2]
    · have := begin_len c
      simp only [hf, decide_false, Bool.not_false, cond_true, if_false]
      rw [if_pos (by simp; omega)]
      rfl
/-! ### The states that come up -/
theorem lead_cases (b : Int) (h : (leadOf b).2 = true) :
    (194 ≤ b ∧ b ≤ 223 ∧ leadOf b = (⟨194, 223, 1, 128, 191⟩, true)) ∨ (b = 224 ∧ leadOf b = (⟨224, 224, 2, 160, 191⟩, true)) ∨ (225 ≤ b ∧ b ≤ 236 ∧ leadOf b = (⟨225, 236, 2, 128, 191⟩, true)) ∨
    (b = 237 ∧ leadOf b = (⟨237, 237, 2, 128, 159⟩, true)) ∨ (238 ≤ b ∧ b ≤ 239 ∧ leadOf b = (⟨238, 239, 2, 128, 191⟩, true)) ∨ (b = 240 ∧ leadOf b = (⟨240, 240, 3, 144, 191⟩, true)) ∨
    (241 ≤ b ∧ b ≤ 243 ∧ leadOf b = (⟨241, 243, 3, 128, 191⟩, true)) ∨ (b = 244 ∧ leadOf b = (⟨244, 244, 3, 128, 143⟩, true)) := by
  revert h; unfold leadOf; grind (splits := 40)
def V1 (r : Int) : Prop := 0 ≤ r ∧ r ≤ 17407 ∧ ¬(864 ≤ r ∧ r ≤ 895)
def V2 (r : Int) : Prop := 16 ≤ r ∧ r ≤ 271
def msk (n : Int) : Int := if n = 1 then 32 else if n = 2 then 16 else 8
def valid (x : Int) : Prop := 0 ≤ x ∧ x ≤ 1114111 ∧ ¬(55296 ≤ x ∧ x ≤ 57343)
def Inv (d : T44) : Prop := d = ⟨0, 0, 0⟩ ∨ ((leadOf d.Lead).2 = true ∧ ((d.Need = (leadOf d.Lead).1.need ∧ d.Rune = d.Lead % msk d.Need) ∨ (d.Need = 1 ∧ 1 < (leadOf d.Lead).1.need ∧ V1 d.Rune) ∨ (d.Need = 2 ∧ 2 < (leadOf d.Lead).1.need ∧ V2 d.Rune)))
theorem Inv.small {d : T44} (h : Inv d) : 0 ≤ d.Rune ∧ d.Rune < 33554432 ∧ 0 ≤ d.Need ∧ d.Need ≤ 3 := by
  rcases h with rfl | ⟨hl, h⟩
  · simp
  · have hn := lead_need _ hl
    rcases h with ⟨h1, h2⟩ | ⟨h1, h2, h3⟩ | ⟨h1, h2, h3⟩
    · unfold msk at h2; rw [h1] at h2 ⊢
      rcases hn with hn | hn | hn <;> rw [hn] at h2 ⊢ <;> simp at h2 <;> omega
    · unfold V1 at h3; omega
    · unfold V2 at h3; omega
theorem begin_inv (c : Int) (h0 : 0 ≤ c) (h1 : c < 256) : Inv (beginF c).1 ∧ (∀ x ∈ (beginF c).2, valid x) ∧ ((beginF c).1.Need > 0 → (beginF c).2 = []) ∧ ((beginF c).1.Need > 0 ∨ (beginF c).2.length = 1) := by
  unfold beginF
  split
  · exact ⟨.inl rfl, by simp [valid]; omega, by simp, .inr rfl⟩
  · split
    · exact ⟨.inl rfl, by simp [valid], by simp, .inr rfl⟩
    · rename_i h
      have hl : (leadOf c).2 = true := by simpa using h
      have hn := lead_need c hl
      refine ⟨.inr ⟨hl, .inl ⟨rfl, ?_⟩⟩, by simp, by simp, .inl ?_⟩
      · simp only [msk]
      · show (leadOf c).1.need > 0
        omega
theorem next_inv (d : T44) (c : Int) (h : Inv d) (h0 : 0 ≤ c) (h1 : c < 256) : Inv (nextF d c).1 ∧ ∀ x ∈ (nextF d c).2, valid x := by
  have hb := begin_inv c h0 h1
  unfold nextF
  split
  · exact ⟨hb.1, hb.2.1⟩
  · split
    · rename_i hd hf
      rcases h with rfl | ⟨hl, h⟩
      · exact absurd (by simp) hd
      · unfold loOf hiOf at hf
        rcases h with ⟨e1, e2⟩ | ⟨e1, e2, e3⟩ | ⟨e1, e2, e3⟩
        · rw [if_neg (by omega), if_neg (by omega)] at hf
          rcases lead_cases _ hl with ⟨a, b, e⟩ | ⟨a, e⟩ | ⟨a, b, e⟩ | ⟨a, e⟩ | ⟨a, b, e⟩ | ⟨a, e⟩ | ⟨a, b, e⟩ | ⟨a, e⟩ <;> rw [e] at e1 hf <;> simp only at e1 hf <;> rw [e1] at e2 ⊢ <;> simp only [msk] at e2 <;> simp at e2 ⊢
          · exact ⟨.inl rfl, by unfold valid; omega⟩
          all_goals refine .inr ⟨hl, ?_⟩
          all_goals rw [e]
          all_goals simp [V1, V2]
          all_goals omega
        · unfold V1 at e3
          rw [if_pos (by omega), if_pos (by omega)] at hf
          rw [if_pos e1]
          exact ⟨.inl rfl, by simp [valid]; omega⟩
        · unfold V2 at e3
          rw [if_pos (by omega), if_pos (by omega)] at hf
          rw [if_neg (by omega)]
          refine ⟨.inr ⟨hl, .inr (.inl ⟨by simp; omega, by simp; omega, ?_⟩)⟩, by simp⟩
          unfold V1; simp only; omega
    · exact ⟨hb.1, fun x hx => by
        rcases List.mem_cons.1 hx with rfl | hx
        · simp [valid]
        · exact hb.2.1 x hx⟩
/-! ### Many bytes -/
def dec : T44 → List Int → T44 × List Int
  | d, [] => (d, [])
  | d, c :: r => ((dec (nextF d c).1 r).1, (nextF d c).2 ++ (dec (nextF d c).1 r).2)
theorem dec_append : ∀ (a : List Int) (d : T44) (b : List Int), dec d (a ++ b) = ((dec (dec d a).1 b).1, (dec d a).2 ++ (dec (dec d a).1 b).2)
  | [], d, b => by simp [dec]
  | c :: a, d, b => by simp [dec, dec_append a]
def Bytes (l : List Int) : Prop := ∀ c ∈ l, 0 ≤ c ∧ c < 256
theorem dec_inv : ∀ (l : List Int) (d : T44), Inv d → Bytes l → Inv (dec d l).1 ∧ ∀ x ∈ (dec d l).2, valid x
  | [], d, h, _ => ⟨h, by simp [dec]⟩
  | c :: l, d, h, hb => by
    have h1 := next_inv d c h (hb c (by simp)).1 (hb c (by simp)).2
    have h2 := dec_inv l _ h1.1 (fun x hx => hb x (by simp [hx]))
    refine ⟨h2.1, fun x hx => ?_⟩
    simp only [dec, List.mem_append] at hx
    rcases hx with hx | hx
    · exact h1.2 x hx
    · exact h2.2 x hx
theorem numsOf_get (s : ByteArray) (i : Nat) (h : i < s.size) : (numsOf s)[i]'(by rw [numsOf_len]; exact h) = bt s i := by
  simp only [numsOf, bt, List.getElem_map, Int.toNat_natCast, h, dif_pos]
  rfl
theorem numsOf_bytes (s : ByteArray) : Bytes (numsOf s) := by
  intro c hc
  simp only [numsOf, List.mem_map] at hc
  obtain ⟨b, _, rfl⟩ := hc
  have := b.toNat_lt
  omega
theorem run_loop (K : Nat) (hK : 9 ≤ K) (s : ByteArray) (hs : s.size ≤ 1000) : ∀ (k : Nat) (d : T44) (l : List Int) (i : Nat), s.size < k + i → i ≤ s.size → Inv d → l.length ≤ 2 * i + 2000 →
    glyph_Decoder_Run_l2 K s k d l i = some ((dec d ((numsOf s).drop i)).1, l ++ (dec d ((numsOf s).drop i)).2)
  | 0, d, l, i, h, h', hd, hl => by omega
  | k + 1, d, l, i, h, h', hd, hl => by
    have ih := run_loop K hK s hs k
    unfold glyph_Decoder_Run_l2
    have hN := numsOf_len s
    by_cases hi : i < s.size
    · have hw : IntKind.wrap .i64 ((i : Int) + 1) = ((i + 1 : Nat) : Int) := by rw [w64 (by omega) (by omega)]; omega
      have hsm := hd.small
      have hc := numsOf_bytes s (bt s i) (by rw [← numsOf_get s i hi]; exact List.getElem_mem _)
      rw [List.drop_eq_getElem_cons (by omega : i < (numsOf s).length), numsOf_get s i hi]
      simp only [cD, hw, next_eq K hK d _ hc.1 hc.2 hsm.1 hsm.2.1 hsm.2.2.2, bS]
      have hnl := next_len d (bt s i)
      rw [if_pos (by omega), if_pos (by omega), if_pos (by omega), ih _ _ (i + 1) (by omega) (by omega) (next_inv d _ hd hc.1 hc.2).1 (by simp; omega)]
      simp [dec]
    · simp only [cD]
      rw [if_neg (by omega), List.drop_eq_nil_of_le (by omega)]
      simp [glyph_Decoder_Run_j1, dec]
theorem run_eq (K : Nat) (s : ByteArray) (d : T44) (hs : s.size ≤ 1000) (hK : 9 ≤ K) (hK2 : s.size < K) (hd : Inv d) : glyph_Decoder_Run K d s = some (dec d (numsOf s)) := by
  unfold glyph_Decoder_Run
  have := run_loop K hK s hs K d [] 0 (by omega) (by omega) hd (by simp)
  simpa using this
def endF (d : T44) : List Int := if d.Need ≤ 0 then [] else [65533]
theorem end_eq (d : T44) : glyph_Decoder_End d = some (endF d) := by simp only [glyph_Decoder_End, cD, endF]; split <;> rfl
theorem dec_len : ∀ (l : List Int) (d : T44), (dec d l).2.length ≤ 2 * l.length
  | [], d => by simp [dec]
  | c :: l, d => by
    have := dec_len l (nextF d c).1
    have := next_len d c
    simp only [dec, List.length_append, List.length_cons]; omega
abbrev Z : T44 := ⟨0, 0, 0⟩
def decAll (l : List Int) : List Int := (dec Z l).2 ++ endF (dec Z l).1
theorem decode_eq (K : Nat) (s : ByteArray) (hs : s.size ≤ 1000) (hK : 9 ≤ K) (hK2 : s.size < K) : glyph_Decode K s = some (decAll (numsOf s)) := by
  have := dec_len (numsOf s) Z
  have he : (endF (dec Z (numsOf s)).1).length ≤ 1 := by unfold endF; split <;> simp
  rw [numsOf_len] at this
  unfold glyph_Decode
  rw [show (⟨0, 0, 0⟩ : T44) = Z from rfl, run_eq K s Z hs hK hK2 (.inl rfl), bS, end_eq, bS, if_pos (by omega)]
  rfl
end Go.Proofs.YtpciioffkjpieaaDoor.Pure
