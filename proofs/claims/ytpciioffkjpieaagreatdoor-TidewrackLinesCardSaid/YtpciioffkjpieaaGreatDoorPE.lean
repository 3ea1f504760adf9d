/- Plain laws: what the plain functions answer, with no program in sight. -/
import Derived.Test.YtpciioffkjpieaaGreatDoorPD
set_option linter.unusedVariables false
set_option linter.unusedSimpArgs false
namespace Go.Proofs.YtpciioffkjpieaaGreatDoor.Pure
open Go Go.Proofs.XC Go.Proofs.YtpciioffkjpieaaGreatDoor

/-! ### Bytes that are fed -/
def act (c : Int) : T37 := if c < 32 then ctl c else prt c
def P0 (out : List T37) : T33 := ⟨0, false, false, false, false, 0, [], (⟨#[]⟩ : ByteArray), 0, 0, 0, out⟩
def Tx (c : Int) : Prop := Ch c ∨ c = 13 ∨ c = 10
theorem tell_eq (out : List T37) (ho : out.length ≤ 100000) (a : T37) : seq_Parser_tell (P0 out) a = some (P0 (out ++ [a])) := by
  unfold seq_Parser_tell
  rw [if_pos (by show out.length + 1 ≤ _; omega)]
  rfl
theorem print0 (K : Nat) (hK : 10 ≤ K) (out : List T37) : seq_Parser_print K (P0 out) [] = some (P0 out) := by
  obtain ⟨k, rfl⟩ : ∃ k, K = k + 1 := ⟨K - 1, by omega⟩
  rfl
theorem print1 (K : Nat) (hK : 10 ≤ K) (out : List T37) (ho : out.length ≤ 100000) (r : Int) : seq_Parser_print K (P0 out) [r] = some (P0 (out ++ [prt r])) := by
  obtain ⟨k, rfl⟩ : ∃ k, K = k + 2 := ⟨K - 2, by omega⟩
  unfold seq_Parser_print
  show seq_Parser_print_l1 [r] (k + 2) 0 false false false false 0 [] (⟨#[]⟩ : ByteArray) 0 0 0 out 0 = _
  unfold seq_Parser_print_l1
  rw [cD, if_pos (by simp), if_pos (by simp)]
  show (seq_Parser_tell (P0 out) (prt r)).bind _ = _
  rw [tell_eq out ho, bS]
  rfl
theorem ground_eq (K : Nat) (hK : 10 ≤ K) (out : List T37) (ho : out.length ≤ 100000) (c : Int) (hc : Tx c) : seq_Parser_onGround K (P0 out) c = some (P0 (out ++ [act c])) := by
  unfold seq_Parser_onGround
  rw [cD]
  rcases hc with hc | hc
  · unfold Ch at hc
    rw [if_neg (by omega), beq_eq_false_iff_ne.2 (by omega : c ≠ 127)]
    unfold seq_Parser_onGround_j2
    rw [cond_false]
    unfold seq_Parser_onGround_j1
    have hn : glyph_Decoder_Next (⟨(P0 out).runes_Lead, (P0 out).runes_Rune, (P0 out).runes_Need⟩ : T30) c = some (⟨0, 0, 0⟩, [c]) := by
      unfold glyph_Decoder_Next
      show (bif decide ((0 : Int) ≤ 0) then _ else _) = _
      rw [show decide ((0 : Int) ≤ 0) = true from rfl, cond_true]
      unfold glyph_begin
      rw [cD, if_pos (by omega), bS, show IntKind.wrap .i32 c = c from by rw [IntKind.wrap_i32]; omega]
    rw [hn, bS]
    show (seq_Parser_print K (P0 out) [c]).bind _ = _
    rw [print1 K hK out ho, bS]
    unfold act
    rw [if_neg (by omega)]
  · have h32 : c < 32 := by omega
    rw [if_pos h32]
    unfold seq_Parser_onGround_j2
    rw [cond_true]
    show (glyph_Decoder_End ⟨0, 0, 0⟩).bind _ = _
    rw [show glyph_Decoder_End ⟨0, 0, 0⟩ = some [] from rfl, bS, print0 K hK, bS]
    show (seq_Parser_common (P0 out) c).bind _ = _
    unfold seq_Parser_common
    rw [beq_eq_false_iff_ne.2 (by omega : c ≠ 24), cond_false, beq_eq_false_iff_ne.2 (by omega : c ≠ 26)]
    unfold seq_Parser_common_j1
    rw [cond_false, beq_eq_false_iff_ne.2 (by omega : c ≠ 27), cond_false, cD, if_pos h32]
    show ((seq_Parser_tell (P0 out) (ctl c)).bind _).bind _ = _
    rw [tell_eq out ho, bS, bS]
    unfold act
    rw [if_pos h32]
theorem one_eq (K : Nat) (hK : 10 ≤ K) (out : List T37) (ho : out.length ≤ 100000) (c : Int) (hc : Tx c) : seq_Parser_one K (P0 out) c = some (P0 (out ++ [act c])) := by
  unfold seq_Parser_one
  show (bif ((0 : Int) == 0) then ((seq_Parser_onGround K (P0 out) c).bind fun t115 => (some t115)) else _) = _
  rw [show ((0 : Int) == 0) = true from rfl, cond_true, ground_eq K hK out ho c hc, bS]
theorem nums_len (s : ByteArray) : (numsOf s).length = s.size := numsOf_len s
theorem nums_get (s : ByteArray) (i : Nat) (h : i < s.size) : (numsOf s)[i]'(by rw [numsOf_len]; exact h) = bt s i := by
  simp only [numsOf, bt, List.getElem_map, Int.toNat_natCast, h, dif_pos]
  rfl
theorem nums_app (a b : ByteArray) : numsOf (a ++ b) = numsOf a ++ numsOf b := by
  simp only [numsOf, ByteArray.data_append, Array.toList_append, List.map_append]
theorem nums_one (c : Int) (h : 0 ≤ c ∧ c < 256) : numsOf (strOfNums [c]) = [c] := by
  simp only [numsOf, strOfNums, List.toList_toArray, List.map_map, List.map_cons, List.map_nil, Function.comp, UInt8.toNat_ofNat']
  congr 1
  omega
theorem nums_by (s : ByteArray) : ∀ c ∈ numsOf s, 0 ≤ c ∧ c < 256 := by
  intro c hc
  simp only [numsOf, List.mem_map] at hc
  obtain ⟨b, _, rfl⟩ := hc
  have := b.toNat_lt
  omega
theorem feed_loop (K : Nat) (hK : 10 ≤ K) (t : ByteArray) (ht : t.size ≤ 10000) (hx : ∀ c ∈ numsOf t, Tx c) : ∀ (k i : Nat) (out : List T37), t.size < k + i → i ≤ t.size → out.length ≤ i →
    seq_Parser_Feed_l2 K t k 0 false false false false 0 [] (⟨#[]⟩ : ByteArray) 0 0 0 out i = some (out ++ ((numsOf t).drop i).map act, P0 [])
  | 0, i, out, h1, h2, h3 => by omega
  | k + 1, i, out, h1, h2, h3 => by
    have ih := feed_loop K hK t ht hx k
    have hl := nums_len t
    unfold seq_Parser_Feed_l2
    rw [cD]
    by_cases hi : i < t.size
    · have hw : IntKind.wrap .i64 ((i : Int) + 1) = ((i + 1 : Nat) : Int) := by rw [w64 (by omega) (by omega)]; omega
      have hg := nums_get t i hi
      have hc : Tx (bt t i) := by rw [← hg]; exact hx _ (List.getElem_mem _)
      rw [if_pos (by omega), if_pos (by omega)]
      show (seq_Parser_one K (P0 out) (bt t i)).bind _ = _
      rw [one_eq K hK out (by omega) _ hc, bS, hw]
      show seq_Parser_Feed_l2 K t k 0 false false false false 0 [] (⟨#[]⟩ : ByteArray) 0 0 0 (out ++ [act (bt t i)]) ((i + 1 : Nat) : Int) = _
      rw [ih (i + 1) _ (by omega) (by omega) (by simp only [List.length_append, List.length_cons, List.length_nil]; omega), List.drop_eq_getElem_cons (by omega : i < (numsOf t).length), hg, List.map_cons, List.append_assoc]
      rfl
    · rw [if_neg (by omega), List.drop_eq_nil_of_le (by omega), List.map_nil, List.append_nil]
      rfl
theorem feed_eq (K : Nat) (hK : 20000 ≤ K) (t : ByteArray) (ht : t.size ≤ 10000) (hx : ∀ c ∈ numsOf t, Tx c) : seq_Parser_Feed K (P0 []) t = some ((numsOf t).map act, P0 []) := by
  have := feed_loop K (by omega) t ht hx K 0 [] (by omega) (by omega) (by simp)
  rw [List.drop_zero] at this
  exact this
/-! ### Texts that are printed -/
def ch1 (c : Int) : Int := IntKind.wrap .u8 (33 + (bits .and .u8 c 63))
theorem ch1_fin : ∀ c : Fin 256, 33 ≤ ch1 ((c.val : Nat) : Int) ∧ ch1 ((c.val : Nat) : Int) ≤ 96 := by decide +kernel
theorem ch1_ch (c : Int) (h : 0 ≤ c ∧ c < 256) : Ch (ch1 c) := by
  have := ch1_fin ⟨c.toNat, by omega⟩
  simp only at this
  rw [show ((c.toNat : Nat) : Int) = c by omega] at this
  exact this
def txL (x : ByteArray) : List Int := ((numsOf x).take 40).map ch1
theorem txL_ch (x : ByteArray) : ∀ r ∈ txL x, Ch r := fun r hr => by
  obtain ⟨c, hc, rfl⟩ := List.mem_map.1 hr
  exact ch1_ch c (nums_by x c (List.mem_of_mem_take hc))
theorem txL_len (x : ByteArray) : (txL x).length = min 40 x.size := by
  unfold txL
  rw [List.length_map, List.length_take, nums_len]
theorem ascii_of {s : ByteArray} {l : List Int} (h : numsOf s = l) (hl : ∀ r ∈ l, Ch r) : asciiB s = true := by
  unfold asciiB
  rw [List.all_eq_true]
  intro b hb
  have h1 : (b.toNat : Int) ∈ numsOf s := List.mem_map.2 ⟨b, hb, rfl⟩
  rw [h] at h1
  have := hl _ h1
  unfold Ch at this
  exact decide_eq_true (by omega)
end Go.Proofs.YtpciioffkjpieaaGreatDoor.Pure
