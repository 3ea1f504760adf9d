/- Plain laws: what the plain functions answer, with no program in sight. -/
import Derived.Test.YtpciioffkjpieaaDoorTPA
set_option linter.unusedVariables false
set_option linter.unusedSimpArgs false
namespace Go.Proofs.YtpciioffkjpieaaDoor.Pure
open Go Go.Proofs.XC Go.Proofs.YtpciioffkjpieaaDoor

/-! ### The program's functions are the machine's -/
theorem tell_eq (s : S) (o : List T50) (a : T50) (ho : o.length < 1000000000) : seq_Parser_tell (tT s o) a = some (tT s (o ++ [a])) := by
  unfold seq_Parser_tell; rw [if_pos (by show o.length + 1 ≤ _; omega)]; rfl
theorem tell_eq' (s : S) (o : List T50) (a : T50) (ho : o.length < 1000000000) : seq_Parser_tell_ofown (tT s o) a = some (tT s (o ++ [a])) := by
  unfold seq_Parser_tell_ofown; rw [if_pos (by show o.length + 1 ≤ _; omega)]; rfl
theorem print_loop (rs : List Int) (s : S) (hr : rs.length ≤ 1000) : ∀ (k i : Nat) (o : List T50), rs.length < k + i → i ≤ rs.length → o.length + rs.length < 1000000000 + i →
    seq_Parser_print_l1 rs k s.st s.pv s.wr s.an s.so s.n s.nums s.text s.d.Lead s.d.Rune s.d.Need o i = some (tT s (o ++ (rs.drop i).map prt))
  | 0, i, o, h1, h2, h3 => by omega
  | k + 1, i, o, h1, h2, h3 => by
    have ih := print_loop rs s hr k
    unfold seq_Parser_print_l1
    rw [cD]
    by_cases c : i < rs.length
    · have hw : IntKind.wrap .i64 ((i : Int) + 1) = ((i + 1 : Nat) : Int) := by rw [w64 (by omega) (by omega)]; omega
      rw [if_pos (by omega), if_pos (by omega), rdD_get _ _ c]
      have ht := tell_eq s o (prt rs[i]) (by omega)
      unfold tT prt at ht
      rw [ht, bS]
      dsimp only
      rw [hw]
      have := ih (i + 1) (o ++ [prt rs[i]]) (by omega) (by omega) (by simp; omega)
      rw [List.drop_eq_getElem_cons c, List.map_cons]
      rw [List.append_assoc] at this
      exact this
    · rw [if_neg (by omega), List.drop_eq_nil_of_le (by omega)]
      simp [tT]
theorem print_eq (K : Nat) (s : S) (o : List T50) (rs : List Int) (hK : 1000 < K) (hr : rs.length ≤ 1000) (ho : o.length ≤ 100000000) : seq_Parser_print K (tT s o) rs = some (tT s (o ++ rs.map prt)) := by
  unfold seq_Parser_print
  have := print_loop rs s hr K 0 o (by omega) (by omega) (by omega)
  rw [List.drop_zero] at this
  exact this
theorem com_home (s : S) {b : Int} (h : b = 24 ∨ b = 26) : comF s b = (true, {s with st := 0}, []) := by unfold comF; rw [if_pos h]
theorem com_esc (s : S) {b : Int} (h : b = 27) : comF s b = (true, {s with st := 1}, []) := by unfold comF; rw [if_neg (show ¬(b = 24 ∨ b = 26) by omega), if_pos h]
theorem com_ctl (s : S) {b : Int} (h : b < 32) (h1 : ¬(b = 24 ∨ b = 26)) (h2 : ¬ b = 27) : comF s b = (true, s, [ctl b]) := by unfold comF; rw [if_neg h1, if_neg h2, if_pos h]
theorem com_no (s : S) {b : Int} (h : ¬ b < 32) : comF s b = (decide (b = 127), s, []) := by unfold comF; rw [if_neg (show ¬(b = 24 ∨ b = 26) by omega), if_neg (show ¬(b = 27) by omega), if_neg h]
theorem common_eq (s : S) (o : List T50) (b : Int) (ho : o.length ≤ 100000000) : seq_Parser_common (tT s o) b = some ((comF s b).1, tT (comF s b).2.1 (o ++ (comF s b).2.2)) := by
  have ht := tell_eq s o (ctl b) (by omega)
  unfold ctl at ht
  unfold seq_Parser_common
  rw [cE]
  by_cases h1 : b = 24
  · rw [if_pos h1, com_home s (.inl h1), List.append_nil]; rfl
  · rw [if_neg h1]
    unfold seq_Parser_common_j1
    rw [cE, cE, cD]
    by_cases h2 : b = 26
    · rw [if_pos h2, com_home s (.inr h2), List.append_nil]; rfl
    · rw [if_neg h2]
      by_cases h3 : b = 27
      · rw [if_pos h3, com_esc s h3, List.append_nil]; rfl
      · rw [if_neg h3]
        by_cases h4 : b < 32
        · rw [if_pos h4, ht, bS, com_ctl s h4 (by omega) h3]; rfl
        · rw [if_neg h4, com_no s h4, List.append_nil]
          by_cases h5 : b = 127
          · simp [h5]
          · simp [h5]
theorem common_eq' (s : S) (o : List T50) (b : Int) (ho : o.length ≤ 100000000) : seq_Parser_common_ofown (tT s o) b = some ((comF s b).1, tT (comF s b).2.1 (o ++ (comF s b).2.2)) := by
  have ht := tell_eq' s o (ctl b) (by omega)
  unfold ctl at ht
  unfold seq_Parser_common_ofown
  rw [cE]
  by_cases h1 : b = 24
  · rw [if_pos h1, com_home s (.inl h1), List.append_nil]; rfl
  · rw [if_neg h1]
    unfold seq_Parser_common_ofown_j1
    rw [cE, cE, cD]
    by_cases h2 : b = 26
    · rw [if_pos h2, com_home s (.inr h2), List.append_nil]; rfl
    · rw [if_neg h2]
      by_cases h3 : b = 27
      · rw [if_pos h3, com_esc s h3, List.append_nil]; rfl
      · rw [if_neg h3]
        by_cases h4 : b < 32
        · rw [if_pos h4, ht, bS, com_ctl s h4 (by omega) h3]; rfl
        · rw [if_neg h4, com_no s h4, List.append_nil]
          by_cases h5 : b = 127
          · simp [h5]
          · simp [h5]
theorem com_false {s : S} {b : Int} (h : (comF s b).1 = false) : (comF s b).2 = (s, []) ∧ 32 ≤ b ∧ b ≠ 127 := by
  revert h; unfold comF
  split
  · intro h; cases h
  · split
    · intro h; cases h
    · split
      · intro h; cases h
      · intro h; exact ⟨rfl, by omega, by simpa using h⟩
theorem ground_eq (K : Nat) (hK : 1000 < K) (s : S) (hs : Inv s.d) (o : List T50) (b : Int) (h0 : 0 ≤ b) (h1 : b < 256) (ho : o.length ≤ 10000000) : seq_Parser_onGround K (tT s o) b = some (tT (gndF s b).1 (o ++ (gndF s b).2)) := by
  have hsm := hs.small
  have hA : ∀ x : Bool, x = decide (b < 32 ∨ b = 127) → seq_Parser_onGround_j2 K (tT s o) b x = some (tT (gndF s b).1 (o ++ (gndF s b).2)) := by
    intro x hx
    unfold seq_Parser_onGround_j2
    rw [hx, cD]
    unfold gndF
    by_cases h : b < 32 ∨ b = 127
    · rw [if_pos h, if_pos h, end_eq, bS]
      have he : (endF s.d).length ≤ 1 := by unfold endF; split <;> simp
      have hp := print_eq K s o (endF s.d) hK (by omega) (by omega)
      have hc := common_eq {s with d := Z} (o ++ (endF s.d).map prt) b (by simp; omega)
      show Option.bind (seq_Parser_print K (tT s o) (endF s.d)) _ = _
      rw [hp, bS]
      show Option.bind (seq_Parser_common (tT {s with d := Z} (o ++ (endF s.d).map prt)) b) _ = _
      rw [hc, bS, List.append_assoc]
    · rw [if_neg h, if_neg h]
      unfold seq_Parser_onGround_j1
      have hn := next_eq K (by omega) s.d b h0 h1 hsm.1 hsm.2.1 hsm.2.2.2
      show Option.bind (glyph_Decoder_Next K s.d b) _ = _
      rw [hn, bS]
      have hl := next_len s.d b
      have hp := print_eq K {s with d := (nextF s.d b).1} o (nextF s.d b).2 hK (by omega) (by omega)
      show Option.bind (seq_Parser_print K (tT {s with d := (nextF s.d b).1} o) (nextF s.d b).2) _ = _
      rw [hp, bS]
  unfold seq_Parser_onGround
  rw [cD]
  by_cases h : b < 32
  · rw [if_pos h]; exact hA _ (by simp [h])
  · rw [if_neg h]; exact hA _ (by by_cases h5 : b = 127 <;> simp [h, h5])
theorem escape_eq (s : S) (o : List T50) (b : Int) (ho : o.length ≤ 10000000) : seq_Parser_onEscape (tT s o) b = some (tT (escF s b).1 (o ++ (escF s b).2)) := by
  unfold seq_Parser_onEscape escF
  rw [common_eq s o b (by omega), bS, cB]
  by_cases h : (comF s b).1 = true
  · rw [if_pos h, if_pos h]
  · have hf := com_false (by simpa using h)
    rw [if_neg h, if_neg h, hf.1, List.append_nil, cE, cE, cD, cD]
    by_cases h1 : b = 91
    · rw [if_pos h1, if_pos h1, List.append_nil]; rfl
    · rw [if_neg h1, if_neg h1]
      by_cases h2 : b = 93
      · rw [if_pos h2, if_pos h2, List.append_nil]; rfl
      · rw [if_neg h2, if_neg h2]
        by_cases h3 : b < 48
        · rw [if_pos h3, if_pos h3, List.append_nil]; rfl
        · rw [if_neg h3, if_neg h3]
          by_cases h4 : b < 127
          · rw [if_pos h4, if_pos h4]
            show Option.bind (seq_Parser_tell (tT s o) (esc b)) _ = _
            rw [tell_eq s o _ (by omega), bS]; rfl
          · rw [if_neg h4, if_neg h4, List.append_nil]; rfl
theorem skip_eq (s : S) (o : List T50) (b : Int) (ho : o.length ≤ 10000000) : seq_Parser_onSkip (tT s o) b = some (tT (skpF s b).1 (o ++ (skpF s b).2)) := by
  unfold seq_Parser_onSkip skpF
  rw [common_eq s o b (by omega), bS, cNB]
  by_cases h : (comF s b).1 = true
  · rw [if_pos h, if_pos h]; rfl
  · have hf := com_false (by simpa using h)
    rw [if_neg h, if_neg h, hf.1, List.append_nil]
    unfold seq_Parser_onSkip_j1
    rw [cD]
    by_cases h1 : b ≥ 48
    · rw [if_pos h1, if_pos h1, List.append_nil]; rfl
    · rw [if_neg h1, if_neg h1, List.append_nil]
theorem push_eq (s : S) (o : List T50) (hs : s.nums.length ≤ 16) : seq_order_push_of48_1 (tT s o) = some ⟨(pshF s).pv, (pshF s).wr, (pshF s).an, (pshF s).so, (pshF s).n, (pshF s).nums⟩ := by
  unfold seq_order_push_of48_1 pshF
  rw [cD]
  by_cases h : s.nums.length < 16
  · rw [if_pos (by show (s.nums.length : Int) < 16; omega), if_pos (by show s.nums.length + 1 ≤ _; omega), if_pos h]; rfl
  · rw [if_neg (by show ¬ (s.nums.length : Int) < 16; omega), if_neg h]; rfl
theorem psh_all (s : S) : (pshF s).pv = s.pv ∧ (pshF s).wr = s.wr ∧ (pshF s).an = s.an ∧ (pshF s).so = s.so := by unfold pshF; split <;> exact ⟨rfl, rfl, rfl, rfl⟩
theorem finish_eq (s : S) (hs : s.nums.length ≤ 16) (o : List T50) (b : Int) (ho : o.length ≤ 10000000) : seq_Parser_finish (tT s o) b = some (tT (finF s b).1 (o ++ (finF s b).2)) := by
  obtain ⟨st, pv, wr, an, so, n, nums, text, d⟩ := s
  unfold seq_Parser_finish finF
  cases wr with
  | true => simp only [tT, cond_true, if_true, List.append_nil]
  | false =>
    cases so with
    | true =>
      have hp := push_eq ⟨0, pv, false, an, true, n, nums, text, d⟩ o hs
      have hq := psh_all ⟨0, pv, false, an, true, n, nums, text, d⟩
      have hd := psh_d ⟨0, pv, false, an, true, n, nums, text, d⟩
      have ht := tell_eq (pshF ⟨0, pv, false, an, true, n, nums, text, d⟩) o (ord b pv (pshF ⟨0, pv, false, an, true, n, nums, text, d⟩).nums) (by omega)
      simp only [tT, cond_true, cond_false, if_true, Bool.false_eq_true, if_false] at hp ⊢
      rw [hp, bS]
      unfold seq_Parser_finish_j1
      have e : (pshF ⟨st, pv, false, an, true, n, nums, text, d⟩).nums = (pshF ⟨0, pv, false, an, true, n, nums, text, d⟩).nums := by unfold pshF; split <;> rfl
      unfold tT ord at ht
      dsimp only at ht ⊢
      rw [hq.1, hq.2.1, hq.2.2.1, hq.2.2.2, hd.1, hd.2.1, hd.2.2] at ht
      dsimp only at ht
      rw [hq.1, hq.2.1, hq.2.2.1, hq.2.2.2, hd.1, hd.2.1, hd.2.2, ht, bS, e]
      rfl
    | false =>
      simp only [tT, cond_true, cond_false, if_true, Bool.false_eq_true, if_false]
      unfold seq_Parser_finish_j1
      have ht := tell_eq ⟨0, pv, false, an, false, n, nums, text, d⟩ o (ord b pv nums) (by omega)
      unfold tT ord at ht
      dsimp only at ht ⊢
      rw [ht, bS]
      rfl
end Go.Proofs.YtpciioffkjpieaaDoor.Pure
