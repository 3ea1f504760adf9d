/- Plain laws: what the plain functions answer, with no program in sight. -/
import Derived.Test.YtpciioffkjpieaaDoorTPB
set_option linter.unusedVariables false
set_option linter.unusedSimpArgs false
namespace Go.Proofs.YtpciioffkjpieaaDoor.Pure
open Go Go.Proofs.XC Go.Proofs.YtpciioffkjpieaaDoor

theorem w8d (b : Int) (h0 : 48 ≤ b) (h1 : b ≤ 57) : IntKind.wrap .u8 (b - 48) = b - 48 := by
  simp only [IntKind.wrap, IntKind.bits, IntKind.signed]
  simp
  omega
theorem cmd_j1 (s : S) (hs : Ok s) (o : List T50) (b : Int) (h0 : 0 ≤ b) (h1 : b < 256) (hb : b ≠ 127) (ho : o.length ≤ 10000000) (c : Bool) (x : Bool) (hx : x = decide (48 ≤ b ∧ b ≤ 57)) :
    seq_Parser_onCommand_j1 b (c, tT s o) x = some (tT (if 64 ≤ b ∧ b < 127 then finF {s with an := true} b else (ordS s b, [])).1 (o ++ (if 64 ≤ b ∧ b < 127 then finF {s with an := true} b else (ordS s b, [])).2)) := by
  have n0 := hs.n0
  have n1 := hs.n1
  unfold seq_Parser_onCommand_j1
  rw [hx, cD]
  by_cases a1 : 48 ≤ b ∧ b ≤ 57
  · rw [if_pos a1, if_neg (show ¬(64 ≤ b ∧ b < 127) by omega), List.append_nil]
    unfold ordS
    rw [if_pos a1, w8d b a1.1 a1.2]
    dsimp only [tT]
    rw [w64 (x := 10 * s.n) (by omega) (by omega), w64 (x := b - 48) (by omega) (by omega), w64 (by omega) (by omega)]
  · rw [if_neg a1, cE]
    have hsep : ∀ y : Bool, y = decide (b = 59 ∨ b = 58) → seq_Parser_onCommand_j2 b (c, tT s o) y = some (tT (if 64 ≤ b ∧ b < 127 then finF {s with an := true} b else (ordS s b, [])).1 (o ++ (if 64 ≤ b ∧ b < 127 then finF {s with an := true} b else (ordS s b, [])).2)) := by
      intro y hy
      unfold seq_Parser_onCommand_j2
      rw [hy, cD]
      by_cases a2 : b = 59 ∨ b = 58
      · rw [if_pos a2, if_neg (show ¬(64 ≤ b ∧ b < 127) by omega), List.append_nil]
        have hp := push_eq {s with an := true} o hs.nums
        show Option.bind (seq_order_push_of48_1 (tT {s with an := true} o)) _ = _
        rw [hp, bS]
        unfold ordS
        rw [if_neg a1, if_pos a2]
        have e1 := psh_all {s with an := true}
        have e2 := psh_d s
        have e3 := psh_all s
        have e4 : (pshF {s with an := true}).n = (pshF s).n ∧ (pshF {s with an := true}).nums = (pshF s).nums := by unfold pshF; split <;> exact ⟨rfl, rfl⟩
        dsimp only [tT] at e1 ⊢
        rw [e1.1, e1.2.1, e1.2.2.1, e4.1, e4.2, e2.1, e2.2.1, e2.2.2, e3.1, e3.2.1]
      · rw [if_neg a2]
        have h3 : ∀ y : Bool, y = decide (b = 63 ∧ s.an = false) → seq_Parser_onCommand_j3 b (c, tT s o) y = some (tT (if 64 ≤ b ∧ b < 127 then finF {s with an := true} b else (ordS s b, [])).1 (o ++ (if 64 ≤ b ∧ b < 127 then finF {s with an := true} b else (ordS s b, [])).2)) := by
          intro y hy
          unfold seq_Parser_onCommand_j3
          rw [hy, cD]
          by_cases a3 : b = 63 ∧ s.an = false
          · rw [if_pos a3, if_neg (show ¬(64 ≤ b ∧ b < 127) by omega), List.append_nil]
            unfold ordS
            rw [if_neg a1, if_neg a2, if_pos a3]
            rfl
          · rw [if_neg a3, cD]
            have h4 : ∀ y : Bool, y = decide (64 ≤ b ∧ b < 127) → seq_Parser_onCommand_j4 b (c, tT s o) y = some (tT (if 64 ≤ b ∧ b < 127 then finF {s with an := true} b else (ordS s b, [])).1 (o ++ (if 64 ≤ b ∧ b < 127 then finF {s with an := true} b else (ordS s b, [])).2)) := by
              intro y hy
              unfold seq_Parser_onCommand_j4
              rw [hy, cD]
              by_cases a4 : 64 ≤ b ∧ b < 127
              · rw [if_pos a4, if_pos a4]
                have hf := finish_eq {s with an := true} hs.nums o b ho
                show Option.bind (seq_Parser_finish (tT {s with an := true} o) b) _ = _
                rw [hf, bS]
              · rw [if_neg a4, if_neg a4, List.append_nil]
                unfold ordS
                rw [if_neg a1, if_neg a2, if_neg a3]
                rfl
            by_cases a5 : b ≥ 64
            · rw [if_pos a5]; exact h4 _ (by simp [a5])
            · rw [if_neg a5]; exact h4 _ (by have : ¬ 64 ≤ b := by omega
                                             simp [this])
        rw [cE]
        by_cases a5 : b = 63
        · rw [if_pos a5]; exact h3 _ (by show (!s.an) = _; cases hsa : s.an <;> simp [a5, hsa])
        · rw [if_neg a5]; exact h3 _ (by simp [a5])
    by_cases a2 : b = 59
    · rw [if_pos a2]; exact hsep _ (by simp [a2])
    · rw [if_neg a2]; exact hsep _ (by by_cases a6 : b = 58 <;> simp [a2, a6])
theorem command_eq (s : S) (hs : Ok s) (o : List T50) (b : Int) (h0 : 0 ≤ b) (h1 : b < 256) (ho : o.length ≤ 10000000) : seq_Parser_onCommand (tT s o) b = some (tT (cmdF s b).1 (o ++ (cmdF s b).2)) := by
  unfold seq_Parser_onCommand cmdF
  rw [common_eq' s o b (by omega), bS, cB]
  by_cases h : (comF s b).1 = true
  · rw [if_pos h, if_pos h]
  · have hf := com_false (by simpa using h)
    rw [if_neg h, if_neg h, hf.1, List.append_nil, cD]
    have := fun x hx => cmd_j1 s hs o b h0 h1 hf.2.2 ho (comF s b).1 x hx
    by_cases a1 : b ≥ 48
    · rw [if_pos a1]; exact this _ (by simp [a1])
    · rw [if_neg a1]; exact this _ (by have : ¬ 48 ≤ b := by omega
                                       simp [this])
theorem extract0 (s : ByteArray) (n : Nat) : (s.extract n s.size).size = s.size - n := by simp [ByteArray.size_extract]
theorem pre_eq (t : ByteArray) (c : UInt8) : t.extract 0 2 = ⟨#[c, 59]⟩ ↔ isP t c.toNat := by
  unfold isP
  constructor
  · intro h
    have hz := congrArg ByteArray.size h
    rw [ByteArray.size_extract] at hz
    have h2 : 2 ≤ t.size := by
      have : (⟨#[c, 59]⟩ : ByteArray).size = 2 := rfl
      omega
    have hn := congrArg numsOf h
    rw [nums_extract, List.drop_zero] at hn
    have hl := numsOf_len t
    rw [show (numsOf t).take 2 = [bt t (0 : Nat), bt t (1 : Nat)] from by
      rw [List.take_succ_eq_append_getElem (by omega), List.take_succ_eq_append_getElem (by omega), List.take_zero, numsOf_get t 0 (by omega), numsOf_get t 1 (by omega)]; rfl] at hn
    have e : numsOf (⟨#[c, 59]⟩ : ByteArray) = [(c.toNat : Int), 59] := rfl
    rw [e] at hn
    injection hn with e1 e2
    injection e2 with e2
    exact ⟨h2, e1, e2⟩
  · intro ⟨h2, e1, e2⟩
    apply nums_inj
    rw [nums_extract, List.drop_zero]
    have hl := numsOf_len t
    rw [show (numsOf t).take 2 = [bt t (0 : Nat), bt t (1 : Nat)] from by
      rw [List.take_succ_eq_append_getElem (by omega), List.take_succ_eq_append_getElem (by omega), List.take_zero, numsOf_get t 0 (by omega), numsOf_get t 1 (by omega)]; rfl]
    show [bt t 0, bt t 1] = [(c.toNat : Int), 59]
    rw [e1, e2]
theorem cut2_eq (t : ByteArray) (c : UInt8) : strings_CutPrefix t ⟨#[c, 59]⟩ = some (if isP t c.toNat then (t.extract 2 t.size, true) else (t, false)) := by
  unfold strings_CutPrefix stringslite_CutPrefix stringslite_HasPrefix
  rw [cD]
  have e : (⟨#[c, 59]⟩ : ByteArray).size = 2 := rfl
  rw [e]
  by_cases h : (t.size : Int) ≥ ((2 : Nat) : Int)
  · rw [if_pos h, if_pos (by omega), if_pos (by omega), Int.toNat_natCast, str_eq, bS, cNB]
    by_cases h2 : isP t c.toNat
    · rw [if_pos (by simpa using (pre_eq t c).2 h2), if_pos h2, if_pos (by omega), if_pos (by omega), bS]
    · rw [if_neg (by simpa using fun hh => h2 ((pre_eq t c).1 hh)), if_neg h2, bS]
  · rw [if_neg h, bS, if_neg (show ¬ isP t c.toNat by unfold isP; omega)]
    rfl
theorem over_step (K : Nat) (hK : 3 ≤ K) (s : S) (o : List T50) (ho : o.length ≤ 10000000) : seq_Parser_over K (tT s o) = some (tT (ovrF s).1 (o ++ (ovrF s).2)) := by
  obtain ⟨k, rfl⟩ : ∃ k, K = k + 3 := ⟨K - 3, by omega⟩
  have c48 := cut2_eq s.text 48
  have c50 := cut2_eq s.text 50
  have e48 : ((48 : UInt8).toNat : Int) = 48 := rfl
  have e50 : ((50 : UInt8).toNat : Int) = 50 := rfl
  rw [e48] at c48
  rw [e50] at c50
  have w1 : IntKind.wrap .i64 ((0 : Int) + 1) = 1 := rfl
  have w2 : IntKind.wrap .i64 ((1 : Int) + 1) = 2 := rfl
  have fin : ∀ (o : List T50), seq_Parser_over_l1 (k + 1) 0 s.pv s.wr s.an s.so s.n s.nums s.text s.d.Lead s.d.Rune s.d.Need o 2 = some (tT {s with st := 0} o) := by
    intro o
    unfold seq_Parser_over_l1
    rw [cD, if_neg (by simp)]
    rfl
  have snd : ∀ (o : List T50), o.length ≤ 10000001 → seq_Parser_over_l1 (k + 2) 0 s.pv s.wr s.an s.so s.n s.nums s.text s.d.Lead s.d.Rune s.d.Need o 1 = some (tT {s with st := 0} (o ++ (if isP s.text 50 then [ttl (s.text.extract 2 s.text.size)] else []))) := by
    intro o ho
    unfold seq_Parser_over_l1
    rw [cD, if_pos (by simp), if_pos (by simp)]
    have e : rdD (⟨#[]⟩ : ByteArray) ([⟨#[48, 59]⟩, ⟨#[50, 59]⟩] : List ByteArray) 1 = ⟨#[50, 59]⟩ := rfl
    rw [e, c50, bS, cB]
    by_cases h : isP s.text 50
    · rw [if_pos h, if_pos rfl, if_pos h]
      have ht := tell_eq {s with st := 0} o (ttl (s.text.extract 2 s.text.size)) (by omega)
      unfold ttl at ht ⊢
      dsimp only [tT] at ht ⊢
      rw [ht, bS, w2]
      exact fin _
    · rw [if_neg h, if_neg (by simp), if_neg h, w2, List.append_nil]
      exact fin _
  unfold seq_Parser_over
  show seq_Parser_over_l1 (k + 3) 0 s.pv s.wr s.an s.so s.n s.nums s.text s.d.Lead s.d.Rune s.d.Need o 0 = _
  unfold seq_Parser_over_l1
  rw [cD, if_pos (by simp), if_pos (by simp)]
  have e : rdD (⟨#[]⟩ : ByteArray) ([⟨#[48, 59]⟩, ⟨#[50, 59]⟩] : List ByteArray) 0 = ⟨#[48, 59]⟩ := rfl
  rw [e, c48, bS, cB]
  unfold ovrF titles
  by_cases h : isP s.text 48
  · rw [if_pos h, if_pos rfl, if_pos h]
    have ht := tell_eq {s with st := 0} o (ttl (s.text.extract 2 s.text.size)) (by omega)
    have hs := snd (o ++ [ttl (s.text.extract 2 s.text.size)]) (by simp; omega)
    unfold ttl at ht hs ⊢
    dsimp only [tT] at ht ⊢
    rw [ht, bS, w1]
    rw [List.append_assoc] at hs
    exact hs
  · rw [if_neg h, if_neg (by simp), if_neg h, w1, List.nil_append]
    exact snd o (by omega)
theorem title_eq (K : Nat) (hK : 3 ≤ K) (s : S) (hs : Ok s) (o : List T50) (b : Int) (ho : o.length ≤ 10000000) : seq_Parser_onTitle K (tT s o) b = some (tT (titF s b).1 (o ++ (titF s b).2)) := by
  have ht := hs.text
  unfold seq_Parser_onTitle titF
  rw [cE, cE]
  by_cases h : b = 7
  · rw [if_pos h, if_pos h, over_step K hK s o ho, bS]
  · rw [if_neg h, if_neg h]
    have hj : ∀ x : Bool, x = decide (b = 24 ∨ b = 26) → seq_Parser_onTitle_j1 (tT s o) b x = some (tT (titG s b).1 (o ++ (titG s b).2)) := by
      intro x hx
      unfold seq_Parser_onTitle_j1 titG
      rw [hx, cD, cE, cD]
      by_cases h1 : b = 24 ∨ b = 26
      · rw [if_pos h1, if_pos h1, List.append_nil]; rfl
      · rw [if_neg h1, if_neg h1]
        by_cases h2 : b = 27
        · rw [if_pos h2, if_pos h2, List.append_nil]; rfl
        · rw [if_neg h2, if_neg h2]
          by_cases h3 : s.text.size < 200
          · rw [if_pos (by show (s.text.size : Int) < 200; omega), if_pos h3, List.append_nil, if_pos (by show ((s.text.size + (strOfNums [b]).size : Nat) : Int) ≤ _; rw [str_size, List.length_singleton]; omega)]; rfl
          · rw [if_neg (by show ¬ (s.text.size : Int) < 200; omega), if_neg h3, List.append_nil]
    by_cases h1 : b = 24
    · rw [if_pos h1]; exact hj _ (by simp [h1])
    · rw [if_neg h1]; exact hj _ (by by_cases h2 : b = 26 <;> simp [h1, h2])
theorem one_eq (K : Nat) (hK : 1000 < K) (s : S) (hs : Ok s) (o : List T50) (b : Int) (h0 : 0 ≤ b) (h1 : b < 256) (ho : o.length ≤ 10000000) : seq_Parser_one K (tT s o) b = some (tT (step s b).1 (o ++ (step s b).2)) := by
  unfold seq_Parser_one step
  rw [cE, cE, cE, cE, cE, cE]
  by_cases a0 : s.st = 0
  · rw [if_pos (show (tT s o).state = 0 from a0), if_pos a0, ground_eq K hK s hs.d o b h0 h1 ho, bS]
  · rw [if_neg (show ¬ (tT s o).state = 0 from a0), if_neg a0]
    by_cases a1 : s.st = 1
    · rw [if_pos (show (tT s o).state = 1 from a1), if_pos a1, escape_eq s o b ho, bS]
    · rw [if_neg (show ¬ (tT s o).state = 1 from a1), if_neg a1]
      by_cases a2 : s.st = 2
      · rw [if_pos (show (tT s o).state = 2 from a2), if_pos a2, skip_eq s o b ho, bS]
      · rw [if_neg (show ¬ (tT s o).state = 2 from a2), if_neg a2]
        by_cases a3 : s.st = 3
        · rw [if_pos (show (tT s o).state = 3 from a3), if_pos a3, command_eq s hs o b h0 h1 ho, bS]
        · rw [if_neg (show ¬ (tT s o).state = 3 from a3), if_neg a3]
          by_cases a4 : s.st = 4
          · rw [if_pos (show (tT s o).state = 4 from a4), if_pos a4, title_eq K (by omega) s hs o b ho, bS]
          · rw [if_neg (show ¬ (tT s o).state = 4 from a4), if_neg a4]
            by_cases a5 : b = 92
            · rw [if_pos a5, if_pos a5, over_step K (by omega) s o ho, bS]
            · rw [if_neg a5, if_neg a5]
              show Option.bind (seq_Parser_onEscape (tT {s with st := 1} o) b) _ = _
              rw [escape_eq {s with st := 1} o b ho, bS]
theorem feed_loop (K : Nat) (hK : 1000 < K) (t : ByteArray) (ht : t.size ≤ 1000) : ∀ (k i : Nat) (s : S) (o : List T50), t.size < k + i → i ≤ t.size → Ok s → o.length ≤ 2 * i →
    seq_Parser_Feed_l2 K t k s.st s.pv s.wr s.an s.so s.n s.nums s.text s.d.Lead s.d.Rune s.d.Need o i = some (o ++ (run s ((numsOf t).drop i)).2, tT (run s ((numsOf t).drop i)).1 [])
  | 0, i, s, o, h1, h2, hs, ho => by omega
  | k + 1, i, s, o, h1, h2, hs, ho => by
    have ih := feed_loop K hK t ht k
    have hl := numsOf_len t
    unfold seq_Parser_Feed_l2
    rw [cD]
    by_cases c : i < t.size
    · have hw : IntKind.wrap .i64 ((i : Int) + 1) = ((i + 1 : Nat) : Int) := by rw [w64 (by omega) (by omega)]; omega
      have hb := bt_range t i c
      rw [if_pos (by omega), if_pos (by omega)]
      show Option.bind (seq_Parser_one K (tT s o) (bt t i)) _ = _
      rw [one_eq K hK s hs o _ hb.1 hb.2 (by omega), bS, hw]
      have hsl := step_len s (bt t i)
      have := ih (i + 1) (step s (bt t i)).1 (o ++ (step s (bt t i)).2) (by omega) (by omega) (ok_step hs _ hb.1 hb.2) (by simp; omega)
      show seq_Parser_Feed_l2 K t k _ _ _ _ _ _ _ _ _ _ _ (o ++ (step s (bt t i)).2) _ = _
      rw [List.drop_eq_getElem_cons (by omega : i < (numsOf t).length), numsOf_get t i c]
      unfold run
      rw [← List.append_assoc]
      exact this
    · rw [if_neg (by omega), List.drop_eq_nil_of_le (by omega)]
      unfold seq_Parser_Feed_j1 run
      rw [List.append_nil]
      rfl
theorem feed_eq (K : Nat) (hK : 1000 < K) (s : S) (hs : Ok s) (t : ByteArray) (ht : t.size ≤ 1000) : seq_Parser_Feed K (tT s []) t = some ((run s (numsOf t)).2, tT (run s (numsOf t)).1 []) := by
  have := feed_loop K hK t ht K 0 s [] (by omega) (by omega) hs (by simp)
  rw [List.drop_zero, List.nil_append] at this
  exact this
end Go.Proofs.YtpciioffkjpieaaDoor.Pure
