/- Plain laws: what the plain functions answer, with no program in sight. -/
import Derived.Test.YthddmlhmejnhlaaDoorPD
set_option linter.unusedVariables false
set_option linter.unusedSimpArgs false
namespace Go.Proofs.YthddmlhmejnhlaaDoor.Pure
open Go Go.Proofs.XC Go.Proofs.YthddmlhmejnhlaaDoor

/-! ### Read -/
structure Rel (s : S) (m : Int) (body : ByteArray) : Prop where
  hm : s.st = m
  r0 : 0 ≤ m
  r4 : m ≤ 4
  d : s.d = Z
  o : m = 3 → ∃ s0, Fresh s0 ∧ s = (numsOf body).foldl ordS s0
  t : m = 4 → s.text = cutF body 200
theorem ordS_keep (s : S) (b : Int) : (ordS s b).st = s.st ∧ (ordS s b).d = s.d := by
  unfold ordS; split
  · exact ⟨rfl, rfl⟩
  · split
    · exact ⟨(psh_d s).2.1, (psh_d s).1⟩
    · split <;> exact ⟨rfl, rfl⟩
theorem com_true {s : S} {b : Int} (h : b < 32 ∨ b = 127) : (comF s b).1 = true := by
  unfold comF; split
  · rfl
  · split
    · rfl
    · split
      · rfl
      · exact decide_eq_true (by omega)
theorem step_com (s : S) (b : Int) (hd : s.d = Z) (h0 : 0 ≤ s.st) (h3 : s.st ≤ 3) (h : b < 32 ∨ b = 127) : step s b = (comF s b).2 := by
  have hc := com_true (s := s) h
  unfold step
  by_cases a0 : s.st = 0
  · rw [if_pos a0]
    unfold gndF
    have e : ({s with d := Z} : S) = s := by rw [← hd]
    rw [if_pos h, e, hd, show endF Z = [] from rfl]
    rfl
  · rw [if_neg a0]
    by_cases a1 : s.st = 1
    · rw [if_pos a1]; unfold escF; rw [if_pos hc]
    · rw [if_neg a1]
      by_cases a2 : s.st = 2
      · rw [if_pos a2]; unfold skpF; rw [if_pos hc]
      · rw [if_neg a2, if_pos (by omega)]; unfold cmdF; rw [if_pos hc]
theorem com_pass {s : S} {b : Int} (h : 32 ≤ b) (h1 : b ≠ 127) : (comF s b).1 = false := by
  rw [com_no s (by omega)]; exact decide_eq_false h1
theorem run_cons (s : S) (p0 : ByteArray) (i : Nat) (h : i < p0.size) : (run s ((numsOf p0).drop i)).2 = (step s (bt p0 i)).2 ++ (run (step s (bt p0 i)).1 ((numsOf p0).drop (i + 1))).2 := by
  have hl := numsOf_len p0
  rw [List.drop_eq_getElem_cons (by omega : i < (numsOf p0).length), numsOf_get p0 i h]
  rfl
theorem cut_nums (s : ByteArray) (n : Nat) : numsOf (cutF s n) = (numsOf s).take n := by
  have hl := numsOf_len s
  unfold cutF; split
  · rw [nums_extract, List.drop_zero]
  · rw [List.take_of_length_le (by omega)]
theorem cut_app (body : ByteArray) (b : Int) (h0 : 0 ≤ b) (h1 : b < 256) : cutF (body ++ strOfNums [b]) 200 = if (cutF body 200).size < 200 then cutF body 200 ++ strOfNums [b] else cutF body 200 := by
  have hl := numsOf_len body
  have hb : Bytes [b] := by intro c hc; rw [List.mem_singleton.1 hc]; exact ⟨h0, h1⟩
  apply nums_inj
  have hz : (cutF body 200).size = min 200 body.size := by
    rw [← numsOf_len, cut_nums, List.length_take, hl]
  rw [hz, cut_nums, nums_append, nums_str _ hb]
  split
  · rw [nums_append, nums_str _ hb, cut_nums, List.take_append, List.take_of_length_le (l := [b]) (by simp; omega)]
  · rw [cut_nums, List.take_append, show 200 - (numsOf body).length = 0 by omega]; simp
theorem w8 {x : Int} (h0 : 0 ≤ x) (h1 : x < 256) : IntKind.wrap .u8 x = x := by
  simp only [IntKind.wrap, IntKind.bits, IntKind.signed]
  simp
  omega
theorem j3_eq (K : Nat) (hK : 1005 ≤ K) (p0 : ByteArray) (hp : p0.size ≤ 400) (lp : List T47 → Int → Int → ByteArray → Option (List T47)) (i : Nat) (hi : i < p0.size)
    (H : ∀ (s : S) (m : Int) (body : ByteArray) (l : List T47) (j : Nat), i < j → j ≤ p0.size → Rel s m body → l.length ≤ 3 * j → body.size ≤ j → lp l m j body = some (l ++ ((run s ((numsOf p0).drop j)).2).map conv))
    (s : S) (m : Int) (body : ByteArray) (l : List T47) (hr : Rel s m body) (hctl : m = 0 → bt p0 i < 32 ∨ bt p0 i = 127) (hl : l.length ≤ 3 * i + 1) (hb : body.size ≤ i) :
    tidewrackref07_Read_j3 K p0 m body lp l i = some (l ++ ((run s ((numsOf p0).drop i)).2).map conv) := by
  have hbt := bt_range p0 i hi
  have hw : IntKind.wrap .i64 ((i : Int) + 1) = ((i + 1 : Nat) : Int) := by rw [w64 (by omega) (by omega)]; omega
  have hwb : IntKind.wrap .i64 (bt p0 i) = bt p0 i := w64 (by omega) (by omega)
  have hsl := step_len s (bt p0 i)
  have fin : ∀ (s' : S) (ev : List T37) (m' : Int) (body' : ByteArray), step s (bt p0 i) = (s', ev) → Rel s' m' body' → body'.size ≤ i + 1 →
      lp (l ++ ev.map conv) m' ((i + 1 : Nat) : Int) body' = some (l ++ ((run s ((numsOf p0).drop i)).2).map conv) := by
    intro s' ev m' body' he h1 h2
    rw [he] at hsl
    have := H s' m' body' (l ++ ev.map conv) (i + 1) (by omega) (by omega) h1 (by simp at hsl ⊢; omega) h2
    rw [this, run_cons s p0 i hi, he, List.map_append, List.append_assoc]
  have fin0 : ∀ (s' : S) (m' : Int) (body' : ByteArray), step s (bt p0 i) = (s', []) → Rel s' m' body' → body'.size ≤ i + 1 →
      lp l m' ((i + 1 : Nat) : Int) body' = some (l ++ ((run s ((numsOf p0).drop i)).2).map conv) := by
    intro s' m' body' he h1 h2
    have := fin s' [] m' body' he h1 h2
    rw [List.map_nil, List.append_nil] at this
    exact this
  have hst := hr.hm
  have hm0 := hr.r0
  have hm4 := hr.r4
  have hd := hr.d
  have st0 : ∀ (x : Int) (body' : ByteArray), 0 ≤ x → x ≤ 2 → Rel {s with st := x} x body' := fun x body' h1 h2 => ⟨rfl, h1, by omega, hd, fun h => by omega, fun h => by omega⟩
  unfold tidewrackref07_Read_j3
  rw [if_pos (by omega), cE, cE, cE, cE, cE, hwb]
  by_cases h4 : m = 4
  · rw [if_pos h4]
    have hst4 : ∀ b, step s b = titF s b := by
      intro b; unfold step
      rw [if_neg (by omega), if_neg (by omega), if_neg (by omega), if_neg (by omega), if_pos (by omega)]
    have htx := hr.t h4
    have he := hst4 (bt p0 i)
    by_cases h7 : bt p0 i = 7
    · have e : step s (bt p0 i) = ({s with st := 0}, titles s.text) := by rw [he]; unfold titF; rw [if_pos h7]; rfl
      have htl := titles_len s.text
      rw [if_pos h7, rtitles_eq, bS, ← htx, if_pos (by simp; omega), hw]
      exact fin _ _ 0 body e (st0 0 body (by omega) (by omega)) (by omega)
    · rw [if_neg h7]
      unfold tidewrackref07_Read_j6
      have eG : step s (bt p0 i) = titG s (bt p0 i) := by rw [he]; unfold titF; rw [if_neg h7]
      have h6 : ∀ x : Bool, x = decide (bt p0 i = 24 ∨ bt p0 i = 26) → (tidewrackref07_Read_j6 p0 m body lp l i x) = some (l ++ ((run s ((numsOf p0).drop i)).2).map conv) := by
        intro x hx
        unfold tidewrackref07_Read_j6
        rw [hx, cD, hwb, cN, cE, cE, hw]
        by_cases a : bt p0 i = 24 ∨ bt p0 i = 26
        · rw [if_pos a]
          exact fin0 _ 0 body (by rw [eG]; unfold titG; rw [if_pos a]) (st0 0 body (by omega) (by omega)) (by omega)
        · rw [if_neg a]
          by_cases a27 : bt p0 i = 27
          · rw [if_pos a27]
            have e5 : step s (bt p0 i) = ({s with st := 5}, []) := by rw [eG]; unfold titG; rw [if_neg a, if_pos a27]
            by_cases hend : i + 1 = p0.size
            · rw [if_pos (by omega), run_cons s p0 i hi, e5, List.drop_eq_nil_of_le (by rw [numsOf_len]; omega)]
              simp [run]
            · rw [if_neg (by omega), if_pos (by omega)]
              have hi1 : i + 1 < p0.size := by omega
              by_cases a92 : bt p0 ((i + 1 : Nat) : Int) = 92
              · have htl := titles_len s.text
                have hw2 : IntKind.wrap .i64 (((i + 1 : Nat) : Int) + 1) = ((i + 2 : Nat) : Int) := by rw [w64 (by omega) (by omega)]; omega
                have e6 : step {s with st := 5} (bt p0 ((i + 1 : Nat) : Int)) = ({s with st := 0}, titles s.text) := by
                  unfold step
                  rw [if_neg (by simp), if_neg (by simp), if_neg (by simp), if_neg (by simp), if_neg (by simp), if_pos a92]; rfl
                rw [if_pos a92, rtitles_eq, bS, ← htx, if_pos (by simp; omega), hw2]
                have := H {s with st := 0} 0 body (l ++ (titles s.text).map conv) (i + 2) (by omega) (by omega) (st0 0 body (by omega) (by omega)) (by simp; omega) (by omega)
                rw [this, run_cons s p0 i hi, e5, run_cons _ p0 (i + 1) hi1, e6, List.nil_append, List.map_append, List.append_assoc]
              · rw [if_neg a92]
                have e7 : step {s with st := 5} (bt p0 ((i + 1 : Nat) : Int)) = step {s with st := 1} (bt p0 ((i + 1 : Nat) : Int)) := by
                  unfold step
                  rw [if_neg (by simp), if_neg (by simp), if_neg (by simp), if_neg (by simp), if_neg (by simp), if_neg a92]
                  rw [if_neg (show ¬ ({s with st := 1} : S).st = 0 by simp), if_pos rfl]
                have := H {s with st := 1} 1 body l (i + 1) (by omega) (by omega) (st0 1 body (by omega) (by omega)) (by omega) (by omega)
                rw [this, run_cons s p0 i hi, e5, run_cons _ p0 (i + 1) hi1, run_cons {s with st := 5} p0 (i + 1) hi1, e7, List.nil_append]
          · rw [if_neg a27, w8 hbt.1 hbt.2, if_pos (by rw [str_size, List.length_singleton]; omega)]
            have hca := cut_app body (bt p0 i) hbt.1 hbt.2
            by_cases a200 : s.text.size < 200
            · refine fin0 {s with text := s.text ++ strOfNums [bt p0 i]} m _ (by rw [eG]; unfold titG; rw [if_neg a, if_neg a27, if_pos a200]) ⟨hst, hm0, hm4, hd, fun h => by omega, fun _ => ?_⟩ (by rw [app_size, str_size, List.length_singleton]; omega)
              rw [hca, ← htx, if_pos a200]
            · refine fin0 s m _ (by rw [eG]; unfold titG; rw [if_neg a, if_neg a27, if_neg a200]) ⟨hst, hm0, hm4, hd, fun h => by omega, fun _ => ?_⟩ (by rw [app_size, str_size, List.length_singleton]; omega)
              rw [hca, ← htx, if_neg a200]
      by_cases a24 : bt p0 i = 24
      · rw [if_pos a24]; exact h6 _ (by simp [a24])
      · rw [if_neg a24]; exact h6 _ (by by_cases a26 : bt p0 i = 26 <;> simp [a24, a26])
  · rw [if_neg h4]
    have hm3 : s.st ≤ 3 := by omega
    by_cases a24 : bt p0 i = 24
    · rw [if_pos a24, hw]
      exact fin0 _ 0 body (by rw [step_com s _ hd (by omega) hm3 (by omega), com_home s (.inl a24)]) (st0 0 body (by omega) (by omega)) (by omega)
    · rw [if_neg a24]
      by_cases a26 : bt p0 i = 26
      · rw [if_pos a26, hw]
        exact fin0 _ 0 body (by rw [step_com s _ hd (by omega) hm3 (by omega), com_home s (.inr a26)]) (st0 0 body (by omega) (by omega)) (by omega)
      · rw [if_neg a26]
        unfold tidewrackref07_Read_j4
        rw [hwb, hw, cE, cD, cE, cE, cE, cE, cD, cD, cE, cD, cE, cD]
        by_cases a27 : bt p0 i = 27
        · rw [if_pos a27]
          exact fin0 _ 1 body (by rw [step_com s _ hd (by omega) hm3 (by omega), com_esc s a27]) (st0 1 body (by omega) (by omega)) (by omega)
        · rw [if_neg a27]
          by_cases a32 : bt p0 i < 32
          · rw [if_pos a32, if_pos (by simp; omega)]
            exact fin s [ctl (bt p0 i)] m body (by rw [step_com s _ hd (by omega) hm3 (by omega), com_ctl s a32 (by omega) a27]) hr (by omega)
          · rw [if_neg a32]
            by_cases a127 : bt p0 i = 127
            · rw [if_pos a127]
              exact fin0 s m body (by rw [step_com s _ hd (by omega) hm3 (by omega), com_no s a32]) hr (by omega)
            · rw [if_neg a127]
              have hcp := com_pass (s := s) (b := bt p0 i) (by omega) a127
              have hm1 : ¬ m = 0 := fun h => by have := hctl h; omega
              by_cases m1 : m = 1
              · rw [if_pos m1]
                have he : step s (bt p0 i) = escF s (bt p0 i) := by unfold step; rw [if_neg (by omega), if_pos (by omega)]
                unfold escF at he
                rw [if_neg (by simp [hcp])] at he
                by_cases a91 : bt p0 i = 91
                · rw [if_pos a91]
                  rw [if_pos a91] at he
                  exact fin0 _ 3 ⟨#[]⟩ he ⟨rfl, by omega, by omega, hd, fun _ => ⟨_, ⟨rfl, rfl, rfl, rfl, rfl, rfl, rfl⟩, rfl⟩, fun h => by omega⟩ (Nat.zero_le _)
                · rw [if_neg a91]
                  rw [if_neg a91] at he
                  by_cases a93 : bt p0 i = 93
                  · rw [if_pos a93]
                    rw [if_pos a93] at he
                    exact fin0 _ 4 ⟨#[]⟩ he ⟨rfl, by omega, by omega, hd, fun h => by omega, fun _ => rfl⟩ (Nat.zero_le _)
                  · rw [if_neg a93]
                    rw [if_neg a93] at he
                    by_cases a48 : bt p0 i < 48
                    · rw [if_pos a48]
                      rw [if_pos a48] at he
                      exact fin0 _ 2 ⟨#[]⟩ he (st0 2 _ (by omega) (by omega)) (Nat.zero_le _)
                    · rw [if_neg a48]
                      rw [if_neg a48] at he
                      by_cases b127 : bt p0 i < 127
                      · rw [if_pos b127, if_pos (by simp; omega)]
                        rw [if_pos b127] at he
                        exact fin _ [esc (bt p0 i)] 0 ⟨#[]⟩ he (st0 0 _ (by omega) (by omega)) (Nat.zero_le _)
                      · rw [if_neg b127]
                        rw [if_neg b127] at he
                        exact fin0 _ 0 ⟨#[]⟩ he (st0 0 _ (by omega) (by omega)) (Nat.zero_le _)
              · rw [if_neg m1]
                by_cases m2 : m = 2
                · rw [if_pos m2]
                  have he : step s (bt p0 i) = skpF s (bt p0 i) := by unfold step; rw [if_neg (by omega), if_neg (by omega), if_pos (by omega)]
                  unfold skpF at he
                  rw [if_neg (by simp [hcp])] at he
                  by_cases a48 : bt p0 i ≥ 48
                  · rw [if_pos a48]
                    rw [if_pos a48] at he
                    exact fin0 _ 0 body he (st0 0 _ (by omega) (by omega)) (by omega)
                  · rw [if_neg a48]
                    rw [if_neg a48] at he
                    exact fin0 s m body he hr (by omega)
                · have m3 : m = 3 := by omega
                  rw [if_neg m2, if_pos m3]
                  have he : step s (bt p0 i) = cmdF s (bt p0 i) := by unfold step; rw [if_neg (by omega), if_neg (by omega), if_neg (by omega), if_pos (by omega)]
                  unfold cmdF at he
                  rw [if_neg (by simp [hcp])] at he
                  obtain ⟨s0, hf, hfold⟩ := hr.o m3
                  have hbs : Bytes [bt p0 i] := by intro c hc; rw [List.mem_singleton.1 hc]; exact hbt
                  have h5 : ∀ x : Bool, x = decide (bt p0 i < 64 ∨ bt p0 i > 126) → tidewrackref07_Read_j5 K p0 m body lp l i x = some (l ++ ((run s ((numsOf p0).drop i)).2).map conv) := by
                    intro x hx
                    unfold tidewrackref07_Read_j5
                    rw [hx, cD, hwb, hw]
                    by_cases a : bt p0 i < 64 ∨ bt p0 i > 126
                    · rw [if_neg (show ¬ (64 ≤ bt p0 i ∧ bt p0 i < 127) by omega)] at he
                      have hk := ordS_keep s (bt p0 i)
                      rw [if_pos a, w8 hbt.1 hbt.2, if_pos (by rw [str_size, List.length_singleton]; omega)]
                      refine fin0 _ m _ he ⟨hk.1.trans hst, hm0, hm4, hk.2.trans hd, fun _ => ⟨s0, hf, ?_⟩, fun h => by omega⟩ (by rw [app_size, str_size, List.length_singleton]; omega)
                      rw [nums_append, nums_str _ hbs, List.foldl_append, ← hfold]; rfl
                    · rw [if_pos (show 64 ≤ bt p0 i ∧ bt p0 i < 127 by omega)] at he
                      have ho := own_order (bt p0 i) (numsOf body) s0 hf
                      rw [← hfold, ← fin_an] at ho
                      have hlen := hsl
                      rw [he, ho] at hlen
                      rw [if_neg a, rorder_eq K hK body (by omega), bS, if_pos (by simp; omega)]
                      refine fin (finF {s with an := true} (bt p0 i)).1 _ 0 body (by rw [he, ← ho]) ?_ (by omega)
                      have hfd : (finF {s with an := true} (bt p0 i)).1.d = s.d ∧ (finF {s with an := true} (bt p0 i)).1.st = 0 := by
                        unfold finF; split
                        · exact ⟨rfl, rfl⟩
                        · split
                          · exact ⟨(psh_d _).1, (psh_d _).2.1⟩
                          · exact ⟨rfl, rfl⟩
                      exact ⟨hfd.2, by omega, by omega, hfd.1.trans hd, fun h => by omega, fun h => by omega⟩
                  by_cases a64 : bt p0 i < 64
                  · rw [if_pos a64]; exact h5 _ (by simp [a64])
                  · rw [if_neg a64]; exact h5 _ (by by_cases a126 : bt p0 i > 126 <;> simp [a64, a126])
end Go.Proofs.YthddmlhmejnhlaaDoor.Pure
