/- Plain laws: what the plain functions answer, with no program in sight. -/
import Derived.Test.YticilepdpobheaaDoorPI
set_option linter.unusedVariables false
set_option linter.unusedSimpArgs false
namespace Go.Proofs.YticilepdpobheaaDoor.Pure
open Go Go.Proofs.XC Go.Proofs.YticilepdpobheaaDoor

/-! ### Reading, both ways at once -/
theorem pn_err12 : ∀ (l : List Int) (i : Nat) (n c : Int), pn l i n = .error c → c = 1 ∨ c = 2 := by
  intro l
  induction l with
  | nil => intro i n c h; simp only [pn] at h; split at h <;> (injection h with h; omega)
  | cons b bs ih =>
    intro i n c h
    simp only [pn] at h
    split at h
    · injection h with h; omega
    · split at h
      · exact ih _ _ _ h
      · split at h
        · injection h with h; omega
        · cases h
theorem num_step (K : Nat) (hK : 10 ≤ K) (x : T73) (h : InvI x) : ∃ (n : Nat) (x' : T73), num_In_Num K x = some ((n : Int), x') ∧ tidewrackref01_Read K (s50 x) = some (s50 x', (n : Int)) ∧ InvI x' ∧ n ≤ 4611686018427387904 ∧
    (x'.e = 0 → x.e = 0 ∧ numsOf x.s = dg n ++ numsOf x'.s) ∧ (x'.e ≠ 0 → n = 0) := by
  obtain ⟨s, e⟩ := x
  by_cases he : e = 0
  · subst he
    have hz : s.size ≤ 10000 := h.2
    have hN := numsOf_len s
    have e1 := inum_eq K hK s (by omega)
    have e2 := rread_eq K hK s (by omega)
    cases hp : pn (numsOf s) 0 0 with
    | ok r =>
      obtain ⟨r, k⟩ := r
      obtain ⟨m, h1, h2, h3, h4, h5, h6⟩ := pn_only _ _ _ _ _ (nums_b s) hp
      simp only [Nat.pow_zero] at h1
      obtain rfl : r = (m : Int) := by omega
      rw [hp] at e1 e2
      refine ⟨m, _, e1, e2, ⟨fun h => absurd rfl h, by simp only [ext_size]; omega⟩, by omega, fun _ => ⟨rfl, ?_⟩, fun h => absurd rfl h⟩
      simp only [nums_ext, h2, Nat.sub_zero]
      rw [List.take_of_length_le (by omega : (numsOf s).length ≤ s.size), List.take_append_drop]
    | error c =>
      rw [hp] at e1 e2
      have hc := pn_err12 _ _ _ _ hp
      refine ⟨0, _, e1, e2, ⟨fun _ => rfl, by simp [ByteArray.size]⟩, by omega, fun h => ?_, fun _ => rfl⟩
      have : c = 0 := h
      omega
  · have hs : s = E0 := h.1 he
    subst hs
    refine ⟨0, _, inum_bad K hK E0 e rfl he, ?_, h, by omega, fun h => absurd h he, fun _ => rfl⟩
    unfold tidewrackref01_Read s50
    rw [cN, if_neg he]; rfl
theorem raw_step (x : T73) (n : Nat) (h : InvI x) : ∃ t x', num_In_Raw x n = some (t, x') ∧ tidewrackref01_Raw (s50 x) n = some (s50 x', t) ∧ InvI x' ∧ t.size ≤ 10000 ∧
    (x'.e = 0 → x.e = 0 ∧ t.size = n ∧ numsOf x.s = numsOf t ++ numsOf x'.s) := by
  obtain ⟨s, e⟩ := x
  have hm : mxI 0 (n : Int) = n := by unfold mxI; split <;> omega
  unfold num_In_Raw tidewrackref01_Raw s50
  simp only [hm, cD, cN]
  have hz : s.size ≤ 10000 := h.2
  have hN := numsOf_len s
  by_cases he : e = 0
  · subst he
    rw [if_pos rfl]
    by_cases c : n > s.size
    · rw [if_pos (by omega), if_pos (by omega)]
      exact ⟨E0, ⟨E0, 2⟩, rfl, rfl, ⟨fun _ => rfl, by simp [ByteArray.size]⟩, by simp [ByteArray.size], fun h => absurd h (by decide)⟩
    · rw [if_neg (by omega), if_pos (by omega), if_pos (by omega), if_neg (by omega), if_pos (by omega), if_pos (by omega)]
      refine ⟨_, _, rfl, rfl, ⟨fun h => absurd rfl h, by simp only [ext_size]; omega⟩, by rw [ext_size]; omega, fun _ => ⟨rfl, ?_, ?_⟩⟩
      · simp only [ext_size, Int.toNat_natCast]; omega
      · simp only [nums_ext, Int.toNat_natCast, List.drop_zero]
        rw [List.take_of_length_le (by omega : (numsOf s).length ≤ s.size), List.take_append_drop]
  · have hs : s = E0 := h.1 he
    subst hs
    rw [if_neg he]
    by_cases c : n > 0
    · rw [if_pos (by simp [ByteArray.size]; omega)]
      refine ⟨E0, ⟨E0, e⟩, ?_, rfl, h, by simp [ByteArray.size], fun h => absurd h he⟩
      simp only [num_In_Fail, cE, num_In_Fail_j1]
      rw [if_neg he]; rfl
    · have : n = 0 := by omega
      subst this
      rw [if_neg (by simp [ByteArray.size]), if_pos (by omega), if_pos (by simp [ByteArray.size])]
      exact ⟨E0, ⟨E0, e⟩, rfl, rfl, h, by simp [ByteArray.size], fun h => absurd h he⟩
theorem text_step (K : Nat) (hK : 10 ≤ K) (x : T73) (h : InvI x) : ∃ t x', num_In_Text K x = some (t, x') ∧ tidewrackref01_ReadText K (s50 x) = some (s50 x', t) ∧ InvI x' ∧ t.size ≤ 10000 ∧
    (x'.e = 0 → x.e = 0 ∧ numsOf x.s = dg t.size ++ numsOf t ++ numsOf x'.s) := by
  obtain ⟨n, x1, h1, h2, h3, h4, h5, h6⟩ := num_step K hK x h
  obtain ⟨t, x2, g1, g2, g3, g4, g5⟩ := raw_step x1 n h3
  refine ⟨t, x2, ?_, ?_, g3, g4, fun h => ?_⟩
  · unfold num_In_Text; rw [h1, bS]; simp only; rw [g1, bS]
  · unfold tidewrackref01_ReadText; rw [h2, bS]; simp only; rw [g2, bS]
  · obtain ⟨a1, a2, a3⟩ := g5 h
    obtain ⟨b1, b2⟩ := h5 a1
    exact ⟨b1, by rw [b2, a3, a2, List.append_assoc]⟩
theorem mn64 (n M : Nat) (h : M = min n 64) : mnI (n : Int) 64 = (M : Int) := by unfold mnI; split <;> omega
theorem bad_loop (K : Nat) (hK : 10 ≤ K) (a b c : Int × T73) (M : Nat) (hM : M ≤ 64) (hc : mnI c.1 64 = (M : Int)) (x : T73) (hx : InvI x) (he : x.e ≠ 0) : ∀ (k i : Nat) (l : List Int), M < k + i → i ≤ M → l.length ≤ i → ∃ l1, gram_read_l3 K a b c k x l i = gram_read_j2 K a b x l1 ∧ l1.length ≤ 64
  | 0, i, l, h1, h2, h3 => by omega
  | k + 1, i, l, h1, h2, h3 => by
    have ih := bad_loop K hK a b c M hM hc x hx he k
    unfold gram_read_l3
    rw [hc, cD]
    by_cases hi : i < M
    · have hw : IntKind.wrap .i64 ((i : Int) + 1) = ((i + 1 : Nat) : Int) := by rw [w64 (by omega) (by omega)]; omega
      have hb : num_In_Num K x = some (0, x) := by
        obtain ⟨s, e⟩ := x
        have : s = E0 := hx.1 he
        subst this
        exact inum_bad K hK E0 e rfl he
      rw [if_pos (by omega), hb, bS, if_pos (by simp; omega), hw]
      exact ih (i + 1) _ (by omega) (by omega) (by simp; omega)
    · rw [if_neg (by omega)]
      exact ⟨l, rfl, by omega⟩
theorem loop_step (K : Nat) (hK : 10 ≤ K) (a b c : Int × T73) (a' b' c' : T59 × Int) (n : Nat) (hn : n ≤ 64) (hc : c.1 = (n : Int)) (hc' : c'.2 = (n : Int)) : ∀ (k1 k2 i : Nat) (x : T73) (l : List Int), n < k1 + i → n + 1 < k2 + i → i ≤ n → l.length ≤ i → InvI x → x.e = 0 →
    ∃ x' l1 l2, gram_read_l3 K a b c k1 x l i = gram_read_j2 K a b x' l1 ∧ tidewrackref03_Parse_l3 K a' b' c' k2 (s50 x) l i = tidewrackref03_Parse_j2 K a' b' (s50 x') l2 ∧ InvI x' ∧ l1.length ≤ 64 ∧
      (x'.e = 0 → l1 = l2 ∧ ∃ m, l1 = l ++ m ∧ m.length = n - i ∧ (∀ y ∈ m, 0 ≤ y ∧ y ≤ 4611686018427387904) ∧ numsOf x.s = catN m ++ numsOf x'.s)
  | 0, k2, i, x, l, h1, h2, h3, h4, hx, he => by omega
  | k1 + 1, 0, i, x, l, h1, h2, h3, h4, hx, he => by omega
  | k1 + 1, k2 + 1, i, x, l, h1, h2, h3, h4, hx, he => by
    have ih := loop_step K hK a b c a' b' c' n hn hc hc' k1 k2
    have hM : mnI c.1 64 = (n : Int) := by rw [hc]; exact mn64 n n (by omega)
    unfold gram_read_l3 tidewrackref03_Parse_l3
    rw [hM, hc', cD, cD, cE]
    by_cases hi : i < n
    · have hw : IntKind.wrap .i64 ((i : Int) + 1) = ((i + 1 : Nat) : Int) := by rw [w64 (by omega) (by omega)]; omega
      rw [if_pos (by omega), if_pos (by omega), if_pos (show (s50 x).E = 0 from he)]
      unfold tidewrackref03_Parse_j4
      obtain ⟨v, y, e1, e2, e3, e4, e5, e6⟩ := num_step K hK x hx
      rw [e1, bS, e2, bS, if_pos (by simp; omega), if_pos (by simp; omega), hw]
      by_cases hy : y.e = 0
      · obtain ⟨x', l1, l2, f1, f2, f3, f4, f5⟩ := ih (i + 1) y (l ++ [(v : Int)]) (by omega) (by omega) (by omega) (by simp; omega) e3 hy
        refine ⟨x', l1, l2, f1, f2, f3, f4, fun h => ?_⟩
        obtain ⟨g1, m, g2, g3, g4, g5⟩ := f5 h
        refine ⟨g1, (v : Int) :: m, by rw [g2]; simp, by simp only [List.length_cons]; omega, ?_, ?_⟩
        · intro z hz
          rcases List.mem_cons.1 hz with rfl | hz
          · omega
          · exact g4 z hz
        · rw [(e5 hy).2, g5]
          simp only [catN, List.flatMap_cons, clip_id v e4, List.append_assoc]
      · obtain ⟨l1, f1, f2⟩ := bad_loop K hK a b c n hn hM y e3 hy k1 (i + 1) (l ++ [(v : Int)]) (by omega) (by omega) (by simp; omega)
        refine ⟨y, l1, l ++ [(v : Int)], f1, ?_, e3, f2, fun h => absurd h hy⟩
        obtain ⟨k2, rfl⟩ : ∃ k, k2 = k + 1 := ⟨k2 - 1, by omega⟩
        unfold tidewrackref03_Parse_l3
        rw [cD, cE]
        split
        · exact if_neg hy
        · rfl
    · rw [if_neg (by omega), if_neg (by omega)]
      have : i = n := by omega
      subst this
      exact ⟨x, l, l, rfl, rfl, hx, by omega, fun _ => ⟨rfl, [], by simp, by simp, fun y hy => absurd hy (by simp), by simp [catN]⟩⟩
abbrev zG : T23 := ⟨0, 0, [], E0⟩
theorem open_ok {s t : ByteArray} (h : openF s = (t, true)) : s = sealF t ∧ t.size ≤ s.size := by
  unfold openF at h
  split at h
  · simp at h
  · rename_i h4
    split at h
    · rename_i c
      simp only [Prod.mk.injEq, and_true] at h
      subst h
      refine ⟨?_, by rw [ext_size]; omega⟩
      unfold sealF
      rw [← c, split4 s h4]
    · simp at h
theorem end_eq (K : Nat) (x : T73) (h : InvI x) : ∃ f, num_In_End x = some f ∧ tidewrackref01_End (s50 x) = some f ∧ (f = 0 → x.e = 0 ∧ x.s = E0) := by
  obtain ⟨s, e⟩ := x
  rw [iend_eq]
  unfold tidewrackref01_End s50
  simp only [cE, cSN]
  by_cases he : e = 0
  · subst he
    rw [if_pos rfl]
    by_cases c : s = E0
    · exact ⟨0, by rw [if_pos c], by rw [if_pos c], fun _ => ⟨rfl, c⟩⟩
    · exact ⟨1, by rw [if_neg c], by rw [if_neg c], fun h => absurd h (by decide)⟩
  · have hs : s = E0 := h.1 he
    subst hs
    exact ⟨e, by rw [if_pos rfl], by rw [if_neg he], fun h => absurd h he⟩
def PR (s : ByteArray) (r : T23 × Int) : Prop := Sm r.1 ∧ (r.2 = 0 → chk r.1 = 0 ∧ bytesF r.1 = s) ∧ (r.2 ≠ 0 → r.1 = zG) ∧ (s.size > 8192 → r.2 = 3) ∧ (s.size ≤ 8192 → (openF s).2 = false → r.2 = 4)
theorem sm_z : Sm zG := ⟨by simp, by simp [ByteArray.size]⟩
/-- What comes behind the numbers. -/
theorem tail_both (K : Nat) (hK : 100000 ≤ K) (s t : ByteArray) (a b : Int × T73) (a' b' : T59 × Int) (ha : a.1 = a'.2) (hb : b.1 = b'.2) (x : T73) (l1 l2 : List Int) (hx : InvI x) (hl : l1.length ≤ 64) (hs : s.size ≤ 8192) (ho : openF s = (t, true))
    (hp : x.e = 0 → l1 = l2 ∧ ∃ (m k : Nat), a.1 = (m : Int) ∧ b.1 = (k : Int) ∧ m ≤ 4611686018427387904 ∧ k ≤ 4611686018427387904 ∧ numsOf t = dg m ++ (dg k ++ (dg l1.length ++ (catN l1 ++ numsOf x.s)))) :
    ∃ r, ((gram_read_j2 K a b x l1).bind fun t29 => ((num_In_End t29.2).bind fun t50 => (bif (t50 == (0 : Int)) then ((gram_Gram_Check K t29.1).bind fun t84 => (gram_Parse_j1 t29 t84)) else (gram_Parse_j1 t29 t50)))) = some r ∧
      tidewrackref03_Parse_j2 K a' b' (s50 x) l2 = some r ∧ PR s r := by
  unfold gram_read_j2 tidewrackref03_Parse_j2
  obtain ⟨y, x', h1, h2, h3, h4, h5⟩ := text_step K (by omega) x hx
  obtain ⟨f, f1, f2, f3⟩ := end_eq K x' h3
  rw [h1, bS, h2, bS, bS]
  simp only
  rw [f1, f2, bS, bS, cE, cN]
  have ho2 : (openF s).2 = true := by rw [ho]
  by_cases hf : f = 0
  · subst hf
    obtain ⟨q1, q2⟩ := f3 rfl
    obtain ⟨p1, p2⟩ := h5 q1
    obtain ⟨rfl, m, k, u1, u2, u3, u4, u5⟩ := hp p1
    have hsm : Sm ⟨a.1, b.1, l1, y⟩ := ⟨by show l1.length ≤ 66; omega, by show y.size ≤ 20000; omega⟩
    rw [if_pos rfl, if_pos rfl, check_eq K hK _ hsm, bS, ← ha, ← hb, rcheck_eq K hK _ hsm, bS, cN]
    unfold gram_Parse_j1
    rw [cN]
    by_cases hc : chk ⟨a.1, b.1, l1, y⟩ = 0
    · rw [if_pos hc]
      refine ⟨_, rfl, rfl, hsm, fun _ => ⟨hc, ?_⟩, fun h => absurd rfl h, fun h => by omega, fun _ h => by rw [ho2] at h; cases h⟩
      unfold bytesF
      have e : body ⟨a.1, b.1, l1, y⟩ = numsOf t := by
        rw [u5, p2, q2]
        unfold body
        simp only [u1, u2, catN, List.flatMap_cons, List.flatMap_nil, List.append_nil, List.append_assoc, clip_id m u3, clip_id k u4, clip_id l1.length (by omega)]
        simp [numsOf]
      rw [e, str_nums]
      exact (open_ok ho).1.symm
    · rw [if_neg hc]
      exact ⟨_, rfl, rfl, sm_z, fun h => absurd h hc, fun _ => rfl, fun h => by omega, fun _ h => by rw [ho2] at h; cases h⟩
  · rw [if_neg hf, if_neg hf]
    unfold gram_Parse_j1
    rw [cN, if_neg hf]
    exact ⟨_, rfl, rfl, sm_z, fun h => absurd h hf, fun _ => rfl, fun h => by omega, fun _ h => by rw [ho2] at h; cases h⟩
theorem parse_both (K : Nat) (hK : 100000 ≤ K) (s : ByteArray) : ∃ r, gram_Parse K s = some r ∧ tidewrackref03_Parse K s = some r ∧ PR s r := by
  unfold gram_Parse tidewrackref03_Parse
  rw [cD, cD]
  by_cases hs : s.size > 8192
  · rw [if_pos (by omega), if_pos (by omega)]
    exact ⟨_, rfl, rfl, sm_z, fun h => absurd h (by decide), fun _ => rfl, fun _ => rfl, fun h => by omega⟩
  · rw [if_neg (by omega), if_neg (by omega), open_eq K s (by omega) (by omega) (by omega), ropen_eq K (by omega) s (by omega) (by omega), bS, bS]
    obtain ⟨t, b, ho⟩ : ∃ t b, openF s = (t, b) := ⟨_, _, rfl⟩
    rw [ho]
    simp only
    cases b with
    | false => exact ⟨_, rfl, rfl, sm_z, fun h => absurd h (by decide), fun _ => rfl, fun h => by omega, fun _ _ => rfl⟩
    | true =>
      obtain ⟨ho1, ho2⟩ := open_ok ho
      have ho3 : (openF s).2 = true := by rw [ho]
      rw [Bool.not_true, cond_false, cond_false, num_Of, bS]
      unfold gram_read
      have i0 : InvI ⟨t, 0⟩ := ⟨fun h => absurd rfl h, by show t.size ≤ 10000; omega⟩
      obtain ⟨n1, x1, a1, a2, a3, a4, a5, a6⟩ := num_step K (by omega) ⟨t, 0⟩ i0
      rw [a1, bS, show (⟨t, 0⟩ : T59) = s50 ⟨t, 0⟩ from rfl, a2, bS]
      simp only
      obtain ⟨n2, x2, b1, b2, b3, b4, b5, b6⟩ := num_step K (by omega) x1 a3
      rw [b1, bS, b2, bS]
      simp only
      obtain ⟨n3, x3, c1, c2, c3, c4, c5, c6⟩ := num_step K (by omega) x2 b3
      rw [c1, bS, c2, bS]
      simp only
      rw [cD, cE, fail_eq, bS]
      unfold gram_read_j1 tidewrackref03_Parse_j5 tidewrackref03_Parse_j1
      by_cases he : x3.e = 0
      · rw [if_pos (show (s50 x3).E = 0 from he), cD]
        obtain ⟨c7, c8⟩ := c5 he
        obtain ⟨b7, b8⟩ := b5 c7
        obtain ⟨a7, a8⟩ := a5 b7
        by_cases hn : n3 > 64
        · rw [if_pos (by omega), if_pos (by omega), show failF x3 1 = ⟨E0, 1⟩ from if_pos ⟨he, by decide⟩]
          obtain ⟨l1, d1, d2⟩ := bad_loop K (by omega) ((n1 : Int), x1) ((n2 : Int), x2) ((n3 : Int), x3) 64 (by omega) (mn64 n3 64 (by omega)) ⟨E0, 1⟩ ⟨fun _ => rfl, by simp [ByteArray.size]⟩ (by decide) K 0 [] (by omega) (by omega) (by simp)
          rw [show (0 : Int) = ((0 : Nat) : Int) from rfl, d1]
          have i1 : InvI ⟨E0, 1⟩ := ⟨fun _ => rfl, by simp [ByteArray.size]⟩
          unfold gram_read_j2 num_In_Text
          rw [inum_bad K (by omega) E0 1 rfl (by decide), bS]
          simp only
          have hr : num_In_Raw ⟨E0, 1⟩ 0 = some (E0, ⟨E0, 1⟩) := by
            have hm : mxI 0 0 = 0 := rfl
            unfold num_In_Raw
            rw [hm, cD, if_neg (by simp [ByteArray.size]), if_pos (by omega), if_pos (by simp [ByteArray.size])]
            rfl
          rw [hr, bS, bS, bS, iend_eq, if_pos rfl, bS]
          exact ⟨_, rfl, rfl, sm_z, fun h => absurd h (by decide), fun _ => rfl, fun h => by omega, fun _ h => by rw [ho3] at h; cases h⟩
        · rw [if_neg (by omega), if_neg (by omega)]
          obtain ⟨x', l1, l2, d1, d2, d3, d4, d5⟩ := loop_step K (by omega) ((n1 : Int), x1) ((n2 : Int), x2) ((n3 : Int), x3) (s50 x1, (n1 : Int)) (s50 x2, (n2 : Int)) (s50 x3, (n3 : Int)) n3 (by omega) rfl rfl K K 0 x3 [] (by omega) (by omega) (by omega) (by simp) c3 he
          rw [show ((0 : Nat) : Int) = 0 from rfl] at d1 d2
          simp only
          rw [d1, d2]
          refine tail_both K hK s t _ _ _ _ rfl rfl x' l1 l2 d3 d4 (by omega) ho fun hx => ?_
          obtain ⟨g1, m, g2, g3, g4, g5⟩ := d5 hx
          rw [List.nil_append] at g2
          refine ⟨g1, n1, n2, rfl, rfl, a4, b4, ?_⟩
          have g6 : l1.length = n3 := by rw [g2]; omega
          have a9 : numsOf t = dg n1 ++ numsOf x1.s := a8
          rw [a9, b8, c8, g5, g6, g2]
      · have hn : n3 = 0 := c6 he
        subst hn
        rw [if_neg (show ¬ (s50 x3).E = 0 from he), if_neg (by omega)]
        obtain ⟨l1, d1, d2⟩ := bad_loop K (by omega) ((n1 : Int), x1) ((n2 : Int), x2) (((0 : Nat) : Int), x3) 0 (by omega) (mn64 0 0 (by omega)) x3 c3 he K 0 [] (by omega) (by omega) (by simp)
        rw [show ((0 : Nat) : Int) = 0 from rfl] at d1
        simp only [show ((0 : Nat) : Int) = 0 from rfl]
        rw [d1, cond_false]
        obtain ⟨K', hK'⟩ : ∃ k, K = k + 1 := ⟨K - 1, by omega⟩
        have : tidewrackref03_Parse_l3 K (s50 x1, (n1 : Int)) (s50 x2, (n2 : Int)) (s50 x3, (0 : Int)) K (s50 x3) [] 0 = tidewrackref03_Parse_j2 K (s50 x1, (n1 : Int)) (s50 x2, (n2 : Int)) (s50 x3) [] := by
          conv => lhs; arg 5; rw [hK']
          unfold tidewrackref03_Parse_l3
          rw [cD, if_neg (by simp)]
        rw [this]
        exact tail_both K hK s t _ _ _ _ rfl rfl x3 l1 [] c3 d2 (by omega) ho fun hx => absurd hx he
end Go.Proofs.YticilepdpobheaaDoor.Pure
