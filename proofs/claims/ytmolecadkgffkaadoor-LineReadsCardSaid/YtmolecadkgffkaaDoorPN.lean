/- Plain laws: what the plain functions answer, with no program in sight. -/
import Derived.Test.YtmolecadkgffkaaDoorPM
set_option linter.unusedVariables false
set_option linter.unusedSimpArgs false
namespace Go.Proofs.YtmolecadkgffkaaDoor.Pure
open Go Go.Proofs.XC Go.Proofs.YtmolecadkgffkaaDoor

/-! ### The reference reads what is a line -/
theorem u8_id (x : Int) (h0 : 0 ≤ x) (h1 : x < 256) : IntKind.wrap .u8 x = x := by
  simp only [IntKind.wrap, IntKind.bits, IntKind.signed]
  simp
  omega
theorem drop_end {p : ByteArray} {i : Nat} {l : List Int} {c : Int} (h : (numsOf p).drop i = l ++ [c]) : p.size = i + l.length + 1 := by
  have := congrArg List.length h
  rw [List.length_drop, numsOf_len, List.length_append] at this
  simp at this
  omega
theorem text_run (K : Nat) (hK : 30000 ≤ K) (p : ByteArray) (hp : p.size ≤ 4000) (a : Nat) (N T : List Int) (hT : B256 T) (hTl : T.length ≤ 4000) : ∀ (R l : List Int) (k i : Nat), l ++ R = T → (numsOf p).drop i = encT R ++ [41] → p.size - i < k →
    tidewrackref27_Parse_l5 K p a N k i l = tidewrackref27_Parse_j4 K p a N T
  | R, l, 0, i, h1, h2, h3 => by omega
  | [], l, k + 1, i, h1, h2, h3 => by
    have hz := drop_end h2
    have : (encT []).length = 0 := rfl
    unfold tidewrackref27_Parse_l5
    rw [w64 (show -9223372036854775808 ≤ (p.size : Int) - 1 by omega) (by omega), cD, if_neg (by omega)]
    rw [List.append_nil] at h1
    rw [h1]
  | c :: R, l, k + 1, i, h1, h2, h3 => by
    have hcb : 0 ≤ c ∧ c < 256 := hT c (by rw [← h1]; simp)
    have ih := text_run K hK p hp a N T hT hTl R (l ++ [c]) k
    have hd : encT (c :: R) = encB c ++ encT R := rfl
    rw [hd, List.append_assoc] at h2
    have hll : l.length ≤ 4000 := by rw [← h1, List.length_append] at hTl; omega
    have hl1 : (l ++ [c]) ++ R = T := by rw [← h1]; simp
    unfold tidewrackref27_Parse_l5
    rw [w64 (show -9223372036854775808 ≤ (p.size : Int) - 1 by omega) (by omega), cD]
    have hi : i < p.size := by
      unfold encB at h2
      split at h2
      · exact (drop_bt h2).1
      · exact (drop_bt h2).1
    have hw : IntKind.wrap .i64 ((i : Int) + 1) = ((i + 1 : Nat) : Int) := by rw [w64 (by omega) (by omega)]; omega
    have hw2 : IntKind.wrap .i64 ((i : Int) + 2) = ((i + 2 : Nat) : Int) := by rw [w64 (by omega) (by omega)]; omega
    have hw3 : IntKind.wrap .i64 ((i : Int) + 3) = ((i + 3 : Nat) : Int) := by rw [w64 (by omega) (by omega)]; omega
    by_cases g : plainB c
    · unfold encB at h2
      rw [if_pos g] at h2
      obtain ⟨b1, b2, b3⟩ := drop_bt h2
      have hz := drop_end b3
      unfold plainB at g
      rw [if_pos (by omega), if_pos (by omega), b2, show (c == 37) = false by rw [beq_eq_false_iff_ne]; omega, cond_false]
      unfold tidewrackref27_Parse_j7 tidewrackref27_Parse_j6
      rw [cond_false, if_pos (by omega), b2, if_pos (by simp; omega), hw]
      exact ih (i + 1) hl1 b3 (by omega)
    · unfold encB at h2
      rw [if_neg g] at h2
      obtain ⟨b1, b2, b3⟩ := drop_bt h2
      obtain ⟨c1, c2, c3⟩ := drop_bt b3
      obtain ⟨d1, d2, d3⟩ := drop_bt c3
      have hz := drop_end d3
      have v1 := hv_hexD ⟨(c / 16).toNat, by omega⟩
      have v2 := hv_hexD ⟨(c % 16).toNat, by omega⟩
      have x1 : (((c / 16).toNat : Nat) : Int) = c / 16 := by omega
      have x2 : (((c % 16).toNat : Nat) : Int) = c % 16 := by omega
      simp only [x1, x2] at v1 v2
      have v4 : 16 * (c / 16) + c % 16 = c := by omega
      rw [if_pos (by omega), if_pos (by omega), b2, show ((37 : Int) == 37) = true from rfl, cond_true, hw2, decide_eq_true (by omega)]
      unfold tidewrackref27_Parse_j7
      rw [cond_true, hw, hw2, if_pos (by omega), if_pos (by omega)]
      obtain ⟨K', rfl⟩ : ∃ K', K = K' + 3 := ⟨K - 3, by omega⟩
      rw [hex2 _ _ _ _ _ (by rw [hw]; exact bt_range p (i + 1) (by omega)) (by rw [hw2]; exact bt_range p (i + 2) (by omega)), hw, hw2, c2, d2, v1, v2, v4]
      unfold tidewrackref27_Parse_j8
      rw [u8_id c hcb.1 hcb.2, if_pos (by simp; omega), hw3]
      exact ih (i + 3) hl1 d3 (by omega)
theorem dig_run (p : ByteArray) (hp : p.size ≤ 4000) (t : Int × Bool) (N : List Int) (n : Int) (lp : Int → List Int → Int → Option (T25 × Int)) (e : Int) (r : List Int) (he : e < 48 ∨ 57 < e) : ∀ (D : List Int) (k i : Nat) (v : Int) (c : Nat),
    (∀ d ∈ D, 48 ≤ d ∧ d ≤ 57) → (numsOf p).drop i = D ++ e :: r → c + D.length ≤ 10 → 0 ≤ v → v < (10 : Int) ^ c → D.length < k →
    tidewrackref27_Parse_l16 p t N n lp k i v c = tidewrackref27_Parse_j14 t N n lp ((i + D.length : Nat) : Int) (valD v D)
  | D, 0, i, v, c, h1, h2, h3, h4, h5, h6 => by omega
  | [], k + 1, i, v, c, h1, h2, h3, h4, h5, h6 => by
    obtain ⟨b1, b2, b3⟩ := drop_bt h2
    unfold tidewrackref27_Parse_l16
    rw [cD, if_pos (by omega), if_pos (by omega), b2, cD, cD]
    have hv0 : valD v [] = v := rfl
    have hl0 : ((i + ([] : List Int).length : Nat) : Int) = (i : Int) := rfl
    rw [hv0, hl0]
    rcases he with he | he
    · rw [if_neg (by omega)]
    · rw [if_pos (by omega), if_neg (by omega)]
  | d :: D, k + 1, i, v, c, h1, h2, h3, h4, h5, h6 => by
    have ih := dig_run p hp t N n lp e r he D k
    obtain ⟨b1, b2, b3⟩ := drop_bt h2
    have hd := h1 d (by simp)
    rw [List.length_cons] at h3 h6
    have hw : IntKind.wrap .i64 ((i : Int) + 1) = ((i + 1 : Nat) : Int) := by rw [w64 (by omega) (by omega)]; omega
    have hwc : IntKind.wrap .i64 ((c : Int) + 1) = ((c + 1 : Nat) : Int) := by rw [w64 (by omega) (by omega)]; omega
    have hp9 : (10 : Int) ^ c ≤ 10 ^ 9 := by
      have := Nat.pow_le_pow_right (show 10 > 0 by omega) (show c ≤ 9 by omega)
      exact_mod_cast this
    have hp9' : (10 : Int) ^ 9 = 1000000000 := by decide
    rw [hp9'] at hp9
    unfold tidewrackref27_Parse_l16
    rw [cD, if_pos (by omega), if_pos (by omega), b2, cD, cD, cD, if_pos (by omega), if_pos (by omega), if_pos (by omega)]
    unfold tidewrackref27_Parse_j17
    have w1 : IntKind.wrap .i64 (10 * v) = 10 * v := w64 (by omega) (by omega)
    have w2 : IntKind.wrap .i64 d = d := w64 (by omega) (by omega)
    have w3 : IntKind.wrap .i64 (10 * v + d) = 10 * v + d := w64 (by omega) (by omega)
    have w4 : IntKind.wrap .i64 (10 * v + d - 48) = 10 * v + (d - 48) := by rw [w64 (by omega) (by omega)]; omega
    rw [if_pos (by omega), b2, hw, hwc, w1, w2, w3, w4,
      ih (i + 1) (10 * v + (d - 48)) (c + 1) (fun z hz => h1 z (by simp [hz])) b3 (by omega) (by omega) (by rw [Int.pow_succ]; omega) (by omega)]
    have : i + 1 + D.length = i + (d :: D).length := by rw [List.length_cons]; omega
    rw [this]
    rfl
def txtL (x : T25) (f : T47) : List (List Int) := if f.text = true then [encT (numsOf x.Text)] else []
theorem encT_le4 (x : T25) (s : ByteArray) (f : T47) (h : IsL x s f) : x.Text.size ≤ 4000 := h.text
theorem text_fin (K : Nat) (hK : 30000 ≤ K) (s : ByteArray) (x : T25) (f : T47) (h : IsL x s f) (a : Nat) (ha : s.extract 0 a = x.Word) (k i : Nat) (hd : (numsOf s).drop i = joinL (txtL x f) ++ [41]) (hk : s.size < k) :
    tidewrackref27_Parse_l5 K s a x.Nums k i [] = some (x, 0) := by
  have hsz : s.size ≤ 4000 := by rw [size_nums, h.nums]; exact h.len
  obtain ⟨n1, n2, n3⟩ := h.ok
  have htx := h.text
  have hde : (numsOf s).drop i = encT (numsOf x.Text) ++ [41] := by
    rw [hd]
    unfold txtL
    by_cases d : f.text = true
    · rw [if_pos d]
      show (encT (numsOf x.Text) ++ tailL []) ++ [41] = _
      simp [tailL]
    · rw [if_neg d, n2.resolve_left d]; rfl
  rw [text_run K hK s hsz a x.Nums (numsOf x.Text) (nums_b _) (by rw [numsOf_len]; omega) (numsOf x.Text) [] k i rfl hde (by omega),
    ref_j4 K hK s a x.Nums _ (by rw [numsOf_len]; omega), str_nums, ha]
  have e : (⟨x.Word, x.Nums, x.Text⟩ : T25) = x := rfl
  rw [e, if_pos h.line]
theorem nums_run (K : Nat) (hK : 30000 ≤ K) (s : ByteArray) (x : T25) (f : T47) (h : IsL x s f) (a : Nat) (ha : s.extract 0 a = x.Word) : ∀ (k n i : Nat), 7 < k + n → n ≤ x.Nums.length → i ≤ s.size →
    (numsOf s).drop i = joinL (numL (x.Nums.drop n) ++ txtL x f) ++ [41] → tidewrackref27_Parse_l12 K s a (f.nums, f.text) k i (x.Nums.take n) n = some (x, 0)
  | 0, n, i, h1, h2, h3, h4 => by
    have hf := find_some h.hf
    obtain ⟨n1, n2, n3⟩ := h.ok
    omega
  | k + 1, n, i, h1, h2, h3, h4 => by
    have ih := nums_run K hK s x f h a ha k
    have hsz : s.size ≤ 4000 := by rw [size_nums, h.nums]; exact h.len
    have hf := find_some h.hf
    obtain ⟨n1, n2, n3⟩ := h.ok
    unfold tidewrackref27_Parse_l12
    rw [cD]
    dsimp only
    by_cases c : n < x.Nums.length
    · rw [if_pos (by omega)]
      rw [List.drop_eq_getElem_cons c] at h4
      have hN := n3 _ (List.getElem_mem c)
      have hr := digs_range (x.Nums[n]).toNat
      have hdl := digs10 hN.1 hN.2
      have hj : (numsOf s).drop i = digs (x.Nums[n]).toNat ++ (tailL (numL (x.Nums.drop (n + 1)) ++ txtL x f) ++ [41]) := by
        rw [h4, ← List.append_assoc]; rfl
      have hwn : IntKind.wrap .i64 ((n : Int) + 1) = ((n + 1 : Nat) : Int) := by rw [w64 (by omega) (by omega)]; omega
      have hap : x.Nums.take n ++ [x.Nums[n]] = x.Nums.take (n + 1) := by rw [List.take_succ_eq_append_getElem c]
      have hv : valD 0 (digs (x.Nums[n]).toNat) = x.Nums[n] := by rw [valD_digs]; unfold inR at hN; omega
      have hil : ∀ e r, (numsOf s).drop i = digs (x.Nums[n]).toNat ++ e :: r → i + (digs (x.Nums[n]).toNat).length < s.size ∧ (numsOf s).drop (i + (digs (x.Nums[n]).toNat).length) = e :: r := by
        intro e r hh
        have h5 := congrArg List.length hh
        rw [List.length_drop, numsOf_len, List.length_append, List.length_cons] at h5
        refine ⟨by omega, ?_⟩
        rw [← List.drop_drop, hh, List.drop_left']
        rfl
      have step : ∀ e r, (e < 48 ∨ 57 < e) → (numsOf s).drop i = digs (x.Nums[n]).toNat ++ e :: r → tidewrackref27_Parse_l16 s (f.nums, f.text) (x.Nums.take n) n (tidewrackref27_Parse_l12 K s a (f.nums, f.text) k) K i 0 0 =
          tidewrackref27_Parse_j14 (f.nums, f.text) (x.Nums.take n) n (tidewrackref27_Parse_l12 K s a (f.nums, f.text) k) ((i + (digs (x.Nums[n]).toNat).length : Nat) : Int) x.Nums[n] := by
        intro e r he hh
        have := dig_run s hsz (f.nums, f.text) (x.Nums.take n) n (tidewrackref27_Parse_l12 K s a (f.nums, f.text) k) e r he (digs (x.Nums[n]).toNat) K i 0 0 hr hh (by omega) (by omega) (by decide) (by omega)
        rw [hv] at this
        exact this
      have h14 : ∀ (q : Nat) (z : Nat), q ≤ 5000 → (((n : Int) < f.nums - 1 ∨ f.text = true) → z = q + 1) → (¬ (n : Int) < f.nums - 1 → f.text ≠ true → z = q) → z ≤ s.size → (numsOf s).drop z = joinL (numL (x.Nums.drop (n + 1)) ++ txtL x f) ++ [41] →
          tidewrackref27_Parse_j14 (f.nums, f.text) (x.Nums.take n) n (tidewrackref27_Parse_l12 K s a (f.nums, f.text) k) (q : Int) x.Nums[n] = some (x, 0) := by
        intro q z hq z1 z2 z3 z4
        have hwq : IntKind.wrap .i64 ((q : Int) + 1) = ((q + 1 : Nat) : Int) := by rw [w64 (by omega) (by omega)]; omega
        have go := ih (n + 1) z (by omega) (by omega) z3 z4
        unfold tidewrackref27_Parse_j14
        dsimp only
        rw [if_pos (by simp; omega), w64 (show -9223372036854775808 ≤ f.nums - 1 by omega) (by omega), cD]
        unfold tidewrackref27_Parse_j15 tidewrackref27_Parse_j13
        rw [hwq, hwn, hap]
        by_cases g1 : (n : Int) < f.nums - 1
        · rw [if_pos g1, cond_true, ← z1 (.inl g1)]; exact go
        · rw [if_neg g1]
          by_cases ht : f.text = true
          · rw [cB, if_pos ht, ← z1 (.inr ht)]; exact go
          · rw [cB, if_neg ht, ← z2 g1 ht]; exact go
      cases hrest : numL (x.Nums.drop (n + 1)) ++ txtL x f with
      | nil =>
        rw [hrest] at hj
        have hj' : (numsOf s).drop i = digs (x.Nums[n]).toNat ++ 41 :: [] := hj
        obtain ⟨k1, k2⟩ := hil _ _ hj'
        rw [step 41 [] (by omega) hj']
        have hnil := List.append_eq_nil_iff.1 hrest
        have hn1 : x.Nums.length ≤ n + 1 := by
          have := congrArg List.length hnil.1
          unfold numL at this
          simp at this
          omega
        have ht : f.text ≠ true := by
          intro ht
          have := hnil.2
          unfold txtL at this
          rw [if_pos ht] at this
          cases this
        exact h14 _ _ (by omega) (fun hh => by rcases hh with hh | hh; omega; exact absurd hh ht) (fun _ _ => rfl) (by omega) (by rw [hrest]; exact k2)
      | cons y r =>
        rw [hrest] at hj
        have hj' : (numsOf s).drop i = digs (x.Nums[n]).toNat ++ 44 :: (joinL (y :: r) ++ [41]) := by
          rw [hj]
          show _ ++ ((44 :: y ++ tailL r) ++ [41]) = _ ++ 44 :: ((y ++ tailL r) ++ [41])
          rfl
        obtain ⟨k1, k2⟩ := hil _ _ hj'
        rw [step 44 _ (by omega) hj']
        obtain ⟨m1, m2, m3⟩ := drop_bt k2
        refine h14 _ (i + (digs (x.Nums[n]).toNat).length + 1) (by omega) (fun _ => rfl) (fun g1 g2 => ?_) (by omega) (by rw [hrest]; exact m3)
        exfalso
        have e1 : x.Nums.drop (n + 1) = [] := List.drop_eq_nil_of_le (by omega)
        unfold txtL at hrest
        rw [if_neg g2, e1] at hrest
        cases hrest
    · have en : n = x.Nums.length := by omega
      have e1 : x.Nums.drop n = [] := List.drop_eq_nil_of_le (by omega)
      rw [e1] at h4
      rw [if_neg (by omega), List.take_of_length_le (by omega)]
      unfold tidewrackref27_Parse_j3
      exact text_fin K hK s x f h a ha K i h4 (by omega)
theorem ref_parse_line (K : Nat) (hK : 30000 ≤ K) (s : ByteArray) (x : T25) (f : T47) (h : IsL x s f) : tidewrackref27_Parse K s = some (x, 0) := by
  have hsz : s.size ≤ 4000 := by rw [size_nums, h.nums]; exact h.len
  have hn := h.nums
  have h40 := find_40 h.hf
  have hf := find_some h.hf
  unfold lineL at hn
  rw [List.append_assoc, List.append_assoc] at hn
  have hwl := numsOf_len x.Word
  have hsl := congrArg List.length hn
  simp only [numsOf_len, List.length_append, List.length_cons, List.length_nil] at hsl
  have hdw : (numsOf s).drop x.Word.size = 40 :: (joinL (items x f) ++ [41]) := by
    rw [hn, List.drop_left' (by omega)]; rfl
  obtain ⟨w1, w2, w3⟩ := drop_bt hdw
  unfold tidewrackref27_Parse
  rw [cD, if_neg (by omega)]
  obtain ⟨j, e1, e2, e3, e4, e5⟩ := scan40 K s (by omega) K 0 (by omega) (by omega)
  rw [show ((0 : Nat) : Int) = 0 from rfl] at e3
  have hj : j = x.Word.size := by
    rcases Nat.lt_trichotomy j x.Word.size with hlt | heq | hgt
    · exfalso
      have h5 := e5 (by omega)
      have h6 : (numsOf s)[j]'(by rw [numsOf_len]; omega) = bt s j := nums_get s j (by omega)
      have h7 : (numsOf s)[j]'(by rw [numsOf_len]; omega) = (numsOf x.Word)[j]'(by omega) := by
        simp only [hn]
        rw [List.getElem_append_left (by omega)]
      apply h40
      rw [← h5, ← h6, h7]
      exact List.getElem_mem _
    · exact heq
    · exact absurd w2 (e4 _ (by omega) hgt)
  subst hj
  have ha : s.extract 0 x.Word.size = x.Word := by
    apply nums_inj
    have : numsOf (s.extract 0 x.Word.size) = (numsOf s).take x.Word.size := by
      rw [nums_ext]
      simp
    rw [this, hn, List.take_left' (by omega)]
  rw [e3]
  unfold tidewrackref27_Parse_j1
  rw [if_pos (by omega), if_pos (by omega), form_eq, bS, Int.toNat_natCast, ha, h.hf, show frm (some f) = (f.nums, f.text) from rfl]
  dsimp only
  rw [cD, if_neg (by omega), show ((x.Word.size : Int) == (s.size : Int)) = false by rw [beq_eq_false_iff_ne]; omega]
  unfold tidewrackref27_Parse_j18 tidewrackref27_Parse_j2
  have hw : IntKind.wrap .i64 ((x.Word.size : Int) + 1) = ((x.Word.size + 1 : Nat) : Int) := by rw [w64 (by omega) (by omega)]; omega
  rw [cond_false, hw]
  exact nums_run K hK s x f h x.Word.size ha K 0 (x.Word.size + 1) (by omega) (by omega) (by omega) w3
end Go.Proofs.YtmolecadkgffkaaDoor.Pure
