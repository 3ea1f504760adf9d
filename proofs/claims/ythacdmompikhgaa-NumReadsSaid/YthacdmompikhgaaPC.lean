/- Plain laws: what the plain functions answer, with no program in sight. -/
import Derived.Test.YthacdmompikhgaaPB
set_option linter.unusedVariables false
set_option linter.unusedSimpArgs false
namespace Go.Proofs.Ythacdmompikhgaa.Pure
open Go Go.Proofs.XC Go.Proofs.Ythacdmompikhgaa

theorem iend_eq (s : ByteArray) (e : Int) : num_In_End ⟨s, e⟩ = some (if s = E0 then e else 1) := by
  unfold num_In_End
  rw [cSN]
  by_cases h : s = E0
  · rw [if_pos h, if_pos h]
  · rw [if_neg h, if_neg h]
theorem str_nil : strOfNums [] = E0 := rfl
theorem dg300 : dg 300 = [172, 2] := by rw [dg_ge (by decide), dg_lt (by decide)]; rfl
theorem awake_eq (K : Nat) (hK : 20 ≤ K) : tidewracklaw01_awake K = some true := by
  unfold tidewracklaw01_awake num_Of
  have c300 : catN [300] = [172, 2] := by
    have : clipN 300 = 300 := clip_id 300 (by decide)
    simp only [catN, List.flatMap_cons, List.flatMap_nil, this, dg300]; rfl
  have ct : catT [(⟨#[97, 98]⟩ : ByteArray)] = [2, 97, 98] := by
    simp only [catT, List.flatMap_cons, List.flatMap_nil, show (⟨#[97, 98]⟩ : ByteArray).size = 2 from rfl, dg_lt (show 2 < 128 by decide)]; rfl
  rw [bS, onum_eq K [] _ (by simp) (by simp; omega) (by simp), bS, c300, otext_eq K _ _ (by simp) (fun s hs => by simp only [List.mem_singleton] at hs; subst hs; decide) (by simp only [List.length_singleton]; omega) (by simp), bS, ct]
  unfold num_Out_Bytes
  rw [bS]
  simp only
  rw [cS, if_pos (by decide)]
  rw [inum_ok K (by omega) ⟨#[172, 2]⟩ 300 [] (by decide) (by decide) (by rw [dg300]; rfl), bS]
  simp only
  rw [cE, if_pos (by rfl), iend_eq, bS, if_pos str_nil, cE, if_pos rfl, size_eq K (by omega), bS, show clipN 300 = 300 from clip_id 300 (by decide), dg300]
  rfl
def cutF (s : ByteArray) (n : Nat) : ByteArray := if s.size > n then s.extract 0 n else s
theorem cut_eq (s : ByteArray) (n : Nat) : tidewracklaw01_Cut s (n : Int) = some (cutF s n) := by
  simp only [tidewracklaw01_Cut, cutF, cD]
  by_cases h : s.size > n
  · rw [if_pos (by omega), if_pos (by omega), if_pos (by omega), if_pos h]; simp
  · rw [if_neg (by omega), if_neg h]
theorem cut_size (s : ByteArray) (n : Nat) : (cutF s n).size ≤ n := by
  unfold cutF; split
  · simp [ByteArray.size_extract]; omega
  · omega
theorem dg_mono : ∀ (k m n : Nat), n ≤ k → m ≤ n → (dg m).length ≤ (dg n).length
  | k, m, n, hk, h => by
    by_cases c : m < 128
    · rw [dg_lt c]
      have : 1 ≤ (dg n).length := by
        by_cases c2 : n < 128
        · rw [dg_lt c2]; simp
        · rw [dg_ge c2]; simp
      simpa using this
    · rw [dg_ge c, dg_ge (n := n) (by omega)]
      cases k with
      | zero => omega
      | succ k =>
        have := dg_mono k (m / 128) (n / 128) (by omega) (by omega)
        simp only [List.length_cons]; omega
theorem clip_mono (a b : Int) : clipN (mnI a b) ≤ clipN (mxI a b) := by
  have h : ∀ x y : Int, x ≤ y → clipN x ≤ clipN y := fun x y h => by unfold clipN mxI mnI; (repeat' split) <;> omega
  apply h
  unfold mnI mxI; (repeat' split) <;> omega
theorem NumSizes (x0 : Int) (w0 : (Lit.int .i64 x0).wf = true) (x1 : Int) (w1 : (Lit.int .i64 x1).wf = true) : ∃ K, tidewracklaw01_NumSizes K x0 x1 = some true := by
  suffices h : ∀ K, 100 ≤ K → tidewracklaw01_NumSizes K x0 x1 = some true from ⟨100, h _ (Nat.le_refl _)⟩
  intro K hK
  unfold tidewracklaw01_NumSizes
  have h1 := dg9 (clip_le (mnI x0 x1))
  have h2 := dg9 (clip_le (mxI x0 x1))
  have h3 := dg_mono _ _ _ (Nat.le_refl _) (clip_mono x0 x1)
  rw [awake_eq K (by omega), bS, Bool.not_true, cond_false, size_eq K (by omega), bS, size_eq K (by omega), bS, cD, if_pos (by omega), cD, if_pos (by omega)]
  congr 1
  exact decide_eq_true (by omega)
theorem NumOnly (x0 : ByteArray) (w0 : x0.size ≤ 140737488351232) : ∃ K, tidewracklaw01_NumOnly K x0 = some true := by
  suffices h : ∀ K, 100 ≤ K → tidewracklaw01_NumOnly K x0 = some true from ⟨100, h _ (Nat.le_refl _)⟩
  intro K hK
  unfold tidewracklaw01_NumOnly
  have hz := cut_size x0 20
  rw [awake_eq K (by omega), bS, Bool.not_true, cond_false, show (20 : Int) = ((20 : Nat) : Int) from rfl, cut_eq, bS, num_Of, bS, inum_eq K (by omega) _ (by omega), bS]
  generalize cutF x0 20 = s at hz ⊢
  have hl := numsOf_len s
  cases hp : pn (numsOf s) 0 0 with
  | error c =>
    have hc : c = 1 ∨ c = 2 := by
      have : ∀ (l : List Int) (i : Nat) (n c : Int), pn l i n = .error c → c = 1 ∨ c = 2 := by
        intro l
        induction l with
        | nil => intro i n c h; simp only [pn] at h; split at h <;> (injection h with h; omega)
        | cons b bs ih =>
          intro i n c h
          simp only [pn] at h
          split at h
          · injection h with h; omega
          · split at h
            · exact ih _ _ _ h
            · split at h
              · injection h with h; omega
              · cases h
      exact this _ _ _ _ hp
    simp only [resI, num_In_Err, bS, num_In_Left]
    rw [cN, if_neg (by omega), cE, if_pos (by rfl)]
    rfl
  | ok r =>
    obtain ⟨n, k⟩ := r
    obtain ⟨m, h1, h2, h3, h4, h5, h6⟩ := pn_only _ _ _ _ _ (nums_b s) hp
    simp only [Nat.pow_zero] at h1
    have hn : n = (m : Int) := by omega
    have hcl : clipN n = m := by rw [hn]; exact clip_id m (by omega)
    have hsz : (s.extract k s.size).size = s.size - k := by rw [ext_size]; omega
    simp only [resI, num_In_Err, bS, num_In_Left]
    rw [cN, if_pos (by rfl), onum_eq K [] _ (by simp) (by simp; omega) (by simp), bS, num_Out_Bytes, bS]
    simp only [hsz]
    have e1 : IntKind.wrap .i64 (((s.size : Nat) : Int) - ((s.size - k : Nat) : Int)) = (k : Int) := by rw [w64 (by omega) (by omega)]; omega
    rw [e1, if_pos (by omega), if_pos (by omega), cS]
    have e2 : catN [n] = (numsOf s).take k := by
      simp only [catN, List.flatMap_cons, List.flatMap_nil, List.append_nil, hcl, h2, Nat.sub_zero]
    rw [if_pos (by
      apply nums_inj
      rw [List.nil_append, e2, nums_ext, nums_of_str _ (fun c hc => nums_b s c (List.mem_of_mem_take hc))]
      simp), size_eq K (by omega), bS, hcl, h2]
    simp only [List.length_take, hl]
    congr 1
    have : ((min (k - 0) s.size : Nat) : Int) = (k : Int) := by omega
    rw [this]
    simp
def tl (l : List Int) (s : ByteArray) : List Int := catN l ++ (dg s.size ++ (numsOf s ++ []))
theorem back_loop (K : Nat) (hK : 50 ≤ K) (p : List Int) (t : ByteArray) (q : List Int) (hq : q = List.drop 0 (List.take (Int.toNat (mnI ((p).length : Int) 30)) p)) (hql : q.length ≤ 30) (ht : t.size ≤ 100) : ∀ (k : Nat) (x : T62) (i : Nat), q.length < k + i → i ≤ q.length → x.e = 0 → numsOf x.s = tl (q.drop i) t →
    tidewracklaw01_NumBack_l2 K p t k x i = some true
  | 0, x, i, h, h', he, hx => by omega
  | k + 1, x, i, h, h', he, hx => by
    have ih := back_loop K hK p t q hq hql ht k
    obtain ⟨s, e⟩ := x
    simp only at he hx
    subst he
    unfold tidewracklaw01_NumBack_l2
    rw [← hq]
    have hz : s.size ≤ 1000 := by
      rw [← numsOf_len, hx]
      have h1 := catN_len (q.drop i)
      have h2 := (dg9 (n := t.size) (by omega)).2.1
      have h3 := numsOf_len t
      simp only [tl, List.length_append, List.length_drop, List.length_nil] at h1 ⊢
      omega
    by_cases hi : i < q.length
    · have hw : IntKind.wrap .i64 ((i : Int) + 1) = ((i + 1 : Nat) : Int) := by rw [w64 (by omega) (by omega)]; omega
      have he : numsOf s = dg (clipN q[i]) ++ tl (q.drop (i + 1)) t := by
        rw [hx, List.drop_eq_getElem_cons hi]
        simp only [tl, catN, List.flatMap_cons, List.append_assoc]
      have hb := he ▸ nums_b s
      rw [cD, if_pos (by omega), if_pos (by omega), inum_ok K (by omega) s _ _ (by omega) (clip_le _) he, bS]
      simp only
      rw [rdD_get _ _ hi, clip_cast, cN, if_pos rfl, hw]
      exact ih _ (i + 1) (by omega) (by omega) rfl (nums_of_str _ hb.right)
    · rw [cD, if_neg (by omega)]
      unfold tidewracklaw01_NumBack_j1
      rw [List.drop_eq_nil_of_le (by omega)] at hx
      rw [itext_ok K (by omega) s t [] (by omega) (by omega) (by rw [hx]; simp [tl, catN]), bS]
      simp only
      rw [cS, if_pos rfl, iend_eq, bS, if_pos str_nil]
      rfl
theorem NumBack (x0 : List Int) (w0 : ∀ y ∈ x0, (WF.wfi64) y) (l0 : x0.length ≤ maxLen) (x1 : ByteArray) (w1 : x1.size ≤ 140737488351232) : ∃ K, tidewracklaw01_NumBack K x0 x1 = some true := by
  suffices h : ∀ K, 1000 ≤ K → tidewracklaw01_NumBack K x0 x1 = some true from ⟨1000, h _ (Nat.le_refl _)⟩
  intro K hK
  unfold tidewracklaw01_NumBack
  have hz := cut_size x1 100
  simp only [maxLen] at l0
  rw [awake_eq K (by omega), bS, Bool.not_true, cond_false, if_pos (by unfold mnI; split <;> omega), if_pos (by unfold mnI; split <;> omega), show (100 : Int) = ((100 : Nat) : Int) from rfl, cut_eq, bS]
  obtain ⟨q, hq⟩ : ∃ q, q = List.drop 0 (List.take (Int.toNat (mnI ((x0).length : Int) 30)) x0) := ⟨_, rfl⟩
  have hql : q.length ≤ 30 := by rw [hq]; simp only [List.drop_zero, List.length_take]; unfold mnI; split <;> omega
  rw [← hq, onum_eq K [] q (by omega) (by omega) (by simp), bS]
  have h1 := catN_len q
  rw [otext_eq K _ _ (by simp) (by simp; omega) (by simp; omega) (by simp; omega), bS, num_Out_Bytes, bS, num_Of, bS]
  simp only
  have hb : B256 ([] ++ catN q ++ catT [cutF x1 100]) := (B256.append (by simpa using catN_b q) (catT_b _ (by simp; omega)))
  refine back_loop K (by omega) x0 _ q hq hql hz K _ 0 (by omega) (by omega) rfl ?_
  simp only
  rw [nums_of_str _ hb]
  simp [tl, catT]
theorem few_loop (p : List ByteArray) : ∀ (k : Nat) (l : List ByteArray) (i : Nat), 12 < k + i → i ≤ 12 → l.length ≤ i → (∀ s ∈ l, s.size ≤ 150) → ∃ r, tidewracklaw01_Few_l2 p 12 150 k l i = some r ∧ r.length ≤ 12 ∧ ∀ s ∈ r, s.size ≤ 150
  | 0, l, i, h, h', hl, hs => by omega
  | k + 1, l, i, h, h', hl, hs => by
    have ih := few_loop p k
    unfold tidewracklaw01_Few_l2
    by_cases c1 : (i : Int) < (p.length : Int)
    · by_cases c2 : (i : Int) < 12
      · have hw : IntKind.wrap .i64 ((i : Int) + 1) = ((i + 1 : Nat) : Int) := by rw [w64 (by omega) (by omega)]; omega
        rw [cD, if_pos c1, cD, if_pos c2]
        unfold tidewracklaw01_Few_j3
        rw [if_pos (by omega), show (150 : Int) = ((150 : Nat) : Int) from rfl, cut_eq, bS, if_pos (by simp; omega), hw]
        refine ih _ (i + 1) (by omega) (by omega) (by simp; omega) (fun s hs' => ?_)
        rcases List.mem_append.1 hs' with h1 | h1
        · exact hs s h1
        · simp only [List.mem_singleton] at h1; subst h1; exact cut_size _ 150
      · exact ⟨l, by rw [cD, if_pos c1, cD, if_neg c2]; rfl, by omega, hs⟩
    · exact ⟨l, by rw [cD, if_neg c1]; rfl, by omega, hs⟩
theorem texts_loop (K : Nat) (hK : 50 ≤ K) (q : List ByteArray) (hql : q.length ≤ 12) (hs : ∀ s ∈ q, s.size ≤ 150) : ∀ (k : Nat) (x : T62) (i : Nat), q.length < k + i → i ≤ q.length → x.e = 0 → numsOf x.s = catT (q.drop i) → x.s.size ≤ 160 * (q.length - i) → tidewracklaw01_NumTexts_l2 K q k x i = some true
  | 0, x, i, h, h', he, hx, hz => by omega
  | k + 1, x, i, h, h', he, hx, hz => by
    have ih := texts_loop K hK q hql hs k
    obtain ⟨s, e⟩ := x
    simp only at he hx hz
    subst he
    unfold tidewracklaw01_NumTexts_l2
    by_cases hi : i < q.length
    · have hw : IntKind.wrap .i64 ((i : Int) + 1) = ((i + 1 : Nat) : Int) := by rw [w64 (by omega) (by omega)]; omega
      have h150 := hs _ (List.getElem_mem hi)
      have he : numsOf s = dg q[i].size ++ (numsOf q[i] ++ catT (q.drop (i + 1))) := by
        rw [hx, List.drop_eq_getElem_cons hi]
        simp only [catT, List.flatMap_cons, List.append_assoc]
      have hb : B256 (catT (q.drop (i + 1))) := ((he ▸ nums_b s : B256 _).right).right
      rw [cD, if_pos (by omega), if_pos (by omega), itext_ok K (by omega) s _ _ (by omega) (by omega) he, bS]
      simp only
      rw [rdD_get _ _ hi, cSN, if_pos rfl, hw]
      refine ih _ (i + 1) (by omega) (by omega) rfl (nums_of_str _ hb) ?_
      simp only [str_len]
      have : ∀ (l : List ByteArray), (∀ s ∈ l, s.size ≤ 150) → (catT l).length ≤ 160 * l.length := by
        intro l hl
        induction l with
        | nil => simp [catT]
        | cons y l ih2 =>
          have h1 := ih2 (fun s hs => hl s (by simp [hs]))
          have h2 := hl y (by simp)
          have h3 := (dg9 (n := y.size) (by omega)).2.1
          have h4 := numsOf_len y
          simp only [catT, List.flatMap_cons, List.length_append, List.length_cons] at h1 ⊢
          omega
      have := this (q.drop (i + 1)) (fun s h => hs s (List.mem_of_mem_drop h))
      simpa using this
    · rw [cD, if_neg (by omega)]
      unfold tidewracklaw01_NumTexts_j1
      rw [List.drop_eq_nil_of_le (by omega)] at hx
      have : s = E0 := nums_inj (by rw [hx]; rfl)
      subst this
      rw [iend_eq, bS, if_pos rfl]
      rfl
theorem NumTexts (x0 : List ByteArray) (w0 : ∀ y ∈ x0, (WF.wfStr) y) (l0 : x0.length ≤ maxLen) : ∃ K, tidewracklaw01_NumTexts K x0 = some true := by
  suffices h : ∀ K, 1000 ≤ K → tidewracklaw01_NumTexts K x0 = some true from ⟨1000, h _ (Nat.le_refl _)⟩
  intro K hK
  unfold tidewracklaw01_NumTexts tidewracklaw01_Few
  obtain ⟨q, hq, hl, hs⟩ := few_loop x0 K [] 0 (by omega) (by omega) (by simp) (by simp)
  rw [show ((0 : Nat) : Int) = 0 from rfl] at hq
  rw [awake_eq K (by omega), bS, Bool.not_true, cond_false, hq, bS, otext_eq K [] q (by omega) (fun s h => by have := hs s h; omega) (by omega) (by simp), bS, num_Out_Bytes, bS, num_Of, bS]
  simp only [List.nil_append]
  have hb := catT_b q (fun s h => by have := hs s h; omega)
  refine texts_loop K (by omega) q hl hs K _ 0 (by omega) (by omega) rfl (nums_of_str _ hb) ?_
  simp only [str_len]
  have : ∀ (l : List ByteArray), (∀ s ∈ l, s.size ≤ 150) → (catT l).length ≤ 160 * l.length := by
    intro l hl
    induction l with
    | nil => simp [catT]
    | cons y l ih2 =>
      have h1 := ih2 (fun s hs => hl s (by simp [hs]))
      have h2 := hl y (by simp)
      have h3 := (dg9 (n := y.size) (by omega)).2.1
      have h4 := numsOf_len y
      simp only [catT, List.flatMap_cons, List.length_append, List.length_cons] at h1 ⊢
      omega
  exact this q hs
end Go.Proofs.Ythacdmompikhgaa.Pure
