/- Plain laws: what the plain functions answer, with no program in sight. -/
import Derived.Test.YtmolecadkgffkaaDoorPK
set_option linter.unusedVariables false
set_option linter.unusedSimpArgs false
namespace Go.Proofs.YtmolecadkgffkaaDoor.Pure
open Go Go.Proofs.XC Go.Proofs.YtmolecadkgffkaaDoor

theorem awake_take {α : Type} (K : Nat) (hK : 30000 ≤ K) (g : Bool → Option α) : (tidewracklaw27_awake K).bind g = g true := by rw [awake_eq K hK, bS]
/-! ### LineTexts -/
theorem lineL_le2 (x : T25) (f : T47) (h1 : findF x.Word = some f) (h2 : fits x f) (ht : x.Text.size ≤ 1000) : IsL x (lineF x) f := (has_line h1 h2 (lineL_le x f h1 h2 ht)).2
theorem wfu32 {x : Int} (h : (Lit.int .u32 x).wf = true) : 0 ≤ x ∧ x ≤ 4294967295 := by
  simp only [Lit.wf, IntKind.min, IntKind.max, IntKind.signed, IntKind.bits] at h
  simp at h
  omega
theorem LineTexts (x0 : ByteArray) (w0 : x0.size ≤ 140737488351232) (x1 : Int) (w1 : (Lit.int .u32 x1).wf = true) (x2 : Int) (w2 : (Lit.int .u32 x2).wf = true) : ∃ K, tidewracklaw27_LineTexts K x0 x1 x2 = some true := by
  suffices h : ∀ K, 30000 ≤ K → tidewracklaw27_LineTexts K x0 x1 x2 = some true from ⟨30000, h _ (Nat.le_refl _)⟩
  intro K hK
  have hs := cut_size x0 600
  have u1 := wfu32 w1
  have u2 := wfu32 w2
  have ia := lineL_le2 ⟨⟨#[100, 111]⟩, [], cutF x0 600⟩ ⟨⟨#[100, 111]⟩, 0, true⟩ rfl ⟨rfl, .inl rfl, by intro n hn; cases hn⟩ (by dsimp only; omega)
  have ib := lineL_le2 ⟨⟨#[102, 111, 114, 103, 101]⟩, [x1, x2], cutF x0 600⟩ ⟨⟨#[102, 111, 114, 103, 101]⟩, 2, true⟩ rfl ⟨rfl, .inl rfl, by
    intro n hn
    simp only [List.mem_cons, List.mem_nil_iff, or_false] at hn
    rcases hn with rfl | rfl
    · exact ⟨u1.1, u1.2⟩
    · exact ⟨u2.1, u2.2⟩⟩ (by dsimp only; omega)
  have pa := own_parse_line K hK _ _ _ ia
  have pb := own_parse_line K hK _ _ _ ib
  unfold tidewracklaw27_LineTexts
  rw [awake_take K hK, Bool.not_true, cond_false, show (600 : Int) = ((600 : Nat) : Int) from rfl, lcut_eq, bS, w64 (x := x1) (by omega) (by omega), w64 (x := x2) (by omega) (by omega),
    own_line K hK _ (by dsimp only; omega), bS, pa, bS, own_line K hK _ (by dsimp only; omega), bS, pb, bS]
  dsimp only
  rw [cE, if_pos rfl, is_eq K hK _ (by simp), bS, cond_true, cE, if_pos rfl, is_eq K hK _ (by simp), bS]
/-! ### LineWrites -/
theorem words_loop : ∀ (k i : Nat) (l : List ByteArray), 20 < k + i → i ≤ 20 → l.length ≤ i → line_Words_l2 k l i = line_Words_j1 (l ++ (glob0.map fun f => f.word).drop i)
  | 0, i, l, h1, h2, h3 => by omega
  | k + 1, i, l, h1, h2, h3 => by
    have ih := words_loop k
    have hl : glob0.length = 20 := rfl
    unfold line_Words_l2
    rw [cD]
    by_cases c : i < 20
    · have hw : IntKind.wrap .i64 ((i : Int) + 1) = ((i + 1 : Nat) : Int) := by rw [w64 (by omega) (by omega)]; omega
      have hc : i < glob0.length := by omega
      have hd : (glob0.map fun f => f.word).drop i = glob0[i].word :: (glob0.map fun f => f.word).drop (i + 1) := by
        rw [List.drop_eq_getElem_cons (i := i) (by rw [List.length_map]; exact hc), List.getElem_map]
      rw [if_pos (by omega), if_pos (by omega), if_pos (by simp; omega), rdD_get _ _ hc, hw, ih (i + 1) _ (by omega) (by omega) (by simp; omega), hd, List.append_assoc]
      rfl
    · rw [if_neg (by omega), List.drop_eq_nil_of_le (by rw [List.length_map]; omega), List.append_nil]
theorem words_eq (K : Nat) (hK : 20 < K) : line_Words K = some (glob0.map fun f => f.word) := by
  unfold line_Words
  have := words_loop K 0 [] (by omega) (by omega) (by simp)
  rw [show ((0 : Nat) : Int) = 0 from rfl, List.drop_zero, List.nil_append] at this
  rw [this]
  unfold line_Words_j1 slices_Clone
  rw [if_pos (by decide), bS, List.nil_append]
theorem rwords_eq : tidewrackref27_Words = some (glob0.map fun f => f.word) := rfl
theorem writes_l4 (K : Nat) (p0 : T25) (a b c : ByteArray) : ∀ (k i : Nat), 20 < k + i → i ≤ 20 → tidewracklaw27_LineWrites_l4 K p0 a b c (glob0.map fun f => f.word) (glob0.map fun f => f.word) k i = tidewracklaw27_LineWrites_j3 K p0 a b c
  | 0, i, h1, h2 => by omega
  | k + 1, i, h1, h2 => by
    have ih := writes_l4 K p0 a b c k
    have hl : (glob0.map fun f => f.word).length = 20 := rfl
    unfold tidewracklaw27_LineWrites_l4
    rw [cD, hl]
    by_cases g : i < 20
    · have hw : IntKind.wrap .i64 ((i : Int) + 1) = ((i + 1 : Nat) : Int) := by rw [w64 (by omega) (by omega)]; omega
      rw [if_pos (by omega), if_pos (by omega), if_pos (by omega), cSN, if_pos rfl, hw]
      exact ih (i + 1) (by omega) (by omega)
    · rw [if_neg (by omega)]
theorem LineWrites (x0 : T25) (w0 : (WF.wfT25) x0) : ∃ K, tidewracklaw27_LineWrites K x0 = some true := by
  suffices h : ∀ K, 30000 ≤ K → tidewracklaw27_LineWrites K x0 = some true from ⟨30000, h _ (Nat.le_refl _)⟩
  intro K hK
  have s1 := cut_size x0.Word 12
  have s2 := cut_size x0.Text 200
  obtain ⟨m, hm, hm8, hme⟩ : ∃ m : Nat, m ≤ x0.Nums.length ∧ m ≤ 8 ∧ mnI (x0.Nums.length : Int) 8 = (m : Int) := by
    unfold mnI
    split
    · exact ⟨8, by omega, by omega, rfl⟩
    · exact ⟨x0.Nums.length, Nat.le_refl _, by omega, rfl⟩
  unfold tidewracklaw27_LineWrites
  rw [awake_take K hK, Bool.not_true, cond_false, show (12 : Int) = ((12 : Nat) : Int) from rfl, lcut_eq, bS, hme, Int.toNat_natCast, if_pos (by omega), if_pos (by omega), if_pos (by simp; omega), show (200 : Int) = ((200 : Nat) : Int) from rfl, lcut_eq, bS]
  unfold tidewracklaw27_LineWrites_j1
  rw [hme, Int.toNat_natCast, if_pos (by simp; omega)]
  unfold tidewracklaw27_LineWrites_j2
  rw [hme, Int.toNat_natCast]
  simp only [List.nil_append, List.drop_zero]
  rw [own_line K hK _ (by dsimp only; omega), bS, ref_line K hK _ (by dsimp only; omega), bS, cSN, if_pos rfl, words_eq K (by omega), bS, rwords_eq, bS, cN, if_pos rfl]
  have h4 := writes_l4 K x0 (cutF x0.Word 12) (cutF x0.Text 200) (lineF ⟨cutF x0.Word 12, x0.Nums.take m, cutF x0.Text 200⟩) K 0 (by omega) (by omega)
  rw [show ((0 : Nat) : Int) = 0 from rfl] at h4
  rw [h4]
  unfold tidewracklaw27_LineWrites_j3
  rw [hme, Int.toNat_natCast]
  simp only [List.nil_append, List.drop_zero]
  by_cases g : lineF ⟨cutF x0.Word 12, x0.Nums.take m, cutF x0.Text 200⟩ = ⟨#[]⟩
  · obtain ⟨r, hr, _⟩ := own_total K hK (⟨#[]⟩ : ByteArray) (by decide)
    rw [g, hr, bS, cS, if_pos rfl]
  · obtain ⟨f, hf⟩ := isL_of (x := ⟨cutF x0.Word 12, x0.Nums.take m, cutF x0.Text 200⟩) rfl g
    rw [own_parse_line K hK _ _ f hf, bS, cS, if_neg g]
    dsimp only
    rw [cE, if_pos rfl, is_eq K hK _ (by simp; omega), bS]
/-! ### LineWords -/
theorem glob_at : ∀ j : Fin 20, findF (rdD (⟨#[]⟩ : ByteArray) (glob0.map fun f => f.word) (j.val : Int)) = some (rdD zT47 glob0 (j.val : Int)) := by
  intro j
  match j with
  | ⟨0, _⟩ | ⟨1, _⟩ | ⟨2, _⟩ | ⟨3, _⟩ | ⟨4, _⟩ | ⟨5, _⟩ | ⟨6, _⟩ | ⟨7, _⟩ | ⟨8, _⟩ | ⟨9, _⟩ | ⟨10, _⟩ | ⟨11, _⟩ | ⟨12, _⟩ | ⟨13, _⟩ | ⟨14, _⟩ | ⟨15, _⟩ | ⟨16, _⟩ | ⟨17, _⟩ | ⟨18, _⟩ | ⟨19, _⟩ => rfl
  | ⟨n + 20, h⟩ => omega
theorem words_l4 (K : Nat) (p0 p1 : Int) (p2 : ByteArray) (ws : List ByteArray) (t : Int × Bool) (ht : t.1 ≤ 6) (h1 : 0 ≤ p1 ∧ p1 ≤ 4294967295) : ∀ (k i : Nat), t.1 < (k + i : Nat) → (i : Int) ≤ t.1 → tidewracklaw27_LineWords_l4 K p0 p1 p2 ws t k (List.replicate i p1) i = tidewracklaw27_LineWords_j1 K p0 p2 ws t (List.replicate t.1.toNat p1)
  | 0, i, a, b => by omega
  | k + 1, i, a, b => by
    have ih := words_l4 K p0 p1 p2 ws t ht h1 k
    unfold tidewracklaw27_LineWords_l4
    rw [cD]
    by_cases c : (i : Int) < t.1
    · have hw : IntKind.wrap .i64 ((i : Int) + 1) = ((i + 1 : Nat) : Int) := by rw [w64 (by omega) (by omega)]; omega
      rw [if_pos c, if_pos (by simp; omega), w64 (x := p1) (by omega) (by omega), hw]
      have : List.replicate i p1 ++ [p1] = List.replicate (i + 1) p1 := by rw [List.replicate_succ']
      rw [this]
      exact ih (i + 1) (by omega) (by omega)
    · rw [if_neg c]
      have : i = t.1.toNat := by omega
      rw [this]
theorem LineWords (x0 : Int) (w0 : (Lit.int .i64 x0).wf = true) (x1 : Int) (w1 : (Lit.int .u32 x1).wf = true) (x2 : ByteArray) (w2 : x2.size ≤ 140737488351232) : ∃ K, tidewracklaw27_LineWords K x0 x1 x2 = some true := by
  suffices h : ∀ K, 30000 ≤ K → tidewracklaw27_LineWords K x0 x1 x2 = some true from ⟨30000, h _ (Nat.le_refl _)⟩
  intro K hK
  have u1 := wfu32 w1
  obtain ⟨m, hm, hb⟩ := and_le x0 65535 (by decide)
  rw [show ((65535 : Nat) : Int) = 65535 from rfl] at hb
  have hj : Int.tmod (m : Int) 20 = ((m % 20 : Nat) : Int) := by rw [Int.tmod_eq_emod_of_nonneg (by omega)]; omega
  have hl : (glob0.map fun f => f.word).length = 20 := rfl
  have hg := glob_at ⟨m % 20, by omega⟩
  dsimp only at hg
  have hf := find_some hg
  unfold tidewracklaw27_LineWords
  rw [awake_take K hK, Bool.not_true, cond_false, words_eq K (by omega), bS, hl, cN, if_pos (show ((20 : Nat) : Int) = 20 from rfl), hb, hj, if_pos (by omega), form_eq, bS, hg]
  generalize hF : rdD zT47 glob0 ((m % 20 : Nat) : Int) = F at *
  generalize hW : rdD (⟨#[]⟩ : ByteArray) (glob0.map fun f => f.word) ((m % 20 : Nat) : Int) = W at *
  rw [show frm (some F) = (F.nums, F.text) from rfl]
  have h4 := words_l4 K x0 x1 x2 (glob0.map fun f => f.word) (F.nums, F.text) hf.2.2.2 u1 K 0 (by dsimp only; omega) (by dsimp only; omega)
  rw [show List.replicate 0 x1 = [] from rfl, show ((0 : Nat) : Int) = 0 from rfl] at h4
  rw [h4]
  dsimp only
  have hin : ∀ n ∈ List.replicate F.nums.toNat x1, inR n := by
    intro n hn
    rw [(List.mem_replicate.1 hn).2]
    exact u1
  have fin : ∀ t : ByteArray, t.size ≤ 100 → (F.text = true ∨ t = ⟨#[]⟩) → tidewracklaw27_LineWords_j2 K x0 (glob0.map fun f => f.word) (List.replicate F.nums.toNat x1) t = some true := by
    intro t ht hT
    have hfit : fits ⟨W, List.replicate F.nums.toNat x1, t⟩ F := ⟨by rw [List.length_replicate]; omega, hT, hin⟩
    have hI := lineL_le2 ⟨W, List.replicate F.nums.toNat x1, t⟩ F hg hfit (by dsimp only; omega)
    have hno : lineF ⟨W, List.replicate F.nums.toNat x1 ++ [1], t⟩ = ⟨#[]⟩ := by
      unfold lineF
      dsimp only
      rw [hg]
      dsimp only
      rw [if_neg]
      intro hh
      have := hh.1.1
      rw [List.length_append, List.length_replicate] at this
      simp at this
      omega
    unfold tidewracklaw27_LineWords_j2
    rw [hb, hj, hW, ref_line K hK _ (by dsimp only; omega), bS, own_parse_line K hK _ _ F hI, bS]
    dsimp only
    rw [cE, if_pos rfl, is_eq K hK _ (by dsimp only; rw [List.length_replicate]; omega), bS, cond_true, if_pos (by simp; omega), if_pos (by simp; omega), List.nil_append, own_line K hK _ (by dsimp only; omega), bS, hno, cS, if_pos rfl, own_line K hK _ (by dsimp only; omega), bS, bS]
    unfold tidewracklaw27_LineWords_j3
    rw [str_eq, decide_eq_true rfl]
  unfold tidewracklaw27_LineWords_j1
  dsimp only
  rw [cB]
  by_cases d : F.text = true
  · have hs := cut_size x2 100
    rw [if_pos d, show (100 : Int) = ((100 : Nat) : Int) from rfl, lcut_eq, bS]
    exact fin _ (by omega) (.inl d)
  · rw [if_neg d]
    exact fin _ (Nat.zero_le _) (.inr rfl)
end Go.Proofs.YtmolecadkgffkaaDoor.Pure
