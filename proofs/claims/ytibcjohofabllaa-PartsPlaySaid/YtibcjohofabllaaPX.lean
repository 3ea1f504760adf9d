/- Plain laws: what the plain functions answer, with no program in sight. -/
import Derived.Test.YtibcjohofabllaaPC
set_option linter.unusedVariables false
set_option linter.unusedSimpArgs false
namespace Go.Proofs.Ytibcjohofabllaa.Pure
open Go Go.Proofs.XC Go.Proofs.Ytibcjohofabllaa

theorem awake_eq (K : Nat) (hK : 1002 ≤ K) : tidewracklaw04_awake K = some true := by
  have hp : parts (⟨#[97, 98, 99]⟩ : ByteArray) (pn 2) = [⟨#[97, 98]⟩, ⟨#[99]⟩] := by decide +kernel
  obtain ⟨s1, e1, r1⟩ := put_eq R.zero 1 1 2 (by omega) (⟨#[99]⟩ : ByteArray) (by decide)
  obtain ⟨s2, e2, r2⟩ := put_eq r1 1 0 2 (by omega) (⟨#[97, 98]⟩ : ByteArray) (by decide)
  have k1 : putE 0 [] 1 1 2 = 0 := by decide
  have k2 : putE (putK 0 [] 1 1 2) (putH 0 [] 1 1 2) 1 0 2 = 0 := by decide
  have k3 : wholeF (putK (putK 0 [] 1 1 2) (putH 0 [] 1 1 2) 1 0 2) (putH (putK 0 [] 1 1 2) (putH 0 [] 1 1 2) 1 0 2) (putQ (putK 0 [] 1 1 2) (putH 0 [] 1 1 2) (putQ 0 [] [] 1 1 2 ⟨#[99]⟩) 1 0 2 ⟨#[97, 98]⟩) = (⟨#[97, 98, 99]⟩, true) := by decide +kernel
  have k4 : putK (putK 0 [] 1 1 2) (putH 0 [] 1 1 2) 1 0 2 = 1 := by decide
  unfold tidewracklaw04_awake
  rw [split_eq K _ (by decide) 2 hK, bS, e1, bS]
  dsimp only
  rw [e2, bS]
  dsimp only
  rw [whole_eq r2 K hK, bS, hp, k3, k1, k2]
  unfold parts_Slot_Key
  rw [bS, r2.key, k4, cE, if_pos (by rfl), if_pos (by simp), cS, if_pos (by rfl), cE, if_pos rfl, cE, if_pos rfl, cS, if_pos rfl, cond_true]
  rfl
theorem awake_take {α : Type} (K : Nat) (hK : 1002 ≤ K) (f : Bool → Option α) : (tidewracklaw04_awake K).bind f = f true := by rw [awake_eq K hK, bS]
/-! ### PartsSplit -/
theorem split_l2 (t : ByteArray) (L : List ByteArray) (hL : L.length ≤ 100000) (hs : sizes L ≤ 100000) : ∀ (f i : Nat) (x : ByteArray), L.length < f + i → i ≤ L.length → x.size + sizes (L.drop i) ≤ 100000 → tidewracklaw04_PartsSplit_l2 t L L f x i = tidewracklaw04_PartsSplit_j1 t (x ++ cat (L.drop i))
  | 0, i, x, h1, h2, h3 => by omega
  | f + 1, i, x, h1, h2, h3 => by
    have ih := split_l2 t L hL hs f
    unfold tidewracklaw04_PartsSplit_l2
    rw [cD]
    by_cases c : i < L.length
    · have hw : IntKind.wrap .i64 ((i : Int) + 1) = ((i + 1 : Nat) : Int) := by rw [w64 (by omega) (by omega)]; omega
      rw [List.drop_eq_getElem_cons c, sizes] at h3
      rw [if_pos (by omega), if_pos (by omega), if_pos (by omega), cSN, if_pos rfl, rdD_get _ _ c, if_pos (by omega), hw, ih (i + 1) _ (by omega) (by omega) (by rw [app_size]; omega), List.drop_eq_getElem_cons c, cat, app_asc]
    · rw [if_neg (by omega), List.drop_eq_nil_of_le (by omega), cat, app_empty]
theorem PartsSplit (x0 : ByteArray) (w0 : x0.size ≤ 140737488351232) (x1 : Int) (w1 : (Lit.int .i64 x1).wf = true) : ∃ K, tidewracklaw04_PartsSplit K x0 x1 = some true := by
  suffices h : ∀ K, 5000 ≤ K → tidewracklaw04_PartsSplit K x0 x1 = some true from ⟨5000, h _ (Nat.le_refl _)⟩
  intro K hK
  obtain ⟨t, ht, hs⟩ := cut_eq x0 300
  obtain ⟨n1, n2, n3⟩ := pn_range x1
  have hm := pm_le t (pn x1) n1
  have hl := parts_len t (pn x1)
  have hc := cat_parts t (pn x1) n1
  have hz := cat_size (parts t (pn x1))
  rw [hc] at hz
  unfold tidewracklaw04_PartsSplit
  rw [awake_take K (by omega), Bool.not_true, cond_false, show (300 : Int) = ((300 : Nat) : Int) from rfl, ht, bS, split_eq K t (by omega) x1 (by omega), bS, rsplit_eq K t (by omega) x1 (by omega), bS, cN, if_pos rfl]
  have := split_l2 t (parts t (pn x1)) (by omega) (by omega) K 0 ⟨#[]⟩ (by omega) (by omega) (by rw [List.drop_zero]; show 0 + _ ≤ _; omega)
  rw [List.drop_zero, empty_app, hc] at this
  rw [show (0 : Int) = ((0 : Nat) : Int) from rfl, this]
  unfold tidewracklaw04_PartsSplit_j1
  rw [beq_self_eq_true]
/-! ### PartsSizes -/
theorem sizes_l2 (size : Int) (t : ByteArray) (hs : t.size ≤ 300) : ∀ (f i : Nat), (parts t (pn size)).length < f + i → i ≤ (parts t (pn size)).length → tidewracklaw04_PartsSizes_l2 size t (parts t (pn size)) f i = some true
  | 0, i, h1, h2 => by omega
  | f + 1, i, h1, h2 => by
    have ih := sizes_l2 size t hs f
    obtain ⟨n1, n2, n3⟩ := pn_range size
    have hm := pm_le t (pn size) n1
    have hmp := pm_pos t (pn size)
    have hl := parts_len t (pn size)
    unfold tidewracklaw04_PartsSizes_l2
    rw [n3, cD]
    by_cases c : i < (parts t (pn size)).length
    · have hw : IntKind.wrap .i64 ((i : Int) + 1) = ((i + 1 : Nat) : Int) := by rw [w64 (by omega) (by omega)]; omega
      have hg : rdD (⟨#[]⟩ : ByteArray) (parts t (pn size)) (i : Int) = pc t (pn size) i := by rw [rdD_get _ _ c, parts_get]
      have hz := pc_size t (pn size) i
      have ho := off_le t (pn size) n1 i (by omega)
      have he : pc t (pn size) i = ⟨#[]⟩ → t = ⟨#[]⟩ := fun e => by
        rw [e] at hz
        have h0 : (⟨#[]⟩ : ByteArray).size = 0 := rfl
        rw [h0] at hz
        apply size_zero
        by_cases i0 : i = 0
        · subst i0; omega
        · have := ho.2 i0; omega
      have htail : (if (((pc t (pn size) i).size : Int) > ((pn size : Nat) : Int)) then (some false) else (bif (ByteArray.toList (pc t (pn size) i) == ByteArray.toList (⟨#[]⟩ : ByteArray)) then (bif (!(ByteArray.toList t == ByteArray.toList (⟨#[]⟩ : ByteArray))) then (some false) else ((tidewracklaw04_PartsSizes_l2 size t (parts t (pn size)) f) ((i + 1 : Nat) : Int))) else ((tidewracklaw04_PartsSizes_l2 size t (parts t (pn size)) f) ((i + 1 : Nat) : Int)))) = some true := by
        rw [if_neg (by omega), cS, cSN, ih (i + 1) (by omega) (by omega)]
        split
        · rename_i e
          rw [if_pos (he e)]
        · rfl
      rw [if_pos (by omega), if_pos (by omega), hg, hw, w64 (x := ((parts t (pn size)).length : Int) - 1) (by omega) (by omega)]
      simp only [cD]
      rw [htail]
      by_cases d : (i : Int) < ((parts t (pn size)).length : Int) - 1
      · have hlt := (pm_lt t (pn size) n1 i).1 (by omega)
        rw [if_pos d, cN, if_pos (by omega)]
      · rw [if_neg d]
    · rw [if_neg (by omega)]
      unfold tidewracklaw04_PartsSizes_j1
      rw [n3, if_pos (by omega), rsplit_count t (by omega) size, hl, beq_self_eq_true]
theorem PartsSizes (x0 : ByteArray) (w0 : x0.size ≤ 140737488351232) (x1 : Int) (w1 : (Lit.int .i64 x1).wf = true) : ∃ K, tidewracklaw04_PartsSizes K x0 x1 = some true := by
  suffices h : ∀ K, 5000 ≤ K → tidewracklaw04_PartsSizes K x0 x1 = some true from ⟨5000, h _ (Nat.le_refl _)⟩
  intro K hK
  obtain ⟨t, ht, hs⟩ := cut_eq x0 300
  obtain ⟨n1, n2, n3⟩ := pn_range x1
  have hm := pm_le t (pn x1) n1
  have hl := parts_len t (pn x1)
  unfold tidewracklaw04_PartsSizes
  rw [awake_take K (by omega), Bool.not_true, cond_false, show (300 : Int) = ((300 : Nat) : Int) from rfl, ht, bS, split_eq K t (by omega) x1 (by omega), bS]
  exact sizes_l2 x1 t hs K 0 (by omega) (by omega)
/-! ### PartsPlay -/
theorem putQ_grows {s : T29} {k : Int} {H : List Bool} {Q : List ByteArray} (h : R s k H Q) (key index count : Int) (v : ByteArray) (hk : putK k H key index count = k) : sizes Q ≤ sizes (putQ k H Q key index count v) := by
  unfold putK at hk
  unfold putQ
  by_cases hb : bad key index count
  · rw [if_pos hb]; omega
  · rw [if_neg hb] at hk ⊢
    by_cases c1 : key < k
    · rw [if_pos c1]; omega
    · rw [if_neg c1] at hk ⊢
      rw [if_pos hk]
      by_cases c2 : count = (H.length : Int)
      · rw [if_pos c2]
        unfold setQ
        by_cases c3 : H.getD index.toNat false = true
        · rw [if_pos c3]; omega
        · rw [if_neg c3]
          have hi : index.toNat < H.length := by unfold bad at hb; omega
          rw [sizes_set Q _ v (by rw [h.len]; exact hi) (h.empty _ (by simpa using c3))]
          omega
      · rw [if_neg c2]; omega
theorem play_j6 (K : Nat) (hK : 1002 ≤ K) {s : T29} {k : Int} {H : List Bool} {Q : List ByteArray} (h : R s k H Q) (i : Int) (lp : Int → Int → (M ByteArray) → Int → Int → (List Bool) → (List ByteArray) → Int → Option Bool) (t : ByteArray) (ht : t.size ≤ 20) (a : T42) (ha : a.Count ≤ 1000 ∨ a.Count > 4096)
    (hlp : ∀ (s' : T29) (k' : Int) (H' : List Bool) (Q' : List ByteArray), R s' k' H' Q' → lp s'.key s'.count s'.parts s'.bytes k' H' Q' (IntKind.wrap .i64 (i + 1)) = some true) :
    tidewracklaw04_PartsPlay_j6 K s.key s.count s.parts s.bytes k H Q i lp s t a = some true := by
  obtain ⟨s', e, r⟩ := put_eq h a.Key a.Index a.Count ha t (by omega)
  have hj5 : tidewracklaw04_PartsPlay_j5 K i lp s'.key s'.count s'.parts s'.bytes (putK k H a.Key a.Index a.Count) (putH k H a.Key a.Index a.Count) (putQ k H Q a.Key a.Index a.Count t) = some true := by
    unfold tidewracklaw04_PartsPlay_j5
    rw [is_eq r K hK, bS, Bool.not_true, cond_false]
    exact hlp s' _ _ _ r
  unfold tidewracklaw04_PartsPlay_j6
  rw [rput_eq h, bS]
  show ((parts_Slot_Put s a.Key a.Index a.Count t).bind _) = _
  rw [e, bS]
  dsimp only
  rw [cN, if_pos rfl]
  unfold parts_Slot_Bytes parts_Slot_Key
  simp only [bS]
  rw [cD, h.bytes, r.bytes]
  by_cases c : (sizes Q : Int) > (sizes (putQ k H Q a.Key a.Index a.Count t) : Int)
  · rw [if_pos c, cE, h.key, r.key, if_neg ?_]
    · rw [← r.bytes]; rw [r.key] at hj5; exact hj5
    · intro hk
      have := putQ_grows h a.Key a.Index a.Count t hk.symm
      omega
  · rw [if_neg c, ← r.bytes]
    exact hj5
theorem play_loop (K : Nat) (hK : 1002 ≤ K) (p0 : List T42) : ∀ (f i : Nat) (s : T29) (k : Int) (H : List Bool) (Q : List ByteArray), R s k H Q → 40 < f + i → i ≤ 40 → tidewracklaw04_PartsPlay_l2 K p0 f s.key s.count s.parts s.bytes k H Q i = some true
  | 0, i, s, k, H, Q, h, h1, h2 => by omega
  | f + 1, i, s, k, H, Q, h, h1, h2 => by
    have ih := play_loop K hK p0 f
    unfold tidewracklaw04_PartsPlay_l2
    rw [cD]
    by_cases c : (i : Int) < (p0.length : Int)
    · rw [if_pos c, cD]
      by_cases c2 : (i : Int) < 40
      · have hw : IntKind.wrap .i64 ((i : Int) + 1) = ((i + 1 : Nat) : Int) := by rw [w64 (by omega) (by omega)]; omega
        rw [if_pos c2]
        unfold tidewracklaw04_PartsPlay_j3
        rw [if_pos (by omega)]
        show ((parts_Slot_Clone s).bind _) = _
        rw [clone_eq, bS, is_eq h K hK, bS, Bool.not_true, cond_false]
        have hlp : ∀ (s' : T29) (k' : Int) (H' : List Bool) (Q' : List ByteArray), R s' k' H' Q' → tidewracklaw04_PartsPlay_l2 K p0 f s'.key s'.count s'.parts s'.bytes k' H' Q' (IntKind.wrap .i64 ((i : Int) + 1)) = some true := fun s' k' H' Q' r => by
          rw [hw]; exact ih (i + 1) s' k' H' Q' r (by omega) (by omega)
        unfold tidewracklaw04_PartsPlay_j4
        rw [cB]
        split
        · unfold parts_Slot_Forget
          rw [bS]
          unfold tidewracklaw04_PartsPlay_j5
          have hz := is_eq R.zero K hK
          show ((tidewracklaw04_Is K ⟨0, 0, M.nil, 0⟩ ⟨0, [], []⟩).bind _) = _
          rw [hz, bS, Bool.not_true, cond_false]
          exact hlp _ _ _ _ R.zero
        · obtain ⟨t, ht, hs⟩ := cut_eq ((rdD zT42 p0 i).Data) 20
          rw [show (20 : Int) = ((20 : Nat) : Int) from rfl, ht, bS, cD]
          by_cases c3 : (rdD zT42 p0 (i : Int)).Count > 40
          · rw [if_pos c3]
            unfold tidewracklaw04_PartsPlay_j7
            rw [cD]
            by_cases c4 : (rdD zT42 p0 (i : Int)).Count ≤ 4096
            · rw [if_pos c4]
              exact play_j6 K hK h _ _ t hs ⟨false, (rdD zT42 p0 i).Key, (rdD zT42 p0 i).Index, 40, (rdD zT42 p0 i).Data⟩ (.inl (by show (40 : Int) ≤ 1000; omega)) hlp
            · rw [if_neg c4]
              exact play_j6 K hK h _ _ t hs ⟨false, (rdD zT42 p0 i).Key, (rdD zT42 p0 i).Index, (rdD zT42 p0 i).Count, (rdD zT42 p0 i).Data⟩ (.inr (by show (rdD zT42 p0 (i : Int)).Count > 4096; omega)) hlp
          · rw [if_neg c3]
            unfold tidewracklaw04_PartsPlay_j7
            rw [cond_false]
            exact play_j6 K hK h _ _ t hs ⟨false, (rdD zT42 p0 i).Key, (rdD zT42 p0 i).Index, (rdD zT42 p0 i).Count, (rdD zT42 p0 i).Data⟩ (.inl (by show (rdD zT42 p0 (i : Int)).Count ≤ 1000; omega)) hlp
      · rw [if_neg c2]; rfl
    · rw [if_neg c]; rfl
theorem PartsPlay (x0 : List T42) (w0 : ∀ y ∈ x0, (WF.wfT42) y) (l0 : x0.length ≤ maxLen) : ∃ K, tidewracklaw04_PartsPlay K x0 = some true := by
  suffices h : ∀ K, 5000 ≤ K → tidewracklaw04_PartsPlay K x0 = some true from ⟨5000, h _ (Nat.le_refl _)⟩
  intro K hK
  unfold tidewracklaw04_PartsPlay
  rw [awake_take K (by omega), Bool.not_true, cond_false]
  exact play_loop K (by omega) x0 K 0 ⟨0, 0, M.nil, 0⟩ 0 [] [] R.zero (by omega) (by omega)
/-! ### PartsBack -/
def Bk (L : List ByteArray) (k : Int) (H : List Bool) (Q : List ByteArray) : Prop := k = 0 ∨ (k = 9 ∧ H.length = L.length ∧ ∀ j : Nat, H.getD j false = true → Q.getD j ⟨#[]⟩ = L.getD j ⟨#[]⟩)
theorem back_put {s : T29} {k : Int} {H : List Bool} {Q : List ByteArray} (h : R s k H Q) (L : List ByteArray) (hL : L.length ≤ 1000) (hb : Bk L k H Q) (i : Nat) (hi : i < L.length) (hv : (L.getD i ⟨#[]⟩).size ≤ 300) :
    ∃ s' H' Q', parts_Slot_Put s 9 i (L.length : Int) (L.getD i ⟨#[]⟩) = some (0, s') ∧ R s' 9 H' Q' ∧ Bk L 9 H' Q' ∧ H'.getD i false = true ∧ (k = 9 → ∀ j : Nat, H.getD j false = true → H'.getD j false = true) := by
  obtain ⟨s', e, r⟩ := put_eq h 9 i (L.length : Int) (.inl (by omega)) (L.getD i ⟨#[]⟩) hv
  have hnb : ¬ bad 9 (i : Int) (L.length : Int) := by unfold bad; omega
  have hE : putE k H 9 i (L.length : Int) = 0 := by
    unfold putE
    rw [if_neg hnb]
    rcases hb with rfl | ⟨rfl, hl, _⟩
    · simp
    · rw [if_neg (by omega), if_pos rfl, if_pos (by omega)]
  have hK : putK k H 9 i (L.length : Int) = 9 := by
    unfold putK
    rw [if_neg hnb]
    rcases hb with rfl | ⟨rfl, hl, _⟩
    · simp
    · simp
  rw [hE] at e
  rw [hK] at r
  have core : ∀ (H : List Bool) (Q : List ByteArray), H.length = L.length → Q.length = L.length → (∀ j : Nat, H.getD j false = true → Q.getD j ⟨#[]⟩ = L.getD j ⟨#[]⟩) → (setH H i).length = L.length ∧ (∀ j : Nat, (setH H i).getD j false = true → (setQ H Q i (L.getD i ⟨#[]⟩)).getD j ⟨#[]⟩ = L.getD j ⟨#[]⟩) ∧ (setH H i).getD i false = true ∧ ∀ j : Nat, H.getD j false = true → (setH H i).getD j false = true := by
    intro H Q h1 h2 h3
    unfold setH setQ
    by_cases c : H.getD i false = true
    · simp only [if_pos c]
      exact ⟨h1, h3, c, fun j hj => hj⟩
    · simp only [if_neg c]
      refine ⟨by rw [List.length_set]; exact h1, fun j hj => ?_, ?_, fun j hj => ?_⟩
      · rw [getD_set _ _ _ _ _ (by omega)] at hj ⊢
        by_cases d : i = j
        · subst d; rw [if_pos rfl]
        · rw [if_neg d] at hj ⊢; exact h3 j hj
      · rw [getD_set _ _ _ _ _ (by omega), if_pos rfl]
      · rw [getD_set _ _ _ _ _ (by omega)]
        split
        · rfl
        · exact hj
  have hlQ := h.len
  rcases hb with rfl | ⟨rfl, hl, hc⟩
  · have hH : putH 0 H 9 i (L.length : Int) = setH (List.replicate L.length false) i := by
      unfold putH; rw [if_neg hnb]; simp
    have hQ : putQ 0 H Q 9 i (L.length : Int) (L.getD i ⟨#[]⟩) = setQ (List.replicate L.length false) (List.replicate L.length ⟨#[]⟩) i (L.getD i ⟨#[]⟩) := by
      unfold putQ; rw [if_neg hnb]; simp
    rw [hH, hQ] at r
    obtain ⟨a1, a2, a3, a4⟩ := core (List.replicate L.length false) (List.replicate L.length ⟨#[]⟩) (by simp) (by simp) (fun j hj => by rw [getD_rep] at hj; cases hj)
    exact ⟨s', _, _, e, r, .inr ⟨rfl, a1, a2⟩, a3, fun h9 => by omega⟩
  · have hH : putH 9 H 9 i (L.length : Int) = setH H i := by
      unfold putH; rw [if_neg hnb, if_neg (by omega), if_pos rfl, if_pos (by omega), Int.toNat_natCast]
    have hQ : putQ 9 H Q 9 i (L.length : Int) (L.getD i ⟨#[]⟩) = setQ H Q i (L.getD i ⟨#[]⟩) := by
      unfold putQ; rw [if_neg hnb, if_neg (by omega), if_pos rfl, if_pos (by omega), Int.toNat_natCast]
    rw [hH, hQ] at r
    obtain ⟨a1, a2, a3, a4⟩ := core H Q hl (by omega) hc
    exact ⟨s', _, _, e, r, .inr ⟨rfl, a1, a2⟩, a3, fun _ => a4⟩
theorem all_numT : ∀ (H : List Bool), (∀ j : Nat, j < H.length → H.getD j false = true) → numT H = H.length
  | [], _ => rfl
  | b :: l, h => by
    have h0 := h 0 (by simp)
    simp at h0
    subst h0
    unfold numT
    rw [all_numT l fun j hj => by have := h (j + 1) (by simpa using hj); simpa using this]
    simp only [if_true, List.length_cons]; omega
theorem back_end (K : Nat) (hK : 1002 ≤ K) (t : ByteArray) (L : List ByteArray) (hc : cat L = t) (hL1 : 1 ≤ L.length) {s : T29} {H : List Bool} {Q : List ByteArray} (h : R s 9 H Q) (hb : Bk L 9 H Q) (ha : ∀ j : Nat, j < L.length → H.getD j false = true) : tidewracklaw04_PartsBack_j2 K t s.key s.count s.parts s.bytes = some true := by
  obtain ⟨_, hl, hq⟩ := hb.resolve_left (by omega)
  have hs := h.small
  have hQ : Q = L := by
    apply List.ext_getElem (by rw [h.len, hl])
    intro j h1 h2
    have := hq j (ha j h2)
    rw [getD_at _ _ _ h1, getD_at _ _ _ h2] at this
    exact this
  subst hQ
  have hn := all_numT H (fun j hj => ha j (by omega))
  have hw : wholeF 9 H Q = (t, true) := by
    unfold wholeF
    rw [if_neg (by omega), hc]
  have hf := wh_false H 0
  obtain ⟨s1, e1, r1⟩ := put_eq h 8 0 1 (by omega) (⟨#[122]⟩ : ByteArray) (by decide)
  have k1 : putE 9 H 8 0 1 = 8 := rfl
  have k2 : putK 9 H 8 0 1 = 9 := rfl
  have k3 : putH 9 H 8 0 1 = H := rfl
  have k4 : putQ 9 H Q 8 0 1 ⟨#[122]⟩ = Q := rfl
  rw [k1] at e1
  rw [k2, k3, k4] at r1
  obtain ⟨s2, e2, r2⟩ := put_eq r1 10 0 2 (by omega) (⟨#[122]⟩ : ByteArray) (by decide)
  have k5 : putE 9 H 10 0 2 = 0 := rfl
  have k6 : putQ 9 H Q 10 0 2 ⟨#[122]⟩ = [⟨#[122]⟩, ⟨#[]⟩] := rfl
  rw [k5] at e2
  unfold tidewracklaw04_PartsBack_j2
  show ((parts_Slot_Whole K s).bind _) = _
  rw [whole_eq h K hK, bS, hw, cond_true, cS, if_pos rfl]
  unfold parts_Slot_Lacks
  show (((parts_Slot_which K s false).bind _).bind _) = _
  rw [which_eq h false K hK, bS, bS, cE, if_pos (by omega)]
  unfold parts_Slot_Bytes
  rw [bS, cE, if_pos (by show s.bytes = _; rw [h.bytes, ← hc, cat_size])]
  show ((parts_Slot_Put s 8 0 1 ⟨#[122]⟩).bind _) = _
  rw [e1, bS, cE, if_pos rfl]
  dsimp only
  rw [e2, bS, cE, if_pos rfl, bS]
  dsimp only
  rw [r2.bytes, k6]
  rfl
theorem back_l3 (K : Nat) (hK : 1002 ≤ K) (t : ByteArray) (L : List ByteArray) (hc : cat L = t) (hL1 : 1 ≤ L.length) (hL : L.length ≤ 1000) (hv : ∀ x ∈ L, x.size ≤ 300) : ∀ (f i : Nat) (s : T29) (k : Int) (H : List Bool) (Q : List ByteArray), R s k H Q → Bk L k H Q → (i ≠ 0 → k = 9) → (∀ j : Nat, j < i → H.getD j false = true) → L.length < f + i → i ≤ L.length →
    tidewracklaw04_PartsBack_l3 K t L f s.key s.count s.parts s.bytes i = some true
  | 0, i, s, k, H, Q, h, hb, hk, ha, h1, h2 => by omega
  | f + 1, i, s, k, H, Q, h, hb, hk, ha, h1, h2 => by
    have ih := back_l3 K hK t L hc hL1 hL hv f
    unfold tidewracklaw04_PartsBack_l3
    rw [cD]
    by_cases c : i < L.length
    · have hw : IntKind.wrap .i64 ((i : Int) + 1) = ((i + 1 : Nat) : Int) := by rw [w64 (by omega) (by omega)]; omega
      obtain ⟨s', H', Q', e, r, b', hi, hmon⟩ := back_put h L hL hb i c (by rw [getD_at _ _ _ c]; exact hv _ (List.getElem_mem c))
      rw [if_pos (by omega), if_pos (by omega), hw, rdD_nat]
      show ((parts_Slot_Put s 9 i (L.length : Int) (L.getD i ⟨#[]⟩)).bind _) = _
      rw [e, bS, cN, if_pos rfl]
      refine ih (i + 1) s' 9 H' Q' r b' (fun _ => rfl) (fun j hj => ?_) (by omega) (by omega)
      by_cases d : j = i
      · subst d; exact hi
      · exact hmon (hk (by omega)) j (ha j (by omega))
    · have hi : i = L.length := by omega
      rw [if_neg (by omega)]
      have h9 : k = 9 := hk (by omega)
      subst h9
      exact back_end K hK t L hc hL1 h hb (fun j hj => ha j (by omega))
theorem back_l4 (K : Nat) (hK : 1002 ≤ K) (p2 : List Int) (t : ByteArray) (L : List ByteArray) (hc : cat L = t) (hL1 : 1 ≤ L.length) (hL : L.length ≤ 1000) (hv : ∀ x ∈ L, x.size ≤ 300) : ∀ (f i : Nat) (s : T29) (k : Int) (H : List Bool) (Q : List ByteArray), R s k H Q → Bk L k H Q → 40 < f + i → i ≤ 40 →
    tidewracklaw04_PartsBack_l4 K p2 t L f s.key s.count s.parts s.bytes i = some true
  | 0, i, s, k, H, Q, h, hb, h1, h2 => by omega
  | f + 1, i, s, k, H, Q, h, hb, h1, h2 => by
    have ih := back_l4 K hK p2 t L hc hL1 hL hv f
    have hj1 : tidewracklaw04_PartsBack_j1 K t L s.key s.count s.parts s.bytes = some true := back_l3 K hK t L hc hL1 hL hv K 0 s k H Q h hb (fun h => absurd rfl h) (fun j hj => by omega) (by omega) (by omega)
    unfold tidewracklaw04_PartsBack_l4
    rw [cD]
    by_cases c : (i : Int) < (p2.length : Int)
    · rw [if_pos c, cD]
      by_cases c2 : (i : Int) < 40
      · have hw : IntKind.wrap .i64 ((i : Int) + 1) = ((i + 1 : Nat) : Int) := by rw [w64 (by omega) (by omega)]; omega
        obtain ⟨n, hn, he⟩ := and_le (rdD 0 p2 (i : Int)) 65535 (by omega)
        have hmod : n % L.length < L.length := Nat.mod_lt _ (by omega)
        rw [if_pos c2]
        unfold tidewracklaw04_PartsBack_j5
        have he' : bits .and .i64 (rdD 0 p2 (i : Int)) 65535 = (n : Int) := he
        rw [if_pos (by omega), if_pos (by omega), he', tmod_nat, if_pos (by omega), rdD_nat]
        obtain ⟨s', H', Q', e, r, b', hi, hmon⟩ := back_put h L hL hb (n % L.length) hmod (by rw [getD_at _ _ _ hmod]; exact hv _ (List.getElem_mem hmod))
        show ((parts_Slot_Put s 9 ((n % L.length : Nat) : Int) (L.length : Int) (L.getD (n % L.length) ⟨#[]⟩)).bind _) = _
        rw [e, bS, cN, if_pos rfl, hw]
        exact ih (i + 1) s' 9 H' Q' r b' (by omega) (by omega)
      · rw [if_neg c2]; exact hj1
    · rw [if_neg c]; exact hj1
theorem PartsBack (x0 : ByteArray) (w0 : x0.size ≤ 140737488351232) (x1 : Int) (w1 : (Lit.int .i64 x1).wf = true) (x2 : List Int) (w2 : ∀ y ∈ x2, (WF.wfi64) y) (l2 : x2.length ≤ maxLen) : ∃ K, tidewracklaw04_PartsBack K x0 x1 x2 = some true := by
  suffices h : ∀ K, 5000 ≤ K → tidewracklaw04_PartsBack K x0 x1 x2 = some true from ⟨5000, h _ (Nat.le_refl _)⟩
  intro K hK
  obtain ⟨t, ht, hs⟩ := cut_eq x0 300
  obtain ⟨n1, n2, n3⟩ := pn_range x1
  have hm := pm_le t (pn x1) n1
  have hmp := pm_pos t (pn x1)
  have hl := parts_len t (pn x1)
  have hc := cat_parts t (pn x1) n1
  unfold tidewracklaw04_PartsBack
  rw [awake_take K (by omega), Bool.not_true, cond_false, show (300 : Int) = ((300 : Nat) : Int) from rfl, ht, bS, split_eq K t (by omega) x1 (by omega), bS, cE, if_neg (by omega)]
  refine back_l4 K (by omega) x2 t _ hc (by omega) (by omega) (fun x hx => ?_) K 0 ⟨0, 0, M.nil, 0⟩ 0 [] [] R.zero (.inl rfl) (by omega) (by omega)
  obtain ⟨j, hj, rfl⟩ := List.mem_iff_getElem.1 hx
  rw [parts_get, pc_size]
  omega
end Go.Proofs.Ytibcjohofabllaa.Pure
