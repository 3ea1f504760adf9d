/- Plain laws: what the plain functions answer, with no program in sight. -/
import Derived.Test.YthacdmompikhgaaPC
set_option linter.unusedVariables false
set_option linter.unusedSimpArgs false
namespace Go.Proofs.Ythacdmompikhgaa.Pure
open Go Go.Proofs.XC Go.Proofs.Ythacdmompikhgaa

/-! ### The reader and the document's, step by step -/
def s50 (x : T62) : T50 := ⟨x.s, x.e⟩
def InvI (x : T62) : Prop := (x.e ≠ 0 → x.s = E0) ∧ x.s.size ≤ 80
theorem num_both (K : Nat) (hK : 10 ≤ K) (x : T62) (h : InvI x) : ∃ n x', num_In_Num K x = some (n, x') ∧ tidewrackref01_Read K (s50 x) = some (s50 x', n) ∧ InvI x' := by
  obtain ⟨s, e⟩ := x
  by_cases he : e = 0
  · subst he
    have hz : s.size ≤ 80 := h.2
    refine ⟨_, _, inum_eq K hK s (by omega), ?_, ?_⟩
    · rw [show s50 ⟨s, 0⟩ = ⟨s, 0⟩ from rfl, rread_eq K hK s (by omega)]
      cases pn (numsOf s) 0 0 with
      | ok r => obtain ⟨n, k⟩ := r; rfl
      | error c => rfl
    · cases pn (numsOf s) 0 0 with
      | ok r => obtain ⟨n, k⟩ := r; exact ⟨fun h => absurd rfl h, by simp only [resI, ext_size]; omega⟩
      | error c => exact ⟨fun _ => rfl, by simp [resI, ByteArray.size]⟩
  · have hs : s = E0 := h.1 he
    subst hs
    refine ⟨_, _, inum_bad K hK E0 e rfl he, ?_, h⟩
    unfold tidewrackref01_Read s50
    rw [cN, if_neg he]
theorem raw_both (x : T62) (n : Int) (h : InvI x) : ∃ t x', num_In_Raw x n = some (t, x') ∧ tidewrackref01_Raw (s50 x) n = some (s50 x', t) ∧ InvI x' := by
  obtain ⟨s, e⟩ := x
  obtain ⟨m, hm⟩ : ∃ m : Nat, mxI 0 n = (m : Int) := ⟨(mxI 0 n).toNat, by unfold mxI; split <;> omega⟩
  unfold num_In_Raw tidewrackref01_Raw s50
  simp only [hm, cD, cN]
  have hz : s.size ≤ 80 := h.2
  by_cases he : e = 0
  · subst he
    rw [if_pos rfl]
    by_cases c : m > s.size
    · rw [if_pos (by omega), if_pos (by omega)]
      exact ⟨E0, ⟨E0, 2⟩, rfl, rfl, fun _ => rfl, by simp [ByteArray.size]⟩
    · rw [if_neg (by omega), if_pos (by omega), if_pos (by omega), if_neg (by omega), if_pos (by omega), if_pos (by omega)]
      exact ⟨_, _, rfl, rfl, fun h => absurd rfl h, by simp only [ext_size]; omega⟩
  · have hs : s = E0 := h.1 he
    subst hs
    rw [if_neg he]
    by_cases c : m > 0
    · rw [if_pos (by simp [ByteArray.size]; omega)]
      refine ⟨E0, ⟨E0, e⟩, ?_, rfl, h⟩
      simp only [num_In_Fail, cE, num_In_Fail_j1]
      rw [if_neg he]; rfl
    · have : m = 0 := by omega
      subst this
      rw [if_neg (by simp [ByteArray.size]), if_pos (by omega), if_pos (by simp [ByteArray.size])]
      exact ⟨E0, ⟨E0, e⟩, rfl, rfl, h⟩
theorem text_both (K : Nat) (hK : 10 ≤ K) (x : T62) (h : InvI x) : ∃ t x', num_In_Text K x = some (t, x') ∧ tidewrackref01_ReadText K (s50 x) = some (s50 x', t) ∧ InvI x' := by
  obtain ⟨n, x1, h1, h2, h3⟩ := num_both K hK x h
  obtain ⟨t, x2, h4, h5, h6⟩ := raw_both x1 n h3
  refine ⟨t, x2, ?_, ?_, h6⟩
  · unfold num_In_Text; rw [h1, bS]; simp only; rw [h4, bS]
  · unfold tidewrackref01_ReadText; rw [h2, bS]; simp only; rw [h5, bS]
def failF (x : T62) (v : Int) : T62 := if x.e = 0 ∧ v ≠ 0 then ⟨E0, v⟩ else x
theorem fail_eq (x : T62) (v : Int) : num_In_Fail x v = some (failF x v) := by
  simp only [num_In_Fail, num_In_Fail_j1, failF, cE]
  by_cases h1 : x.e = 0
  · by_cases h2 : v = 0
    · rw [if_pos h1, if_neg (by omega), show (v != 0) = false from by simpa using h2]; rfl
    · rw [if_pos h1, if_pos ⟨h1, h2⟩, show (v != 0) = true from by simpa using h2]; rfl
  · rw [if_neg h1, if_neg (fun h => h1 h.1)]; rfl
theorem fail_inv (x : T62) (v : Int) (h : InvI x) : InvI (failF x v) := by
  unfold failF
  split
  · exact ⟨fun _ => rfl, by simp [ByteArray.size]⟩
  · exact h
theorem j4_eq (i : Int) (lp : T62 → T50 → Int → Option Bool) (x : T62) (n : Int) (t : ByteArray) (h : InvI x) : tidewracklaw01_NumReads_j4 i lp x (s50 x) n n t t = lp x (s50 x) (IntKind.wrap .i64 (i + 1)) := by
  obtain ⟨s, e⟩ := x
  unfold tidewracklaw01_NumReads_j4 num_In_Left num_In_Err tidewrackref01_End s50
  rw [cN, if_pos rfl, cSN, if_pos rfl, bS, cN, if_pos rfl, bS, cN, if_pos rfl, iend_eq, bS]
  simp only [cE, cSN]
  by_cases he : e = 0
  · subst he
    rw [if_pos rfl]
    by_cases c : s = E0
    · rw [if_pos c, if_pos c, bS, cN, if_pos rfl]
    · rw [if_neg c, if_neg c, bS, cN, if_pos rfl]
  · have hs : s = E0 := h.1 he
    subst hs
    rw [if_neg he, if_pos rfl, bS, cN, if_pos rfl]
theorem reads_loop (K : Nat) (hK : 50 ≤ K) (p : List T27) : ∀ (k : Nat) (x : T62) (i : Nat), 20 < k + i → i ≤ 20 → InvI x → tidewracklaw01_NumReads_l2 K p k x (s50 x) i = some true
  | 0, x, i, h, h', hx => by omega
  | k + 1, x, i, h, h', hx => by
    have ih := reads_loop K hK p k
    unfold tidewracklaw01_NumReads_l2
    by_cases c1 : (i : Int) < (p.length : Int)
    · by_cases c2 : (i : Int) < 20
      · have hw : IntKind.wrap .i64 ((i : Int) + 1) = ((i + 1 : Nat) : Int) := by rw [w64 (by omega) (by omega)]; omega
        rw [cD, if_pos c1, cD, if_pos c2]
        unfold tidewracklaw01_NumReads_j3
        rw [if_pos (by omega)]
        obtain ⟨a, ha⟩ : ∃ a, a = rdD zT27 p (i : Int) := ⟨_, rfl⟩
        rw [← ha]
        have fin : ∀ (y : T62) (n : Int) (t : ByteArray), InvI y → tidewracklaw01_NumReads_j4 i (tidewracklaw01_NumReads_l2 K p k) y (s50 y) n n t t = some true := fun y n t hy => by
          rw [j4_eq _ _ _ _ _ hy, hw]; exact ih y (i + 1) (by omega) (by omega) hy
        rw [cE]
        by_cases k0 : a.Kind = 0
        · rw [if_pos k0]
          obtain ⟨n, y, h1, h2, h3⟩ := num_both K (by omega) x hx
          rw [h1, bS, h2, bS]
          exact fin y n E0 h3
        · rw [if_neg k0, cE]
          by_cases k1 : a.Kind = 1
          · rw [if_pos k1]
            obtain ⟨t, y, h1, h2, h3⟩ := text_both K (by omega) x hx
            rw [h1, bS, h2, bS]
            exact fin y 0 t h3
          · rw [if_neg k1, cE]
            by_cases k2 : a.Kind = 2
            · rw [if_pos k2]
              obtain ⟨t, y, h1, h2, h3⟩ := raw_both x a.N hx
              rw [h1, bS, h2, bS]
              exact fin y 0 t h3
            · rw [if_neg k2, fail_eq, bS]
              have hf := fail_inv x (bits .and .i64 a.N 7) hx
              have hfin := fin _ 0 E0 hf
              unfold tidewracklaw01_NumReads_j5
              simp only [← ha, cE, cN]
              by_cases he : x.e = 0
              · rw [show (s50 x).E = x.e from rfl, if_pos he]
                by_cases hv : bits .and .i64 a.N 7 = 0
                · rw [if_pos hv]
                  rw [show failF x (bits .and .i64 a.N 7) = x from if_neg (fun h => h.2 hv)] at hfin ⊢
                  exact hfin
                · rw [if_neg hv]
                  rw [show failF x (bits .and .i64 a.N 7) = ⟨E0, bits .and .i64 a.N 7⟩ from if_pos ⟨he, hv⟩] at hfin ⊢
                  exact hfin
              · rw [show (s50 x).E = x.e from rfl, if_neg he]
                rw [show failF x (bits .and .i64 a.N 7) = x from if_neg (fun h => he h.1)] at hfin ⊢
                exact hfin
      · rw [cD, if_pos c1, cD, if_neg c2]; rfl
    · rw [cD, if_neg c1]; rfl
theorem NumReads (x0 : ByteArray) (w0 : x0.size ≤ 140737488351232) (x1 : List T27) (w1 : ∀ y ∈ x1, (WF.wfT27) y) (l1 : x1.length ≤ maxLen) : ∃ K, tidewracklaw01_NumReads K x0 x1 = some true := by
  suffices h : ∀ K, 1000 ≤ K → tidewracklaw01_NumReads K x0 x1 = some true from ⟨1000, h _ (Nat.le_refl _)⟩
  intro K hK
  unfold tidewracklaw01_NumReads
  rw [awake_eq K (by omega), bS, Bool.not_true, cond_false, show (80 : Int) = ((80 : Nat) : Int) from rfl, cut_eq, bS, num_Of, bS]
  exact reads_loop K (by omega) x1 K ⟨cutF x0 80, 0⟩ 0 (by omega) (by omega) ⟨fun h => absurd rfl h, cut_size x0 80⟩

/-! ### The writer and the document's -/
theorem wsnoc (l : List Int) (x : ByteArray) (hb : B256 l) (h : strOfNums l = x) (m : List Int) : strOfNums (l ++ m) = x ++ strOfNums m := by rw [str_app, h]
theorem w4_eq (i : Int) (lp : List Int → ByteArray → Int → Option Bool) (l : List Int) (x : ByteArray) (h : strOfNums l = x) : tidewracklaw01_NumWrites_j4 i lp l x = lp l x (IntKind.wrap .i64 (i + 1)) := by
  unfold tidewracklaw01_NumWrites_j4 num_Out_Bytes
  rw [bS]
  simp only
  rw [cSN, if_pos h]
theorem writes_loop (K : Nat) (hK : 50 ≤ K) (p : List T27) : ∀ (k : Nat) (l : List Int) (x : ByteArray) (i : Nat), 20 < k + i → i ≤ 20 → strOfNums l = x → l.length ≤ 1000 * i → tidewracklaw01_NumWrites_l2 K p k l x i = some true
  | 0, l, x, i, h, h', hx, hl => by omega
  | k + 1, l, x, i, h, h', hx, hl => by
    have ih := writes_loop K hK p k
    unfold tidewracklaw01_NumWrites_l2
    by_cases c1 : (i : Int) < (p.length : Int)
    · by_cases c2 : (i : Int) < 20
      · have hw : IntKind.wrap .i64 ((i : Int) + 1) = ((i + 1 : Nat) : Int) := by rw [w64 (by omega) (by omega)]; omega
        rw [cD, if_pos c1, cD, if_pos c2]
        unfold tidewracklaw01_NumWrites_j3
        rw [if_pos (by omega), show (200 : Int) = ((200 : Nat) : Int) from rfl, cut_eq, bS]
        generalize rdD zT27 p (i : Int) = a
        have hcs := cut_size a.Text 200
        generalize cutF a.Text 200 = t at hcs ⊢
        have hxs : x.size = l.length := by rw [← hx, str_len]
        have htl := numsOf_len t
        have fin : ∀ (m : List Int) (y : ByteArray), strOfNums m = y → m.length ≤ 900 → tidewracklaw01_NumWrites_j4 i (tidewracklaw01_NumWrites_l2 K p k) (l ++ m) (x ++ y) = some true := fun m y hy hm => by
          have he : strOfNums (l ++ m) = x ++ y := by rw [str_app, hx, hy]
          rw [w4_eq _ _ _ _ he, hw]; exact ih _ _ (i + 1) (by omega) (by omega) he (by simp only [List.length_append]; omega)
        rw [cE]
        by_cases k0 : a.Kind = 0
        · have h9 := (dg9 (clip_le a.N)).2.1
          have hd7 : catN [a.N, 7] = dg (clipN a.N) ++ [7] := by
            simp only [catN, List.flatMap_cons, List.flatMap_nil, List.append_nil]
            rw [show clipN 7 = 7 from clip_id 7 (by decide), dg_lt (n := 7) (by decide)]; rfl
          rw [if_pos k0, onum_eq K l _ (by simp) (by simp; omega) (by omega), bS, rnum_eq K (by omega), bS]
          have h7 : (⟨#[7]⟩ : ByteArray).size = 1 := rfl
          rw [if_pos (by rw [str_len, h7]; omega), if_pos (by rw [app_size, str_len, h7]; omega), size_eq K (by omega), bS, bS, cN, str_len, if_pos rfl]
          simp only
          rw [hd7]
          exact fin _ _ (by rw [str_app]; rfl) (by simp; omega)
        · rw [if_neg k0, cE]
          by_cases k1 : a.Kind = 1
          · have h9 := (dg9 (n := t.size) (by omega)).2.1
            have hc : clipN ((t.size : Nat) : Int) = t.size := clip_id _ (by omega)
            have hd7 : catT [t, ⟨#[]⟩] = dg t.size ++ numsOf t ++ [0] := by
              simp only [catT, List.flatMap_cons, List.flatMap_nil, List.append_nil]
              rw [show (⟨#[]⟩ : ByteArray).size = 0 from rfl, dg_lt (n := 0) (by decide)]; rfl
            rw [if_pos k1, otext_eq K l _ (by simp) (fun s hs => by
              simp only [List.mem_cons, List.not_mem_nil, or_false] at hs
              rcases hs with rfl | rfl
              · omega
              · decide) (by simp; omega) (by omega), bS]
            unfold tidewrackref01_Text
            have h0 : (⟨#[0]⟩ : ByteArray).size = 1 := rfl
            rw [rnum_eq K (by omega), bS, hc, if_pos (by rw [str_len]; omega), bS, if_pos (by rw [app_size, str_len, h0]; omega), if_pos (by rw [app_size, app_size, str_len, h0]; omega)]
            simp only
            rw [hd7]
            exact fin _ _ (by rw [str_app, str_app, str_nums]; rfl) (by simp; omega)
          · rw [if_neg k1, oraw_eq K l _ (by simp) (fun s hs => by
              simp only [List.mem_cons, List.not_mem_nil, or_false, or_self] at hs
              subst hs; omega) (by simp; omega) (by omega), bS, if_pos (by omega), if_pos (by rw [app_size]; omega)]
            simp only
            refine fin _ _ ?_ ?_
            · simp only [catS, List.flatMap_cons, List.flatMap_nil, List.append_nil]
              rw [str_app, str_nums]
            · simp only [catS, List.flatMap_cons, List.flatMap_nil, List.append_nil, List.length_append]; omega
      · rw [cD, if_pos c1, cD, if_neg c2]; rfl
    · rw [cD, if_neg c1]; rfl
theorem NumWrites (x0 : List T27) (w0 : ∀ y ∈ x0, (WF.wfT27) y) (l0 : x0.length ≤ maxLen) : ∃ K, tidewracklaw01_NumWrites K x0 = some true := by
  suffices h : ∀ K, 1000 ≤ K → tidewracklaw01_NumWrites K x0 = some true from ⟨1000, h _ (Nat.le_refl _)⟩
  intro K hK
  unfold tidewracklaw01_NumWrites
  rw [awake_eq K (by omega), bS, Bool.not_true, cond_false]
  exact writes_loop K (by omega) x0 K [] ⟨#[]⟩ 0 (by omega) (by omega) rfl (by simp)
end Go.Proofs.Ythacdmompikhgaa.Pure
