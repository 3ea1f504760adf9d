/- Plain laws: what the plain functions answer, with no program in sight. -/
import Derived.Test.YteghllmaknenlaaDoorPD
set_option linter.unusedVariables false
set_option linter.unusedSimpArgs false
namespace Go.Proofs.YteghllmaknenlaaDoor.Pure
open Go Go.Proofs.XC Go.Proofs.YteghllmaknenlaaDoor

/-! ### FlowJoins -/
def tl14 (g : T24) : T49 := ⟨IntKind.wrap .i64 g.Rune, g.Style⟩
theorem told_loop (p : List T24) (hp : p.length ≤ 100000) : ∀ (k : Nat) (l : List T49) (i : Nat), p.length < k + i → i ≤ p.length → l.length ≤ i → tidewracklaw14_Told_l2 p k l i = some (l ++ (p.drop i).map tl14)
  | 0, l, i, h1, h2, h3 => by omega
  | k + 1, l, i, h1, h2, h3 => by
    have ih := told_loop p hp k
    unfold tidewracklaw14_Told_l2
    rw [cD]
    by_cases hi : i < p.length
    · have hw : IntKind.wrap .i64 ((i : Int) + 1) = ((i + 1 : Nat) : Int) := by rw [w64 (by omega) (by omega)]; omega
      rw [if_pos (by omega), if_pos (by omega), if_pos (by simp only [List.length_cons, List.length_nil]; omega), hw, ih _ (i + 1) (by omega) (by omega) (by simp only [List.length_append, List.length_cons, List.length_nil]; omega), List.drop_eq_getElem_cons hi, rdD_get _ _ hi, List.append_assoc]
      rfl
    · rw [if_neg (by omega), List.drop_eq_nil_of_le (by omega), List.map_nil, List.append_nil]; rfl
theorem told_eq (K : Nat) (p : List T24) (hp : p.length ≤ 100000) (hK : p.length < K) : tidewracklaw14_Told K p = some (p.map tl14) := by
  have := told_loop p hp K [] 0 (by omega) (by omega) (by simp)
  rw [show ((0 : Nat) : Int) = 0 from rfl, List.nil_append, List.drop_zero] at this
  exact this
theorem glyphs_loop (p : List T24) (hp : p.length ≤ 100000) : ∀ (k i : Nat), p.length < k + i → i ≤ p.length → tidewracklaw09_Glyphs_l2 p (p.map tl14) k i = some true
  | 0, i, h1, h2 => by omega
  | k + 1, i, h1, h2 => by
    have ih := glyphs_loop p hp k
    have hm : (p.map tl14).length = p.length := List.length_map _
    unfold tidewracklaw09_Glyphs_l2
    rw [cD]
    by_cases hi : i < p.length
    · have hw : IntKind.wrap .i64 ((i : Int) + 1) = ((i + 1 : Nat) : Int) := by rw [w64 (by omega) (by omega)]; omega
      rw [if_pos (by omega), if_pos (by omega), if_pos (by omega), rdD_get _ _ hi, rdD_get _ _ (by omega : i < (p.map tl14).length), List.getElem_map, cN, if_pos (show IntKind.wrap .i64 p[i].Rune = (tl14 p[i]).Rune from rfl), cN, if_pos (show p[i].Style = (tl14 p[i]).Style from rfl), hw]
      exact ih (i + 1) (by omega) (by omega)
    · rw [if_neg (by omega)]; rfl
theorem glyphs_eq (K : Nat) (p : List T24) (hp : p.length ≤ 100000) (hK : p.length < K) : tidewracklaw09_Glyphs K p (p.map tl14) = some true := by
  unfold tidewracklaw09_Glyphs
  rw [cN, if_pos (by rw [List.length_map])]
  exact glyphs_loop p hp K 0 (by omega) (by omega)
theorem grow_eq (n : Nat) (h : n ≤ 1000000) : slices_Grow n = some [] := by
  unfold slices_Grow slices_Grow_j1
  have e : IntKind.wrap .i64 ((n : Int) - IntKind.wrap .i64 (0 - ((([] : List T24)).length : Int))) = n := by
    rw [w64 (x := 0 - ((([] : List T24)).length : Int)) (by simp) (by simp)]
    rw [w64 (by simp only [List.length_nil]; omega) (by simp only [List.length_nil]; omega)]
    simp
  rw [cD, if_neg (by omega), e, cD]
  by_cases c : (n : Int) > 0
  · rw [if_pos c, if_pos (by omega), if_pos (by omega)]
  · rw [if_neg c]
theorem concat3 (rs : List (List T24)) (hr : rs.length ≤ 100000) (hf : rs.flatten.length ≤ 100000) : ∀ (k : Nat) (l : List T24) (i : Nat), rs.length < k + i → i ≤ rs.length → l.length + (rs.drop i).flatten.length ≤ 100000 → slices_Concat_l3 rs k l i = some (l ++ (rs.drop i).flatten)
  | 0, l, i, h1, h2, h3 => by omega
  | k + 1, l, i, h1, h2, h3 => by
    have ih := concat3 rs hr hf k
    unfold slices_Concat_l3
    rw [cD]
    by_cases hi : i < rs.length
    · have hw : IntKind.wrap .i64 ((i : Int) + 1) = ((i + 1 : Nat) : Int) := by rw [w64 (by omega) (by omega)]; omega
      rw [List.drop_eq_getElem_cons hi, List.flatten_cons, List.length_append] at h3
      rw [if_pos (by omega), if_pos (by omega), rdD_get _ _ hi, if_pos (by omega), hw, ih _ (i + 1) (by omega) (by omega) (by rw [List.length_append]; omega), List.drop_eq_getElem_cons hi, List.flatten_cons, List.append_assoc]
    · rw [if_neg (by omega), List.drop_eq_nil_of_le (by omega), List.flatten_nil, List.append_nil]; rfl
theorem concat4 (K : Nat) (rs : List (List T24)) (hr : rs.length ≤ 100000) (hf : rs.flatten.length ≤ 100000) : ∀ (k s i : Nat), rs.length < k + i → i ≤ rs.length → s + (rs.drop i).flatten.length ≤ 100000 → slices_Concat_l4 K rs k s i = slices_Concat_j1 K rs ((s + (rs.drop i).flatten.length : Nat) : Int)
  | 0, s, i, h1, h2, h3 => by omega
  | k + 1, s, i, h1, h2, h3 => by
    have ih := concat4 K rs hr hf k
    unfold slices_Concat_l4
    rw [cD]
    by_cases hi : i < rs.length
    · have hw : IntKind.wrap .i64 ((i : Int) + 1) = ((i + 1 : Nat) : Int) := by rw [w64 (by omega) (by omega)]; omega
      rw [List.drop_eq_getElem_cons hi, List.flatten_cons, List.length_append] at h3 ⊢
      have hw2 : IntKind.wrap .i64 ((s : Int) + ((rs[i]).length : Int)) = ((s + rs[i].length : Nat) : Int) := by rw [w64 (by omega) (by omega)]; omega
      rw [if_pos (by omega), if_pos (by omega), rdD_get _ _ hi, hw, hw2, cD, if_neg (by omega), ih _ (i + 1) (by omega) (by omega) (by omega), Nat.add_assoc]
    · rw [if_neg (by omega), List.drop_eq_nil_of_le (by omega)]; rfl
theorem join_eq (K : Nat) (rs : List (List T24)) (hr : rs.length ≤ 100000) (hf : rs.flatten.length ≤ 100000) (hK : rs.length < K) : flow_Join K rs = some rs.flatten := by
  have h4 := concat4 K rs hr hf K 0 0 (by omega) (by omega) (by rw [List.drop_zero]; omega)
  have h3 := concat3 rs hr hf K [] 0 (by omega) (by omega) (by rw [List.drop_zero, List.length_nil]; omega)
  rw [List.drop_zero] at h3 h4
  rw [List.nil_append] at h3
  unfold flow_Join slices_Concat
  rw [show (0 : Int) = ((0 : Nat) : Int) from rfl, h4]
  unfold slices_Concat_j1
  rw [grow_eq _ (by omega), bS]
  show ((slices_Concat_l3 rs K [] ((0 : Nat) : Int)).bind fun t4 => some t4) = _
  rw [h3, bS]
def hd (l : List T24) : T24 := rdD zT24 l 0
theorem good_get (w : Int) : ∀ (rs : List (List T24)), Good w rs → ∀ (i : Nat) (h : i < rs.length), sumW (ru rs[i]) ≤ w ∧ (1 < rs.length → rs[i] ≠ []) ∧ (∀ h2 : i + 1 < rs.length, 0 < (rs[i + 1]).length ∧ sumW (ru rs[i]) + W (rdD zT24 rs[i + 1] 0).Rune > w)
  | [], h, i, hi => h.elim
  | r :: t, h, 0, hi => by
    simp only [List.getElem_cons_zero, List.getElem_cons_succ]
    refine ⟨h.1, fun hl => ?_, fun h2 => ?_⟩
    · rcases h.2 with rfl | ⟨h1, _⟩
      · simp at hl
      · exact h1
    · rcases h.2 with rfl | ⟨_, ⟨g, q, u, rfl, h3⟩, _⟩
      · simp at h2
      · simp only [List.getElem_cons_zero]
        refine ⟨by simp, ?_⟩
        rw [show (0 : Int) = ((0 : Nat) : Int) from rfl, rdD_get _ _ (by simp)]
        exact h3
  | r :: t, h, i + 1, hi => by
    simp only [List.getElem_cons_succ]
    rcases h.2 with rfl | ⟨_, ⟨g, q, u, ht, _⟩, h3⟩
    · simp at hi
    · obtain ⟨g1, g2, g3⟩ := good_get w t h3 i (by simpa using hi)
      refine ⟨g1, fun _ => ?_, fun h2 => g3 (by simpa using h2)⟩
      by_cases c : 1 < t.length
      · exact g2 c
      · have : t.length = 1 := by rw [ht] at c ⊢; simp only [List.length_cons] at c ⊢; omega
        have hi0 : i = 0 := by simp only [List.length_cons] at hi; omega
        subst hi0; subst ht
        simp
theorem joins6 (K : Nat) (hK : 2000 ≤ K) (p0 : List T24) (p1 : Int) (t46 : List (List T24)) (n : Nat) (lp : Int → Option Bool) (r : List T24) (hr : rdD [] t46 n = r) (hl : r.length ≤ 1000) (h32 : IR r) : ∀ (k i : Nat) (s : Int), r.length < k + i → i ≤ r.length → 0 ≤ s → s ≤ 2 * i →
    tidewracklaw15_FlowJoins_l6 K p0 p1 t46 n lp k s i = tidewracklaw15_FlowJoins_j4 K p0 p1 t46 n lp (s + sumW (ru (r.drop i)))
  | 0, i, s, h1, h2, h3, h4 => by omega
  | k + 1, i, s, h1, h2, h3, h4 => by
    have ih := joins6 K hK p0 p1 t46 n lp r hr hl h32 k
    unfold tidewracklaw15_FlowJoins_l6
    rw [hr, cD]
    by_cases hi : i < r.length
    · have hw : IntKind.wrap .i64 ((i : Int) + 1) = ((i + 1 : Nat) : Int) := by rw [w64 (by omega) (by omega)]; omega
      have hr := h32.one (List.getElem_mem hi)
      have hW := W_range r[i].Rune
      rw [if_pos (by omega), if_pos (by omega), rdD_get _ _ hi, rof64 K (by omega) _ hr, bS, hw, w64 (by omega) (by omega), ih (i + 1) _ (by omega) (by omega) (by omega) (by omega), List.drop_eq_getElem_cons hi]
      congr 1
      show s + W r[i].Rune + sumW (ru (r.drop (i + 1))) = s + (W r[i].Rune + sumW (ru (r.drop (i + 1))))
      omega
    · rw [if_neg (by omega), List.drop_eq_nil_of_le (by omega)]
      congr 1
      simp [ru, sumW]
theorem joins2 (K : Nat) (hK : 2000 ≤ K) (p0 : List T24) (w : Int) (q : List T24) (hq : ([] : List T24) ++ List.drop 0 (List.take (Int.toNat (mnI ((p0).length : Int) 60)) p0) = q) (hl : q.length ≤ 60) (hi32 : IR q) : ∀ (k i : Nat), (rowsF q w).length < k + i → i ≤ (rowsF q w).length → tidewracklaw15_FlowJoins_l2 K p0 w (rowsF q w) k i = some true
  | 0, i, h1, h2 => by omega
  | k + 1, i, h1, h2 => by
    have ih := joins2 K hK p0 w q hq hl hi32 k
    have hf := rowsF_flat q w
    have hg := rowsF_good q w
    have hle := rowsF_len q w
    have hcw := cw_range w
    unfold tidewracklaw15_FlowJoins_l2
    rw [cD]
    generalize rowsF q w = rs at *
    by_cases hi : i < rs.length
    · have hw : IntKind.wrap .i64 ((i : Int) + 1) = ((i + 1 : Nat) : Int) := by rw [w64 (by omega) (by omega)]; omega
      have hmem := mem_len (List.getElem_mem hi)
      rw [hf] at hmem
      have h32r : ∀ r ∈ rs, IR r := fun r hr => hi32.sub fun x hx => by rw [← hf]; exact List.mem_flatten.2 ⟨r, hr, hx⟩
      obtain ⟨g1, g2, g3⟩ := good_get _ rs hg i hi
      have h6 := joins6 K hK p0 w rs i (tidewracklaw15_FlowJoins_l2 K p0 w rs k) rs[i] (rdD_get _ _ hi) (by omega) (h32r _ (List.getElem_mem hi)) K 0 0 (by omega) (by omega) (by omega) (by omega)
      rw [show ((0 : Nat) : Int) = 0 from rfl, List.drop_zero, Int.zero_add] at h6
      rw [if_pos (by omega), if_pos (by omega), h6]
      have hs := sumW_range (ru rs[i])
      rw [ru_len] at hs
      have hj3 : tidewracklaw15_FlowJoins_j3 i (tidewracklaw15_FlowJoins_l2 K p0 w rs k) = some true := by
        unfold tidewracklaw15_FlowJoins_j3
        rw [hw]
        exact ih (i + 1) (by omega) (by omega)
      have hj5 : tidewracklaw15_FlowJoins_j5 K w rs i (tidewracklaw15_FlowJoins_l2 K p0 w rs k) (sumW (ru rs[i])) = some true := by
        unfold tidewracklaw15_FlowJoins_j5
        rw [hw, cD, hj3]
        by_cases c : i + 1 < rs.length
        · obtain ⟨n1, n2⟩ := g3 c
          have hmem2 := mem_len (List.getElem_mem c)
          rw [hf] at hmem2
          have hr2 := (h32r _ (List.getElem_mem c)).one (List.getElem_mem n1)
          rw [show (0 : Int) = ((0 : Nat) : Int) from rfl, rdD_get _ _ n1] at n2
          have hW := W_range (rs[i + 1][0]).Rune
          rw [if_pos (by omega), if_pos (by omega), rdD_get _ _ c, if_pos (by omega), show (0 : Int) = ((0 : Nat) : Int) from rfl, rdD_get _ _ n1, rof64 K (by omega) _ hr2, bS, show mxI 2 (mnI w 1000) = cw w from rfl, w64 (by omega) (by omega), cD, if_neg (by omega)]
        · rw [if_neg (by omega)]
      unfold tidewracklaw15_FlowJoins_j4
      rw [hq, rdD_get _ _ hi, show mxI 2 (mnI w 1000) = cw w from rfl, hj5, cD, if_neg (by omega), cE, cD]
      by_cases c : ((rs[i]).length : Int) = 0
      · have hl1 : rs.length = 1 := by
          by_cases c2 : 1 < rs.length
          · exact absurd (List.eq_nil_of_length_eq_zero (by omega)) (g2 c2)
          · omega
        obtain ⟨a, rfl⟩ := List.length_eq_one_iff.1 hl1
        have hi0 : i = 0 := by omega
        subst hi0
        simp only [List.getElem_cons_zero] at c
        rw [← hf, if_pos (by simpa using c), if_neg (by rw [List.flatten_cons, List.flatten_nil, List.append_nil]; omega)]
      · rw [if_neg c]
    · rw [if_neg (by omega)]; rfl
theorem FlowJoins (x0 : List T24) (w0 : ∀ y ∈ x0, (WF.wfT24) y) (l0 : x0.length ≤ maxLen) (x1 : Int) (w1 : (Lit.int .i64 x1).wf = true) : ∃ K, tidewracklaw15_FlowJoins K x0 x1 = some true := by
  suffices h : ∀ K, 20000 ≤ K → tidewracklaw15_FlowJoins K x0 x1 = some true from ⟨20000, h _ (Nat.le_refl _)⟩
  intro K hK
  obtain ⟨q, hq, hl, h32⟩ := few x0 w0 60 (by omega)
  have hm : mnI (x0.length : Int) 60 = ((min x0.length 60 : Nat) : Int) := by unfold mnI; split <;> omega
  rw [show ((60 : Nat) : Int) = 60 from rfl] at hq
  have hql := hq
  rw [List.nil_append] at hql
  have hf := rowsF_flat q x1
  have hle := rowsF_len q x1
  unfold tidewracklaw15_FlowJoins
  rw [awake_eq K (by omega), bS, Bool.not_true, cond_false, if_pos (by omega), if_pos (by omega), hq, hql, if_pos (by simp only [List.length_nil]; omega), told_eq K q (by omega) (by omega), bS, cut_eq K (by omega) q x1 (by omega) h32, bS, join_eq K _ (by omega) (by rw [hf]; omega) (by omega), bS, hf, glyphs_eq K q (by omega) (by omega), bS, Bool.not_true, cond_false]
  exact joins2 K (by omega) x0 x1 q hq hl h32 K 0 (by omega) (by omega)
end Go.Proofs.YteghllmaknenlaaDoor.Pure
