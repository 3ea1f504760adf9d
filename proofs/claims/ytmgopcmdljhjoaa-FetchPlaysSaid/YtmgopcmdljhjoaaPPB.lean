/- Plain laws: what the plain functions answer, with no program in sight. -/
import Derived.Test.YtmgopcmdljhjoaaPPA
set_option linter.unusedVariables false
set_option linter.unusedSimpArgs false
namespace Go.Proofs.Ytmgopcmdljhjoaa.Pure
open Go Go.Proofs.XC Go.Proofs.Ytmgopcmdljhjoaa

/-! ### The program's operations -/
def clampI (n : Int) : Int := mxI (-1152921504606846976) (mnI n 1152921504606846976)
def fitF (x : T30) : T30 := ⟨clampI x.From, clampI x.To⟩
theorem clamp_bd (n : Int) : -1152921504606846976 ≤ clampI n ∧ clampI n ≤ 1152921504606846976 := by unfold clampI mxI mnI; (repeat' split) <;> omega
theorem clamp_id {n : Int} (h : -1152921504606846976 ≤ n ∧ n ≤ 1152921504606846976) : clampI n = n := by unfold clampI mxI mnI; (repeat' split) <;> omega
theorem fit_bd (x : T30) : Bd [fitF x] := fun z hz => by
  simp only [List.mem_singleton] at hz
  subst hz
  have := clamp_bd x.From; have := clamp_bd x.To
  simp only [fitF]; omega
theorem fit_id {x : T30} (h : Bd [x]) : fitF x = x := by
  obtain ⟨a, b⟩ := x
  have := h _ (List.mem_singleton.2 rfl)
  simp only at this
  unfold fitF
  simp only
  rw [clamp_id (by omega), clamp_id (by omega)]
def addS (l : List T30) (x : T30) : List T30 := if (fitF x).From < (fitF x).To then add1 (fitF x) l else l
def cutS (l : List T30) (x : T30) : List T30 := if (fitF x).From < (fitF x).To then cut1 (fitF x) l else l
theorem addS_len (l : List T30) (x : T30) : (addS l x).length ≤ l.length + 1 := by
  unfold addS; split
  · exact add1_len l _
  · omega
theorem concat3 (p : List (List T30)) (hp : p.length ≤ 100) (hb : ∀ q ∈ p, q.length ≤ 100000) : ∀ (k i : Nat) (acc : List T30), p.length < k + i → i ≤ p.length → acc.length ≤ 100000 * i → slices_Concat_l3 p k acc i = some (acc ++ (p.drop i).flatten)
  | 0, i, acc, h1, h2, h3 => by omega
  | k + 1, i, acc, h1, h2, h3 => by
    have ih := concat3 p hp hb k
    unfold slices_Concat_l3
    rw [cD]
    by_cases hi : i < p.length
    · have hw : IntKind.wrap .i64 ((i : Int) + 1) = ((i + 1 : Nat) : Int) := by rw [w64 (by omega) (by omega)]; omega
      have hq := hb _ (List.getElem_mem hi)
      rw [if_pos (by omega), if_pos (by omega), rdD_get _ _ hi, if_pos (by omega), hw, ih (i + 1) _ (by omega) (by omega) (by rw [List.length_append]; omega), List.drop_eq_getElem_cons hi, List.flatten_cons, List.append_assoc]
    · rw [if_neg (by omega), List.drop_eq_nil_of_le (by omega)]
      simp [slices_Concat_j2]
theorem grow_eq (n : Nat) (h : n ≤ 1000000000) : slices_Grow n = some [] := by
  unfold slices_Grow slices_Grow_j1
  have e : IntKind.wrap .i64 ((n : Int) - IntKind.wrap .i64 (0 - ((([] : List T30)).length : Int))) = n := by
    rw [show 0 - ((([] : List T30)).length : Int) = 0 from rfl, w64 (x := 0) (by decide) (by decide), Int.sub_zero, w64 (by omega) (by omega)]
  rw [cD, if_neg (by omega), e, cD]
  by_cases c : (n : Int) > 0
  · rw [if_pos c, if_pos (by omega), if_pos (by omega)]
  · rw [if_neg c]
theorem concat4 (K : Nat) (p : List (List T30)) (hp : p.length ≤ 100) (hb : ∀ q ∈ p, q.length ≤ 100000) (hK : p.length < K) : ∀ (k i s : Nat), p.length < k + i → i ≤ p.length → s ≤ 100000 * i → slices_Concat_l4 K p k s i = some p.flatten
  | 0, i, s, h1, h2, h3 => by omega
  | k + 1, i, s, h1, h2, h3 => by
    have ih := concat4 K p hp hb hK k
    unfold slices_Concat_l4
    rw [cD]
    by_cases hi : i < p.length
    · have hw : IntKind.wrap .i64 ((i : Int) + 1) = ((i + 1 : Nat) : Int) := by rw [w64 (by omega) (by omega)]; omega
      have hq := hb _ (List.getElem_mem hi)
      have hw2 : IntKind.wrap .i64 ((s : Int) + (p[i].length : Int)) = ((s + p[i].length : Nat) : Int) := by rw [w64 (by omega) (by omega)]; omega
      rw [if_pos (by omega), if_pos (by omega), rdD_get _ _ hi, hw2, cD, if_neg (by omega), hw]
      exact ih (i + 1) _ (by omega) (by omega) (by omega)
    · rw [if_neg (by omega)]
      unfold slices_Concat_j1
      have := concat3 p hp hb K 0 [] (by omega) (by omega) (by simp)
      rw [show ((0 : Nat) : Int) = 0 from rfl] at this
      rw [grow_eq s (by omega), bS, this]; rfl
theorem concat_eq (K : Nat) (p : List (List T30)) (hp : p.length ≤ 100) (hb : ∀ q ∈ p, q.length ≤ 100000) (hK : p.length < K) : slices_Concat K p = some p.flatten := by
  unfold slices_Concat
  exact concat4 K p hp hb hK K 0 0 (by omega) (by omega) (by omega)
theorem add_loop (K : Nat) (hK : 100 ≤ K) (l : List T30) (hl : l.length ≤ 10000) (x6 : Int) (lp : List T30 → Int → Option T48) : ∀ (k i : Nat) (x : T30) (out : List T30), l.length < k + i → i ≤ l.length → out.length ≤ i →
    spans_Set_Add_l4 K l x6 lp k x out i = lp (out ++ add1 x (l.drop i)) (IntKind.wrap .i64 (x6 + 1))
  | 0, i, x, out, h1, h2, h3 => by omega
  | k + 1, i, x, out, h1, h2, h3 => by
    have ih := add_loop K hK l hl x6 lp k
    unfold spans_Set_Add_l4
    rw [cD]
    by_cases hi : i < l.length
    · have hw : IntKind.wrap .i64 ((i : Int) + 1) = ((i + 1 : Nat) : Int) := by rw [w64 (by omega) (by omega)]; omega
      rw [if_pos (by omega), if_pos (by omega), rdD_get _ _ hi, cD, cD, hw, List.drop_eq_getElem_cons hi]
      unfold add1
      by_cases c1 : l[i].To < x.From
      · rw [if_pos c1, if_pos c1, if_pos (by simp only [List.length_cons, List.length_nil]; omega), ih (i + 1) _ _ (by omega) (by omega) (by simp only [List.length_append, List.length_cons, List.length_nil]; omega), List.append_assoc]; rfl
      · rw [if_neg c1, if_neg c1]
        by_cases c2 : l[i].From > x.To
        · rw [if_pos c2, if_pos c2, if_pos (by omega), if_pos (by omega), concat_eq K _ (by simp) (fun q hq => by
            simp only [List.mem_cons, List.not_mem_nil, or_false] at hq
            rcases hq with rfl | rfl | rfl
            · omega
            · simp
            · simp only [List.length_drop, List.length_take]; omega) (by simp only [List.length_cons, List.length_nil]; omega), bS]
          unfold spans_Set_Add_j5 spans_Set_Add_j2
          congr 1
          rw [List.take_length, Int.toNat_natCast, List.drop_eq_getElem_cons hi]
          simp
        · rw [if_neg c2, if_neg c2, ih (i + 1) _ _ (by omega) (by omega) (by omega)]
          rfl
    · rw [if_neg (by omega), List.drop_eq_nil_of_le (by omega)]
      unfold spans_Set_Add_j3 spans_Set_Add_j2
      rw [if_pos (by simp only [List.length_cons, List.length_nil]; omega)]
      rfl
theorem adds_loop (K : Nat) (hK : 20000 ≤ K) (p : List T30) (hp : p.length ≤ 5000) : ∀ (k i : Nat) (l : List T30), p.length < k + i → i ≤ p.length → l.length + p.length ≤ 5000 + i → spans_Set_Add_l1 K p k l i = some ⟨(p.drop i).foldl addS l⟩
  | 0, i, l, h1, h2, h3 => by omega
  | k + 1, i, l, h1, h2, h3 => by
    have ih := adds_loop K hK p hp k
    unfold spans_Set_Add_l1
    rw [cD]
    by_cases hi : i < p.length
    · have hw : IntKind.wrap .i64 ((i : Int) + 1) = ((i + 1 : Nat) : Int) := by rw [w64 (by omega) (by omega)]; omega
      have hal := addS_len l p[i]
      rw [if_pos (by omega), if_pos (by omega), rdD_get _ _ hi, List.drop_eq_getElem_cons hi, List.foldl_cons]
      unfold spans_Span_fit spans_Span_empty
      rw [bS, bS, cD]
      have e : (⟨mxI (-1152921504606846976) (mnI p[i].From 1152921504606846976), mxI (-1152921504606846976) (mnI p[i].To 1152921504606846976)⟩ : T30) = fitF p[i] := rfl
      rw [e]
      by_cases c : (fitF p[i]).To ≤ (fitF p[i]).From
      · have e2 : addS l p[i] = l := if_neg (by omega)
        rw [if_pos c, e2]
        unfold spans_Set_Add_j2
        rw [hw]
        exact ih (i + 1) l (by omega) (by omega) (by omega)
      · have e2 : addS l p[i] = add1 (fitF p[i]) l := if_pos (by omega)
        have := add_loop K (by omega) l (by omega) i (spans_Set_Add_l1 K p k) K 0 (fitF p[i]) [] (by omega) (by omega) (by simp)
        rw [show ((0 : Nat) : Int) = 0 from rfl, List.drop_zero, List.nil_append] at this
        rw [if_neg c, this, hw, ← e2]
        exact ih (i + 1) _ (by omega) (by omega) (by omega)
    · rw [if_neg (by omega), List.drop_eq_nil_of_le (by omega)]; rfl
theorem add_eq (K : Nat) (hK : 20000 ≤ K) (l p : List T30) (h : l.length + p.length ≤ 5000) : spans_Set_Add K ⟨l⟩ p = some ⟨p.foldl addS l⟩ := by
  have := adds_loop K hK p (by omega) K 0 l (by omega) (by omega) (by omega)
  unfold spans_Set_Add
  simpa using this
theorem rest_loop (x6 : Int) (lp : List T30 → Int → Option T48) : ∀ (ys out : List T30), ys.length + out.length ≤ 100000 → spans_Set_Cut_r4 x6 lp ys out = lp (out ++ ys) (IntKind.wrap .i64 (x6 + 1))
  | [], out, h => by simp [spans_Set_Cut_r4, spans_Set_Cut_j3, spans_Set_Cut_j2]
  | y :: ys, out, h => by
    simp only [List.length_cons] at h
    unfold spans_Set_Cut_r4
    rw [if_pos (by simp only [List.length_cons, List.length_nil]; omega), rest_loop x6 lp ys _ (by simp only [List.length_append, List.length_cons, List.length_nil]; omega)]
    simp
theorem part_loop (p1 : List T30) (x : T30) (i : Nat) (hi : i < p1.length) (lp : Int → Option (List T30)) (r : List T30) (hr : lp (IntKind.wrap .i64 ((i : Int) + 1)) = some r) (K : Nat) (hK : 10 ≤ K) : spans_without_1_l3 p1 x i lp K 0 = some (parts x p1[i] ++ r) := by
  obtain ⟨k, rfl⟩ : ∃ k, K = k + 3 := ⟨K - 3, by omega⟩
  have hl : ∀ (a b : T30), ((([a, b] : List T30)).length : Int) = 2 := fun _ _ => rfl
  have step : ∀ (k j : Nat), spans_without_1_l3 p1 x i lp (k + 1) j = if j < 2 then (bif !(decide ((rdD zT30 [(⟨p1[i].From, mnI p1[i].To x.From⟩ : T30), ⟨mxI p1[i].From x.To, p1[i].To⟩] j).To ≤ (rdD zT30 [(⟨p1[i].From, mnI p1[i].To x.From⟩ : T30), ⟨mxI p1[i].From x.To, p1[i].To⟩] j).From)) then Option.map (List.cons (rdD zT30 [(⟨p1[i].From, mnI p1[i].To x.From⟩ : T30), ⟨mxI p1[i].From x.To, p1[i].To⟩] j)) (spans_without_1_l3 p1 x i lp k ((j + 1 : Nat) : Int)) else spans_without_1_l3 p1 x i lp k ((j + 1 : Nat) : Int)) else some r := fun k j => by
    conv => lhs; unfold spans_without_1_l3
    rw [rdD_get _ _ hi, hl, cD]
    by_cases hj : j < 2
    · have hw : IntKind.wrap .i64 ((j : Int) + 1) = ((j + 1 : Nat) : Int) := by rw [w64 (by omega) (by omega)]; omega
      rw [if_pos (by omega), if_pos (by omega), if_pos hj, hw]
      unfold spans_Span_empty
      rw [bS]
    · rw [if_neg (by omega), if_neg hj]
      unfold spans_without_1_j2
      exact hr
  have s0 := step (k + 2) 0
  have s1 := step (k + 1) 1
  have s2 := step k 2
  rw [show ((0 : Nat) : Int) = 0 from rfl] at s0
  rw [s0, if_pos (by omega), s1, if_pos (by omega), s2, if_neg (by omega)]
  simp only [rdD, Int.toNat_zero, Int.toNat_natCast, List.getD_cons_zero, List.getD_cons_succ]
  unfold parts ne
  simp only [List.filter_cons, List.filter_nil]
  by_cases c1 : p1[i].From < mnI p1[i].To x.From
  · by_cases c2 : mxI p1[i].From x.To < p1[i].To
    · rw [decide_eq_false (by omega), decide_eq_false (by omega)]; simp [c1, c2]
    · rw [decide_eq_false (by omega), decide_eq_true (by omega)]; simp [c1, c2]
  · by_cases c2 : mxI p1[i].From x.To < p1[i].To
    · rw [decide_eq_true (by omega), decide_eq_false (by omega)]; simp [c1, c2]
    · rw [decide_eq_true (by omega), decide_eq_true (by omega)]; simp [c1, c2]
theorem without_loop (K : Nat) (hK : 10 ≤ K) (p1 : List T30) (hp : p1.length ≤ 100000) (x : T30) : ∀ (k i : Nat), p1.length < k + i → i ≤ p1.length → spans_without_1_l1 K p1 x k i = some (cut1 x (p1.drop i))
  | 0, i, h1, h2 => by omega
  | k + 1, i, h1, h2 => by
    have ih := without_loop K hK p1 hp x k
    unfold spans_without_1_l1
    rw [cD]
    by_cases hi : i < p1.length
    · have hw : IntKind.wrap .i64 ((i : Int) + 1) = ((i + 1 : Nat) : Int) := by rw [w64 (by omega) (by omega)]; omega
      rw [if_pos (by omega), if_pos (by omega), part_loop p1 x i hi _ (cut1 x (p1.drop (i + 1))) (by rw [hw]; exact ih (i + 1) (by omega) (by omega)) K hK, List.drop_eq_getElem_cons hi]
      rfl
    · rw [if_neg (by omega), List.drop_eq_nil_of_le (by omega)]; rfl
theorem without_eq (K : Nat) (hK : 10 ≤ K) (p1 : List T30) (hp : p1.length ≤ 100000) (hp2 : p1.length < K) (x : T30) : spans_without_1 K p1 x = some (cut1 x p1) := by
  have := without_loop K hK p1 hp x K 0 (by omega) (by omega)
  unfold spans_without_1
  simpa using this
theorem cuts_one (K : Nat) (hK : 20000 ≤ K) (p : List T30) : ∀ (k i : Nat) (l : List T30), p.length < k + i → i ≤ p.length → p.length ≤ 10000 → (∀ j, i ≤ j → j ≤ p.length → (((p.take j).drop i).foldl cutS l).length ≤ 10000) → spans_Set_Cut_l1 K p k l i = some ⟨(p.drop i).foldl cutS l⟩
  | 0, i, l, h1, h2, h3, h4 => by omega
  | k + 1, i, l, h1, h2, h3, h4 => by
    have ih := cuts_one K hK p k
    have hl : l.length ≤ 10000 := by
      have := h4 i (Nat.le_refl _) h2
      rw [List.drop_eq_nil_of_le (by rw [List.length_take]; omega)] at this
      exact this
    unfold spans_Set_Cut_l1
    rw [cD]
    by_cases hi : i < p.length
    · have hw : IntKind.wrap .i64 ((i : Int) + 1) = ((i + 1 : Nat) : Int) := by rw [w64 (by omega) (by omega)]; omega
      have hnext : ∀ j, i + 1 ≤ j → j ≤ p.length → (((p.take j).drop (i + 1)).foldl cutS (cutS l p[i])).length ≤ 10000 := fun j h5 h6 => by
        have := h4 j (by omega) h6
        have e : (p.take j).drop i = p[i] :: (p.take j).drop (i + 1) := by
          rw [List.drop_eq_getElem_cons (by rw [List.length_take]; omega), List.getElem_take]
        rw [e, List.foldl_cons] at this
        exact this
      rw [if_pos (by omega), if_pos (by omega), rdD_get _ _ hi, List.drop_eq_getElem_cons hi, List.foldl_cons]
      unfold spans_Span_fit spans_Span_empty
      rw [bS, bS, cD]
      have e : (⟨mxI (-1152921504606846976) (mnI p[i].From 1152921504606846976), mxI (-1152921504606846976) (mnI p[i].To 1152921504606846976)⟩ : T30) = fitF p[i] := rfl
      rw [e]
      by_cases c : (fitF p[i]).To ≤ (fitF p[i]).From
      · have e2 : cutS l p[i] = l := if_neg (by omega)
        rw [if_pos c]
        unfold spans_Set_Cut_j2
        rw [hw]
        rw [e2] at hnext ⊢
        exact ih (i + 1) l (by omega) (by omega) h3 hnext
      · have e2 : cutS l p[i] = cut1 (fitF p[i]) l := if_pos (by omega)
        have hcl := cut1_len (fitF p[i]) l
        unfold spans_without
        rw [if_neg c, bS, without_eq K (by omega) l (by omega) (by omega), bS, rest_loop _ _ _ _ (by simp; omega), List.nil_append, hw, ← e2]
        exact ih (i + 1) _ (by omega) (by omega) h3 hnext
    · rw [if_neg (by omega), List.drop_eq_nil_of_le (by omega)]; rfl
theorem cut_eq (K : Nat) (hK : 20000 ≤ K) (l p : List T30) (hp : p.length ≤ 10000) (h : ∀ j, j ≤ p.length → ((p.take j).foldl cutS l).length ≤ 10000) : spans_Set_Cut K ⟨l⟩ p = some ⟨p.foldl cutS l⟩ := by
  have := cuts_one K hK p K 0 l (by omega) (by omega) hp (fun j _ hj => by simpa using h j hj)
  unfold spans_Set_Cut
  simpa using this
theorem cutS_len (l : List T30) (x : T30) : (cutS l x).length ≤ 2 * l.length := by
  unfold cutS; split
  · exact cut1_len _ l
  · omega
theorem cut_one_eq (K : Nat) (hK : 20000 ≤ K) (l : List T30) (x : T30) (h : l.length ≤ 5000) : spans_Set_Cut K ⟨l⟩ [x] = some ⟨cutS l x⟩ := by
  rw [cut_eq K hK l [x] (by simp) (fun j hj => ?_)]
  · rfl
  · have := cutS_len l x
    simp only [List.length_cons, List.length_nil] at hj
    match j, hj with
    | 0, _ => simp; omega
    | 1, _ => simp; omega
theorem spans_eq (l : List T30) (h : l.length ≤ 100000) : spans_Set_Spans ⟨l⟩ = some l := by
  unfold spans_Set_Spans slices_Clone
  rw [if_pos (by simp; omega), bS]; simp
/-! ### Asking -/
theorem idx_loop (l : List T30) (n : Int) (hl : l.length ≤ 100000) : ∀ (k i : Nat), l.length < k + i → i ≤ l.length → ∃ r, slices_IndexFunc_of39_l2 l n k i = some r ∧ (decide (r ≥ 0) = hasF (l.drop i) n)
  | 0, i, h1, h2 => by omega
  | k + 1, i, h1, h2 => by
    have ih := idx_loop l n hl k
    unfold slices_IndexFunc_of39_l2
    rw [cD]
    by_cases hi : i < l.length
    · have hw : IntKind.wrap .i64 ((i : Int) + 1) = ((i + 1 : Nat) : Int) := by rw [w64 (by omega) (by omega)]; omega
      have hh : spans_Set_Has_1 l[i] n = some (isin l[i] n) := by
        unfold spans_Set_Has_1
        rw [cD]
        by_cases c : n ≥ l[i].From
        · rw [if_pos c]; congr 1; unfold isin; rw [decide_eq_decide]; omega
        · rw [if_neg c]; congr 1; symm; unfold isin; exact decide_eq_false (by omega)
      rw [if_pos (by omega), if_pos (by omega), rdD_get _ _ hi, hh, bS, hw, List.drop_eq_getElem_cons hi, hasF_cons]
      cases isin l[i] n with
      | true => exact ⟨_, rfl, by simp⟩
      | false =>
        obtain ⟨r, e1, e2⟩ := ih (i + 1) (by omega) (by omega)
        exact ⟨r, by rw [cond_false, e1], by rw [e2]; rfl⟩
    · rw [if_neg (by omega), List.drop_eq_nil_of_le (by omega)]
      exact ⟨_, rfl, by rfl⟩
theorem has_eq (K : Nat) (l : List T30) (n : Int) (hl : l.length ≤ 100000) (hK : l.length < K) : spans_Set_Has K ⟨l⟩ n = some (hasF l n) := by
  unfold spans_Set_Has slices_ContainsFunc_of39 slices_IndexFunc_of39
  obtain ⟨r, e1, e2⟩ := idx_loop l n hl K 0 (by omega) (by omega)
  rw [show ((0 : Nat) : Int) = 0 from rfl, List.drop_zero] at *
  rw [e1, bS, bS, e2]
theorem rhas_loop (l : List T30) (n : Int) (hl : l.length ≤ 100000) : ∀ (k i : Nat), l.length < k + i → i ≤ l.length → tidewrackref13_Has_l2 l n k i = some (hasF (l.drop i) n)
  | 0, i, h1, h2 => by omega
  | k + 1, i, h1, h2 => by
    have ih := rhas_loop l n hl k
    unfold tidewrackref13_Has_l2
    rw [cD]
    by_cases hi : i < l.length
    · have hw : IntKind.wrap .i64 ((i : Int) + 1) = ((i + 1 : Nat) : Int) := by rw [w64 (by omega) (by omega)]; omega
      rw [if_pos (by omega), if_pos (by omega), rdD_get _ _ hi, cD, cD, hw, ih (i + 1) (by omega) (by omega), List.drop_eq_getElem_cons hi, hasF_cons]
      by_cases c1 : n ≥ l[i].From
      · by_cases c2 : n < l[i].To
        · rw [if_pos c1, if_pos c2, (isin_iff l[i] n).2 ⟨c1, c2⟩]; rfl
        · rw [if_pos c1, if_neg c2, show isin l[i] n = false from decide_eq_false (by omega)]; rfl
      · rw [if_neg c1, show isin l[i] n = false from decide_eq_false (by omega)]; rfl
    · rw [if_neg (by omega), List.drop_eq_nil_of_le (by omega)]; rfl
theorem rhas_eq (K : Nat) (l : List T30) (n : Int) (hl : l.length ≤ 100000) (hK : l.length < K) : tidewrackref13_Has K l n = some (hasF l n) := by
  have := rhas_loop l n hl K 0 (by omega) (by omega)
  unfold tidewrackref13_Has
  simpa using this
def lenF : List T30 → Int → Int
  | [], s => s
  | x :: l, s => lenF l (IntKind.wrap .i64 (s + IntKind.wrap .i64 (x.To - x.From)))
theorem len_loop (l : List T30) (hl : l.length ≤ 100000) : ∀ (k i : Nat) (s : Int), l.length < k + i → i ≤ l.length → spans_Set_Len_l2 ⟨l⟩ k s i = some (lenF (l.drop i) s)
  | 0, i, s, h1, h2 => by omega
  | k + 1, i, s, h1, h2 => by
    have ih := len_loop l hl k
    unfold spans_Set_Len_l2
    rw [cD]
    by_cases hi : i < l.length
    · have hw : IntKind.wrap .i64 ((i : Int) + 1) = ((i + 1 : Nat) : Int) := by rw [w64 (by omega) (by omega)]; omega
      rw [if_pos (by simp only; omega), if_pos (by simp only; omega), rdD_get _ _ hi, hw, ih (i + 1) _ (by omega) (by omega), List.drop_eq_getElem_cons hi]
      rfl
    · rw [if_neg (by simp only; omega), List.drop_eq_nil_of_le (by omega)]; rfl
theorem len_eq (K : Nat) (l : List T30) (hl : l.length ≤ 100000) (hK : l.length < K) : spans_Set_Len K ⟨l⟩ = some (lenF l 0) := by
  have := len_loop l hl K 0 0 (by omega) (by omega)
  unfold spans_Set_Len
  simpa using this
theorem meas_le (lo hi : Int) : ∀ (l : List T30), NF l → (∀ x ∈ l, lo ≤ x.From ∧ x.To ≤ hi) → lo ≤ hi → 0 ≤ meas l ∧ meas l ≤ hi - lo
  | [], _, _, h => by simp [meas]; omega
  | x :: l, h, hb, h0 => by
    have hx := hb x (by simp)
    have := meas_le x.To hi l h.2.2 (fun y hy => ⟨by have := h.2.1 y hy; omega, (hb y (by simp [hy])).2⟩) hx.2
    have := h.1
    simp only [meas, List.map_cons, List.sum_cons] at *
    omega
theorem lenF_meas : ∀ (l : List T30) (s : Int), NF l → Bd l → 0 ≤ s → s + meas l ≤ 9000000000000000000 → lenF l s = s + meas l
  | [], s, _, _, _, _ => by simp [lenF, meas]
  | x :: l, s, h, hb, h0, h1 => by
    have hx := hb x (by simp)
    have := h.1
    have hb2 : Bd l := fun z hz => hb z (by simp [hz])
    have hm := (meas_le (-1152921504606846976) 1152921504606846976 l h.2.2 (fun y hy => ⟨(hb2 y hy).1, (hb2 y hy).2.2.2⟩) (by decide)).1
    simp only [meas, List.map_cons, List.sum_cons] at h1 hm ⊢
    unfold lenF
    rw [w64 (x := x.To - x.From) (by omega) (by omega), w64 (by omega) (by omega), lenF_meas l _ h.2.2 hb2 (by omega) (by simp only [meas]; omega)]
    simp only [meas]; omega
theorem in_loop (l : List T30) (x : T30) (hl : l.length ≤ 100000) : ∀ (k i : Nat) (out : List T30), l.length < k + i → i ≤ l.length → out.length ≤ i → spans_Set_In_l2 ⟨l⟩ x k out i = some (out ++ in1 (fitF x) (l.drop i))
  | 0, i, out, h1, h2, h3 => by omega
  | k + 1, i, out, h1, h2, h3 => by
    have ih := in_loop l x hl k
    unfold spans_Set_In_l2
    rw [cD]
    by_cases hi : i < l.length
    · have hw : IntKind.wrap .i64 ((i : Int) + 1) = ((i + 1 : Nat) : Int) := by rw [w64 (by omega) (by omega)]; omega
      rw [if_pos (by simp only; omega), if_pos (by simp only; omega), rdD_get _ _ hi]
      unfold spans_Span_fit spans_Span_both spans_Set_In_j3 spans_Span_empty
      rw [bS, bS, bS, hw, List.drop_eq_getElem_cons hi]
      have e : (⟨mxI l[i].From (⟨mxI (-1152921504606846976) (mnI x.From 1152921504606846976), mxI (-1152921504606846976) (mnI x.To 1152921504606846976)⟩ : T30).From, mnI l[i].To (⟨mxI (-1152921504606846976) (mnI x.From 1152921504606846976), mxI (-1152921504606846976) (mnI x.To 1152921504606846976)⟩ : T30).To⟩ : T30) = both (fitF x) l[i] := rfl
      rw [e]
      unfold in1 ne
      simp only [List.map_cons, List.filter_cons]
      by_cases c : (both (fitF x) l[i]).From < (both (fitF x) l[i]).To
      · rw [decide_eq_false (by omega), decide_eq_true c, Bool.not_false, cond_true, if_pos (by simp only [List.length_cons, List.length_nil]; omega), ih (i + 1) _ (by omega) (by omega) (by simp only [List.length_append, List.length_cons, List.length_nil]; omega), if_pos rfl]
        unfold in1 ne
        simp
      · rw [decide_eq_true (by omega), decide_eq_false c, Bool.not_true, cond_false, ih (i + 1) _ (by omega) (by omega) (by omega), if_neg (by simp)]
        rfl
    · rw [if_neg (by simp only; omega), List.drop_eq_nil_of_le (by omega)]
      simp [spans_Set_In_j1, in1, ne]
theorem in_eq (K : Nat) (l : List T30) (x : T30) (hl : l.length ≤ 100000) (hK : l.length < K) : spans_Set_In K ⟨l⟩ x = some (in1 (fitF x) l) := by
  have := in_loop l x hl K 0 [] (by omega) (by omega) (by simp)
  unfold spans_Set_In
  simpa using this
theorem fit_ref (x : T30) : tidewrackref13_Fit x = some (fitF x) := by
  have hn : ∀ n, tidewrackref13_near n = some (clampI n) := fun n => by
    unfold tidewrackref13_near clampI mxI mnI
    rw [cD, cD]
    (repeat' split) <;> (congr 1; try omega)
  unfold tidewrackref13_Fit
  rw [hn, bS, hn, bS]; rfl
end Go.Proofs.Ytmgopcmdljhjoaa.Pure
