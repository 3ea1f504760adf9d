/- Plain laws: what the plain functions answer, with no program in sight. -/
import Derived.Test.YteghllmaknenlaaDoorPB
set_option linter.unusedVariables false
set_option linter.unusedSimpArgs false
namespace Go.Proofs.YteghllmaknenlaaDoor.Pure
open Go Go.Proofs.XC Go.Proofs.YteghllmaknenlaaDoor

theorem mem_len {r : List T24} : ∀ {rs : List (List T24)}, r ∈ rs → r.length ≤ rs.flatten.length
  | [], h => by simp at h
  | q :: rs, h => by
    rw [List.flatten_cons, List.length_append]
    rcases List.mem_cons.1 h with rfl | h
    · omega
    · have := mem_len h; omega
theorem clone_eq (r : List T24) (h : r.length ≤ 1000000) : slices_Clone r = some r := by
  unfold slices_Clone
  rw [if_pos (by simp only [List.length_nil]; omega), List.nil_append]
theorem cut_r2 : ∀ (rs acc : List (List T24)), (∀ r ∈ rs, r.length ≤ 1000000) → acc.length + rs.length ≤ 1000000 → flow_Cut_r2 rs acc = some (acc ++ rs)
  | [], acc, _, _ => by rw [List.append_nil]; rfl
  | r :: rs, acc, h, h2 => by
    simp only [List.length_cons] at h2
    unfold flow_Cut_r2
    rw [clone_eq r (h r (by simp)), bS, if_pos (by simp only [List.length_cons, List.length_nil]; omega), cut_r2 rs (acc ++ [r]) (fun x hx => h x (by simp [hx])) (by simp only [List.length_append, List.length_cons, List.length_nil]; omega), List.append_assoc]
    rfl
theorem count_r2 : ∀ (rs : List (List T24)) (n : Nat), n + rs.length ≤ 1000000 → flow_Count_r2 rs n = some ((n + rs.length : Nat) : Int)
  | [], n, _ => rfl
  | r :: rs, n, h => by
    simp only [List.length_cons] at h
    have hw : IntKind.wrap .i64 ((n : Int) + 1) = ((n + 1 : Nat) : Int) := by rw [w64 (by omega) (by omega)]; omega
    unfold flow_Count_r2
    rw [hw, count_r2 rs (n + 1) (by omega), List.length_cons]
    congr 2; omega
def cw (w : Int) : Int := mxI 2 (mnI w 1000)
theorem cw_range (w : Int) : 2 ≤ cw w ∧ cw w ≤ 1000 := by unfold cw mxI mnI; (repeat' split) <;> omega
def rowsF (l : List T24) (w : Int) : List (List T24) := chop (cw w) l.length l
theorem rowsF_good (l : List T24) (w : Int) : Good (cw w) (rowsF l w) := (chop_good (cw w) (cw_range w).1 l.length l (Nat.le_refl _)).1
theorem rowsF_flat (l : List T24) (w : Int) : (rowsF l w).flatten = l := (chop_good (cw w) (cw_range w).1 l.length l (Nat.le_refl _)).2.1
theorem rowsF_len (l : List T24) (w : Int) : (rowsF l w).length = 1 ∨ (rowsF l w).length ≤ l.length := by
  have := good_len _ _ (rowsF_good l w)
  rw [rowsF_flat] at this; exact this
theorem cut_eq (K : Nat) (hK : 2000 ≤ K) (l : List T24) (w : Int) (h : l.length ≤ 1000) (h4 : IR l) : flow_Cut K l w = some (rowsF l w) := by
  have hl := rowsF_len l w
  have hf := rowsF_flat l w
  unfold flow_Cut flow_rows
  rw [bS]
  show (flow_rows_1 K (cw w) l).bind _ = _
  rw [rows_eq K hK (cw w) l h h4, bS]
  show flow_Cut_r2 (rowsF l w) [] = _
  rw [cut_r2 _ _ (fun r hr => by have := mem_len hr; rw [hf] at this; omega) (by simp only [List.length_nil]; omega), List.nil_append]
theorem count_eq (K : Nat) (hK : 2000 ≤ K) (l : List T24) (w : Int) (h : l.length ≤ 1000) (h4 : IR l) : flow_Count K l w = some (((rowsF l w).length : Nat) : Int) := by
  have hl := rowsF_len l w
  unfold flow_Count flow_rows
  rw [bS]
  show (flow_rows_1 K (cw w) l).bind _ = _
  rw [rows_eq K hK (cw w) l h h4, bS]
  have := count_r2 (rowsF l w) 0 (by omega)
  rw [Nat.zero_add] at this
  exact this
theorem awake_eq (K : Nat) (hK : 2000 ≤ K) : tidewracklaw15_awake K = some true := by
  unfold tidewracklaw15_awake
  have e1 : rowsF [(⟨97, 0⟩ : T24), ⟨98, 0⟩, ⟨20013, 0⟩] 3 = [[⟨97, 0⟩, ⟨98, 0⟩], [⟨20013, 0⟩]] := by
    have f1 : cutN 3 [(⟨97, 0⟩ : T24), ⟨98, 0⟩, ⟨20013, 0⟩] = 2 := by decide +kernel
    show chop 3 3 _ = _
    rw [chop, f1, if_pos (by decide)]
    show [(⟨97, 0⟩ : T24), ⟨98, 0⟩] :: chop 3 2 [⟨20013, 0⟩] = _
    have f2 : ¬ cutN 3 [(⟨20013, 0⟩ : T24)] < ([(⟨20013, 0⟩ : T24)] : List T24).length := by unfold cutN; simp only [List.length_cons, List.length_nil]; omega
    rw [chop, if_neg f2]
  have i1 : IR [(⟨97, 0⟩ : T24), ⟨98, 0⟩, ⟨20013, 0⟩] := by unfold IR I32 ru; decide
  rw [cut_eq K hK _ 3 (by decide) i1, bS, e1]
  rw [cE, if_pos (show (([[(⟨97, 0⟩ : T24), ⟨98, 0⟩], [⟨20013, 0⟩]] : List (List T24)).length : Int) = 2 from rfl), if_pos (by simp), cE, if_pos (by rfl), if_pos (by simp), cE, if_pos (by rfl)]
  unfold flow_Text
  rw [runes_eq K _ (by decide) (by simp; omega), bS, penc_eq K _ (by decide) (by simp [ru]; omega), bS, bS, show strOfNums ((ru [(⟨97, 0⟩ : T24), ⟨98, 0⟩, ⟨20013, 0⟩]).flatMap encF) = (⟨#[97, 98, 228, 184, 173]⟩ : ByteArray) from by decide, beq_self_eq_true, cond_true, cut_eq K hK _ 5 (by decide) (by unfold IR I32 ru; simp), bS]
  rfl
theorem rof64 (K : Nat) (hK : 100 ≤ K) (r : Int) (h : -2147483648 ≤ r ∧ r ≤ 2147483647) : tidewrackref06_Of K (IntKind.wrap .i64 r) = some (W r) := by
  rw [w64 (by omega) (by omega), rof_eq K hK]
/-! ### FlowCounts -/
theorem counts_loop (K : Nat) (hK : 2000 ≤ K) (p0 : List T24) (w : Int) (q : List T24) (hq : ([] : List T24) ++ List.drop 0 (List.take (Int.toNat (mnI ((p0).length : Int) 60)) p0) = q) (hl : q.length ≤ 60) (hi32 : IR q) : ∀ (k i : Nat) (s : Int), q.length < k + i → i ≤ q.length → 0 ≤ s → s ≤ 2 * i →
    tidewracklaw15_FlowCounts_l2 K p0 w k s i = tidewracklaw15_FlowCounts_j1 K p0 w (s + sumW (ru (q.drop i)))
  | 0, i, s, h1, h2, h3, h4 => by omega
  | k + 1, i, s, h1, h2, h3, h4 => by
    have ih := counts_loop K hK p0 w q hq hl hi32 k
    unfold tidewracklaw15_FlowCounts_l2
    rw [hq, cD]
    by_cases hi : i < q.length
    · have hw : IntKind.wrap .i64 ((i : Int) + 1) = ((i + 1 : Nat) : Int) := by rw [w64 (by omega) (by omega)]; omega
      have hr := hi32.one (List.getElem_mem hi)
      have hW := W_range q[i].Rune
      rw [if_pos (by omega), if_pos (by omega), rdD_get _ _ hi, rof64 K (by omega) _ hr, bS, hw, w64 (by omega) (by omega), ih (i + 1) _ (by omega) (by omega) (by omega) (by omega), List.drop_eq_getElem_cons hi]
      congr 1
      show s + W q[i].Rune + sumW (ru (q.drop (i + 1))) = s + (W q[i].Rune + sumW (ru (q.drop (i + 1))))
      omega
    · rw [if_neg (by omega), List.drop_eq_nil_of_le (by omega)]
      congr 1
      simp [ru, sumW]
theorem few (p0 : List T24) (w0 : ∀ y ∈ p0, (WF.wfT24) y) (n : Nat) (hn : n ≤ 60) : ∃ q, ([] : List T24) ++ List.drop 0 (List.take (Int.toNat (mnI ((p0).length : Int) n)) p0) = q ∧ q.length ≤ n ∧ IR q := by
  refine ⟨_, rfl, ?_, fun r hr => ?_⟩
  · have hm : mnI (p0.length : Int) n = ((min p0.length n : Nat) : Int) := by unfold mnI; split <;> omega
    rw [hm, List.nil_append, List.drop_zero, List.length_take]; omega
  · simp only [ru, List.mem_map, List.nil_append, List.drop_zero] at hr
    obtain ⟨g, hg, rfl⟩ := hr
    exact wf32 (w0 g (List.mem_of_mem_take hg)).1
theorem FlowCounts (x0 : List T24) (w0 : ∀ y ∈ x0, (WF.wfT24) y) (l0 : x0.length ≤ maxLen) (x1 : Int) (w1 : (Lit.int .i64 x1).wf = true) : ∃ K, tidewracklaw15_FlowCounts K x0 x1 = some true := by
  suffices h : ∀ K, 20000 ≤ K → tidewracklaw15_FlowCounts K x0 x1 = some true from ⟨20000, h _ (Nat.le_refl _)⟩
  intro K hK
  obtain ⟨q, hq, hl, h32⟩ := few x0 w0 60 (by omega)
  have hm : mnI (x0.length : Int) 60 = ((min x0.length 60 : Nat) : Int) := by unfold mnI; split <;> omega
  rw [show ((60 : Nat) : Int) = 60 from rfl] at hq
  have hql := hq
  rw [List.nil_append] at hql
  unfold tidewracklaw15_FlowCounts
  rw [awake_eq K (by omega), bS, Bool.not_true, cond_false, if_pos (by omega), if_pos (by omega), hql, if_pos (by simp only [List.length_nil]; omega)]
  have := counts_loop K (by omega) x0 x1 q hq hl h32 K 0 0 (by omega) (by omega) (by omega) (by omega)
  rw [show ((0 : Nat) : Int) = 0 from rfl, List.drop_zero, Int.zero_add] at this
  rw [this]
  unfold tidewracklaw15_FlowCounts_j1
  have hg := rowsF_good q x1
  have hf := rowsF_flat q x1
  have hcw := cw_range x1
  have hs := good_sum _ hcw.1 _ hg
  have hmo := good_more _ _ hg
  have hle := rowsF_len q x1
  rw [hf] at hs hmo
  have hsr := sumW_range (ru q)
  rw [ru_len] at hsr
  rw [hq, count_eq K (by omega) q x1 (by omega) h32, bS, show mxI 2 (mnI x1 1000) = cw x1 from rfl]
  generalize cw x1 = w at *
  generalize (rowsF q x1).length = n at *
  generalize sumW (ru q) = s at *
  rw [if_pos (by omega), w64 (x := s + w) (by omega) (by omega), w64 (x := s + w - 1) (by omega) (by omega), Int.tdiv_eq_ediv_of_nonneg (by omega)]
  have hd : (s + w - 1) / w ≤ n := Int.lt_add_one_iff.1 (Int.ediv_lt_of_lt_mul (by omega) (by rw [Int.add_mul]; omega))
  have hd0 : 0 ≤ (s + w - 1) / w := Int.ediv_nonneg (by omega) (by omega)
  have hx : mxI 1 (q.length : Int) = ((max 1 q.length : Nat) : Int) := by unfold mxI; split <;> omega
  rw [w64 (by omega) (by omega), cD, if_pos (by omega), hx, cD, if_pos (by omega), cD, if_pos (by omega)]
  congr 1
  rw [beq_iff_eq, decide_eq_decide]
  omega
end Go.Proofs.YteghllmaknenlaaDoor.Pure
