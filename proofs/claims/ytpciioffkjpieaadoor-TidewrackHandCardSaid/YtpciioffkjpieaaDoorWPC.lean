/- Walks, printed by an own program: the machine's calls compute the plain functions. -/
import Derived.Test.YtpciioffkjpieaaDoorWPB
set_option linter.unusedVariables false
set_option linter.unusedSimpArgs false
namespace Go.Proofs.YtpciioffkjpieaaDoor.PureF
open Go Go.Proofs.XC Go.Proofs.YtpciioffkjpieaaDoor

theorem mem_len {r : List T36} : ∀ {rs : List (List T36)}, r ∈ rs → r.length ≤ rs.flatten.length
  | [], h => by simp at h
  | q :: rs, h => by
    rw [List.flatten_cons, List.length_append]
    rcases List.mem_cons.1 h with rfl | h
    · omega
    · have := mem_len h; omega
theorem clone_eq (r : List T36) (h : r.length ≤ 1000000) : slices_Clone r = some r := by
  unfold slices_Clone
  rw [if_pos (by simp only [List.length_nil]; omega), List.nil_append]
theorem cut_r2 : ∀ (rs acc : List (List T36)), (∀ r ∈ rs, r.length ≤ 1000000) → acc.length + rs.length ≤ 1000000 → flow_Cut_r2 rs acc = some (acc ++ rs)
  | [], acc, _, _ => by rw [List.append_nil]; rfl
  | r :: rs, acc, h, h2 => by
    simp only [List.length_cons] at h2
    unfold flow_Cut_r2
    rw [clone_eq r (h r (by simp)), bS, if_pos (by simp only [List.length_cons, List.length_nil]; omega), cut_r2 rs (acc ++ [r]) (fun x hx => h x (by simp [hx])) (by simp only [List.length_append, List.length_cons, List.length_nil]; omega), List.append_assoc]
    rfl
def cw (w : Int) : Int := mxI 2 (mnI w 1000)
theorem cw_range (w : Int) : 2 ≤ cw w ∧ cw w ≤ 1000 := by unfold cw mxI mnI; (repeat' split) <;> omega
def rowsF (l : List T36) (w : Int) : List (List T36) := chop (cw w) l.length l
theorem rowsF_good (l : List T36) (w : Int) : Good (cw w) (rowsF l w) := (chop_good (cw w) (cw_range w).1 l.length l (Nat.le_refl _)).1
theorem rowsF_flat (l : List T36) (w : Int) : (rowsF l w).flatten = l := (chop_good (cw w) (cw_range w).1 l.length l (Nat.le_refl _)).2.1
theorem rowsF_len (l : List T36) (w : Int) : (rowsF l w).length = 1 ∨ (rowsF l w).length ≤ l.length := by
  have := good_len _ _ (rowsF_good l w)
  rw [rowsF_flat] at this; exact this
theorem cut_eq (K : Nat) (hK : 2000 ≤ K) (l : List T36) (w : Int) (h : l.length ≤ 1000) (h4 : IR l) : flow_Cut K l w = some (rowsF l w) := by
  have hl := rowsF_len l w
  have hf := rowsF_flat l w
  unfold flow_Cut flow_rows
  rw [bS]
  show (flow_rows_1 K (cw w) l).bind _ = _
  rw [rows_eq K hK (cw w) l h h4, bS]
  show flow_Cut_r2 (rowsF l w) [] = _
  rw [cut_r2 _ _ (fun r hr => by have := mem_len hr; rw [hf] at this; omega) (by simp only [List.length_nil]; omega), List.nil_append]
/-! ### FlowCounts -/
end Go.Proofs.YtpciioffkjpieaaDoor.PureF
