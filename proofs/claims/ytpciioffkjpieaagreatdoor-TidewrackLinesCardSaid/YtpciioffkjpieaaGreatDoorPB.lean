/- Plain laws: what the plain functions answer, with no program in sight. -/
import Derived.Test.YtpciioffkjpieaaGreatDoorPA
set_option linter.unusedVariables false
set_option linter.unusedSimpArgs false
namespace Go.Proofs.YtpciioffkjpieaaGreatDoor.Pure
open Go Go.Proofs.XC Go.Proofs.YtpciioffkjpieaaGreatDoor

theorem up_eq (K : Nat) (hK : 2000 ≤ K) (n H : Nat) (hn : n ≤ 60) (rows : List T65) (hl : rows.length = H) (hH : 1 ≤ H ∧ H ≤ 60) (x y : Int) (wt : Bool) :
    screen_Screen_up K (scr n H rows x y wt) 1 = some (rows.take 1, scr n H (rows.drop 1 ++ [rowF n [] false]) x y wt) := by
  unfold screen_Screen_up
  rw [num_eq, bS]
  show (grid_Grid_Up K ⟨n, rows⟩ 0 ((H : Int) - 1) 1 0).bind _ = _
  rw [Up_eq K hK n H hn rows hl hH, bS]
  rfl
theorem move_eq (n H : Nat) (hn : 1 ≤ n ∧ n ≤ 60) (rows : List T65) (hl : rows.length = H) (hH : 1 ≤ H ∧ H ≤ 60) (x y x' y' : Int) (wt : Bool) :
    screen_Screen_move (scr n H rows x y wt) x' y' = some (scr n H rows (mxI 0 (mnI x' ((n : Int) - 1))) (mxI 0 (mnI y' ((H : Int) - 1))) false) := by
  unfold screen_Screen_move screen_Screen_last
  show ((grid_Grid_Size ⟨n, rows⟩).bind _).bind _ = _
  unfold grid_Grid_Size screen_clip
  rw [bS, bS]
  simp only [hl]
  rw [w64 (by omega) (by omega), w64 (by omega) (by omega), bS, bS]
  rfl
theorem line_eq (K : Nat) (hK : 2000 ≤ K) (n H : Nat) (hn : 1 ≤ n ∧ n ≤ 60) (rows : List T65) (hl : rows.length = H) (hH : 1 ≤ H ∧ H ≤ 60) (x y : Nat) (hx : x < n) (hy : y < H) (wt : Bool) :
    screen_Screen_line K (scr n H rows x y wt) = some (if y + 1 = H then (rows.take 1, scr n H (rows.drop 1 ++ [rowF n [] false]) x y false) else ([], scr n H rows x ((y + 1 : Nat) : Int) false)) := by
  unfold screen_Screen_line
  show (bif ((y : Int) == (H : Int) - 1) then ((screen_Screen_up K (scr n H rows x y false) 1).bind fun t278 => (some (t278.1, t278.2))) else ((screen_Screen_move (scr n H rows x y false) x (IntKind.wrap .i64 ((y : Int) + 1))).bind _)) = _
  rw [cE]
  by_cases c : y + 1 = H
  · rw [if_pos (by omega), up_eq K hK n H hn.2 rows hl hH, bS, if_pos c]
  · rw [if_neg (by omega), w64 (by omega) (by omega), move_eq n H hn rows hl hH, bS, if_neg c]
    have e1 : mxI 0 (mnI (x : Int) ((n : Int) - 1)) = x := clip_in (by omega) (by omega)
    have e2 : mxI 0 (mnI ((y : Int) + 1) ((H : Int) - 1)) = ((y + 1 : Nat) : Int) := by
      rw [show (y : Int) + 1 = ((y + 1 : Nat) : Int) by omega]
      exact clip_in (by omega) (by omega)
    rw [e1, e2]
    unfold screen_Screen_line_j1
    rfl
/-! ### Rows of the grid, and other ones in their place -/
theorem gridRow_eq (n : Nat) (rows : List T65) (y : Nat) (hy : y < rows.length) (hr : rows.length ≤ 1000) (hc : rows[y].Cells.length ≤ 1000) : grid_Grid_Row ⟨n, rows⟩ y = some rows[y] := by
  unfold grid_Grid_Row
  simp only
  rw [cD, if_neg (by omega), decide_eq_false (by omega)]
  unfold grid_Grid_Row_j2
  rw [cond_false]
  unfold grid_Grid_Row_j1
  simp only
  rw [if_pos (by omega), rdD_get _ _ hy]
  unfold grid_own slices_Clone
  rw [if_pos (by simp only [List.length_nil]; omega), bS, List.nil_append, bS]
theorem gridSet_eq (K : Nat) (n : Nat) (hn : n ≤ 60) (rows : List T65) (y : Nat) (hy : y < rows.length) (hr : rows.length ≤ 1000) (cs : List T77) (b : Bool) (hc : cs.length = n) : grid_Grid_Set K ⟨n, rows⟩ y ⟨cs, b⟩ = some (true, ⟨n, rows.set y ⟨cs, b⟩⟩) := by
  unfold grid_Grid_Set
  simp only
  rw [cD, if_neg (by omega), cD, if_neg (by omega)]
  unfold grid_Grid_Set_j1 row_Row_Resize row_clip row_Row_cells slices_Clone
  simp only
  rw [bS, if_pos (by simp only [List.length_nil]; omega), bS, List.nil_append, bS, clip_in (by omega) (by omega), hc, cE, if_pos rfl, bS, if_pos (by omega), Int.toNat_natCast]
theorem edit34_eq (K : Nat) (n H : Nat) (hn : n ≤ 60) (rows : List T65) (hr : rows.length ≤ 1000) (x : Int) (y : Nat) (hy : y < rows.length) (hc : rows[y].Cells.length = n) (wt : Bool) :
    screen_Screen_edit_of34 K (scr n H rows x y wt) = some (scr n H (rows.set y ⟨rows[y].Cells, true⟩) x y wt) := by
  unfold screen_Screen_edit_of34
  show (grid_Grid_Row ⟨n, rows⟩ (y : Int)).bind _ = _
  rw [gridRow_eq n rows y hy hr (by omega), bS]
  unfold screen_Screen_print_1
  rw [bS]
  show (grid_Grid_Set K ⟨n, rows⟩ (y : Int) ⟨rows[y].Cells, true⟩).bind _ = _
  rw [gridSet_eq K n hn rows y hy hr _ _ hc, bS]
  rfl
theorem edit39_eq (K : Nat) (hK : 2000 ≤ K) (n H : Nat) (hn : n ≤ 60) (rows : List T65) (hr : rows.length ≤ 1000) (c : List Int) (hch : ∀ r ∈ c, Ch r) (r : Int) (hrc : Ch r) (hcl : c.length < n) (y : Nat) (hy : y < rows.length) (hc : rows[y] = rowF n c false) (wt : Bool) :
    screen_Screen_edit_of39_0_0 K (scr n H rows c.length y wt) r = some (scr n H (rows.set y (rowF n (c ++ [r]) false)) c.length y wt) := by
  have hcl' : rows[y].Cells.length = n := by rw [hc]; exact row_len false (by omega)
  unfold screen_Screen_edit_of39_0_0
  show (grid_Grid_Row ⟨n, rows⟩ (y : Int)).bind _ = _
  rw [gridRow_eq n rows y hy hr (by omega), bS]
  unfold screen_Screen_print_3
  rw [num_eq, bS, hc]
  have hp := put_eq K hK (c.map cell) (fine_map hch) (n - c.length) r 0 (by unfold Ch at hrc; omega) (by rw [W_one hrc]; decide) (by rw [W_one hrc]; omega) (by rw [List.length_map]; omega)
  rw [List.length_map, cells_one hrc, W_one hrc] at hp
  have e : (⟨c.map cell ++ [(⟨r, 0, 0⟩ : T77)] ++ List.replicate (n - c.length - Int.toNat 1) b0, false⟩ : T65) = rowF n (c ++ [r]) false := by
    unfold rowF
    rw [List.map_append, List.length_append, show n - c.length - Int.toNat 1 = n - (c.length + [r].length) from by simp only [List.length_cons, List.length_nil]; omega]
    rfl
  rw [e] at hp
  show ((row_Row_Put K (rowF n c false) (c.length : Int) r 0).bind _).bind _ = _
  rw [show rowF n c false = ⟨c.map cell ++ List.replicate (n - c.length) b0, false⟩ from rfl, hp, bS, bS]
  show (grid_Grid_Set K ⟨n, rows⟩ (y : Int) ⟨(rowF n (c ++ [r]) false).Cells, false⟩).bind _ = _
  rw [gridSet_eq K n hn rows y hy hr _ _ (row_len false (by simp only [List.length_append, List.length_cons, List.length_nil]; omega)), bS]
  rfl
end Go.Proofs.YtpciioffkjpieaaGreatDoor.Pure
