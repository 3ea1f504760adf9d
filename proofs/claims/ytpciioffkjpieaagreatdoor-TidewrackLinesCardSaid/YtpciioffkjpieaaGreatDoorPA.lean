/- Plain laws: what the plain functions answer, with no program in sight. -/
import Derived.Test.YtpciioffkjpieaaGreatDoorBPB
set_option linter.unusedVariables false
set_option linter.unusedSimpArgs false
namespace Go.Proofs.YtpciioffkjpieaaGreatDoor.Pure
open Go Go.Proofs.XC Go.Proofs.YtpciioffkjpieaaGreatDoor

/-! ### Rows of printed text -/
def cell (r : Int) : T77 := ⟨r, 0, 0⟩
def gl (r : Int) : T46 := ⟨r, 0⟩
def Ch (r : Int) : Prop := 33 ≤ r ∧ r ≤ 96
def rowF (n : Nat) (c : List Int) (b : Bool) : T65 := ⟨c.map cell ++ List.replicate (n - c.length) b0, b⟩
theorem W_ch : ∀ i : Fin 64, W (33 + (i.val : Int)) = 1 := by decide +kernel
theorem W_one {r : Int} (h : Ch r) : W r = 1 := by
  have := W_ch ⟨(r - 33).toNat, by unfold Ch at h; omega⟩
  rwa [show (33 : Int) + (((r - 33).toNat : Nat) : Int) = r by unfold Ch at h; omega] at this
theorem cells_one {r : Int} (h : Ch r) (s : Int) : cellsOf ⟨r, s⟩ = [⟨r, s, 0⟩] := by
  unfold cellsOf
  rw [W_one h, if_neg (by omega)]
theorem pat_map : ∀ (c : List Int), (∀ r ∈ c, Ch r) → pat (c.map gl) = c.map cell
  | [], _ => rfl
  | r :: c, h => by
    have ih := pat_map c (fun z hz => h z (by simp [hz]))
    show cellsOf (gl r) ++ pat (c.map gl) = _
    rw [ih]
    unfold gl
    rw [cells_one (h r (by simp))]; rfl
theorem fine_map {c : List Int} (h : ∀ r ∈ c, Ch r) : Fine (c.map cell) := by rw [← pat_map c h]; exact fine_pat _
theorem row_len {n : Nat} {c : List Int} (b : Bool) (h : c.length ≤ n) : (rowF n c b).Cells.length = n := by
  unfold rowF
  simp only [List.length_append, List.length_map, List.length_replicate]; omega
/-- The runes of such a row. -/
theorem glyphs_eq (K : Nat) (hK : 2000 ≤ K) (n : Nat) (hn : n ≤ 60) (c : List Int) (hc : ∀ r ∈ c, Ch r) (b : Bool) (hl : c.length ≤ n) (hb : b = true → c.length = n) : row_Row_Glyphs K (rowF n c b) = some (c.map gl) := by
  cases b with
  | false =>
    have h1 := glyphs5 K (c.map cell) (fun z hz => by
      obtain ⟨r, hr, rfl⟩ := List.mem_map.1 hz
      have := hc r hr
      unfold Ch at this
      unfold eqT77 cell b0
      simp only
      rw [beq_eq_false_iff_ne.2 (by omega : r ≠ 32)]; rfl) (rowF n c false) rfl K (n - c.length) (by omega) (by rw [List.length_map]; omega) hK
    unfold row_Row_Glyphs
    rw [show (rowF n c false).Cells = c.map cell ++ List.replicate (n - c.length) b0 from rfl, h1, ← pat_map c hc, out_pat]
  | true =>
    have h0 := hb rfl
    have h3 := glyphs3 (c.map cell) (by rw [List.length_map]; omega) K [] 0 (by rw [List.length_map]; omega) (by omega) (by simp)
    obtain ⟨k, rfl⟩ : ∃ k, K = k + 1 := ⟨K - 1, by omega⟩
    unfold row_Row_Glyphs row_Row_Glyphs_l5
    rw [show (rowF n c true).Cells = c.map cell from by unfold rowF; simp [h0], show (rowF n c true).Wrapped = true from rfl, Bool.not_true, cond_false]
    unfold row_Row_Glyphs_j1
    rw [show ((0 : Nat) : Int) = 0 from rfl, List.nil_append, List.drop_zero] at h3
    rw [h3, ← pat_map c hc, out_pat]
theorem blank_eq (K : Nat) (hK : 2000 ≤ K) (n : Nat) (hn : n ≤ 60) : row_Blank K n 0 = some (rowF n [] false) := by
  have h1 : mxI 0 (mnI (n : Int) 1000) = n := by unfold mxI mnI; (repeat' split) <;> omega
  have h2 : mxI 0 (n : Int) = n := by unfold mxI; split <;> omega
  unfold row_Blank row_clip row_blanks row_blank
  rw [bS, h1, bS, h2, rep_eq K hK _ n (by omega), bS, bS]
  rfl
theorem new_loop (K : Nat) (hK : 2000 ≤ K) (n H : Nat) (hn : n ≤ 60) (hH : H ≤ 100) : ∀ (k i : Nat), H < k + i → i ≤ H → grid_New_l2 K n H k (List.replicate i (rowF n [] false)) i = some ⟨n, List.replicate H (rowF n [] false)⟩
  | 0, i, h1, h2 => by omega
  | k + 1, i, h1, h2 => by
    have ih := new_loop K hK n H hn hH k
    unfold grid_New_l2
    rw [cD]
    by_cases hi : i < H
    · have hw : IntKind.wrap .i64 ((i : Int) + 1) = ((i + 1 : Nat) : Int) := by rw [w64 (by omega) (by omega)]; omega
      rw [if_pos (by omega), blank_eq K hK n hn, bS, if_pos (by simp only [List.length_replicate, List.length_cons, List.length_nil]; omega)]
      unfold grid_New_j3
      rw [hw, ← List.replicate_succ']
      exact ih (i + 1) (by omega) (by omega)
    · have : i = H := by omega
      subst this
      rw [if_neg (by omega)]; rfl
/-! ### The screen -/
def scr (n H : Nat) (rows : List T65) (x y : Int) (wt : Bool) : T55 := ⟨n, rows, x, y, 0, 0, false, false, false, 0, 0, 0, 0, false, false, false, wt, 0, (H : Int) - 1, true, (⟨#[]⟩ : ByteArray)⟩
theorem clip_in {n : Nat} {a b : Int} (h1 : a ≤ (n : Int)) (h2 : (n : Int) ≤ b) : mxI a (mnI (n : Int) b) = n := by unfold mxI mnI; (repeat' split) <;> omega
theorem new_eq (K : Nat) (hK : 2000 ≤ K) (n H : Nat) (hn : 1 ≤ n ∧ n ≤ 60) (hH : 1 ≤ H ∧ H ≤ 60) : screen_New K n H = some (scr n H (List.replicate H (rowF n [] false)) 0 0 false) := by
  unfold screen_New grid_New grid_size grid_clip
  rw [bS, clip_in (by omega) (by omega), bS, bS, clip_in (by omega) (by omega), bS]
  have := new_loop K hK n H hn.2 (by omega) K 0 (by omega) (by omega)
  rw [List.replicate_zero] at this
  rw [show (0 : Int) = ((0 : Nat) : Int) from rfl, this, bS]
  unfold grid_Grid_Size
  rw [bS]
  simp only [List.length_replicate]
  rw [w64 (by omega) (by omega)]
  rfl
theorem num_eq (n H : Nat) (rows : List T65) (x y : Int) (wt : Bool) : screen_Screen_num (scr n H rows x y wt) = some 0 := by
  unfold screen_Screen_num
  show (style_Style_Num ⟨0, 0, false, false, false⟩).bind _ = _
  rw [show style_Style_Num ⟨0, 0, false, false, false⟩ = some 0 from by decide +kernel, bS]
theorem region_eq (n H : Nat) (rows : List T65) (hl : rows.length = H) (hH : 1 ≤ H ∧ H ≤ 60) : grid_Grid_region ⟨n, rows⟩ 0 ((H : Int) - 1) = some true := by
  unfold grid_Grid_region grid_clip
  simp only [hl]
  rw [bS, w64 (by omega) (by omega), bS, show mxI 0 (mnI 0 ((H : Int) - 1)) = 0 from by unfold mxI mnI; (repeat' split) <;> omega, show mxI 0 (mnI ((H : Int) - 1) ((H : Int) - 1)) = (H : Int) - 1 from by unfold mxI mnI; (repeat' split) <;> omega, cD, if_neg (by omega), if_pos rfl, w64 (by omega) (by omega), if_pos (by omega)]
theorem set_mid65 (p : List T65) (c v : T65) (l : List T65) : (p ++ c :: l).set p.length v = p ++ v :: l := by
  induction p with
  | nil => rfl
  | cons x p ih => rw [List.cons_append, List.length_cons, List.set_cons_succ, ih]; rfl
theorem Up_eq (K : Nat) (hK : 2000 ≤ K) (n H : Nat) (hn : n ≤ 60) (rows : List T65) (hl : rows.length = H) (hH : 1 ≤ H ∧ H ≤ 60) :
    grid_Grid_Up K ⟨n, rows⟩ 0 ((H : Int) - 1) 1 0 = some (rows.take 1, ⟨n, rows.drop 1 ++ [rowF n [] false]⟩) := by
  unfold grid_Grid_Up
  rw [region_eq n H rows hl hH, bS, Bool.not_true, cond_false]
  unfold grid_clip
  rw [bS]
  simp only [hl]
  rw [show mxI 0 (mnI 1 (H : Int)) = 1 from by unfold mxI mnI; (repeat' split) <;> omega, if_pos (by omega), if_pos (by omega)]
  unfold slices_Clone'
  rw [if_pos (by simp only [List.length_take, List.length_nil]; omega), bS, List.nil_append, show Int.toNat 1 = 1 from rfl, ← hl, List.take_length]
  obtain ⟨z, hz⟩ : ∃ z, rows.drop (rows.length - 1) = [z] := ⟨rows[rows.length - 1]'(by omega), by rw [List.drop_eq_getElem_cons (by omega : rows.length - 1 < rows.length), List.drop_eq_nil_of_le (by omega)]⟩
  have hq : cpy 0 rows (rows.drop 1) = rows.drop 1 ++ [z] := by
    unfold cpy
    rw [List.take_zero, List.nil_append, List.take_of_length_le (by rw [List.length_drop]; omega), Nat.zero_add, List.length_drop, hz]
  have hql : (cpy 0 rows (rows.drop 1)).length = H := by rw [cpy_len (by omega), hl]
  obtain ⟨k, rfl⟩ : ∃ k, K = k + 2 := ⟨K - 2, by omega⟩
  rw [hql, w64 (by omega) (by omega)]
  unfold grid_Grid_Up_l2
  rw [cD, hql, if_pos (by omega), blank_eq (k + 2) hK n hn, bS, if_pos (by omega), hq]
  have hs : (rows.drop 1 ++ [z]).set (Int.toNat ((H : Int) - 1)) (rowF n [] false) = rows.drop 1 ++ [rowF n [] false] := by
    have := set_mid65 (rows.drop 1) z (rowF n [] false) []
    rw [List.length_drop, hl] at this
    rw [show Int.toNat ((H : Int) - 1) = H - 1 by omega]
    exact this
  rw [hs, w64 (by omega) (by omega)]
  unfold grid_Grid_Up_l2
  rw [cD, if_neg (by simp only [List.length_append, List.length_drop, List.length_cons, List.length_nil]; omega)]
  unfold grid_Grid_Up_j1
  rfl
end Go.Proofs.YtpciioffkjpieaaGreatDoor.Pure
