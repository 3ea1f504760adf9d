/- Plain laws: what the plain functions answer, with no program in sight. -/
import Derived.Test.YtpciioffkjpieaaGreatDoorPB
set_option linter.unusedVariables false
set_option linter.unusedSimpArgs false
namespace Go.Proofs.YtpciioffkjpieaaGreatDoor.Pure
open Go Go.Proofs.XC Go.Proofs.YtpciioffkjpieaaGreatDoor

/-! ### Rows above the cursor's row, and its own -/
abbrev Lg := List (List Int × Bool)
def rw_ (n : Nat) (p : List Int × Bool) : T65 := rowF n p.1 p.2
def rowsA (n H : Nat) (ab : Lg) (cur : List Int) (b : Bool) : List T65 := ab.map (rw_ n) ++ rowF n cur b :: List.replicate (H - 1 - ab.length) (rowF n [] false)
def stp (H : Nat) (ab : Lg) (p : List Int × Bool) : Lg × Lg := if ab.length + 1 = H then ((ab ++ [p]).take 1, (ab ++ [p]).drop 1) else ([], ab ++ [p])
theorem stp_app (H : Nat) (ab : Lg) (p : List Int × Bool) : (stp H ab p).1 ++ (stp H ab p).2 = ab ++ [p] := by
  unfold stp
  split
  · exact List.take_append_drop 1 _
  · rfl
theorem stp_len {H : Nat} {ab : Lg} (p : List Int × Bool) (h : ab.length < H) : (stp H ab p).2.length < H := by
  unfold stp
  split
  · simp only [List.length_drop, List.length_append, List.length_cons, List.length_nil]; omega
  · simp only [List.length_append, List.length_cons, List.length_nil]; omega
theorem rowsA_len {n H : Nat} {ab : Lg} (cur : List Int) (b : Bool) (h : ab.length < H) : (rowsA n H ab cur b).length = H := by
  unfold rowsA
  simp only [List.length_append, List.length_map, List.length_cons, List.length_replicate]; omega
theorem rowsA_set (n H : Nat) (ab : Lg) (cur : List Int) (b : Bool) (c2 : List Int) (b2 : Bool) : (rowsA n H ab cur b).set ab.length (rowF n c2 b2) = rowsA n H ab c2 b2 := by
  have := set_mid65 (ab.map (rw_ n)) (rowF n cur b) (rowF n c2 b2) (List.replicate (H - 1 - ab.length) (rowF n [] false))
  rw [List.length_map] at this
  exact this
theorem rowsA_get (n H : Nat) (ab : Lg) (cur : List Int) (b : Bool) (h : ab.length < (rowsA n H ab cur b).length) : (rowsA n H ab cur b)[ab.length] = rowF n cur b := by
  have h1 : (rowsA n H ab cur b)[ab.length]? = some (rowF n cur b) := by
    unfold rowsA
    rw [List.getElem?_append_right (by simp)]
    simp
  exact (List.getElem?_eq_some_iff.1 h1).2
theorem nl (K : Nat) (hK : 2000 ≤ K) (n H : Nat) (hn : 1 ≤ n ∧ n ≤ 60) (hH : 1 ≤ H ∧ H ≤ 60) (ab : Lg) (hab : ab.length < H) (cur : List Int) (b : Bool) (x : Nat) (hx : x < n) (wt : Bool) :
    screen_Screen_line K (scr n H (rowsA n H ab cur b) x (ab.length : Nat) wt) = some ((stp H ab (cur, b)).1.map (rw_ n), scr n H (rowsA n H (stp H ab (cur, b)).2 [] false) x ((stp H ab (cur, b)).2.length : Nat) false) := by
  rw [line_eq K hK n H hn _ (rowsA_len cur b hab) hH x ab.length hx hab]
  unfold stp
  by_cases c : ab.length + 1 = H
  · rw [if_pos c, if_pos c]
    have e : rowsA n H ab cur b = (ab ++ [(cur, b)]).map (rw_ n) := by
      unfold rowsA
      rw [show H - 1 - ab.length = 0 by omega, List.map_append]; rfl
    have e2 : rowsA n H ((ab ++ [(cur, b)]).drop 1) [] false = ((ab ++ [(cur, b)]).map (rw_ n)).drop 1 ++ [rowF n [] false] := by
      unfold rowsA
      rw [show H - 1 - ((ab ++ [(cur, b)]).drop 1).length = 0 by simp only [List.length_drop, List.length_append, List.length_cons, List.length_nil]; omega, List.map_drop]; rfl
    have e3 : ((ab ++ [(cur, b)]).drop 1).length = ab.length := by simp only [List.length_drop, List.length_append, List.length_cons, List.length_nil]; omega
    simp only
    rw [e2, e, List.map_take, e3]
  · rw [if_neg c, if_neg c]
    have e : rowsA n H ab cur b = rowsA n H (ab ++ [(cur, b)]) [] false := by
      unfold rowsA
      rw [show H - 1 - ab.length = (H - 1 - (ab ++ [(cur, b)]).length) + 1 by simp only [List.length_append, List.length_cons, List.length_nil]; omega, List.replicate_succ, List.map_append, List.append_assoc]; rfl
    simp only
    rw [e, List.length_append]
    rfl
def scrA (n H : Nat) (ab : Lg) (cur : List Int) : T55 := scr n H (rowsA n H ab cur false) (min cur.length (n - 1) : Nat) (ab.length : Nat) (decide (cur.length = n))
def prn (n H : Nat) (ab : Lg) (cur : List Int) (r : Int) : Lg × Lg × List Int := if cur.length = n then ((stp H ab (cur, true)).1, (stp H ab (cur, true)).2, [r]) else ([], ab, cur ++ [r])
theorem pj2_eq (K : Nat) (hK : 2000 ≤ K) (n H : Nat) (hn : 2 ≤ n ∧ n ≤ 60) (hH : 1 ≤ H ∧ H ≤ 60) (ab : Lg) (hab : ab.length < H) (c : List Int) (hch : ∀ r ∈ c, Ch r) (r : Int) (hrc : Ch r) (hcl : c.length < n) (wt : Bool) (m : Int) (off : List T65) :
    screen_Screen_print_j2 K r 1 ((n : Int), m) n (rowsA n H ab c false) c.length (ab.length : Nat) 0 0 false false false 0 0 0 0 false false false wt 0 ((H : Int) - 1) true (⟨#[]⟩ : ByteArray) off = some (off, scrA n H ab (c ++ [r])) := by
  have hlen := rowsA_len (n := n) c false hab
  unfold screen_Screen_print_j2
  rw [w64 (by omega) (by omega), cD, if_neg (by simp only; omega)]
  unfold screen_Screen_print_j3
  show (screen_Screen_edit_of39_0_0 K (scr n H (rowsA n H ab c false) c.length (ab.length : Nat) wt) r).bind _ = _
  rw [edit39_eq K hK n H hn.2 _ (by omega) c hch r hrc hcl ab.length (by omega) (rowsA_get n H ab c false (by omega)) wt, bS, rowsA_set]
  show some (off, scr n H (rowsA n H ab (c ++ [r]) false) (mnI (IntKind.wrap .i64 ((c.length : Int) + 1)) (IntKind.wrap .i64 ((n : Int) - 1))) (ab.length : Nat) ((IntKind.wrap .i64 ((c.length : Int) + 1)) == (n : Int))) = _
  rw [w64 (by omega) (by omega), w64 (by omega) (by omega)]
  unfold scrA
  have e1 : mnI ((c.length : Int) + 1) ((n : Int) - 1) = ((min (c ++ [r]).length (n - 1) : Nat) : Int) := by
    simp only [List.length_append, List.length_cons, List.length_nil]
    unfold mnI; split <;> omega
  have e2 : (((c.length : Int) + 1) == (n : Int)) = decide ((c ++ [r]).length = n) := by
    simp only [List.length_append, List.length_cons, List.length_nil]
    by_cases h : c.length + 1 = n
    · rw [decide_eq_true h, beq_iff_eq]; omega
    · rw [decide_eq_false (by simpa using h), beq_eq_false_iff_ne]; omega
  rw [e1, e2]
theorem print_eq' (K : Nat) (hK : 2000 ≤ K) (n H : Nat) (hn : 2 ≤ n ∧ n ≤ 60) (hH : 1 ≤ H ∧ H ≤ 60) (ab : Lg) (hab : ab.length < H) (cur : List Int) (hch : ∀ r ∈ cur, Ch r) (hcl : cur.length ≤ n) (r : Int) (hrc : Ch r) :
    screen_Screen_print K (scrA n H ab cur) r = some ((prn n H ab cur r).1.map (rw_ n), scrA n H (prn n H ab cur r).2.1 (prn n H ab cur r).2.2) := by
  have hlen := rowsA_len (n := n) cur false hab
  unfold screen_Screen_print
  rw [of_eq K (by omega) r (by unfold Ch at hrc; omega) (by unfold Ch at hrc; omega), W_one hrc, bS]
  show ((grid_Grid_Size ⟨n, rowsA n H ab cur false⟩).bind _) = _
  unfold grid_Grid_Size
  rw [bS, show ((1 : Int) == 0) = false from rfl, cond_false, cD, if_neg (by simp only; omega)]
  unfold screen_Screen_print_j1
  have hwt : (scrA n H ab cur).waiting = decide (cur.length = n) := rfl
  rw [hwt]
  unfold prn
  by_cases c : cur.length = n
  · rw [decide_eq_true c, cond_true, if_pos c]
    unfold screen_Screen_print_j4
    show (bif true then ((screen_Screen_edit_of34 K (scr n H (rowsA n H ab cur false) (min cur.length (n - 1) : Nat) (ab.length : Nat) true)).bind _) else _) = _
    rw [cond_true]
    have hg := rowsA_get n H ab cur false (by omega)
    rw [edit34_eq K n H hn.2 _ (by omega) _ ab.length (by omega) (by rw [hg]; exact row_len false hcl), bS, hg]
    rw [show (⟨(rowF n cur false).Cells, true⟩ : T65) = rowF n cur true from rfl, rowsA_set]
    show (screen_Screen_line K (scr n H (rowsA n H ab cur true) (0 : Nat) (ab.length : Nat) true)).bind _ = _
    rw [nl K hK n H (by omega) hH ab hab cur true 0 (by omega), bS]
    have hs := stp_len (cur, true) hab
    have hs1 : (stp H ab (cur, true)).1.length ≤ 60 := by unfold stp; split <;> simp <;> omega
    rw [if_pos (by simp only [List.length_nil, List.length_map]; omega), List.nil_append]
    exact pj2_eq K hK n H hn hH _ hs [] (fun z hz => by cases hz) r hrc (by simp only [List.length_nil]; omega) false _ _
  · rw [decide_eq_false c, cond_false, if_neg c]
    unfold screen_Screen_print_j4
    rw [cond_false]
    have e : min cur.length (n - 1) = cur.length := by omega
    have := pj2_eq K hK n H hn hH ab hab cur hch r hrc (by omega) false ((rowsA n H ab cur false).length : Int) []
    unfold scrA
    rw [e]
    exact this
/-! ### Control bytes, and actions -/
theorem ctl13 (K : Nat) (n H : Nat) (hn : 2 ≤ n ∧ n ≤ 60) (hH : 1 ≤ H ∧ H ≤ 60) (ab : Lg) (hab : ab.length < H) (cur : List Int) :
    screen_Screen_control K (scrA n H ab cur) 13 = some ([], scr n H (rowsA n H ab cur false) (0 : Nat) (ab.length : Nat) false) := by
  unfold screen_Screen_control
  rw [show ((13 : Int) == 8) = false from rfl, cond_false, show ((13 : Int) == 9) = false from rfl, cond_false, show ((13 : Int) == 10) = false from rfl, cond_false, show ((13 : Int) == 11) = false from rfl, cond_false, show ((13 : Int) == 12) = false from rfl]
  unfold screen_Screen_control_j1
  rw [cond_false, show ((13 : Int) == 13) = true from rfl, cond_true]
  unfold scrA
  show (screen_Screen_move (scr n H (rowsA n H ab cur false) _ (ab.length : Nat) _) 0 (ab.length : Nat)).bind _ = _
  rw [move_eq n H (by omega) _ (rowsA_len cur false hab) hH, bS, show mxI 0 (mnI 0 ((n : Int) - 1)) = ((0 : Nat) : Int) from by unfold mxI mnI; (repeat' split) <;> omega, clip_in (by omega) (by omega)]
theorem ctl10 (K : Nat) (hK : 2000 ≤ K) (n H : Nat) (hn : 2 ≤ n ∧ n ≤ 60) (hH : 1 ≤ H ∧ H ≤ 60) (ab : Lg) (hab : ab.length < H) (cur : List Int) :
    screen_Screen_control K (scr n H (rowsA n H ab cur false) (0 : Nat) (ab.length : Nat) false) 10 = some ((stp H ab (cur, false)).1.map (rw_ n), scrA n H (stp H ab (cur, false)).2 []) := by
  unfold screen_Screen_control
  rw [show ((10 : Int) == 8) = false from rfl, cond_false, show ((10 : Int) == 9) = false from rfl, cond_false, show ((10 : Int) == 10) = true from rfl, cond_true]
  unfold screen_Screen_control_j1
  rw [cond_true, nl K hK n H (by omega) hH ab hab cur false 0 (by omega), bS]
  unfold scrA
  rw [show min ([] : List Int).length (n - 1) = 0 from by simp, show decide (([] : List Int).length = n) = false from decide_eq_false (by simp only [List.length_nil]; omega)]
def prt (r : Int) : T37 := ⟨1, r, 0, false, [], (⟨#[]⟩ : ByteArray)⟩
def ctl (b : Int) : T37 := ⟨2, 0, b, false, [], (⟨#[]⟩ : ByteArray)⟩
theorem do_prt (K : Nat) (s : T55) (r : Int) : screen_Screen_Do K s (prt r) = screen_Screen_print K s r := by
  unfold screen_Screen_Do prt
  show (screen_Screen_print K s r).bind (fun t => some (t.1, t.2)) = _
  cases screen_Screen_print K s r <;> rfl
theorem do_ctl (K : Nat) (s : T55) (b : Int) : screen_Screen_Do K s (ctl b) = screen_Screen_control K s b := by
  unfold screen_Screen_Do ctl
  show (screen_Screen_control K s b).bind (fun t => some (t.1, t.2)) = _
  cases screen_Screen_control K s b <;> rfl
end Go.Proofs.YtpciioffkjpieaaGreatDoor.Pure
