/- Plain laws: what the plain functions answer, with no program in sight. -/
import Derived.Test.YteghllmaknenlaaDoorPC
set_option linter.unusedVariables false
set_option linter.unusedSimpArgs false
namespace Go.Proofs.YteghllmaknenlaaDoor.Pure
open Go Go.Proofs.XC Go.Proofs.YteghllmaknenlaaDoor

/-! ### FlowPlaces -/
def place : List (List T24) → Nat → Nat → Int × Int
  | [], i, y => (0, 0)
  | r :: t, i, y => if i < r.length then ((y : Int), sumW (ru (r.take i))) else place t (i - r.length) (y + 1)
theorem at_r3 (K : Nat) (hK : 2000 ≤ K) : ∀ (rs : List (List T24)) (i y : Nat), rs.flatten.length ≤ 1000 → (∀ r ∈ rs, IR r) → i ≤ 1000000 → y + rs.length ≤ 1000000 → flow_At_r3 K rs i y = some (place rs i y)
  | [], i, y, h1, h2, h3, h4 => rfl
  | r :: t, i, y, h1, h2, h3, h4 => by
    rw [List.flatten_cons, List.length_append] at h1
    rw [List.length_cons] at h4
    have hr := h2 r (by simp)
    unfold flow_At_r3 place
    rw [cD]
    by_cases c : i < r.length
    · have hs : IR (r.take i) := hr.sub fun x hx => List.mem_of_mem_take hx
      rw [if_pos (by omega), if_pos (by omega), if_pos (by omega), Int.toNat_natCast, List.drop_zero, runes_eq K _ (by rw [List.length_take]; omega) (by rw [List.length_take]; omega), bS, sum_eq K hK _ (by rw [ru_len, List.length_take]; omega) hs, bS, if_pos c]
      rfl
    · have hw : IntKind.wrap .i64 ((i : Int) - (r.length : Int)) = ((i - r.length : Nat) : Int) := by rw [w64 (by omega) (by omega)]; omega
      have hw2 : IntKind.wrap .i64 ((y : Int) + 1) = ((y + 1 : Nat) : Int) := by rw [w64 (by omega) (by omega)]; omega
      rw [if_neg (by omega), if_neg c, hw, hw2]
      exact at_r3 K hK t (i - r.length) (y + 1) (by omega) (fun x hx => h2 x (by simp [hx])) (by omega) (by omega)
theorem at_eq (K : Nat) (hK : 2000 ≤ K) (l : List T24) (w : Int) (i : Nat) (h : l.length ≤ 900) (h4 : IR l) (hi : i < l.length) : flow_At K l w i = some (place (rowsF l w) i 0) := by
  have hl := rowsF_len l w
  have hf := rowsF_flat l w
  unfold flow_At
  rw [cD, if_neg (by omega)]
  unfold flow_At_j5
  rw [cD, if_neg (by omega)]
  unfold flow_At_j1 flow_rows
  rw [bS]
  show (flow_rows_1 K (cw w) l).bind _ = _
  rw [rows_eq K hK (cw w) l (by omega) h4, bS]
  exact at_r3 K hK (rowsF l w) i 0 (by rw [hf]; omega) (fun r hr => h4.sub fun x hx => by rw [← hf]; exact List.mem_flatten.2 ⟨r, hr, hx⟩) (by omega) (by omega)
def gd (l : List T24) (i : Nat) : T24 := l.getD i zT24
theorem gd_get (l : List T24) (i : Nat) (h : i < l.length) : gd l i = l[i] := by unfold gd; rw [List.getD_eq_getElem?_getD, List.getElem?_eq_getElem h]; rfl
theorem gd_left (a b : List T24) (i : Nat) (h : i < a.length) : gd (a ++ b) i = gd a i := by unfold gd; rw [List.getD_eq_getElem?_getD, List.getD_eq_getElem?_getD, List.getElem?_append_left h]
theorem gd_right (a b : List T24) (i : Nat) (h : a.length ≤ i) : gd (a ++ b) i = gd b (i - a.length) := by unfold gd; rw [List.getD_eq_getElem?_getD, List.getD_eq_getElem?_getD, List.getElem?_append_right h]
theorem sum_take (r : List T24) (i : Nat) (h : i < r.length) : sumW (ru (r.take (i + 1))) = sumW (ru (r.take i)) + W (gd r i).Rune := by
  rw [List.take_succ_eq_append_getElem h, ru_app, sumW_app, gd_get r i h]
  simp [ru, sumW]
theorem place_first (w : Int) : ∀ (rs : List (List T24)) (y : Nat), Good w rs → 0 < rs.flatten.length → place rs 0 y = ((y : Int), 0)
  | [], y, h, _ => h.elim
  | r :: t, y, h, hl => by
    have hr : 0 < r.length := by
      rcases h.2 with rfl | ⟨h1, _⟩
      · simpa using hl
      · exact List.length_pos_iff.2 h1
    unfold place
    rw [if_pos hr, List.take_zero]; rfl
theorem place_fit (w : Int) : ∀ (rs : List (List T24)) (i y : Nat), Good w rs → i < rs.flatten.length → (y : Int) ≤ (place rs i y).1 ∧ (place rs i y).1 < y + rs.length ∧ 0 ≤ (place rs i y).2 ∧ (place rs i y).2 + W (gd rs.flatten i).Rune ≤ w
  | [], i, y, h, _ => h.elim
  | r :: t, i, y, h, hl => by
    unfold place
    rw [List.flatten_cons] at hl ⊢
    rw [List.length_append] at hl
    by_cases c : i < r.length
    · rw [if_pos c, gd_left _ _ _ c]
      have h1 := sum_take r i c
      have h2 := sumW_take (ru r) (i + 1)
      rw [← ru_take] at h2
      have h3 := sum_nonneg (ru (r.take i))
      have h4 := h.1
      simp only [List.length_cons]
      omega
    · rw [if_neg c, gd_right _ _ _ (by omega)]
      rcases h.2 with rfl | ⟨_, _, h3⟩
      · simp at hl; omega
      · have := place_fit w t (i - r.length) (y + 1) h3 (by omega)
        simp only [List.length_cons]
        omega
theorem place_step (w : Int) : ∀ (rs : List (List T24)) (i y : Nat), Good w rs → i + 1 < rs.flatten.length →
    ((place rs (i + 1) y).1 = (place rs i y).1 ∧ (place rs (i + 1) y).2 = (place rs i y).2 + W (gd rs.flatten i).Rune) ∨ ((place rs (i + 1) y).1 = (place rs i y).1 + 1 ∧ (place rs (i + 1) y).2 = 0)
  | [], i, y, h, _ => h.elim
  | r :: t, i, y, h, hl => by
    unfold place
    rw [List.flatten_cons] at hl ⊢
    rw [List.length_append] at hl
    by_cases c : i < r.length
    · rw [if_pos c, gd_left _ _ _ c]
      by_cases c2 : i + 1 < r.length
      · rw [if_pos c2]
        exact .inl ⟨rfl, sum_take r i c⟩
      · rw [if_neg c2, show i + 1 - r.length = 0 by omega]
        rcases h.2 with rfl | ⟨_, _, h3⟩
        · simp at hl; omega
        · rw [place_first w t (y + 1) h3 (by omega)]
          exact .inr ⟨by simp, rfl⟩
    · rw [if_neg c, if_neg (by omega), gd_right _ _ _ (by omega)]
      rcases h.2 with rfl | ⟨_, _, h3⟩
      · simp at hl; omega
      · have := place_step w t (i - r.length) (y + 1) h3 (by omega)
        rw [show i - r.length + 1 = i + 1 - r.length by omega] at this
        exact this
theorem place_last (w : Int) : ∀ (rs : List (List T24)) (i y : Nat), Good w rs → i + 1 = rs.flatten.length → (place rs i y).1 + 1 = y + rs.length
  | [], i, y, h, _ => h.elim
  | r :: t, i, y, h, hl => by
    unfold place
    rw [List.flatten_cons, List.length_append] at hl
    rcases h.2 with rfl | ⟨h1, ⟨g, q, u, ht, _⟩, h3⟩
    · rw [if_pos (by simp at hl; omega)]; simp
    · have : 0 < t.flatten.length := by rw [ht]; simp
      rw [if_neg (by omega)]
      have := place_last w t (i - r.length) (y + 1) h3 (by omega)
      simp only [List.length_cons]
      omega
theorem places_loop (K : Nat) (hK : 2000 ≤ K) (p0 : List T24) (w : Int) (q : List T24) (hq : ([] : List T24) ++ List.drop 0 (List.take (Int.toNat (mnI ((p0).length : Int) 40)) p0) = q) (hl : q.length ≤ 40) (hi32 : IR q) : ∀ (k i : Nat) (y x : Int), q.length < k + i → i ≤ q.length →
    (i = 0 → y = 0 ∧ x = 0) → (∀ j, i = j + 1 → y = (place (rowsF q w) j 0).1 ∧ x = (place (rowsF q w) j 0).2 + W (gd q j).Rune) → tidewracklaw15_FlowPlaces_l2 K p0 w k y x i = some true
  | 0, i, y, x, h1, h2, h3, h4 => by omega
  | k + 1, i, y, x, h1, h2, h3, h4 => by
    have ih := places_loop K hK p0 w q hq hl hi32 k
    have hf := rowsF_flat q w
    have hg := rowsF_good q w
    have hle := rowsF_len q w
    have hcw := cw_range w
    have hmo := (good_more _ _ hg).1
    unfold tidewracklaw15_FlowPlaces_l2
    rw [hq, cD]
    by_cases hi : i < q.length
    · have hw : IntKind.wrap .i64 ((i : Int) + 1) = ((i + 1 : Nat) : Int) := by rw [w64 (by omega) (by omega)]; omega
      have hr := hi32.one (List.getElem_mem hi)
      have hW := W_range q[i].Rune
      obtain ⟨f1, f2, f3, f4⟩ := place_fit _ _ i 0 hg (by rw [hf]; exact hi)
      rw [hf, gd_get q i hi] at f4
      have hst : ((place (rowsF q w) i 0).1 = y ∧ (place (rowsF q w) i 0).2 = x) ∨ ((place (rowsF q w) i 0).1 = y + 1 ∧ (place (rowsF q w) i 0).2 = 0) := by
        cases i with
        | zero =>
          obtain ⟨rfl, rfl⟩ := h3 rfl
          rw [place_first _ _ 0 hg (by rw [hf]; exact hi)]
          exact .inl ⟨rfl, rfl⟩
        | succ j =>
          obtain ⟨rfl, rfl⟩ := h4 j rfl
          have := place_step _ _ j 0 hg (by rw [hf]; exact hi)
          rw [hf] at this
          exact this
      have ihh := ih (i + 1) (place (rowsF q w) i 0).1 ((place (rowsF q w) i 0).2 + W q[i].Rune) (by omega) (by omega) (by omega) (fun j hj => by
        obtain rfl : i = j := by omega
        exact ⟨rfl, by rw [gd_get q i hi]⟩)
      rw [if_pos (by omega), if_pos (by omega), at_eq K hK q w i (by omega) hi32 hi, bS, rdD_get _ _ hi, rof64 K (by omega) _ hr, bS, show mxI 2 (mnI w 1000) = cw w from rfl, hw]
      have hy : y ≤ 1000000 ∧ -1 ≤ y := by rcases hst with h | h <;> omega
      have hw1 : IntKind.wrap .i64 (y + 1) = y + 1 := w64 (by omega) (by omega)
      have hw2 : IntKind.wrap .i64 ((place (rowsF q w) i 0).2 + W q[i].Rune) = (place (rowsF q w) i 0).2 + W q[i].Rune := w64 (by omega) (by omega)
      rw [hw1, hw2, cD, if_neg (by rcases hst with h | h <;> omega), cD, if_neg (by rcases hst with h | h <;> omega)]
      rcases hst with ⟨g1, g2⟩ | ⟨g1, g2⟩
      · rw [cE, if_pos g1, cN, if_pos g2, cD, if_neg (by omega), cD, if_neg (by omega)]
        exact ihh
      · rw [cE, if_neg (by omega), cD, if_pos (by omega), cN, if_pos g2, cD, if_neg (by omega)]
        exact ihh
    · have he : i = q.length := by omega
      rw [if_neg (by omega)]
      unfold tidewracklaw15_FlowPlaces_j1
      rw [hq, count_eq K hK q w (by omega) hi32, bS]
      have hfin : (((rowsF q w).length : Nat) : Int) = y + 1 := by
        cases i with
        | zero =>
          obtain ⟨rfl, rfl⟩ := h3 rfl
          omega
        | succ j =>
          obtain ⟨rfl, rfl⟩ := h4 j rfl
          have := place_last _ _ j 0 hg (by rw [hf]; omega)
          omega
      rw [w64 (by omega) (by omega), hfin, beq_self_eq_true]
theorem FlowPlaces (x0 : List T24) (w0 : ∀ y ∈ x0, (WF.wfT24) y) (l0 : x0.length ≤ maxLen) (x1 : Int) (w1 : (Lit.int .i64 x1).wf = true) : ∃ K, tidewracklaw15_FlowPlaces K x0 x1 = some true := by
  suffices h : ∀ K, 20000 ≤ K → tidewracklaw15_FlowPlaces K x0 x1 = some true from ⟨20000, h _ (Nat.le_refl _)⟩
  intro K hK
  obtain ⟨q, hq, hl, h32⟩ := few x0 w0 40 (by omega)
  have hm : mnI (x0.length : Int) 40 = ((min x0.length 40 : Nat) : Int) := by unfold mnI; split <;> omega
  rw [show ((40 : Nat) : Int) = 40 from rfl] at hq
  have hql := hq
  rw [List.nil_append] at hql
  unfold tidewracklaw15_FlowPlaces
  rw [awake_eq K (by omega), bS, Bool.not_true, cond_false, if_pos (by omega), if_pos (by omega), hql, if_pos (by simp only [List.length_nil]; omega)]
  exact places_loop K (by omega) x0 x1 q hq hl h32 K 0 0 0 (by omega) (by omega) (fun _ => ⟨rfl, rfl⟩) (fun j hj => by omega)
end Go.Proofs.YteghllmaknenlaaDoor.Pure
