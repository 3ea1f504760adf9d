/- Plain laws: what the plain functions answer, with no program in sight. -/
import Derived.Test.YteghllmaknenlaaDoorPX
set_option linter.unusedVariables false
set_option linter.unusedSimpArgs false
namespace Go.Proofs.YteghllmaknenlaaDoor.Pure
open Go Go.Proofs.XC Go.Proofs.YteghllmaknenlaaDoor

/-! ### The document's rows -/
def rg (w : Int) : List T24 → Int → List T24 → List (List T24)
  | cur, s, [] => [cur]
  | cur, s, g :: q => if s + W g.Rune > w then cur :: rg w [g] (W g.Rune) q else rg w (cur ++ [g]) (s + W g.Rune) q
theorem rg_head (w : Int) : ∀ (q cur : List T24) (s : Int), ∃ q' u, rg w cur s q = (cur ++ q') :: u
  | [], cur, s => ⟨[], [], by simp [rg]⟩
  | g :: q, cur, s => by
    unfold rg
    split
    · exact ⟨[], rg w [g] (W g.Rune) q, by simp⟩
    · obtain ⟨q', u, h⟩ := rg_head w q (cur ++ [g]) (s + W g.Rune)
      exact ⟨[g] ++ q', u, by rw [h, List.append_assoc]⟩
theorem rg_flat (w : Int) : ∀ (q cur : List T24) (s : Int), (rg w cur s q).flatten = cur ++ q
  | [], cur, s => by simp [rg]
  | g :: q, cur, s => by
    unfold rg
    split
    · rw [List.flatten_cons, rg_flat w q]; simp
    · rw [rg_flat w q]; simp
theorem ru_one (g : T24) : sumW (ru [g]) = W g.Rune := by simp [ru, sumW]
theorem rg_good (w : Int) (hw : 2 ≤ w) : ∀ (q cur : List T24) (s : Int), sumW (ru cur) = s → s ≤ w → Good w (rg w cur s q)
  | [], cur, s, h1, h2 => by unfold rg; exact ⟨by omega, .inl rfl⟩
  | g :: q, cur, s, h1, h2 => by
    have hW := W_range g.Rune
    unfold rg
    split
    · rename_i c
      obtain ⟨q', u, h⟩ := rg_head w q [g] (W g.Rune)
      refine ⟨by omega, .inr ⟨fun e => ?_, ⟨g, q', u, h, by omega⟩, rg_good w hw q [g] (W g.Rune) (ru_one g) (by omega)⟩⟩
      subst e
      have : sumW (ru []) = 0 := rfl
      omega
    · exact rg_good w hw q (cur ++ [g]) (s + W g.Rune) (by rw [ru_app, sumW_app, ru_one]; omega) (by omega)
theorem sum_front (a b : List T24) : sumW (ru a) ≤ sumW (ru (a ++ b)) := by
  rw [ru_app, sumW_app]
  have := sum_nonneg (ru b)
  omega
/-- Rows that are greedy are told by their glyphs. -/
theorem good_one (w : Int) : ∀ (a b : List (List T24)), Good w a → Good w b → a.flatten = b.flatten → a = b
  | [], b, h, _, _ => h.elim
  | r :: t, [], _, h, _ => h.elim
  | r :: t, r' :: t', h, h', e => by
    rw [List.flatten_cons, List.flatten_cons] at e
    have key : ∀ (r r' : List T24) (t t' : List (List T24)), Good w (r :: t) → Good w (r' :: t') → r ++ t.flatten = r' ++ t'.flatten → ∀ a', r' = r ++ a' → a' = [] := by
      intro r r' t t' h h' e a' ha
      subst ha
      rw [List.append_assoc, List.append_cancel_left_eq] at e
      cases a' with
      | nil => rfl
      | cons g a' =>
        rcases h.2 with rfl | ⟨_, ⟨g2, q, u, ht, h2⟩, _⟩
        · simp at e
        · rw [ht, List.flatten_cons, List.cons_append, List.cons_append] at e
          injection e with e1 _
          subst e1
          have h3 := h'.1
          rw [ru_app, sumW_app] at h3
          have : sumW (ru (g2 :: a')) = W g2.Rune + sumW (ru a') := rfl
          have := sum_nonneg (ru a')
          omega
    have hr : r = r' := by
      rcases List.append_eq_append_iff.1 e with ⟨a', h1, _⟩ | ⟨a', h1, _⟩
      · have := key r r' t t' h h' e a' h1
        rw [h1, this, List.append_nil]
      · have := key r' r t' t h' h e.symm a' h1
        rw [h1, this, List.append_nil]
    subst hr
    rw [List.append_cancel_left_eq] at e
    congr 1
    rcases h.2 with rfl | ⟨_, ⟨g, q, u, ht, _⟩, hg⟩
    · rcases h'.2 with rfl | ⟨_, ⟨g, q, u, ht, _⟩, hg⟩
      · rfl
      · rw [ht] at e; simp at e
    · rcases h'.2 with rfl | ⟨_, _, hg'⟩
      · rw [ht] at e; simp at e
      · exact good_one w t t' hg hg' e
theorem rg_rows (l : List T24) (w : Int) : rg (cw w) [] 0 l = rowsF l w :=
  good_one (cw w) _ _ (rg_good (cw w) (cw_range w).1 l [] 0 rfl (by have := cw_range w; omega)) (rowsF_good l w) (by rw [rg_flat, rowsF_flat]; rfl)
def tls (rs : List (List T24)) : List (List T49) := rs.map (·.map tl14)
theorem set_end {α : Type} (a : List α) (x y : α) (i : Int) (hi : i = (a.length : Int)) : (a ++ [x]).set i.toNat y = a ++ [y] := by
  subst hi
  simp
theorem rcut_loop (K : Nat) (hK : 2000 ≤ K) (p : List T24) (w : Int) (hp : p.length ≤ 1000) (h32 : IR p) : ∀ (k i : Nat) (done : List (List T24)) (cur : List T24) (s : Int), p.length < k + i → i ≤ p.length → done.length ≤ i → cur.length ≤ i → 0 ≤ s → s ≤ 2 * i →
    tidewrackref15_Cut_l2 K (p.map tl14) w k (tls done ++ [cur.map tl14]) s i = some (tls (done ++ rg (cw w) cur s (p.drop i)))
  | 0, i, done, cur, s, h1, h2, h3, h4, h5, h6 => by omega
  | k + 1, i, done, cur, s, h1, h2, h3, h4, h5, h6 => by
    have ih := rcut_loop K hK p w hp h32 k
    have hm : (p.map tl14).length = p.length := List.length_map _
    unfold tidewrackref15_Cut_l2
    rw [cD]
    by_cases hi : i < p.length
    · have hw : IntKind.wrap .i64 ((i : Int) + 1) = ((i + 1 : Nat) : Int) := by rw [w64 (by omega) (by omega)]; omega
      have hr := h32.one (List.getElem_mem hi)
      have hW := W_range p[i].Rune
      have hcr := cw_range w
      have hj : ∀ (dn : List (List T24)) (c : List T24) (s2 : Int), dn.length ≤ i + 1 → c.length ≤ i → 0 ≤ s2 → s2 ≤ 2 * i → tidewrackref15_Cut_j3 (p.map tl14) i (tidewrackref15_Cut_l2 K (p.map tl14) w k) (W p[i].Rune) (tls dn ++ [c.map tl14]) s2 = tidewrackref15_Cut_l2 K (p.map tl14) w k (tls dn ++ [(c ++ [p[i]]).map tl14]) (s2 + W p[i].Rune) ((i + 1 : Nat) : Int) := by
        intro dn c s2 q1 q2 q3 q4
        have hl : (tls dn ++ [c.map tl14]).length = dn.length + 1 := by simp [tls]
        have hx : IntKind.wrap .i64 (((tls dn ++ [c.map tl14]).length : Int) - 1) = (dn.length : Int) := by rw [w64 (by omega) (by omega), hl]; omega
        have hg : rdD [] (tls dn ++ [c.map tl14]) (dn.length : Int) = c.map tl14 := by
          rw [rdD_get _ _ (by rw [hl]; omega)]
          rw [List.getElem_append_right (by simp [tls])]
          simp [tls]
        unfold tidewrackref15_Cut_j3
        rw [hx, hg, if_pos (by rw [hl]; omega), if_pos (by simp only [List.length_map, List.length_cons, List.length_nil]; omega), set_end _ _ _ _ (by simp [tls]), rdD_get _ _ (by rw [hm]; exact hi), List.getElem_map, hw, w64 (by omega) (by omega)]
        congr 1
        simp
      rw [if_pos (by omega), if_pos (by rw [hm]; omega), rdD_get _ _ (by rw [hm]; exact hi), List.getElem_map]
      show (tidewrackref06_Of K (IntKind.wrap .i64 p[i].Rune)).bind _ = _
      rw [rof64 K (by omega) _ hr, bS, w64 (x := s + W p[i].Rune) (by omega) (by omega), show mxI 2 (mnI w 1000) = cw w from rfl, cD, List.drop_eq_getElem_cons hi, rg]
      by_cases c : s + W p[i].Rune > cw w
      · have e1 : tls done ++ [cur.map tl14] ++ [([] : List T49)] = tls (done ++ [cur]) ++ [([] : List T24).map tl14] := by simp [tls]
        rw [if_pos c, if_pos c, if_pos (by simp [tls]; omega), e1, hj _ _ 0 (by simp; omega) (by simp) (by omega) (by omega), ih (i + 1) _ _ _ (by omega) (by omega) (by simp; omega) (by simp) (by omega) (by omega)]
        simp
      · rw [if_neg c, if_neg c, hj _ _ s (by omega) h4 h5 h6, ih (i + 1) _ _ _ (by omega) (by omega) (by omega) (by simp; omega) (by omega) (by omega)]
    · rw [if_neg (by rw [hm]; omega), List.drop_eq_nil_of_le (by omega)]
      unfold tidewrackref15_Cut_j1 rg
      simp [tls]
theorem rcut_eq (K : Nat) (hK : 2000 ≤ K) (p : List T24) (w : Int) (hp : p.length ≤ 1000) (h32 : IR p) : tidewrackref15_Cut K (p.map tl14) w = some (tls (rowsF p w)) := by
  have := rcut_loop K hK p w hp h32 K 0 [] [] 0 (by omega) (by omega) (by simp) (by simp) (by omega) (by omega)
  rw [List.drop_zero, rg_rows, List.nil_append] at this
  exact this
/-! ### Rows are alike -/
theorem rows_loop2 (K : Nat) (rs : List (List T24)) (hr : rs.length ≤ 100000) (h1 : ∀ r ∈ rs, r.length ≤ 1000) (hK : 2000 ≤ K) : ∀ (k i : Nat), rs.length < k + i → i ≤ rs.length → tidewracklaw15_Rows_l2 K rs (tls rs) k i = some true
  | 0, i, h1, h2 => by omega
  | k + 1, i, h2, h3 => by
    have ih := rows_loop2 K rs hr h1 hK k
    have hm : (tls rs).length = rs.length := List.length_map _
    unfold tidewracklaw15_Rows_l2
    rw [cD]
    by_cases hi : i < rs.length
    · have hw : IntKind.wrap .i64 ((i : Int) + 1) = ((i + 1 : Nat) : Int) := by rw [w64 (by omega) (by omega)]; omega
      have hl := h1 _ (List.getElem_mem hi)
      have hg : rdD [] (tls rs) (i : Int) = rs[i].map tl14 := by rw [rdD_get _ _ (by omega)]; simp [tls]
      rw [if_pos (by omega), if_pos (by omega), if_pos (by omega), rdD_get _ _ hi, hg, glyphs_eq K _ (by omega) (by omega), bS, Bool.not_true, cond_false, hw]
      exact ih (i + 1) (by omega) (by omega)
    · rw [if_neg (by omega)]; rfl
theorem rows_alike (K : Nat) (rs : List (List T24)) (hr : rs.length ≤ 1000) (h1 : ∀ r ∈ rs, r.length ≤ 1000) (hK : 2000 ≤ K) : tidewracklaw15_Rows K rs (tls rs) = some true := by
  unfold tidewracklaw15_Rows
  rw [cN, if_pos (by simp [tls])]
  exact rows_loop2 K rs (by omega) h1 hK K 0 (by omega) (by omega)
/-! ### Where a glyph is -/
theorem rat7 (K : Nat) (hK : 2000 ≤ K) (rs : List (List T24)) (y j : Nat) (hy : y < rs.length) (hj : j ≤ rs[y].length) (hl : rs[y].length ≤ 1000) (h32 : IR rs[y]) : ∀ (k i : Nat) (s : Int), j < k + i → i ≤ j → 0 ≤ s → s ≤ 2 * i →
    tidewrackref15_At_l7 K (tls rs) j y k s i = some ((y : Int), s + sumW (ru ((rs[y].take j).drop i)))
  | 0, i, s, h1, h2, h3, h4 => by omega
  | k + 1, i, s, h1, h2, h3, h4 => by
    have ih := rat7 K hK rs y j hy hj hl h32 k
    have hg : rdD [] (tls rs) (y : Int) = rs[y].map tl14 := by rw [rdD_get _ _ (by simpa [tls] using hy)]; simp [tls]
    have ht : (List.drop 0 (List.take (Int.toNat (j : Int)) (rs[y].map tl14))) = (rs[y].take j).map tl14 := by rw [List.drop_zero, Int.toNat_natCast, List.map_take]
    have htl : ((rs[y].take j).map tl14).length = j := by rw [List.length_map, List.length_take]; omega
    unfold tidewrackref15_At_l7
    rw [hg, ht, cD, htl]
    by_cases hi : i < j
    · have hw : IntKind.wrap .i64 ((i : Int) + 1) = ((i + 1 : Nat) : Int) := by rw [w64 (by omega) (by omega)]; omega
      have hi2 : i < (rs[y].take j).length := by rw [List.length_take]; omega
      have hr := (h32.sub fun x hx => List.mem_of_mem_take hx : IR (rs[y].take j)).one (List.getElem_mem hi2)
      have hW := W_range (rs[y].take j)[i].Rune
      rw [if_pos (by omega), if_pos (by omega), rdD_get _ _ (by rw [htl]; exact hi), List.getElem_map]
      show (tidewrackref06_Of K (IntKind.wrap .i64 (rs[y].take j)[i].Rune)).bind _ = _
      rw [rof64 K (by omega) _ hr, bS, hw, w64 (by omega) (by omega), ih (i + 1) _ (by omega) (by omega) (by omega) (by omega), List.drop_eq_getElem_cons hi2]
      congr 2
      show s + W (rs[y].take j)[i].Rune + sumW (ru ((rs[y].take j).drop (i + 1))) = s + (W (rs[y].take j)[i].Rune + sumW (ru ((rs[y].take j).drop (i + 1))))
      omega
    · rw [if_neg (by omega), List.drop_eq_nil_of_le (by rw [List.length_take]; omega)]
      unfold tidewrackref15_At_j6
      simp [ru, sumW]
theorem rat3 (K : Nat) (hK : 2000 ≤ K) (rs : List (List T24)) (hr : rs.length ≤ 1000) (h1 : ∀ r ∈ rs, r.length ≤ 1000) (h32 : ∀ r ∈ rs, IR r) : ∀ (k y i : Nat), rs.length < k + y → y ≤ rs.length → i ≤ 1000000 →
    tidewrackref15_At_l3 K (tls rs) k i y = some (place (rs.drop y) i y)
  | 0, y, i, h2, h3, h4 => by omega
  | k + 1, y, i, h2, h3, h4 => by
    have ih := rat3 K hK rs hr h1 h32 k
    have hm : (tls rs).length = rs.length := List.length_map _
    unfold tidewrackref15_At_l3
    rw [cD]
    by_cases hy : y < rs.length
    · have hg : rdD [] (tls rs) (y : Int) = rs[y].map tl14 := by rw [rdD_get _ _ (by omega)]; simp [tls]
      have hl := h1 _ (List.getElem_mem hy)
      have hw : IntKind.wrap .i64 ((y : Int) + 1) = ((y + 1 : Nat) : Int) := by rw [w64 (by omega) (by omega)]; omega
      rw [if_pos (by omega), if_pos (by omega), hg, cD, List.length_map, List.drop_eq_getElem_cons hy, place]
      by_cases c : i < rs[y].length
      · have := rat7 K hK rs y i hy (by omega) hl (h32 _ (List.getElem_mem hy)) K 0 0 (by omega) (by omega) (by omega) (by omega)
        rw [if_pos (by omega), if_pos (by omega), if_pos (by omega), if_pos c]
        rw [List.drop_zero, Int.zero_add] at this
        exact this
      · have hw2 : IntKind.wrap .i64 ((i : Int) - (rs[y].length : Int)) = ((i - rs[y].length : Nat) : Int) := by rw [w64 (by omega) (by omega)]; omega
        rw [if_neg (by omega), if_neg c]
        unfold tidewrackref15_At_j5 tidewrackref15_At_j4
        rw [hg, List.length_map, hw, hw2]
        exact ih (y + 1) _ (by omega) (by omega) (by omega)
    · rw [if_neg (by omega), List.drop_eq_nil_of_le (by omega)]; rfl
theorem rat_eq (K : Nat) (hK : 2000 ≤ K) (l : List T24) (w : Int) (i : Int) (h : l.length ≤ 900) (h4 : IR l) : tidewrackref15_At K (l.map tl14) w i = flow_At K l w i := by
  have hl := rowsF_len l w
  have hf := rowsF_flat l w
  unfold tidewrackref15_At
  rw [cD]
  by_cases c1 : i < 0
  · rw [if_pos c1]
    unfold tidewrackref15_At_j8 flow_At flow_At_j5
    rw [cond_true, cD, if_pos c1, cond_true]
  · rw [if_neg c1]
    unfold tidewrackref15_At_j8
    rw [cD, List.length_map]
    by_cases c2 : i ≥ (l.length : Int)
    · rw [if_pos c2]
      unfold flow_At flow_At_j5
      rw [cD, if_neg c1, cD, if_pos c2]
    · rw [if_neg c2]
      obtain ⟨j, rfl⟩ : ∃ j : Nat, i = j := ⟨i.toNat, by omega⟩
      rw [at_eq K hK l w j h h4 (by omega)]
      unfold tidewrackref15_At_j1
      rw [rcut_eq K hK l w (by omega) h4, bS]
      have := rat3 K hK (rowsF l w) (by omega) (fun r hr => by have := mem_len hr; rw [hf] at this; omega) (fun r hr => h4.sub fun x hx => by rw [← hf]; exact List.mem_flatten.2 ⟨r, hr, hx⟩) K 0 j (by omega) (by omega) (by omega)
      rw [List.drop_zero] at this
      exact this
theorem at_some (K : Nat) (hK : 2000 ≤ K) (l : List T24) (w : Int) (i : Int) (h : l.length ≤ 900) (h4 : IR l) : ∃ r, flow_At K l w i = some r := by
  unfold flow_At
  rw [cD]
  by_cases c1 : i < 0
  · rw [if_pos c1]; exact ⟨_, rfl⟩
  · rw [if_neg c1]
    by_cases c2 : i ≥ (l.length : Int)
    · refine ⟨(0, 0), ?_⟩
      unfold flow_At_j5
      rw [cD, if_pos c2]
    · obtain ⟨j, rfl⟩ : ∃ j : Nat, i = j := ⟨i.toNat, by omega⟩
      have := at_eq K hK l w j h h4 (by omega)
      unfold flow_At at this
      rw [cD, if_neg c1] at this
      exact ⟨_, this⟩
/-! ### Their texts -/
theorem renc_eq (r : Int) : tidewrackref05_Encode r = some (strOfNums (encF r)) := by
  have key : ∀ x : Int, 0 ≤ x → x ≤ 1114111 → tidewrackref05_Encode_j1 x = some (strOfNums (encB x)) := by
    intro x h0 h1
    simp only [tidewrackref05_Encode_j1, encB, cD, td x 64 h0, td x 4096 h0, td x 262144 h0, tm x 64 h0]
    rw [w64 (x := x / 64) (by omega) (by omega), w64 (x := x / 4096) (by omega) (by omega), w64 (x := x / 262144) (by omega) (by omega), tm (x / 64) 64 (by omega), tm (x / 4096) 64 (by omega)]
    by_cases c1 : x < 128
    · rw [if_pos c1, if_pos c1, wu8 (by omega) (by omega)]
    · rw [if_neg c1, if_neg c1]
      by_cases c2 : x < 2048
      · rw [if_pos c2, if_pos c2]
        simp (disch := omega) only [w64, wu8]
      · rw [if_neg c2, if_neg c2]
        by_cases c3 : x < 65536
        · rw [if_pos c3, if_pos c3]
          simp (disch := omega) only [w64, wu8]
        · rw [if_neg c3, if_neg c3]
          simp (disch := omega) only [w64, wu8]
  simp only [tidewrackref05_Encode, cD, encF, fixR]
  by_cases a : r < 0
  · simp [a, key]
  · by_cases b : r > 1114111
    · simp [a, b, key]
    · by_cases c : 55296 ≤ r
      · by_cases d : r ≤ 57343
        · simp [a, b, c, d, key]
        · have := key r (by omega) (by omega)
          simp [a, b, c, d, this]
      · have := key r (by omega) (by omega)
        simp [a, b, c, this]
theorem rtext_loop (p : List T24) (hp : p.length ≤ 1000) (h32 : IR p) : ∀ (k i : Nat) (l : List Int), p.length < k + i → i ≤ p.length → l.length ≤ 4 * i → tidewrackref15_Text_l2 (p.map tl14) k (strOfNums l) i = some (strOfNums (l ++ (ru (p.drop i)).flatMap encF))
  | 0, i, l, h1, h2, h3 => by omega
  | k + 1, i, l, h1, h2, h3 => by
    have ih := rtext_loop p hp h32 k
    have hm : (p.map tl14).length = p.length := List.length_map _
    unfold tidewrackref15_Text_l2
    rw [cD]
    by_cases hi : i < p.length
    · have hw : IntKind.wrap .i64 ((i : Int) + 1) = ((i + 1 : Nat) : Int) := by rw [w64 (by omega) (by omega)]; omega
      have hr := h32.one (List.getElem_mem hi)
      have hb := enc_bytes p[i].Rune
      rw [if_pos (by omega), if_pos (by omega), rdD_get _ _ (by omega), List.getElem_map]
      show (tidewrackref05_Encode (IntKind.wrap .i64 p[i].Rune)).bind _ = _
      rw [w64 (x := p[i].Rune) (by omega) (by omega), renc_eq, bS, if_pos (by rw [str_size, str_size]; omega), ← str_append, hw, ih (i + 1) _ (by omega) (by omega) (by rw [List.length_append]; omega), List.drop_eq_getElem_cons hi]
      simp only [ru, List.map_cons, List.flatMap_cons, List.append_assoc]
    · rw [if_neg (by omega), List.drop_eq_nil_of_le (by omega)]
      unfold tidewrackref15_Text_j1
      simp [ru]
theorem rtext_eq (K : Nat) (p : List T24) (hp : p.length ≤ 1000) (h32 : IR p) (hK : p.length < K) : tidewrackref15_Text K (p.map tl14) = some (strOfNums ((ru p).flatMap encF)) := by
  have := rtext_loop p hp h32 K 0 [] (by omega) (by omega) (by simp)
  rw [List.drop_zero, List.nil_append] at this
  exact this
theorem text_eq (K : Nat) (p : List T24) (hp : p.length ≤ 1000) (hK : p.length < K) : flow_Text K p = some (strOfNums ((ru p).flatMap encF)) := by
  unfold flow_Text
  rw [runes_eq K p (by omega) (by omega), bS, penc_eq K _ (by rw [ru_len]; omega) (by rw [ru_len]; omega), bS]
theorem mn60 (p0 : List T24) : mnI (p0.length : Int) 60 = ((min p0.length 60 : Nat) : Int) := by unfold mnI; split <;> omega
theorem FlowCuts (x0 : List T24) (w0 : ∀ y ∈ x0, (WF.wfT24) y) (l0 : x0.length ≤ maxLen) (x1 : Int) (w1 : (Lit.int .i64 x1).wf = true) (x2 : Int) (w2 : (Lit.int .i64 x2).wf = true) : ∃ K, tidewracklaw15_FlowCuts K x0 x1 x2 = some true := by
  suffices h : ∀ K, 20000 ≤ K → tidewracklaw15_FlowCuts K x0 x1 x2 = some true from ⟨20000, h _ (Nat.le_refl _)⟩
  intro K hK
  obtain ⟨q, hq, hl, h32⟩ := few x0 w0 60 (by omega)
  have hm := mn60 x0
  rw [show ((60 : Nat) : Int) = 60 from rfl] at hq
  have hql := hq
  rw [List.nil_append] at hql
  have hle := rowsF_len q x1
  have hf := rowsF_flat q x1
  obtain ⟨r, hr⟩ := at_some K (by omega) q x1 x2 (by omega) h32
  unfold tidewracklaw15_FlowCuts
  rw [awake_eq K (by omega), bS, Bool.not_true, cond_false, if_pos (by omega), if_pos (by omega), hq, hql, if_pos (by simp only [List.length_nil]; omega), told_eq K q (by omega) (by omega), bS, cut_eq K (by omega) q x1 (by omega) h32, bS, rat_eq K (by omega) q x1 x2 (by omega) h32, hr, bS, bS, rcut_eq K (by omega) q x1 (by omega) h32, bS, rows_alike K _ (by omega) (fun r hr => by have := mem_len hr; rw [hf] at this; omega) (by omega), bS, cond_true, count_eq K (by omega) q x1 (by omega) h32, bS, beq_self_eq_true, cond_true, beq_self_eq_true, cond_true, beq_self_eq_true, cond_true, text_eq K q (by omega) (by omega), bS, rtext_eq K q (by omega) h32 (by omega), bS, beq_self_eq_true]
/-! ### Wider rows are no more -/
theorem good_fewer (w v : Int) (hwv : w ≤ v) : ∀ (rs rs' : List (List T24)) (x : List T24), Good w rs → Good v rs' → rs.flatten = x ++ rs'.flatten → rs'.length ≤ rs.length
  | [], _, _, h, _, _ => h.elim
  | r :: t, [], _, _, h, _ => h.elim
  | r :: t, r' :: t', x, h, h', e => by
    rcases h'.2 with rfl | ⟨_, ⟨g', q', u', ht', hg'⟩, hgt'⟩
    · simp
    · simp only [List.flatten_cons] at e
      rw [← List.append_assoc] at e
      have key : ∃ y, t.flatten = y ++ t'.flatten := by
        rcases List.append_eq_append_iff.1 e with ⟨a', h1, h2⟩ | ⟨a', h1, h2⟩
        · exact ⟨a', h2⟩
        · cases a' with
          | nil => exact ⟨[], by simpa using h2.symm⟩
          | cons g a' =>
            exfalso
            rw [ht', List.flatten_cons, List.cons_append, List.cons_append] at h2
            injection h2 with e1 _
            subst e1
            have h3 := h.1
            rw [h1, ru_app, sumW_app, ru_app, sumW_app] at h3
            have e2 : sumW (ru (g' :: a')) = W g'.Rune + sumW (ru a') := rfl
            have := sum_nonneg (ru a')
            have := sum_nonneg (ru x)
            omega
      obtain ⟨y, hy⟩ := key
      rcases h.2 with rfl | ⟨_, _, hgt⟩
      · rw [ht'] at hy; simp at hy
      · have := good_fewer w v hwv t t' y hgt hgt' hy
        simp only [List.length_cons]
        omega
theorem fewer (q : List T24) (w v : Int) (h : cw w ≤ cw v) : (rowsF q v).length ≤ (rowsF q w).length :=
  good_fewer (cw w) (cw v) h _ _ [] (rowsF_good q w) (rowsF_good q v) (by rw [rowsF_flat, rowsF_flat]; rfl)
theorem cw_mono {a b : Int} (h : a ≤ b) : cw a ≤ cw b := by unfold cw mxI mnI; (repeat' split) <;> omega
theorem FlowWidths (x0 : List T24) (w0 : ∀ y ∈ x0, (WF.wfT24) y) (l0 : x0.length ≤ maxLen) (x1 : Int) (w1 : (Lit.int .i64 x1).wf = true) (x2 : Int) (w2 : (Lit.int .i64 x2).wf = true) : ∃ K, tidewracklaw15_FlowWidths K x0 x1 x2 = some true := by
  suffices h : ∀ K, 20000 ≤ K → tidewracklaw15_FlowWidths K x0 x1 x2 = some true from ⟨20000, h _ (Nat.le_refl _)⟩
  intro K hK
  obtain ⟨q, hq, hl, h32⟩ := few x0 w0 60 (by omega)
  have hm := mn60 x0
  rw [show ((60 : Nat) : Int) = 60 from rfl] at hq
  have hql := hq
  rw [List.nil_append] at hql
  have hle := rowsF_len q x1
  have hf := rowsF_flat q x1
  have hle2 := rowsF_len q x2
  have hf2 := rowsF_flat q x2
  have hlo : mnI x1 x2 ≤ mxI x1 x2 := by unfold mnI mxI; (repeat' split) <;> omega
  have hfew := fewer q _ _ (cw_mono hlo)
  unfold tidewracklaw15_FlowWidths
  rw [awake_eq K (by omega), bS, Bool.not_true, cond_false, if_pos (by omega), if_pos (by omega), hq, hql, if_pos (by simp only [List.length_nil]; omega), cut_eq K (by omega) q x1 (by omega) h32, bS, join_eq K _ (by omega) (by rw [hf]; omega) (by omega), bS, hf, cut_eq K (by omega) q x2 (by omega) h32, bS, join_eq K _ (by omega) (by rw [hf2]; omega) (by omega), bS, hf2, cut_eq K (by omega) q x1 (by omega) h32, bS, told_eq K q (by omega) (by omega), bS, rcut_eq K (by omega) q x1 (by omega) h32, bS, rows_alike K _ (by omega) (fun r hr => by have := mem_len hr; rw [hf] at this; omega) (by omega), bS, cond_true, beq_self_eq_true, cond_true, count_eq K (by omega) q _ (by omega) h32, bS, count_eq K (by omega) q _ (by omega) h32, bS]
  congr 1
  rw [decide_eq_true_iff]
  omega
end Go.Proofs.YteghllmaknenlaaDoor.Pure
