/- Plain laws: what the plain functions answer, with no program in sight. -/
import Derived.Test.YtpciioffkjpieaaGreatDoorPE
set_option linter.unusedVariables false
set_option linter.unusedSimpArgs false
namespace Go.Proofs.YtpciioffkjpieaaGreatDoor.Pure
open Go Go.Proofs.XC Go.Proofs.YtpciioffkjpieaaGreatDoor

/-! ### The law's loops, over what they hold -/
abbrev LP12 := Int → (List T65) → Int → Int → Int → Int → Bool → Bool → Bool → Int → Int → Int → Int → Bool → Bool → Bool → Bool → Int → Int → Bool → ByteArray → (List (List T46)) → (List Int) → (List T46) → Int → Bool → Bool → Bool → Bool → Int → (List Int) → ByteArray → Int → Int → Int → (List ByteArray) → Int → Option Bool
abbrev LP9 := Int → (List T65) → Int → Int → Int → Int → Bool → Bool → Bool → Int → Int → Int → Int → Bool → Bool → Bool → Bool → Int → Int → Bool → ByteArray → (List (List T46)) → (List Int) → (List T46) → Int → Bool → Bool → Bool → Bool → Int → (List Int) → ByteArray → Int → Int → Int → Int → Option Bool
def L16 (K : Nat) (l : List ByteArray) (x : Int) (lp : LP12) (t : ByteArray) (fd : (List T37) × T33) (k : Nat) (s : T55) (b : T60) (i : Int) : Option Bool := tidewracktop_TidewrackLines_l16 K l x lp t fd k s.g_w s.g_l s.spot_x s.spot_y s.spot_style_Fore s.spot_style_Back s.spot_style_Bold s.spot_style_Under s.spot_style_Inverse s.saved_x s.saved_y s.saved_style_Fore s.saved_style_Back s.saved_style_Bold s.saved_style_Under s.saved_style_Inverse s.waiting s.top s.bottom s.wraps s.title b.l b.chains b.begun i
def AP12 (lp : LP12) (s : T55) (b : T60) (p : T33) (l : List ByteArray) (x : Int) : Option Bool := lp s.g_w s.g_l s.spot_x s.spot_y s.spot_style_Fore s.spot_style_Back s.spot_style_Bold s.spot_style_Under s.spot_style_Inverse s.saved_x s.saved_y s.saved_style_Fore s.saved_style_Back s.saved_style_Bold s.saved_style_Under s.saved_style_Inverse s.waiting s.top s.bottom s.wraps s.title b.l b.chains b.begun p.state p.order_private_ p.order_wrong p.order_any p.order_some p.order_n p.order_nums p.text p.runes_Lead p.runes_Rune p.runes_Need l x
def AP9 (lp : LP9) (s : T55) (b : T60) (p : T33) (x : Int) : Option Bool := lp s.g_w s.g_l s.spot_x s.spot_y s.spot_style_Fore s.spot_style_Back s.spot_style_Bold s.spot_style_Under s.spot_style_Inverse s.saved_x s.saved_y s.saved_style_Fore s.saved_style_Back s.saved_style_Bold s.saved_style_Under s.saved_style_Inverse s.waiting s.top s.bottom s.wraps s.title b.l b.chains b.begun p.state p.order_private_ p.order_wrong p.order_any p.order_some p.order_n p.order_nums p.text p.runes_Lead p.runes_Rune p.runes_Need x
def L11 (K : Nat) (x : Int) (lp : LP9) (fd : (List T37) × T33) (k : Nat) (s : T55) (b : T60) (i : Int) : Option Bool := tidewracktop_TidewrackLines_l11 K x lp fd k s.g_w s.g_l s.spot_x s.spot_y s.spot_style_Fore s.spot_style_Back s.spot_style_Bold s.spot_style_Under s.spot_style_Inverse s.saved_x s.saved_y s.saved_style_Fore s.saved_style_Back s.saved_style_Bold s.saved_style_Under s.saved_style_Inverse s.waiting s.top s.bottom s.wraps s.title b.l b.chains b.begun i
def L12 (K : Nat) (p0 : List ByteArray) (p2 : Int) (k : Nat) (s : T55) (b : T60) (p : T33) (l : List ByteArray) (i : Int) : Option Bool := tidewracktop_TidewrackLines_l12 K p0 p2 k s.g_w s.g_l s.spot_x s.spot_y s.spot_style_Fore s.spot_style_Back s.spot_style_Bold s.spot_style_Under s.spot_style_Inverse s.saved_x s.saved_y s.saved_style_Fore s.saved_style_Back s.saved_style_Bold s.saved_style_Under s.saved_style_Inverse s.waiting s.top s.bottom s.wraps s.title b.l b.chains b.begun p.state p.order_private_ p.order_wrong p.order_any p.order_some p.order_n p.order_nums p.text p.runes_Lead p.runes_Rune p.runes_Need l i
def L9 (K : Nat) (p2 : Int) (l : List ByteArray) (k : Nat) (s : T55) (b : T60) (p : T33) (c : Int) : Option Bool := tidewracktop_TidewrackLines_l9 K p2 l k s.g_w s.g_l s.spot_x s.spot_y s.spot_style_Fore s.spot_style_Back s.spot_style_Bold s.spot_style_Under s.spot_style_Inverse s.saved_x s.saved_y s.saved_style_Fore s.saved_style_Back s.saved_style_Bold s.saved_style_Under s.saved_style_Inverse s.waiting s.top s.bottom s.wraps s.title b.l b.chains b.begun p.state p.order_private_ p.order_wrong p.order_any p.order_some p.order_n p.order_nums p.text p.runes_Lead p.runes_Rune p.runes_Need c
def L17 (K : Nat) (p0 : List ByteArray) (s : T55) (b : T60) (p : T33) (l : List ByteArray) (i : Int) (lp : LP12) (k : Nat) (x : ByteArray) (j : Int) : Option Bool := tidewracktop_TidewrackLines_l17 K p0 s.g_w s.g_l s.spot_x s.spot_y s.spot_style_Fore s.spot_style_Back s.spot_style_Bold s.spot_style_Under s.spot_style_Inverse s.saved_x s.saved_y s.saved_style_Fore s.saved_style_Back s.saved_style_Bold s.saved_style_Under s.saved_style_Inverse s.waiting s.top s.bottom s.wraps s.title b.l b.chains b.begun p.state p.order_private_ p.order_wrong p.order_any p.order_some p.order_n p.order_nums p.text p.runes_Lead p.runes_Rune p.runes_Need l i lp k x j
def J15 (K : Nat) (s : T55) (b : T60) (p : T33) (l : List ByteArray) (i : Int) (lp : LP12) (x : ByteArray) : Option Bool := tidewracktop_TidewrackLines_j15 K s.g_w s.g_l s.spot_x s.spot_y s.spot_style_Fore s.spot_style_Back s.spot_style_Bold s.spot_style_Under s.spot_style_Inverse s.saved_x s.saved_y s.saved_style_Fore s.saved_style_Back s.saved_style_Bold s.saved_style_Under s.saved_style_Inverse s.waiting s.top s.bottom s.wraps s.title b.l b.chains b.begun p.state p.order_private_ p.order_wrong p.order_any p.order_some p.order_n p.order_nums p.text p.runes_Lead p.runes_Rune p.runes_Need l i lp x
def J2 (K : Nat) (p2 : Int) (s : T55) (b : T60) (p : T33) (l : List ByteArray) : Option Bool := tidewracktop_TidewrackLines_j2 K p2 s.g_w s.g_l s.spot_x s.spot_y s.spot_style_Fore s.spot_style_Back s.spot_style_Bold s.spot_style_Under s.spot_style_Inverse s.saved_x s.saved_y s.saved_style_Fore s.saved_style_Back s.saved_style_Bold s.saved_style_Under s.saved_style_Inverse s.waiting s.top s.bottom s.wraps s.title b.l b.chains b.begun p.state p.order_private_ p.order_wrong p.order_any p.order_some p.order_n p.order_nums p.text p.runes_Lead p.runes_Rune p.runes_Need l
def J3 (K : Nat) (l : List ByteArray) (b : T60) : Option Bool := tidewracktop_TidewrackLines_j3 K l b.l b.chains b.begun
def pIn (p : T33) : T33 := ⟨p.state, p.order_private_, p.order_wrong, p.order_any, p.order_some, p.order_n, p.order_nums, p.text, p.runes_Lead, p.runes_Rune, p.runes_Need, []⟩
theorem L16_step (K : Nat) (l : List ByteArray) (x : Int) (lp : LP12) (t : ByteArray) (fd : (List T37) × T33) (k : Nat) (s : T55) (b : T60) (i : Int) :
    L16 K l x lp t fd (k + 1) s b i = bif decide (i < (fd.1.length : Int)) then (if 0 ≤ i ∧ i < (fd.1.length : Int) then ((screen_Screen_Do K s (rdD zT37 fd.1 i)).bind fun u => (book_Book_Add K b u.1).bind fun v => L16 K l x lp t fd k u.2 v.2 (IntKind.wrap .i64 (i + 1))) else none) else AP12 lp s b fd.2 (l ++ [t]) (IntKind.wrap .i64 (x + 1)) := rfl
theorem L11_step (K : Nat) (x : Int) (lp : LP9) (fd : (List T37) × T33) (k : Nat) (s : T55) (b : T60) (i : Int) :
    L11 K x lp fd (k + 1) s b i = bif decide (i < (fd.1.length : Int)) then (if 0 ≤ i ∧ i < (fd.1.length : Int) then ((screen_Screen_Do K s (rdD zT37 fd.1 i)).bind fun u => (book_Book_Add K b u.1).bind fun v => L11 K x lp fd k u.2 v.2 (IntKind.wrap .i64 (i + 1))) else none) else AP9 lp s b fd.2 (IntKind.wrap .i64 (x + 1)) := rfl
theorem L12_step (K : Nat) (p0 : List ByteArray) (p2 : Int) (k : Nat) (s : T55) (b : T60) (p : T33) (l : List ByteArray) (i : Int) :
    L12 K p0 p2 (k + 1) s b p l i = bif decide (i < (p0.length : Int)) then (bif decide (i < (12 : Int)) then L17 K p0 s b p l i (tidewracktop_TidewrackLines_l12 K p0 p2 k) K (⟨#[]⟩ : ByteArray) 0 else J2 K p2 s b p l) else J2 K p2 s b p l := rfl
theorem L17_step (K : Nat) (p0 : List ByteArray) (s : T55) (b : T60) (p : T33) (l : List ByteArray) (i : Int) (lp : LP12) (k : Nat) (x : ByteArray) (j : Int) :
    L17 K p0 s b p l i lp (k + 1) x j = if 0 ≤ i ∧ i < (p0.length : Int) then (bif decide (j < ((rdD (⟨#[]⟩ : ByteArray) p0 i).size : Int)) then (bif decide (j < (40 : Int)) then tidewracktop_TidewrackLines_j18 p0 i x j (L17 K p0 s b p l i lp k) else J15 K s b p l i lp x) else J15 K s b p l i lp x) else none := rfl
theorem J15_eq (K : Nat) (s : T55) (b : T60) (p : T33) (l : List ByteArray) (i : Int) (lp : LP12) (x : ByteArray) :
    J15 K s b p l i lp x = if l.length + ([x] : List ByteArray).length ≤ 1000000000 then (if ((x.size + (⟨#[13, 10]⟩ : ByteArray).size : Nat) : Int) ≤ 9223372036854775807 then ((seq_Parser_Feed K (pIn p) (x ++ (⟨#[13, 10]⟩ : ByteArray))).bind fun fd => L16 K l i lp x fd K s b 0) else none) else none := rfl
theorem L9_step (K : Nat) (p2 : Int) (l : List ByteArray) (k : Nat) (s : T55) (b : T60) (p : T33) (c : Int) :
    L9 K p2 l (k + 1) s b p c = bif decide (c < IntKind.wrap .i64 (1 + (bits .and .i64 p2 3))) then ((seq_Parser_Feed K (pIn p) (⟨#[13, 10]⟩ : ByteArray)).bind fun fd => L11 K c (tidewracktop_TidewrackLines_l9 K p2 l k) fd K s b 0) else J3 K l b := rfl
theorem J2_eq (K : Nat) (p2 : Int) (s : T55) (b : T60) (p : T33) (l : List ByteArray) : J2 K p2 s b p l = L9 K p2 l K s b p 0 := rfl
/-! ### The actions of a line -/
theorem rd_midG {α : Type} (d : α) (p : List α) (c : α) (l : List α) : rdD d (p ++ c :: l) (p.length : Int) = c := by
  rw [rdD_get _ _ (by simp)]; simp
theorem acts_loop (K : Nat) (hK : 100000 ≤ K) (n H : Nat) (hn : 2 ≤ n ∧ n ≤ 60) (hH : 1 ≤ H ∧ H ≤ 60) (A : List T37) (F : Nat → T55 → T60 → Int → Option Bool) (J : T55 → T60 → Option Bool)
    (hF : ∀ k s b i, F (k + 1) s b i = bif decide (i < (A.length : Int)) then (if 0 ≤ i ∧ i < (A.length : Int) then ((screen_Screen_Do K s (rdD zT37 A i)).bind fun u => (book_Book_Add K b u.1).bind fun v => F k u.2 v.2 (IntKind.wrap .i64 (i + 1))) else none) else J s b) :
    ∀ (rest : List Int) (D : List T37) (k : Nat) (s : T55) (b : T60) (E ab : Lg) (cur : List Int), A = D ++ (rest.map prt ++ [ctl 13, ctl 10]) → A.length ≤ 1000 → (∀ r ∈ rest, Ch r) → Rel n H s b E ab cur → msr (E ++ ab) cur + 2 * rest.length ≤ 1000 → rest.length + 3 ≤ k →
      ∃ s' b' E' ab', F k s b (D.length : Nat) = J s' b' ∧ Rel n H s' b' E' ab' [] ∧ E' ++ ab' = (rest.foldl (stepL n) (E ++ ab, cur)).1 ++ [((rest.foldl (stepL n) (E ++ ab, cur)).2, false)]
  | [], D, k, s, b, E, ab, cur, hA, hAl, hr, h, hm, hk => by
    obtain ⟨k, rfl⟩ : ∃ j, k = j + 3 := ⟨k - 3, by omega⟩
    obtain ⟨s1, m1, b1, e1, e2, off, s2, m2, b2, E', ab', e3, e4, e5, e6⟩ := two_ctl K hK n H hn hH h (by simpa using hm)
    have hlen : A.length = D.length + 2 := by rw [hA]; simp
    have r1 : rdD zT37 A (D.length : Int) = ctl 13 := by rw [hA]; exact rd_midG _ _ _ _
    have r2 : rdD zT37 A ((D.length + 1 : Nat) : Int) = ctl 10 := by
      have := rd_midG zT37 (D ++ [ctl 13]) (ctl 10) []
      rw [List.append_assoc, List.length_append] at this
      rw [hA]; exact this
    have w1 : IntKind.wrap .i64 ((D.length : Int) + 1) = ((D.length + 1 : Nat) : Int) := by rw [w64 (by omega) (by omega)]; omega
    have w2 : IntKind.wrap .i64 (((D.length + 1 : Nat) : Int) + 1) = ((D.length + 2 : Nat) : Int) := by rw [w64 (by omega) (by omega)]; omega
    refine ⟨s2, b2, E', ab', ?_, e5, e6⟩
    rw [hF, cD, if_pos (by omega), if_pos (by omega), r1, e1, bS, e2, bS, w1, hF, cD, if_pos (by omega), if_pos (by omega), r2, e3, bS, e4, bS, w2, hF, cD, if_neg (by omega)]
  | r :: rest, D, k, s, b, E, ab, cur, hA, hAl, hr, h, hm, hk => by
    obtain ⟨k, rfl⟩ : ∃ j, k = j + 1 := ⟨k - 1, by omega⟩
    rw [List.length_cons] at hm hk
    obtain ⟨off, s', m, b', E', ab', e1, e2, e3, e4⟩ := one_prt K hK n H hn hH h (by omega) r (hr r (by simp))
    have hs := step_msr n (E ++ ab, cur) r
    simp only at hs
    have hlen : D.length < A.length := by rw [hA]; simp
    have r1 : rdD zT37 A (D.length : Int) = prt r := by rw [hA]; exact rd_midG _ _ _ _
    have w1 : IntKind.wrap .i64 ((D.length : Int) + 1) = (((D ++ [prt r]).length : Nat) : Int) := by
      rw [w64 (by omega) (by omega), List.length_append, List.length_cons, List.length_nil]; omega
    obtain ⟨s2, b2, E2, ab2, q1, q2, q3⟩ := acts_loop K hK n H hn hH A F J hF rest (D ++ [prt r]) k s' b' E' ab' _ (by rw [hA]; simp) hAl (fun z hz => hr z (by simp [hz])) e3 (by rw [e4]; omega) (by omega)
    refine ⟨s2, b2, E2, ab2, ?_, q2, ?_⟩
    · rw [hF, cD, if_pos (by omega), if_pos (by omega), r1, e1, bS, e2, bS, w1]
      exact q1
    · rw [q3, e4]
      rfl
/-! ### The texts -/
theorem text_loop (K : Nat) (p0 : List ByteArray) (s : T55) (b : T60) (p : T33) (l : List ByteArray) (i : Nat) (hi : i < p0.length) (hi2 : i < 100) (lp : LP12) : ∀ (k j : Nat) (x : ByteArray), 40 < k + j → j ≤ min 40 p0[i].size → numsOf x = (txL p0[i]).take j →
    ∃ x', numsOf x' = txL p0[i] ∧ L17 K p0 s b p l i lp k x j = J15 K s b p l i lp x'
  | 0, j, x, h1, h2, h3 => by omega
  | k + 1, j, x, h1, h2, h3 => by
    have ih := text_loop K p0 s b p l i hi hi2 lp k
    have hxl := nums_len x
    have htl := txL_len p0[i]
    rw [h3, List.length_take] at hxl
    rw [L17_step, if_pos (by omega), rdD_get _ _ hi, cD, cD]
    by_cases c1 : j < p0[i].size
    · by_cases c2 : j < 40
      · have hw : IntKind.wrap .i64 ((j : Int) + 1) = ((j + 1 : Nat) : Int) := by rw [w64 (by omega) (by omega)]; omega
        have hb := nums_by p0[i] (bt p0[i] j) (by rw [← nums_get p0[i] j c1]; exact List.getElem_mem _)
        have hch := ch1_ch _ hb
        rw [if_pos (by omega), if_pos (by omega)]
        unfold tidewracktop_TidewrackLines_j18
        rw [if_pos (by omega), rdD_get _ _ hi, if_pos (by omega)]
        show ∃ x', numsOf x' = txL p0[i] ∧ (if ((x.size + (strOfNums [ch1 (bt p0[i] j)]).size : Nat) : Int) ≤ 9223372036854775807 then L17 K p0 s b p l i lp k (x ++ strOfNums [ch1 (bt p0[i] j)]) (IntKind.wrap .i64 ((j : Int) + 1)) else none) = J15 K s b p l i lp x'
        have h1s : (strOfNums [ch1 (bt p0[i] j)]).size = 1 := rfl
        rw [if_pos (by omega), hw]
        refine ih (j + 1) _ (by omega) (by omega) ?_
        have hg : (txL p0[i])[j]'(by omega) = ch1 (bt p0[i] j) := by
          unfold txL
          rw [List.getElem_map, List.getElem_take, nums_get p0[i] j c1]
        rw [nums_app, h3, nums_one _ (by unfold Ch at hch; omega), List.take_succ_eq_append_getElem (by omega : j < (txL p0[i]).length), hg]
      · rw [if_pos (by omega), if_neg (by omega)]
        exact ⟨x, by rw [h3, List.take_of_length_le (by omega)], rfl⟩
    · rw [if_neg (by omega)]
      exact ⟨x, by rw [h3, List.take_of_length_le (by omega)], rfl⟩
theorem map_act {l : List Int} (h : ∀ r ∈ l, Ch r) : l.map act = l.map prt := by
  refine List.map_congr_left fun r hr => ?_
  have := h r hr
  unfold Ch at this
  unfold act
  rw [if_neg (by omega)]
theorem nums_nl : numsOf (⟨#[13, 10]⟩ : ByteArray) = [13, 10] := rfl
theorem acts_nl : ([13, 10] : List Int).map act = [ctl 13, ctl 10] := rfl
/-- A line's text, printed. -/
theorem j15_eq (K : Nat) (hK : 100000 ≤ K) (n H : Nat) (hn : 2 ≤ n ∧ n ≤ 60) (hH : 1 ≤ H ∧ H ≤ 60) (s : T55) (b : T60) (l : List ByteArray) (hl : l.length ≤ 1000) (i : Nat) (hi : i ≤ 100) (lp : LP12) (x : ByteArray) (tl : List Int) (hx : numsOf x = tl) (hc : ∀ r ∈ tl, Ch r) (htl : tl.length ≤ 40)
    {E ab : Lg} (h : Rel n H s b E ab []) (hm : msr (E ++ ab) [] + 80 ≤ 1000) :
    ∃ s' b' E' ab', J15 K s b (P0 []) l i lp x = AP12 lp s' b' (P0 []) (l ++ [x]) ((i + 1 : Nat) : Int) ∧ Rel n H s' b' E' ab' [] ∧ E' ++ ab' = (tl.foldl (stepL n) (E ++ ab, [])).1 ++ [((tl.foldl (stepL n) (E ++ ab, [])).2, false)] := by
  have hxs := nums_len x
  rw [hx] at hxs
  have h2 : (⟨#[13, 10]⟩ : ByteArray).size = 2 := rfl
  have hxn : numsOf (x ++ (⟨#[13, 10]⟩ : ByteArray)) = tl ++ [13, 10] := by rw [nums_app, hx, nums_nl]
  have hsz := nums_len (x ++ (⟨#[13, 10]⟩ : ByteArray))
  rw [hxn, List.length_append, List.length_cons, List.length_cons, List.length_nil] at hsz
  have hA : (numsOf (x ++ (⟨#[13, 10]⟩ : ByteArray))).map act = tl.map prt ++ [ctl 13, ctl 10] := by rw [hxn, List.map_append, map_act hc, acts_nl]
  rw [J15_eq, if_pos (by simp only [List.length_cons, List.length_nil]; omega), if_pos (by omega)]
  rw [show pIn (P0 []) = P0 [] from rfl, feed_eq K (by omega) _ (by omega) (fun c hcc => by
    rw [hxn] at hcc
    rcases List.mem_append.1 hcc with q | q
    · exact .inl (hc c q)
    · simp only [List.mem_cons, List.not_mem_nil, or_false] at q; exact .inr q), bS, hA]
  have hw : IntKind.wrap .i64 ((i : Int) + 1) = ((i + 1 : Nat) : Int) := by rw [w64 (by omega) (by omega)]; omega
  obtain ⟨s', b', E', ab', q1, q2, q3⟩ := acts_loop K hK n H hn hH (tl.map prt ++ [ctl 13, ctl 10]) (L16 K l i lp x (tl.map prt ++ [ctl 13, ctl 10], P0 [])) (fun s b => AP12 lp s b (P0 []) (l ++ [x]) (IntKind.wrap .i64 ((i : Int) + 1))) (fun k s b j => L16_step K l i lp x _ k s b j) tl [] K s b E ab [] rfl (by simp; omega) hc h (by omega) (by omega)
  refine ⟨s', b', E', ab', ?_, q2, q3⟩
  rw [hw] at q1
  exact q1
/-! ### All lines -/
theorem lines_loop (K : Nat) (hK : 100000 ≤ K) (n H : Nat) (hn : 2 ≤ n ∧ n ≤ 60) (hH : 1 ≤ H ∧ H ≤ 60) (p0 : List ByteArray) (p2 : Int) : ∀ (k i : Nat) (s : T55) (b : T60) (E ab : Lg) (l : List ByteArray), 12 < k + i → i ≤ 12 → i ≤ p0.length → Rel n H s b E ab [] → l.map numsOf = (p0.take i).map txL → foldP z0 (E ++ ab) = ((p0.take i).map txL, []) → msr (E ++ ab) [] ≤ 81 * i →
    ∃ N s' b' E' ab' l', N ≤ 12 ∧ L12 K p0 p2 k s b (P0 []) l i = J2 K p2 s' b' (P0 []) l' ∧ Rel n H s' b' E' ab' [] ∧ l'.map numsOf = (p0.take N).map txL ∧ foldP z0 (E' ++ ab') = ((p0.take N).map txL, []) ∧ msr (E' ++ ab') [] ≤ 81 * N
  | 0, i, s, b, E, ab, l, h1, h2, h3, h4, h5, h6, h7 => by omega
  | k + 1, i, s, b, E, ab, l, h1, h2, h3, h4, h5, h6, h7 => by
    rw [L12_step, cD, cD]
    by_cases c1 : i < p0.length
    · by_cases c2 : i < 12
      · rw [if_pos (by omega), if_pos (by omega)]
        have hll : l.length = i := by
          have := congrArg List.length h5
          simp only [List.length_map, List.length_take] at this
          omega
        obtain ⟨x, hx, e1⟩ := text_loop K p0 s b (P0 []) l i c1 (by omega) (tidewracktop_TidewrackLines_l12 K p0 p2 k) K 0 (⟨#[]⟩ : ByteArray) (by omega) (by omega) rfl
        rw [show ((0 : Nat) : Int) = 0 from rfl] at e1
        rw [e1]
        obtain ⟨s', b', E', ab', q1, q2, q3⟩ := j15_eq K hK n H hn hH s b l (by omega) i (by omega) (tidewracktop_TidewrackLines_l12 K p0 p2 k) x (txL p0[i]) hx (txL_ch _) (by rw [txL_len]; omega) h4 (by omega)
        rw [q1]
        have hj := line_join n (txL p0[i]) (E ++ ab) _ h6
        have hms := steps_msr n (txL p0[i]) (E ++ ab, [])
        have htl := txL_len p0[i]
        simp only at hms
        rw [← q3] at hj
        have ht : (p0.take (i + 1)).map txL = (p0.take i).map txL ++ [txL p0[i]] := by rw [List.take_succ_eq_append_getElem c1, List.map_append]; rfl
        exact lines_loop K hK n H hn hH p0 p2 k (i + 1) s' b' E' ab' (l ++ [x]) (by omega) (by omega) (by omega) q2 (by rw [List.map_append, h5, ht, ← hx]; rfl) (by rw [ht]; exact hj) (by
          rw [q3]
          unfold msr at hms ⊢
          simp only [List.length_append, chars_app, List.length_cons, List.length_nil]
          show _ + (0 + 1) + (_ + ((List.foldl (stepL n) (E ++ ab, []) (txL p0[i])).2.length + 0)) + 0 ≤ _
          unfold msr at h7
          simp only [List.length_append, chars_app] at h7 hms
          omega)
      · rw [if_pos (by omega), if_neg (by omega)]
        exact ⟨i, s, b, E, ab, l, h2, rfl, h4, h5, h6, h7⟩
    · rw [if_neg (by omega)]
      exact ⟨i, s, b, E, ab, l, h2, rfl, h4, h5, h6, h7⟩
/-! ### Enough lines more -/
theorem more_loop (K : Nat) (hK : 100000 ≤ K) (n H : Nat) (hn : 2 ≤ n ∧ n ≤ 60) (hH : 1 ≤ H ∧ H ≤ 20) (p2 : Int) (hp : IntKind.wrap .i64 (1 + (bits .and .i64 p2 3)) = (H : Int)) (l : List ByteArray) (G : Lg) (hG : msr G [] ≤ 975) : ∀ (k c : Nat) (s : T55) (b : T60) (E ab : Lg), H < k + c → c ≤ H → Rel n H s b E ab [] → E ++ ab = G ++ List.replicate c ([], false) →
    ∃ b' E' ab', L9 K p2 l k s b (P0 []) c = J3 K l b' ∧ BkA b' (foldP z0 E') ∧ E' ++ ab' = G ++ List.replicate H ([], false) ∧ ab'.length < H
  | 0, c, s, b, E, ab, h1, h2, h3, h4 => by omega
  | k + 1, c, s, b, E, ab, h1, h2, h3, h4 => by
    rw [L9_step, hp, cD]
    by_cases hc : c < H
    · have hw : IntKind.wrap .i64 ((c : Int) + 1) = ((c + 1 : Nat) : Int) := by rw [w64 (by omega) (by omega)]; omega
      have hrep : chars (List.replicate c (([] : List Int), false)) = 0 := by
        clear hw h4 h2 h1 hc
        induction c with
        | zero => rfl
        | succ c ih => rw [List.replicate_succ]; show 0 + chars _ = 0; omega
      have hms : msr (E ++ ab) [] ≤ 995 := by
        rw [h4]
        unfold msr at hG ⊢
        simp only [List.length_append, chars_app, List.length_replicate, hrep]
        omega
      rw [if_pos (by omega), show pIn (P0 []) = P0 [] from rfl, feed_eq K (by omega) _ (by decide) (fun q hq => by
        rw [nums_nl] at hq
        simp only [List.mem_cons, List.not_mem_nil, or_false] at hq; exact .inr hq), bS, nums_nl, acts_nl]
      obtain ⟨s', b', E', ab', q1, q2, q3⟩ := acts_loop K hK n H hn (by omega) [ctl 13, ctl 10] (L11 K c (tidewracktop_TidewrackLines_l9 K p2 l k) ([ctl 13, ctl 10], P0 [])) (fun s b => AP9 (tidewracktop_TidewrackLines_l9 K p2 l k) s b (P0 []) (IntKind.wrap .i64 ((c : Int) + 1))) (fun k2 s b j => L11_step K c (tidewracktop_TidewrackLines_l9 K p2 l k) _ k2 s b j) [] [] K s b E ab [] rfl (by simp) (fun r hr => by cases hr) h3 (by simp only [List.length_nil]; omega) (by simp only [List.length_nil]; omega)
      rw [hw] at q1
      have q1 : L11 K c (tidewracktop_TidewrackLines_l9 K p2 l k) ([ctl 13, ctl 10], P0 []) K s b 0 = L9 K p2 l k s' b' (P0 []) ((c + 1 : Nat) : Int) := q1
      rw [q1]
      exact more_loop K hK n H hn hH p2 hp l G hG k (c + 1) s' b' E' ab' (by omega) (by omega) q2 (by
        have q3 : E' ++ ab' = (E ++ ab) ++ [([], false)] := q3
        rw [q3, h4, List.append_assoc, List.replicate_succ'])
    · have : c = H := by omega
      subst this
      rw [if_neg (by omega)]
      exact ⟨b, E, ab, rfl, h3.hb, h4, h3.hab⟩
theorem foldP_ext : ∀ (X : Lg) (s : BS), ∃ Y, (foldP s X).1 = s.1 ++ Y
  | [], s => ⟨[], by rw [List.append_nil]; rfl⟩
  | p :: X, s => by
    obtain ⟨Y, hY⟩ := foldP_ext X (addP s p)
    have : ∃ Z, (addP s p).1 = s.1 ++ Z := by
      unfold addP
      cases p.2
      · exact ⟨_, rfl⟩
      · exact ⟨[], by rw [List.append_nil]; rfl⟩
    obtain ⟨Z, hZ⟩ := this
    exact ⟨Z ++ Y, by show (foldP (addP s p) X).1 = _; rw [hY, hZ, List.append_assoc]⟩
theorem off_ext {E ab G : Lg} {H : Nat} (h : E ++ ab = G ++ List.replicate H (([] : List Int), false)) (hab : ab.length < H) (ts : List (List Int)) (hG : foldP z0 G = (ts, [])) : ∃ Y, (foldP z0 E).1 = ts ++ Y := by
  have hl := congrArg List.length h
  simp only [List.length_append, List.length_replicate] at hl
  rcases List.append_eq_append_iff.1 h with ⟨a, h1, h2⟩ | ⟨a, h1, h2⟩
  · have := congrArg List.length h1
    simp only [List.length_append] at this
    have := congrArg List.length h2
    simp only [List.length_append, List.length_replicate] at this
    omega
  · rw [h1, foldP_app, hG]
    exact foldP_ext a (ts, [])
/-! ### What the book tells -/
theorem check8 (want : List ByteArray) (i : Nat) (hi : i < want.length) (lp : Int → Option Bool) (q : List T46) (hq : q = (numsOf want[i]).map gl) (hc : ∀ r ∈ numsOf want[i], Ch r) : ∀ (k p : Nat), want[i].size < k + p → p ≤ want[i].size → tidewracktop_TidewrackLines_l8 want i lp (q, true) k (idxs want[i] p) = tidewracktop_TidewrackLines_j6 i lp
  | 0, p, h1, h2 => by omega
  | k + 1, p, h1, h2 => by
    have ih := check8 want i hi lp q hq hc k
    have hql : q.length = want[i].size := by rw [hq, List.length_map, nums_len]
    unfold tidewracktop_TidewrackLines_l8
    by_cases hp : p < want[i].size
    · have hd : idxs want[i] p = (p : Int) :: idxs want[i] (p + 1) := by
        unfold idxs
        rw [show want[i].size - p = (want[i].size - (p + 1)) + 1 by omega, List.range'_succ, List.map_cons]; rfl
      have hg := nums_get want[i] p hp
      have hcc := hc (bt want[i] p) (by rw [← hg]; exact List.getElem_mem _)
      have hr : (rdD zT46 q (p : Int)).Rune = bt want[i] p := by
        rw [rdD_get _ _ (by omega : p < q.length)]
        simp only [hq, List.getElem_map]
        rw [← hg]; rfl
      rw [hd, rdD_get _ _ hi]
      show (bif false then _ else (if 0 ≤ (p : Int) ∧ (p : Int) < (q.length : Int) then (if 0 ≤ (p : Int) ∧ (p : Int) < (want[i].size : Int) then (bif ((rdD zT46 q (p : Int)).Rune != IntKind.wrap .i32 (bt want[i] (p : Int))) then _ else (tidewracktop_TidewrackLines_l8 want i lp (q, true) k (idxs want[i] (p + 1)))) else none) else none)) = _
      rw [cond_false, if_pos (by omega), if_pos (by omega), hr, show IntKind.wrap .i32 (bt want[i] p) = bt want[i] p from by rw [IntKind.wrap_i32]; unfold Ch at hcc; omega, cN, if_pos rfl]
      exact ih (p + 1) (by omega) (by omega)
    · have hd : idxs want[i] p = [] := by
        unfold idxs
        rw [show want[i].size - p = 0 by omega]; rfl
      rw [hd]
      rfl
theorem check5 (K : Nat) (hK : 100000 ≤ K) (want : List ByteArray) (ts : List (List Int)) (hw : want.map numsOf = ts) (hc : ∀ t ∈ ts, (∀ r ∈ t, Ch r) ∧ t.length ≤ 40) (hwl : want.length ≤ 100) (b : T60) (Y : List (List Int)) (hb : b.l = (ts ++ Y).map (·.map gl)) (hbl : b.l.length ≤ 100000) : ∀ (k i : Nat), want.length < k + i → i ≤ want.length → tidewracktop_TidewrackLines_l5 K want b.l b.chains b.begun k i = some true
  | 0, i, h1, h2 => by omega
  | k + 1, i, h1, h2 => by
    have ih := check5 K hK want ts hw hc hwl b Y hb hbl k
    have htl : ts.length = want.length := by rw [← hw, List.length_map]
    unfold tidewracktop_TidewrackLines_l5
    rw [cD]
    by_cases hi : i < want.length
    · have hwr : IntKind.wrap .i64 ((i : Int) + 1) = ((i + 1 : Nat) : Int) := by rw [w64 (by omega) (by omega)]; omega
      have hti : numsOf want[i] = ts[i]'(by omega) := by simp only [← hw, List.getElem_map]
      obtain ⟨c1, c2⟩ := hc _ (List.getElem_mem (by omega : i < ts.length))
      rw [← hti] at c1 c2
      have hbi : i < b.l.length := by rw [hb, List.length_map, List.length_append]; omega
      have hq : rdD [] b.l (i : Int) = (numsOf want[i]).map gl := by
        rw [rdD_get _ _ hbi]
        simp only [hb, List.getElem_map]
        rw [List.getElem_append_left (by omega), ← hti]
      have hln := nums_len want[i]
      have hL : book_Book_Line (⟨b.l, b.chains, b.begun⟩ : T60) (i : Int) = some ((numsOf want[i]).map gl, true) := by
        unfold book_Book_Line
        simp only
        rw [cD, if_neg (by omega), decide_eq_false (by omega)]
        unfold book_Book_Line_j2
        rw [cond_false]
        unfold book_Book_Line_j1
        simp only
        rw [if_pos (by omega), hq, clone'_eq _ (by rw [List.length_map]; omega), bS]
      rw [if_pos (by omega), if_pos (by omega), hL, bS]
      simp only
      rw [Bool.not_true, cond_false, rdD_get _ _ hi, List.length_map, hln, cN, if_pos rfl]
      unfold tidewracktop_TidewrackLines_j7
      rw [rdD_get _ _ hi, if_pos (ascii_of rfl c1), show idxs want[i] 0 = idxs want[i] 0 from rfl, check8 want i hi _ _ rfl c1 K 0 (by omega) (by omega)]
      unfold tidewracktop_TidewrackLines_j6
      rw [hwr]
      exact ih (i + 1) (by omega) (by omega)
    · rw [if_neg (by omega)]; rfl
theorem TidewrackLines (x0 : List ByteArray) (w0 : ∀ y ∈ x0, (WF.wfStr) y) (l0 : x0.length ≤ maxLen) (x1 : Int) (w1 : (Lit.int .i64 x1).wf = true) (x2 : Int) (w2 : (Lit.int .i64 x2).wf = true) : ∃ K, tidewracktop_TidewrackLines K x0 x1 x2 = some true := by
  suffices h : ∀ K, 100000 ≤ K → tidewracktop_TidewrackLines K x0 x1 x2 = some true from ⟨100000, h _ (Nat.le_refl _)⟩
  intro K hK
  obtain ⟨u, hu, eu⟩ := and_le x1 15 (by decide)
  obtain ⟨v, hv, ev⟩ := and_le x2 3 (by decide)
  rw [show ((15 : Nat) : Int) = 15 from rfl] at eu
  rw [show ((3 : Nat) : Int) = 3 from rfl] at ev
  have e1 : IntKind.wrap .i64 (2 + (bits .and .i64 x1 15)) = ((2 + u : Nat) : Int) := by rw [eu, w64 (by omega) (by omega)]; omega
  have e2 : IntKind.wrap .i64 (1 + (bits .and .i64 x2 3)) = ((1 + v : Nat) : Int) := by rw [ev, w64 (by omega) (by omega)]; omega
  unfold tidewracktop_TidewrackLines
  rw [e1, e2, new_eq K (by omega) (2 + u) (1 + v) (by omega) (by omega), bS]
  unfold book_New
  rw [bS]
  have hab : ([] : Lg).length < 1 + v := by simp only [List.length_nil]; omega
  have hrel : Rel (2 + u) (1 + v) (scr (2 + u) (1 + v) (List.replicate (1 + v) (rowF (2 + u) [] false)) 0 0 false) ⟨[], [0], []⟩ [] [] [] := by
    refine ⟨?_, hab, ⟨rfl, rfl, rfl⟩, fun p hp => (by cases hp), fun r hr => (by cases hr), by simp⟩
    unfold scrA rowsA
    rw [show min ([] : List Int).length (2 + u - 1) = 0 from by simp, show decide (([] : List Int).length = 2 + u) = false from decide_eq_false (by simp only [List.length_nil]; omega)]
    rw [show List.replicate (1 + v) (rowF (2 + u) [] false) = ([] : Lg).map (rw_ (2 + u)) ++ rowF (2 + u) [] false :: List.replicate (1 + v - 1 - ([] : Lg).length) (rowF (2 + u) [] false) from by
      rw [List.map_nil, List.nil_append, List.length_nil, show 1 + v - 1 - 0 = v by omega, show 1 + v = v + 1 by omega, List.replicate_succ]]
    rfl
  obtain ⟨N, s', b', E', ab', l', hN, q1, q2, q3, q4, q5⟩ := lines_loop K hK (2 + u) (1 + v) (by omega) (by omega) x0 x2 K 0 _ _ [] [] [] (by omega) (by omega) (by omega) hrel rfl rfl (by decide)
  show L12 K x0 x2 K (scr (2 + u) (1 + v) (List.replicate (1 + v) (rowF (2 + u) [] false)) 0 0 false) ⟨[], [0], []⟩ (P0 []) [] ((0 : Nat) : Int) = some true
  rw [q1, J2_eq]
  obtain ⟨b2, E2, ab2, r1, r2, r3, r4⟩ := more_loop K hK (2 + u) (1 + v) (by omega) (by omega) x2 e2 l' (E' ++ ab') (by omega) K 0 s' b' E' ab' (by omega) (by omega) q2 (by rw [List.replicate_zero, List.append_nil])
  rw [show ((0 : Nat) : Int) = 0 from rfl] at r1
  rw [r1]
  obtain ⟨Y, hY⟩ := off_ext r3 r4 _ q4
  have hbl := r2.l
  rw [hY] at hbl
  have hll : l'.length = ((x0.take N).map txL).length := by rw [← q3, List.length_map]
  have hE2 : E2.length ≤ 2000 := by
    have := congrArg List.length r3
    simp only [List.length_append, List.length_replicate] at this
    unfold msr at q5
    simp only [List.length_append] at q5
    omega
  have hb2 : b2.l.length ≤ 100000 := by
    rw [r2.l, List.length_map]
    have := (foldP_len E2 z0).2
    have : (foldP z0 E2).1.length ≤ 0 + E2.length := this
    omega
  have hl12 : l'.length ≤ 12 := by rw [hll, List.length_map, List.length_take]; omega
  unfold J3 tidewracktop_TidewrackLines_j3 book_Book_Len
  rw [bS]
  simp only
  rw [cD, if_neg (by rw [hbl, List.length_map, List.length_append, hll]; omega)]
  exact check5 K hK l' _ q3 (fun t ht => by
    obtain ⟨x, hx, rfl⟩ := List.mem_map.1 ht
    exact ⟨txL_ch x, by rw [txL_len]; omega⟩) (by omega) b2 Y hbl hb2 K 0 (by omega) (by omega)
end Go.Proofs.YtpciioffkjpieaaGreatDoor.Pure
