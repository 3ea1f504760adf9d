/- Plain laws: what the plain functions answer, with no program in sight. -/
import Derived.Test.YthddmlhmejnhlaaDoorPC
set_option linter.unusedVariables false
set_option linter.unusedSimpArgs false
namespace Go.Proofs.YthddmlhmejnhlaaDoor.Pure
open Go Go.Proofs.XC Go.Proofs.YthddmlhmejnhlaaDoor

/-! ### The reference's parts -/
def conv (a : T37) : T47 := ⟨a.Kind, a.Rune, a.Byte, a.Private, a.Nums, a.Text⟩
theorem prints_loop (rs : List Int) (hr : rs.length ≤ 10000) : ∀ (k i : Nat) (o : List T47), rs.length < k + i → i ≤ rs.length → o.length ≤ i → tidewrackref07_prints_l2 rs k o i = some (o ++ ((rs.drop i).map prt).map conv)
  | 0, i, o, h1, h2, h3 => by omega
  | k + 1, i, o, h1, h2, h3 => by
    have ih := prints_loop rs hr k
    unfold tidewrackref07_prints_l2
    rw [cD]
    by_cases c : i < rs.length
    · have hw : IntKind.wrap .i64 ((i : Int) + 1) = ((i + 1 : Nat) : Int) := by rw [w64 (by omega) (by omega)]; omega
      rw [if_pos (by omega), if_pos (by omega), if_pos (by simp; omega), rdD_get _ _ c, hw, ih (i + 1) _ (by omega) (by omega) (by simp; omega), List.drop_eq_getElem_cons c, List.map_cons, List.map_cons, List.append_assoc]
      rfl
    · rw [if_neg (by omega), List.drop_eq_nil_of_le (by omega)]
      unfold tidewrackref07_prints_j1
      simp
theorem prints_eq (K : Nat) (rs : List Int) (hr : rs.length ≤ 10000) (hK : rs.length < K) : tidewrackref07_prints K rs = some ((rs.map prt).map conv) := by
  unfold tidewrackref07_prints
  have := prints_loop rs hr K 0 [] (by omega) (by omega) (by simp)
  rw [List.drop_zero, List.nil_append] at this
  exact this
theorem rtitles_j1 (t : ByteArray) : tidewrackref07_Titles_j1 t = some ((titles t).map conv) := by
  have hj : ∀ c : Bool, c = decide (isP t 48 ∨ isP t 50) → tidewrackref07_Titles_j2 t c = some ((titles t).map conv) := by
    intro c hc
    unfold tidewrackref07_Titles_j2 titles
    rw [hc, cD]
    by_cases h : isP t 48
    · have h2 : ¬ isP t 50 := fun h2 => by have := h.2.1; have := h2.2.1; omega
      have hz := h.1
      rw [if_pos (.inl h), if_pos (by omega), if_pos h, if_neg h2]; rfl
    · by_cases h2 : isP t 50
      · have hz := h2.1
        rw [if_pos (.inr h2), if_pos (by omega), if_neg h, if_pos h2]; rfl
      · rw [if_neg (by simp [h, h2]), if_neg h, if_neg h2]; rfl
  unfold tidewrackref07_Titles_j1
  rw [cD]
  by_cases h : (t.size : Int) > 1
  · rw [if_pos h, if_pos (show (0 : Int) ≤ 0 ∧ (0 : Int) < t.size by omega), if_pos (show (0 : Int) ≤ 1 ∧ (1 : Int) < t.size by omega), cE, cE]
    by_cases h1 : bt t 0 = 48
    · rw [if_pos h1]
      refine hj _ ?_
      have : ¬ isP t 50 := fun h2 => by have := h2.2.1; omega
      by_cases h3 : bt t 1 = 59
      · have : isP t 48 := ⟨by omega, h1, h3⟩
        simp [this, h3]
      · have : ¬ isP t 48 := fun h4 => h3 h4.2.2
        simp [*]
    · rw [if_neg h1]
      have : ¬ isP t 48 := fun h2 => h1 h2.2.1
      by_cases h2 : bt t 0 = 50
      · rw [if_pos h2]
        refine hj _ ?_
        by_cases h3 : bt t 1 = 59
        · have : isP t 50 := ⟨by omega, h2, h3⟩
          simp [this, h3]
        · have : ¬ isP t 50 := fun h4 => h3 h4.2.2
          simp [*]
      · rw [if_neg h2]
        refine hj _ ?_
        have : ¬ isP t 50 := fun h4 => h2 h4.2.1
        simp [*]
  · rw [if_neg h]
    refine hj _ ?_
    have h1 : ¬ isP t 48 := fun h4 => by have := h4.1; omega
    have h2 : ¬ isP t 50 := fun h4 => by have := h4.1; omega
    simp [h1, h2]
theorem rtitles_eq (t : ByteArray) : tidewrackref07_Titles t = some ((titles (cutF t 200)).map conv) := by
  unfold tidewrackref07_Titles cutF
  rw [cD]
  by_cases h : t.size > 200
  · rw [if_pos (by omega), if_pos (by omega), if_pos h]; exact rtitles_j1 _
  · rw [if_neg (by omega), if_neg h]; exact rtitles_j1 _
/-! ### Orders -/
def psh (ns : List Int) (n : Int) : List Int := if ns.length < 16 then ns ++ [n] else ns
def prs : List Int → List Int → Int → Option (List Int)
  | [], ns, n => some (psh ns n)
  | c :: r, ns, n => if 48 ≤ c ∧ c ≤ 57 then prs r ns (mnI 9999 (10 * n + c - 48)) else if c = 59 ∨ c = 58 then prs r (psh ns n) 0 else none
def told (b : Int) (pv : Bool) : Option (List Int) → List T37
  | none => []
  | some ns => [ord b pv ns]
theorem psh_len {ns : List Int} (n : Int) (h : ns.length ≤ 16) : (psh ns n).length ≤ 16 := by
  unfold psh; split
  · simp; omega
  · exact h
theorem mn_comm (a b : Int) : mnI a b = mnI b a := by unfold mnI; split <;> split <;> omega
theorem rord_loop (b : Int) (x : ByteArray) (pv : Bool) (hx : x.size ≤ 1000) : ∀ (k i : Nat) (ns : List Int) (n : Int), x.size + 1 < k + i → i ≤ x.size → ns.length ≤ 16 → 0 ≤ n → n ≤ 9999 →
    tidewrackref07_Order_l3 b x pv k ns n i = some ((told b pv (prs ((numsOf x).drop i) ns n)).map conv)
  | 0, i, ns, n, h1, h2, h3, h4, h5 => by omega
  | k + 1, i, ns, n, h1, h2, h3, h4, h5 => by
    have ih := rord_loop b x pv hx k
    have hl := numsOf_len x
    have hw : IntKind.wrap .i64 ((i : Int) + 1) = ((i + 1 : Nat) : Int) := by rw [w64 (by omega) (by omega)]; omega
    have hpl := psh_len n h3
    have j5 : tidewrackref07_Order_j5 ns n i (tidewrackref07_Order_l3 b x pv k) = tidewrackref07_Order_l3 b x pv k (psh ns n) 0 ((i + 1 : Nat) : Int) := by
      unfold tidewrackref07_Order_j5 psh
      rw [cD, hw]
      by_cases h : ns.length < 16
      · rw [if_pos (by omega), if_pos (by simp; omega), if_pos h]
      · rw [if_neg (by omega), if_neg h]
    unfold tidewrackref07_Order_l3
    rw [cD, cD, if_pos (by omega)]
    by_cases c : i < x.size
    · have hb := bt_range x i c
      rw [List.drop_eq_getElem_cons (by omega : i < (numsOf x).length), numsOf_get x i c]
      unfold prs
      have hj : ∀ y : Bool, y = decide (48 ≤ bt x i ∧ bt x i ≤ 57) → tidewrackref07_Order_j6 x ns n i (tidewrackref07_Order_l3 b x pv k) y = some ((told b pv (if 48 ≤ bt x i ∧ bt x i ≤ 57 then prs (List.drop (i + 1) (numsOf x)) ns (mnI 9999 (10 * n + bt x i - 48)) else if bt x i = 59 ∨ bt x i = 58 then prs (List.drop (i + 1) (numsOf x)) (psh ns n) 0 else none)).map conv) := by
        intro y hy
        unfold tidewrackref07_Order_j6
        rw [hy, cD]
        by_cases a : 48 ≤ bt x i ∧ bt x i ≤ 57
        · rw [if_pos a, if_pos a, if_pos (by omega), hw, w64 (x := 10 * n) (by omega) (by omega), w64 (x := bt x i) (by omega) (by omega), w64 (x := 10 * n + bt x i) (by omega) (by omega), w64 (by omega) (by omega)]
          exact ih (i + 1) ns _ (by omega) (by omega) h3 (by unfold mnI; split <;> omega) (by unfold mnI; split <;> omega)
        · rw [if_neg a, if_neg a]
          unfold tidewrackref07_Order_j4
          rw [cD, if_pos (by omega), if_pos (by omega), cN, cN]
          by_cases a1 : bt x i = 59
          · rw [if_pos a1, if_pos (.inl a1), j5]
            exact ih (i + 1) _ _ (by omega) (by omega) hpl (by omega) (by omega)
          · rw [if_neg a1]
            by_cases a2 : bt x i = 58
            · rw [if_pos a2, if_pos (.inr a2), j5]
              exact ih (i + 1) _ _ (by omega) (by omega) hpl (by omega) (by omega)
            · rw [if_neg a2, if_neg (by omega)]
              rfl
      rw [if_pos (by omega), if_pos (by omega), cD]
      by_cases a : bt x i ≥ 48
      · rw [if_pos a]; exact hj _ (by simp [a])
      · rw [if_neg a]; exact hj _ (by have : ¬ 48 ≤ bt x i := by omega
                                      simp [this])
    · rw [if_neg (by omega), List.drop_eq_nil_of_le (by omega)]
      unfold prs tidewrackref07_Order_j6 tidewrackref07_Order_j4
      rw [cond_false, cD, if_neg (by omega), j5]
      obtain ⟨k', rfl⟩ : ∃ k', k = k' + 1 := ⟨k - 1, by omega⟩
      unfold tidewrackref07_Order_l3
      rw [cD, if_neg (by omega)]
      rfl
def ordE (l : List Int) (b : Int) : List T37 :=
  match l with
  | [] => [ord b false []]
  | c :: r => if c = 63 then (if r = [] then [ord b true []] else told b true (prs r [] 0)) else told b false (prs (c :: r) [] 0)
theorem nums_nil {x : ByteArray} : numsOf x = [] ↔ x = ⟨#[]⟩ := by
  constructor
  · intro h; apply nums_inj; rw [h]; rfl
  · rintro rfl; rfl
theorem rorder_eq (K : Nat) (hK : 1005 ≤ K) (x : ByteArray) (hx : x.size ≤ 1000) (b : Int) : tidewrackref07_Order K x b = some ((ordE (numsOf x) b).map conv) := by
  have hl := numsOf_len x
  have hj1 : ∀ (y : ByteArray) (pv : Bool), y.size ≤ 1000 → tidewrackref07_Order_j1 K b y pv = some ((if numsOf y = [] then [ord b pv []] else told b pv (prs (numsOf y) [] 0)).map conv) := by
    intro y pv hy
    unfold tidewrackref07_Order_j1
    rw [cS]
    by_cases h : y = ⟨#[]⟩
    · rw [if_pos h, if_pos (nums_nil.2 h)]; rfl
    · rw [if_neg h, if_neg (fun hh => h (nums_nil.1 hh))]
      have := rord_loop b y pv hy K 0 [] 0 (by omega) (by omega) (by simp) (by omega) (by omega)
      rw [List.drop_zero] at this
      exact this
  unfold tidewrackref07_Order
  rw [cSN]
  by_cases h : x = ⟨#[]⟩
  · subst h
    rw [if_pos rfl]
    unfold tidewrackref07_Order_j7
    rw [cond_false, hj1 _ _ (by decide)]
    rfl
  · have hp : 0 < x.size := by
      rcases Nat.eq_zero_or_pos x.size with h0 | h0
      · exact absurd (size_zero h0) h
      · exact h0
    rw [if_neg h, if_pos (by omega)]
    unfold tidewrackref07_Order_j7
    rw [cE]
    have hd : numsOf x = bt x 0 :: (numsOf x).drop 1 := by
      have := List.drop_eq_getElem_cons (by omega : 0 < (numsOf x).length)
      rw [List.drop_zero, numsOf_get x 0 hp] at this
      exact this
    by_cases h1 : bt x 0 = 63
    · rw [if_pos h1, if_pos (by omega), hj1 _ _ (by rw [ext_size]; omega)]
      have e : numsOf (x.extract (Int.toNat 1) x.size) = (numsOf x).drop 1 := by
        rw [nums_extract, List.take_of_length_le (by omega)]; rfl
      rw [e]
      conv => rhs; rw [hd]
      unfold ordE
      simp only [h1, if_true]
    · rw [if_neg h1, hj1 _ _ hx]
      have hne : numsOf x ≠ [] := fun hh => h (nums_nil.1 hh)
      rw [if_neg hne]
      conv => rhs; rw [hd]
      unfold ordE
      simp only [h1, if_false]
      rw [← hd]
theorem fold_wr : ∀ (l : List Int) (s : S), s.wr = true → (l.foldl ordS s).wr = true
  | [], s, h => h
  | c :: r, s, h => fold_wr r _ (by
    unfold ordS; split
    · exact h
    · split
      · exact (psh_all s).2.1.trans h
      · split
        · exact h
        · rfl)
theorem psh_nums (s : S) : (pshF s).nums = psh s.nums s.n ∧ (pshF s).n = 0 := by unfold pshF psh; split <;> exact ⟨rfl, rfl⟩
theorem fin_wr {s : S} (h : s.wr = true) (b : Int) : (finF s b).2 = [] := by unfold finF; rw [if_pos h]
theorem own_fold (b : Int) : ∀ (l : List Int) (s : S), s.wr = false → s.an = true → (l = [] → s.so = true) → (finF (l.foldl ordS s) b).2 = told b s.pv (prs l s.nums s.n)
  | [], s, h1, h2, h3 => by
    show (finF s b).2 = _
    unfold finF prs
    rw [if_neg (by simp [h1]), if_pos (h3 rfl), (psh_nums s).1]
    rfl
  | c :: r, s, h1, h2, h3 => by
    show (finF (r.foldl ordS (ordS s c)) b).2 = _
    unfold prs
    by_cases a1 : 48 ≤ c ∧ c ≤ 57
    · rw [if_pos a1, own_fold b r _ (by unfold ordS; rw [if_pos a1]; exact h1) (by unfold ordS; rw [if_pos a1]) (fun _ => by unfold ordS; rw [if_pos a1])]
      unfold ordS; rw [if_pos a1]
      dsimp only
      rw [mn_comm, show 10 * s.n + (c - 48) = 10 * s.n + c - 48 by omega]
    · rw [if_neg a1]
      by_cases a2 : c = 59 ∨ c = 58
      · have e : ordS s c = {pshF s with an := true, so := true} := by unfold ordS; rw [if_neg a1, if_pos a2]
        rw [if_pos a2, own_fold b r _ (by rw [e]; exact (psh_all s).2.1.trans h1) (by rw [e]) (fun _ => by rw [e]), e]
        show told b (pshF s).pv (prs r (pshF s).nums (pshF s).n) = _
        rw [(psh_all s).1, (psh_nums s).1, (psh_nums s).2]
      · have e : ordS s c = {s with an := true, wr := true} := by unfold ordS; rw [if_neg a1, if_neg a2, if_neg (by simp [h2])]
        rw [if_neg a2, e, fin_wr (fold_wr r _ rfl)]
        rfl
structure Fresh (s : S) : Prop where
  st : s.st = 3
  pv : s.pv = false
  wr : s.wr = false
  an : s.an = false
  so : s.so = false
  n : s.n = 0
  nums : s.nums = []
theorem ordS_an (s : S) (c : Int) (h : c ≠ 63) : ordS s c = ordS {s with an := true} c := by
  unfold ordS
  by_cases a1 : 48 ≤ c ∧ c ≤ 57
  · rw [if_pos a1, if_pos a1]
  · rw [if_neg a1, if_neg a1]
    by_cases a2 : c = 59 ∨ c = 58
    · rw [if_pos a2, if_pos a2]
      unfold pshF; split <;> rfl
    · rw [if_neg a2, if_neg a2, if_neg (fun hh => h hh.1), if_neg (fun hh => h hh.1)]
theorem own_order (b : Int) (l : List Int) (s : S) (hs : Fresh s) : (finF (l.foldl ordS s) b).2 = ordE l b := by
  cases l with
  | nil =>
    show (finF s b).2 = _
    unfold finF ordE
    rw [if_neg (by simp [hs.wr]), if_neg (by simp [hs.so]), hs.pv, hs.nums]
  | cons c r =>
    unfold ordE
    dsimp only
    by_cases h : c = 63
    · rw [if_pos h]
      show (finF (r.foldl ordS (ordS s c)) b).2 = _
      have e : ordS s c = {s with an := true, pv := true} := by unfold ordS; rw [if_neg (by omega), if_neg (by omega), if_pos ⟨h, hs.an⟩]
      rw [e]
      by_cases h2 : r = []
      · rw [if_pos h2, h2]
        show (finF {s with an := true, pv := true} b).2 = _
        unfold finF
        rw [if_neg (by simp [hs.wr]), if_neg (by simp [hs.so])]
        show [ord b true s.nums] = _
        rw [hs.nums]
      · rw [if_neg h2, own_fold b r {s with an := true, pv := true} hs.wr rfl (fun h3 => absurd h3 h2)]
        show told b true (prs r s.nums s.n) = _
        rw [hs.nums, hs.n]
    · rw [if_neg h]
      show (finF (r.foldl ordS (ordS s c)) b).2 = _
      rw [ordS_an s c h]
      have := own_fold b (c :: r) {s with an := true} hs.wr rfl (fun h3 => by cases h3)
      refine Eq.trans this ?_
      show told b s.pv (prs (c :: r) s.nums s.n) = _
      rw [hs.pv, hs.nums, hs.n]
theorem fin_an (s : S) (b : Int) : (finF {s with an := true} b).2 = (finF s b).2 := by
  unfold finF
  have : (pshF {s with an := true}).nums = (pshF s).nums := by rw [(psh_nums _).1, (psh_nums _).1]
  dsimp only
  rw [this]
  split
  · rfl
  · split <;> rfl
end Go.Proofs.YthddmlhmejnhlaaDoor.Pure
