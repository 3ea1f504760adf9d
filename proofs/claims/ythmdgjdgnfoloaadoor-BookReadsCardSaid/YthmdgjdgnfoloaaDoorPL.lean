/- Plain laws: what the plain functions answer, with no program in sight. -/
import Derived.Test.YthmdgjdgnfoloaaDoorPX
set_option linter.unusedVariables false
set_option linter.unusedSimpArgs false
namespace Go.Proofs.YthmdgjdgnfoloaaDoor.Pure
open Go Go.Proofs.XC Go.Proofs.YthmdgjdgnfoloaaDoor

/-! ### Rows of any width that are all blank -/
theorem mul_more : ∀ n : Fin 1024, bits_Mul (IntKind.wrap .u64 1) (IntKind.wrap .u64 ((n.val : Nat) : Int)) = some (0, ((n.val : Nat) : Int)) := by decide +kernel
theorem rep_more (K : Nat) (hK : 2000 ≤ K) (b : T82) (n : Nat) (hn : n ≤ 1000) : slices_Repeat K [b] n = some (List.replicate n b) := by
  have hm := mul_more ⟨n, by omega⟩
  have hw : IntKind.wrap .i64 (n : Int) = n := w64 (by omega) (by omega)
  unfold slices_Repeat
  rw [cD, if_neg (by omega)]
  unfold slices_Repeat_j1
  rw [show ((([b] : List T82).length : Nat) : Int) = 1 from rfl, hm, bS, cD, if_neg (show ¬ ((0 : Int) > 0) from by decide)]
  unfold slices_Repeat_j5
  rw [cD, if_neg (by simp only; omega)]
  unfold slices_Repeat_j2
  simp only [hw]
  rw [if_pos (by omega), if_pos (by omega), Int.toNat_natCast]
  cases n with
  | zero =>
    obtain ⟨k, rfl⟩ : ∃ k, K = k + 1 := ⟨K - 1, by omega⟩
    rfl
  | succ n =>
    have hc : cpy 0 (List.replicate (n + 1) (zT82 : T82)) [b] = List.replicate 1 b ++ List.replicate (n + 1 - 1) zT82 := by
      unfold cpy
      rw [List.take_zero, List.nil_append, List.length_replicate, List.drop_replicate, List.take_of_length_le (by simp)]
      rfl
    have hmin : ((min ([b] : List T82).length ((List.replicate (n + 1) (zT82 : T82)).length - 0) : Nat) : Int) = ((1 : Nat) : Int) := by simp only [List.length_replicate, List.length_cons, List.length_nil]; omega
    rw [hc, hmin]
    exact rep_loop b zT82 (n + 1) (by omega) K 1 (by omega) (by omega) (by omega)
theorem blank_more (K : Nat) (hK : 2000 ≤ K) (n : Nat) (s : Int) : row_Blank K n s = some ⟨List.replicate (min n 1000) ⟨32, s, 0⟩, false⟩ := by
  unfold row_Blank row_clip row_blanks row_blank
  have hc : mxI 0 (mnI (n : Int) 1000) = ((min n 1000 : Nat) : Int) := by unfold mxI mnI; (repeat' split) <;> omega
  have hc2 : mxI 0 ((min n 1000 : Nat) : Int) = ((min n 1000 : Nat) : Int) := by unfold mxI; split <;> omega
  rw [bS, hc, bS, hc2, rep_more K hK _ _ (by omega), bS, bS]
/-! ### The other book -/
def tg (g : T49) : T69 := ⟨IntKind.wrap .i64 g.Rune, g.Style⟩
def tgs (l : List T49) : List T69 := l.map tg
def tc (c : T82) : T84 := ⟨IntKind.wrap .i64 c.Rune, c.Style, c.Part⟩
theorem tgs_len (l : List T49) : (tgs l).length = l.length := by simp [tgs]
theorem told_loop (r : T26) (hl : r.Cells.length ≤ 100000) : ∀ (k : Nat) (acc : List T84) (i : Nat), r.Cells.length < k + i → i ≤ r.Cells.length → acc.length ≤ i → tidewracklaw09_Told_l2 r k acc i = some ⟨acc ++ (r.Cells.drop i).map tc, r.Wrapped⟩
  | 0, acc, i, h1, h2, h3 => by omega
  | k + 1, acc, i, h1, h2, h3 => by
    have ih := told_loop r hl k
    unfold tidewracklaw09_Told_l2
    rw [cD]
    by_cases hi : i < r.Cells.length
    · have hw : IntKind.wrap .i64 ((i : Int) + 1) = ((i + 1 : Nat) : Int) := by rw [w64 (by omega) (by omega)]; omega
      rw [if_pos (by omega), if_pos (by omega), if_pos (by simp only [List.length_cons, List.length_nil]; omega), hw, ih _ (i + 1) (by omega) (by omega) (by simp only [List.length_append, List.length_cons, List.length_nil]; omega), List.drop_eq_getElem_cons hi, rdD_get _ _ hi, List.append_assoc]
      rfl
    · rw [if_neg (by omega), List.drop_eq_nil_of_le (by omega), List.map_nil, List.append_nil]; rfl
theorem told_eq (K : Nat) (r : T26) (hl : r.Cells.length ≤ 100000) (hK : r.Cells.length < K) : tidewracklaw09_Told K r = some ⟨r.Cells.map tc, r.Wrapped⟩ := by
  have := told_loop r hl K [] 0 (by omega) (by omega) (by simp)
  rw [show ((0 : Nat) : Int) = 0 from rfl, List.nil_append, List.drop_zero] at this
  exact this
theorem rgl3 (L : List T82) (wr : Bool) (x : Int) (l : List T82) (hx : List.drop 0 (List.take (Int.toNat x) (L.map tc)) = l.map tc) (hl : l.length ≤ 100000) : ∀ (k : Nat) (acc : List T69) (i : Nat), l.length < k + i → i ≤ l.length → acc.length ≤ i → tidewrackref09_Glyphs_l3 ⟨L.map tc, wr⟩ x k acc i = some (acc ++ tgs (outF (l.drop i)))
  | 0, acc, i, h1, h2, h3 => by omega
  | k + 1, acc, i, h1, h2, h3 => by
    have ih := rgl3 L wr x l hx hl k
    have hml : (l.map tc).length = l.length := List.length_map _
    unfold tidewrackref09_Glyphs_l3
    simp only [hx]
    rw [cD]
    by_cases hi : i < l.length
    · have hw : IntKind.wrap .i64 ((i : Int) + 1) = ((i + 1 : Nat) : Int) := by rw [w64 (by omega) (by omega)]; omega
      have hrd : rdD zT84 (l.map tc) (i : Int) = tc l[i] := by rw [rdD_get _ _ (by omega : i < (l.map tc).length), List.getElem_map]
      have hj : ∀ y : Bool, tidewrackref09_Glyphs_j4 ⟨L.map tc, wr⟩ x acc i (tidewrackref09_Glyphs_l3 ⟨L.map tc, wr⟩ x k) y = some (acc ++ ((bif y then [tg ⟨l[i].Rune, l[i].Style⟩] else []) ++ tgs (outF (l.drop (i + 1))))) := fun y => by
        unfold tidewrackref09_Glyphs_j4
        simp only [hx]
        rw [hw, hrd]
        cases y with
        | true =>
          rw [cond_true, cond_true, if_pos (by simp only [List.length_cons, List.length_nil]; omega), ih _ (i + 1) (by omega) (by omega) (by simp only [List.length_append, List.length_cons, List.length_nil]; omega), List.append_assoc]
          rfl
        | false => rw [cond_false, cond_false, ih _ (i + 1) (by omega) (by omega) (by omega), List.nil_append]
      rw [if_pos (by omega), if_pos (by omega), hj, hj, hrd, List.drop_eq_getElem_cons hi]
      have e : tgs (outF (l[i] :: l.drop (i + 1))) = (if l[i].Part = 0 ∨ l[i].Part = 1 then [tg ⟨l[i].Rune, l[i].Style⟩] else []) ++ tgs (outF (l.drop (i + 1))) := by
        show tgs ((if l[i].Part = 0 ∨ l[i].Part = 1 then [(⟨l[i].Rune, l[i].Style⟩ : T49)] else []) ++ outF (l.drop (i + 1))) = _
        unfold tgs
        rw [List.map_append]
        split <;> rfl
      rw [e, show (tc l[i]).Part = l[i].Part from rfl, cE]
      by_cases c0 : l[i].Part = 0
      · rw [if_pos c0, if_pos (.inl c0)]; rfl
      · rw [if_neg c0]
        by_cases c1 : l[i].Part = 1
        · rw [if_pos (.inr c1), beq_iff_eq.2 c1]; rfl
        · rw [if_neg (by omega), beq_eq_false_iff_ne.2 c1]; rfl
    · rw [if_neg (by omega), List.drop_eq_nil_of_le (by omega)]
      unfold tidewrackref09_Glyphs_j2 outF tgs
      simp
theorem rgl_wrapped (K : Nat) (hK : 2000 ≤ K) (L : List T82) (hl : L.length ≤ 1000) : tidewrackref09_Glyphs K ⟨L.map tc, true⟩ = some (tgs (outF L)) := by
  obtain ⟨k, rfl⟩ : ∃ k, K = k + 1 := ⟨K - 1, by omega⟩
  have h3 := rgl3 L true (L.length : Int) L (by rw [Int.toNat_natCast, List.take_of_length_le (by rw [List.length_map]; exact Nat.le_refl _), List.drop_zero]) (by omega) (k + 1) [] 0 (by omega) (by omega) (by simp)
  rw [show ((0 : Nat) : Int) = 0 from rfl, List.nil_append, List.drop_zero] at h3
  have hj : tidewrackref09_Glyphs_j1 (k + 1) ⟨L.map tc, true⟩ (L.length : Int) = some (tgs (outF L)) := by
    unfold tidewrackref09_Glyphs_j1
    simp only [List.length_map]
    rw [if_pos (by omega), if_pos (by omega), h3]
  unfold tidewrackref09_Glyphs tidewrackref09_Glyphs_l5
  simp only [List.length_map]
  rw [hj, Bool.not_true, cond_false]
  cases decide ((L.length : Int) > 0) <;> rfl
theorem tgs_take (n : Nat) (l : List T49) : (tgs l).take n = tgs (l.take n) := by unfold tgs; rw [List.map_take]
theorem tgs_drop (n : Nat) (l : List T49) : (tgs l).drop n = tgs (l.drop n) := by unfold tgs; rw [List.map_drop]
theorem radd2 (q : T37) : ∀ (k m : Nat) (a : List T49) (L : List (List T69)), m < k → a.length < 1024 * (m + 1) → m ≤ 100 → L.length + m ≤ 90000 → tidewrackref12_Add_l2 q k (tgs a) L = tidewrackref12_Add_j1 q (tgs (cutF m a).2) (L ++ (cutF m a).1.map tgs)
  | 0, m, a, L, h1, h2, h3, h4 => by omega
  | k + 1, m, a, L, h1, h2, h3, h4 => by
    have ih := radd2 q k
    have hl := tgs_len a
    unfold tidewrackref12_Add_l2
    rw [cD]
    by_cases c : 1024 ≤ a.length
    · obtain ⟨m, rfl⟩ : ∃ j, m = j + 1 := ⟨m - 1, by omega⟩
      rw [if_pos (by omega), if_pos (by omega), if_pos (by simp only [List.length_cons, List.length_nil]; omega), show Int.toNat 1024 = 1024 from rfl, List.take_length, List.drop_zero, tgs_take, tgs_drop, ih m _ _ (by omega) (by rw [List.length_drop]; omega) (by omega) (by simp only [List.length_append, List.length_cons, List.length_nil]; omega)]
      have e : cutF (m + 1) a = (a.take 1024 :: (cutF m (a.drop 1024)).1, (cutF m (a.drop 1024)).2) := by rw [cutF, if_pos c]
      rw [e, List.append_assoc]
      rfl
    · rw [if_neg (by omega)]
      have : cutF m a = ([], a) := by
        cases m with
        | zero => rfl
        | succ m => rw [cutF, if_neg c]
      rw [this, List.map_nil, List.append_nil]
theorem radd_wrapped (K : Nat) (hK : 2000 ≤ K) (L : List (List T69)) (bg : List T49) (cells : List T82) (hb : bg.length < 1024) (hc : cells.length ≤ 1000) (hL : L.length ≤ 50000) :
    tidewrackref12_Add K ⟨L, tgs bg⟩ ⟨cells.map tc, true⟩ = some ⟨L ++ (cutF 2 (bg ++ outF cells)).1.map tgs, tgs (cutF 2 (bg ++ outF cells)).2⟩ := by
  have ho := out_len cells
  unfold tidewrackref12_Add
  simp only [List.nil_append, List.length_nil, Nat.zero_add]
  rw [if_pos (by rw [tgs_len]; omega), rgl_wrapped K hK cells hc, bS, if_pos (by rw [tgs_len, tgs_len]; omega), if_pos (by omega), show tgs bg ++ tgs (outF cells) = tgs (bg ++ outF cells) from by unfold tgs; rw [List.map_append],
    radd2 _ K 2 (bg ++ outF cells) L (by omega) (by rw [List.length_append]; omega) (by omega) (by omega)]
  rfl
theorem same_loop (p : List T49) (hp : p.length ≤ 100000) : ∀ (k i : Nat), p.length < k + i → i ≤ p.length → tidewracklaw09_Glyphs_l2 p (tgs p) k i = some true
  | 0, i, h1, h2 => by omega
  | k + 1, i, h1, h2 => by
    have ih := same_loop p hp k
    have hm := tgs_len p
    unfold tidewracklaw09_Glyphs_l2
    rw [cD]
    by_cases hi : i < p.length
    · have hw : IntKind.wrap .i64 ((i : Int) + 1) = ((i + 1 : Nat) : Int) := by rw [w64 (by omega) (by omega)]; omega
      have hrd : rdD zT69 (tgs p) (i : Int) = tg p[i] := by rw [rdD_get _ _ (by omega : i < (tgs p).length)]; unfold tgs; rw [List.getElem_map]
      rw [if_pos (by omega), if_pos (by omega), if_pos (by omega), rdD_get _ _ hi, hrd, cN, if_pos (show IntKind.wrap .i64 p[i].Rune = (tg p[i]).Rune from rfl), cN, if_pos (show p[i].Style = (tg p[i]).Style from rfl), hw]
      exact ih (i + 1) (by omega) (by omega)
    · rw [if_neg (by omega)]; rfl
theorem same_eq (K : Nat) (p : List T49) (hp : p.length ≤ 100000) (hK : p.length < K) : tidewracklaw09_Glyphs K p (tgs p) = some true := by
  unfold tidewracklaw09_Glyphs
  rw [cN, if_pos (by rw [tgs_len])]
  exact same_loop p hp K 0 (by omega) (by omega)
theorem is_loop (K : Nat) (hK : 100000 ≤ K) (b : T75) (hb : ∀ l ∈ b.l, l.length ≤ 3000) (B : List T69) (hl : b.l.length ≤ 50000) : ∀ (k i : Nat), b.l.length < k + i → i ≤ b.l.length → tidewracklaw12_Is_l3 K b ⟨b.l.map tgs, B⟩ k i = some true
  | 0, i, h1, h2 => by omega
  | k + 1, i, h1, h2 => by
    have ih := is_loop K hK b hb B hl k
    unfold tidewracklaw12_Is_l3
    simp only [List.length_map]
    rw [cD]
    by_cases hi : i < b.l.length
    · have hw : IntKind.wrap .i64 ((i : Int) + 1) = ((i + 1 : Nat) : Int) := by rw [w64 (by omega) (by omega)]; omega
      have h3 := hb _ (List.getElem_mem hi)
      have hrd : rdD [] (b.l.map tgs) (i : Int) = tgs b.l[i] := by rw [rdD_get _ _ (by rw [List.length_map]; exact hi), List.getElem_map]
      rw [if_pos (by omega), if_pos (by omega), line_eq b i hi (by omega), bS, hrd]
      simp only
      rw [Bool.not_true, cond_false, same_eq K _ (by omega) (by omega), bS, Bool.not_true, cond_false, hw]
      exact ih (i + 1) (by omega) (by omega)
    · rw [if_neg (by omega)]
      unfold tidewracklaw12_Is_j2 book_Book_Len book_Book_Line book_Book_Line_j2
      rw [cD, if_pos (by decide), cond_true, bS, bS, cD, if_neg (by omega), cD, if_pos (by omega), bS]
      rfl
theorem is_eq (K : Nat) (hK : 100000 ≤ K) (b : T75) (hb : ∀ l ∈ b.l, l.length ≤ 3000) (hbg : b.begun.length ≤ 3000) (hl : b.l.length ≤ 50000) : tidewracklaw12_Is K b ⟨b.l.map tgs, tgs b.begun⟩ = some true := by
  unfold tidewracklaw12_Is book_Book_Len
  rw [bS, cN, if_pos (by rw [List.length_map]), begun_eq b (by omega), bS, same_eq K _ (by omega) (by omega), bS, Bool.not_true, cond_false]
  exact is_loop K hK b hb _ hl K 0 (by omega) (by omega)
/-! ### BookLong -/
theorem flat_1024 : ∀ q : List (List T49), (∀ l ∈ q, l.length = 1024) → q.flatten.length = 1024 * q.length
  | [], _ => rfl
  | x :: q, h => by
    rw [List.flatten_cons, List.length_append, h x (by simp), flat_1024 q (fun y hy => h y (by simp [hy])), List.length_cons]; omega
theorem long3 (K : Nat) (hK : 100000 ≤ K) (p0 p1 : Int) (n m : Nat) (e0 : bits .and .i64 p0 1023 = (n : Int)) (e1 : bits .and .i64 p1 7 = (m : Int)) (M : Nat) (hM : mnI (n : Int) 1000 = (M : Int)) (hM1 : M ≤ 1000) (hm : m ≤ 7) (b : T75) (hb : ∀ l ∈ b.l, l.length = 1024) (hl : b.l.length ≤ 50000) (hbg : b.begun.length < 1024) (htot : 1024 * b.l.length + b.begun.length = M * m) :
    ∀ (k i : Nat), b.l.length < k + i → i ≤ b.l.length → tidewracklaw12_BookLong_l3 K p0 p1 b.l b.chains b.begun (b.l.map tgs) (tgs b.begun) (b.l.length : Int) k ((b.begun.length + 1024 * i : Nat) : Int) i = some true
  | 0, i, h1, h2 => by omega
  | k + 1, i, h1, h2 => by
    have ih := long3 K hK p0 p1 n m e0 e1 M hM hM1 hm b hb hl hbg htot k
    unfold tidewracklaw12_BookLong_l3
    rw [cD]
    by_cases hi : i < b.l.length
    · have hw : IntKind.wrap .i64 ((i : Int) + 1) = ((i + 1 : Nat) : Int) := by rw [w64 (by omega) (by omega)]; omega
      have h3 := hb _ (List.getElem_mem hi)
      have hw2 : IntKind.wrap .i64 (((b.begun.length + 1024 * i : Nat) : Int) + ((b.l[i]).length : Int)) = ((b.begun.length + 1024 * (i + 1) : Nat) : Int) := by rw [h3, w64 (by omega) (by omega)]; omega
      have hln := line_eq b i hi (by omega)
      rw [if_pos (by omega), hln, bS]
      simp only
      rw [hw2, hw, cN, if_pos (by omega)]
      exact ih (i + 1) (by omega) (by omega)
    · have : i = b.l.length := by omega
      subst this
      have hmul : ((M : Nat) : Int) * (m : Int) = ((M * m : Nat) : Int) := (Int.natCast_mul _ _).symm
      have hb7 : M * m ≤ 1000 * 7 := Nat.mul_le_mul (by omega) hm
      rw [if_neg (by omega)]
      unfold tidewracklaw12_BookLong_j2
      rw [e0, e1, hM, hmul, w64 (by omega) (by omega), cE, if_pos (by omega), is_eq K hK b (fun l h => by have := hb l h; omega) (by omega) hl, bS, cond_true, begun_eq b (by omega), bS]
      exact congrArg some (decide_eq_true (by omega))
theorem long4 (K : Nat) (hK : 100000 ≤ K) (p0 p1 : Int) (n m : Nat) (e0 : bits .and .i64 p0 1023 = (n : Int)) (e1 : bits .and .i64 p1 7 = (m : Int)) (M : Nat) (hM : mnI (n : Int) 1000 = (M : Int)) (hM1 : M ≤ 1000) (hm : m ≤ 7) (t : T26) (ht : t.Cells = List.replicate (M) ⟨32, 3, 0⟩) : ∀ (k i : Nat) (b : T75), m < k + i → i ≤ m → InvB b (3 * i) → (∀ l ∈ b.l, l.length = 1024) → 1024 * b.l.length + b.begun.length = M * i →
    tidewracklaw12_BookLong_l4 K p0 p1 t k b.l b.chains b.begun (b.l.map tgs) (tgs b.begun) i = some true
  | 0, i, b, h1, h2, h3, h4, h5 => by omega
  | k + 1, i, b, h1, h2, h3, h4, h5 => by
    have ih := long4 K hK p0 p1 n m e0 e1 M hM hM1 hm t ht k
    have i1 := h3.l
    have i2 := h3.ch
    have i3 := h3.bg
    unfold tidewracklaw12_BookLong_l4
    rw [e1, cD]
    by_cases hi : i < m
    · have hw : IntKind.wrap .i64 ((i : Int) + 1) = ((i + 1 : Nat) : Int) := by rw [w64 (by omega) (by omega)]; omega
      have htl : t.Cells.length ≤ 1000 := by rw [ht, List.length_replicate]; omega
      have ha := addR K hK b (3 * i) h3 [(⟨t.Cells, true⟩ : T26)] (fun r hr => by
        simp only [List.mem_singleton] at hr; subst hr; exact htl) (by simp only [List.length_cons, List.length_nil]; omega)
      have ho : outF t.Cells = List.replicate (M) ⟨32, 3⟩ := by rw [ht, out_rep]
      have hol : (outF t.Cells).length = M := by rw [ho, List.length_replicate]
      have hst := h3.step (outF t.Cells) (by omega) true
      obtain ⟨c1, c2, c3, c4⟩ := cutF_spec 2 (b.begun ++ outF t.Cells) (by rw [List.length_append]; omega)
      have es : addsF gfF b [(⟨t.Cells, true⟩ : T26)] = addF b (outF t.Cells) true := rfl
      have eb : addF b (outF t.Cells) true = ⟨b.l ++ (cutF 2 (b.begun ++ outF t.Cells)).1, chs b.chains (cutF 2 (b.begun ++ outF t.Cells)).1, (cutF 2 (b.begun ++ outF t.Cells)).2⟩ := rfl
      have hr := radd_wrapped K (by omega) (b.l.map tgs) b.begun t.Cells i3 htl (by rw [List.length_map]; omega)
      have hcl := congrArg List.length c1
      rw [List.length_append, List.length_append, hol] at hcl
      have hfl := flat_1024 _ c4
      rw [if_pos (by omega), ha, bS, told_eq K ⟨t.Cells, true⟩ (by simp only; omega) (by simp only; omega), bS]
      simp only
      rw [hr, bS, hw, es]
      have hmm : M * (i + 1) = M * i + M := by rw [Nat.mul_succ]
      have := ih (i + 1) (addF b (outF t.Cells) true) (by omega) (by omega) (by have := hst.1; rw [show 3 * i + 3 = 3 * (i + 1) by omega] at this; exact this) (fun l hl => by
        rw [eb] at hl
        rcases List.mem_append.1 hl with hl | hl
        · exact h4 l hl
        · exact c4 l hl) (by rw [eb]; simp only [List.length_append]; omega)
      rw [eb] at this ⊢
      simp only [List.map_append] at this ⊢
      exact this
    · have : i = m := by omega
      subst this
      rw [if_neg (by omega)]
      unfold tidewracklaw12_BookLong_j1 book_Book_Len
      rw [begun_eq _ (by simp only; omega), bS, bS]
      have := long3 K hK p0 p1 n i e0 e1 M hM hM1 hm b h4 (by omega) i3 h5 K 0 (by omega) (by omega)
      rw [Nat.mul_zero, Nat.add_zero] at this
      exact this
theorem BookLong (x0 : Int) (w0 : (Lit.int .i64 x0).wf = true) (x1 : Int) (w1 : (Lit.int .i64 x1).wf = true) : ∃ K, tidewracklaw12_BookLong K x0 x1 = some true := by
  suffices h : ∀ K, 100000 ≤ K → tidewracklaw12_BookLong K x0 x1 = some true from ⟨100000, h _ (Nat.le_refl _)⟩
  intro K hK
  obtain ⟨u, hu, eu⟩ := and_le x0 1023 (by decide)
  obtain ⟨v, hv, ev⟩ := and_le x1 7 (by decide)
  unfold tidewracklaw12_BookLong book_New
  rw [awake_eq K hK, bS, Bool.not_true, cond_false, bS, show bits .and .i64 x0 1023 = (u : Int) from eu, blank_more K (by omega) u 3, bS]
  exact long4 K hK x0 x1 u v eu ev (min u 1000) (by unfold mnI; split <;> omega) (by omega) hv _ rfl K 0 N0 (by omega) (by omega) n0_inv (fun l hl => by simp [N0] at hl) (by simp [N0])
end Go.Proofs.YthmdgjdgnfoloaaDoor.Pure
