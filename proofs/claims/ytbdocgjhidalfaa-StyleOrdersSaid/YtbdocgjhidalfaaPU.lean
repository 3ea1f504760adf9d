/- Plain laws: what the plain functions answer, with no program in sight. -/
import Derived.Test.YtbdocgjhidalfaaPT
set_option linter.unusedVariables false
set_option linter.unusedSimpArgs false
namespace Go.Proofs.Ytbdocgjhidalfaa.Pure
open Go Go.Proofs.XC Go.Proofs.Ytbdocgjhidalfaa

def Plain (a : List Int) : Prop := ∀ x ∈ a, ¬(x = 38 ∨ x = 48)
theorem run_append : ∀ (a : List Int) (s : T22) (b : List Int), Plain a → run 0 s (a ++ b) = run 0 (run 0 s a) b
  | [], s, b, h => by simp [run]
  | x :: a, s, b, h => by
    have hx := h x (by simp)
    rw [List.cons_append, run_one _ _ _ hx, run_one _ _ _ hx]
    exact run_append a _ b fun y hy => h y (by simp [hy])
theorem twice_l7 (K : Nat) (p0 : T22) (p1 p2 : List Int) : ∀ (k : Nat) (acc : List Int) (i : Nat), 12 < k + i → i ≤ 12 → Plain acc → 0 < acc.length → acc.length ≤ 1 + i →
    ∃ a, Plain a ∧ 0 < a.length ∧ a.length ≤ 13 ∧ tidewracklaw08_StyleTwice_l7 K p0 p2 k p1 acc i = tidewracklaw08_StyleTwice_j1 K p0 p2 a
  | 0, acc, i, h, h', hp, h0, h1 => by omega
  | k + 1, acc, i, h, h', hp, h0, h1 => by
    have ih := twice_l7 K p0 p1 p2 k
    unfold tidewracklaw08_StyleTwice_l7
    by_cases c1 : (i : Int) < (p1.length : Int)
    · by_cases c2 : (i : Int) < 12
      · have hw : IntKind.wrap .i64 ((i : Int) + 1) = ((i + 1 : Nat) : Int) := by rw [w64 (by omega) (by omega)]; omega
        have hx : rdD 0 p1 (i : Int) = p1[i]'(by omega) := rdD_get _ _ (by omega)
        have c0 : (0 : Int) ≤ (i : Int) := by omega
        simp only [cD, if_pos c1, if_pos c2, tidewracklaw08_StyleTwice_j8, tidewracklaw08_StyleTwice_j9, if_pos (And.intro c0 c1), hx, cN, hw, cond_false]
        have hl : acc.length + ([p1[i]'(by omega)] : List Int).length ≤ 1000000000 := by simp; omega
        rw [if_pos hl]
        have skip := ih acc (i + 1) (by omega) (by omega) hp h0 (by omega)
        by_cases h3 : p1[i]'(by omega) = 38
        · rw [if_pos h3]; exact skip
        · rw [if_neg h3]
          by_cases h4 : p1[i]'(by omega) = 48
          · rw [if_pos h4]; exact skip
          · rw [if_neg h4]
            refine ih _ (i + 1) (by omega) (by omega) ?_ (by simp) (by simp; omega)
            intro y hy
            rcases List.mem_append.1 hy with hy | hy
            · exact hp y hy
            · simp only [List.mem_singleton] at hy; subst hy; simp [h3, h4]
      · exact ⟨acc, hp, h0, by omega, by simp only [cD, if_pos c1, if_neg c2]⟩
    · exact ⟨acc, hp, h0, by omega, by simp only [cD, if_neg c1]⟩
theorem twice_l5 (K : Nat) (p0 : T22) (p2 a : List Int) : ∀ (k : Nat) (acc : List Int) (i : Nat), 12 < k + i → i ≤ 12 → 0 < acc.length → acc.length ≤ 1 + i →
    ∃ b, 0 < b.length ∧ b.length ≤ 13 ∧ tidewracklaw08_StyleTwice_l5 K p0 p2 a k acc i = tidewracklaw08_StyleTwice_j2 K p0 a b
  | 0, acc, i, h, h', h0, h1 => by omega
  | k + 1, acc, i, h, h', h0, h1 => by
    have ih := twice_l5 K p0 p2 a k
    unfold tidewracklaw08_StyleTwice_l5
    by_cases c1 : (i : Int) < (p2.length : Int)
    · by_cases c2 : (i : Int) < 12
      · have hw : IntKind.wrap .i64 ((i : Int) + 1) = ((i + 1 : Nat) : Int) := by rw [w64 (by omega) (by omega)]; omega
        have c0 : (0 : Int) ≤ (i : Int) := by omega
        have hm : (if (acc.length : Int) > 1 then (acc.length : Int) else 1) = (acc.length : Int) := by split <;> omega
        have ht : acc.take (acc.length : Int).toNat = acc := by simp
        simp only [cD, if_pos c1, if_pos c2, tidewracklaw08_StyleTwice_j6, if_pos (And.intro c0 c1), hw, hm, ht]
        rw [if_pos (by omega), if_pos (by omega), if_pos (by simp; omega)]
        exact ih _ (i + 1) (by omega) (by omega) (by simp) (by simp; omega)
      · exact ⟨acc, h0, by omega, by simp only [cD, if_pos c1, if_neg c2]⟩
    · exact ⟨acc, h0, by omega, by simp only [cD, if_neg c1]⟩
theorem StyleTwice (x0 : T22) (w0 : (WF.wfT22) x0) (x1 : List Int) (w1 : ∀ y ∈ x1, (WF.wfi64) y) (l1 : x1.length ≤ maxLen) (x2 : List Int) (w2 : ∀ y ∈ x2, (WF.wfi64) y) (l2 : x2.length ≤ maxLen) : ∃ K, tidewracklaw08_StyleTwice K x0 x1 x2 = some true := by
  refine ⟨100, ?_⟩
  simp only [tidewracklaw08_StyleTwice, awake_eq 100 (by omega), bS, Bool.not_true, cond_false]
  obtain ⟨a, ap, a0, a1, e⟩ := twice_l7 100 x0 x1 x2 100 [7] 0 (by omega) (by omega) (by simp [Plain]) (by simp) (by simp)
  obtain ⟨b, b0, b1, e2⟩ := twice_l5 100 x0 x2 a 100 [0] 0 (by omega) (by omega) (by simp) (by simp)
  have fin : ∀ c : List Int, 0 < c.length → c.length ≤ 13 → tidewracklaw08_StyleTwice_j3 100 x0 a c = some true := by
    intro c c0 c1
    simp only [tidewracklaw08_StyleTwice_j3, tidewracklaw08_StyleTwice_j4, List.nil_append]
    rw [set_eq _ _ _ (by omega) (by omega), bS, set_eq _ _ _ (by omega) (by omega), bS, if_pos (by simp only [List.length_nil]; omega), if_pos (by omega), set_eq _ _ _ (by simp; omega) (by simp; omega), bS]
    have : setF x0 (a ++ c) = setF (setF x0 a) c := by
      unfold setF
      rw [if_neg (by rw [List.length_append]; omega), if_neg (by omega), if_neg (by omega), run_append _ _ _ ap]
    rw [this, eq_refl]
  rw [show ((0 : Nat) : Int) = 0 from rfl] at e e2
  rw [e]
  simp only [tidewracklaw08_StyleTwice_j1]
  rw [e2]
  simp only [tidewracklaw08_StyleTwice_j2]
  rw [if_pos (by omega)]
  have hd : (List.drop (Int.toNat 1) (List.take b.length b)) = b.drop 1 := by simp
  rw [hd]
  rw [cE]
  split
  · exact fin _ (by simp) (by simp)
  · rename_i h
    have : (b.drop 1).length = b.length - 1 := by simp
    exact fin _ (by omega) (by omega)

def ordF (s : T22) : List Int := [0] ++ (if s.Bold then [1] else []) ++ (if s.Under then [4] else []) ++ (if s.Inverse then [7] else []) ++ (if s.Fore > 0 then [29 + s.Fore] else []) ++ (if s.Back > 0 then [39 + s.Back] else [])
def ordL (p0 : T22) : List T43 := [(⟨p0.Bold, 1⟩ : T43), (⟨p0.Under, 4⟩ : T43), (⟨p0.Inverse, 7⟩ : T43), (⟨(decide (p0.Fore > (0 : Int))), (IntKind.wrap .i64 ((IntKind.wrap .i64 (30 + p0.Fore)) - 1))⟩ : T43), (⟨(decide (p0.Back > (0 : Int))), (IntKind.wrap .i64 ((IntKind.wrap .i64 (40 + p0.Back)) - 1))⟩ : T43)]
def ordG (l : List T43) : List Int := (l.filter fun x => x.is).map fun x => x.n
theorem order_loop (s : T22) : ∀ (k : Nat) (acc : List Int) (i : Nat), 5 < k + i → i ≤ 5 → acc.length ≤ 1 + i → style_Style_Order_l3 s k acc i = some (acc ++ ordG ((ordL s).drop i))
  | 0, acc, i, h, h', h1 => by omega
  | k + 1, acc, i, h, h', h1 => by
    have ih := order_loop s k
    unfold style_Style_Order_l3
    rw [← ordL]
    have hlen : (ordL s).length = 5 := rfl
    generalize ordL s = l at *
    by_cases hi : i < 5
    · have hw : IntKind.wrap .i64 ((i : Int) + 1) = ((i + 1 : Nat) : Int) := by rw [w64 (by omega) (by omega)]; omega
      have hx : rdD zT43 l (i : Int) = l[i]'(by omega) := rdD_get _ _ (by omega)
      rw [List.drop_eq_getElem_cons (by omega)]
      simp only [cD, hx, hw]
      rw [if_pos (by omega), if_pos (by omega)]
      have i1 := ih acc (i + 1) (by omega) (by omega) (by omega)
      have i2 := ih (acc ++ [(l[i]'(by omega)).n]) (i + 1) (by omega) (by omega) (by simp; omega)
      cases hb : (l[i]'(by omega)).is with
      | false => simp only [cond_false, i1, ordG, List.filter_cons, hb, Bool.false_eq_true, if_false]
      | true =>
        simp only [cond_true]
        rw [if_pos (by simp; omega), i2]
        simp only [ordG, List.filter_cons, hb, if_true, List.map_cons, List.append_assoc, List.singleton_append]
    · simp only [cD]
      rw [if_neg (by omega), List.drop_eq_nil_of_le (by omega)]
      simp [style_Style_Order_j2, ordG]
theorem order_eq (K : Nat) (hK : 100 ≤ K) (s : T22) (h : mayF s) : style_Style_Order_j1 K s = some (ordF s) := by
  obtain ⟨a, b, c, d⟩ := h
  have e1 : IntKind.wrap .i64 ((IntKind.wrap .i64 (30 + s.Fore)) - 1) = 29 + s.Fore := by rw [w64 (x := 30 + s.Fore) (by omega) (by omega), w64 (by omega) (by omega)]; omega
  have e2 : IntKind.wrap .i64 ((IntKind.wrap .i64 (40 + s.Back)) - 1) = 39 + s.Back := by rw [w64 (x := 40 + s.Back) (by omega) (by omega), w64 (by omega) (by omega)]; omega
  have := order_loop s K [0] 0 (by omega) (by omega) (by simp)
  unfold style_Style_Order_j1
  rw [show ((0 : Nat) : Int) = 0 from rfl] at this
  rw [this]
  simp only [ordL, e1, e2, ordG, ordF, List.drop_zero, List.filter_cons, List.filter_nil, decide_eq_true_eq]
  by_cases h4 : s.Fore > 0 <;> by_cases h5 : s.Back > 0 <;> simp only [h4, h5, if_true, if_false] <;> cases s.Bold <;> cases s.Under <;> cases s.Inverse <;> rfl
theorem ord_facts (s : T22) (h : mayF s) : 1 ≤ (ordF s).length ∧ (ordF s).length ≤ 6 ∧ rdD 0 (ordF s) 0 = 0 ∧ (∀ i, 2 ≤ i → i < (ordF s).length → (ordF s).getD (i - 1) 0 < (ordF s).getD i 0) := by
  obtain ⟨a, b, c, d⟩ := h
  have key : ∀ l : List Int, l.length ≤ 6 → (l.getD 1 0 < l.getD 2 0 ∨ l.length ≤ 2) → (l.getD 2 0 < l.getD 3 0 ∨ l.length ≤ 3) → (l.getD 3 0 < l.getD 4 0 ∨ l.length ≤ 4) → (l.getD 4 0 < l.getD 5 0 ∨ l.length ≤ 5) → ∀ i, 2 ≤ i → i < l.length → l.getD (i - 1) 0 < l.getD i 0 := by
    intro l hl h2 h3 h4 h5 i hi hi2
    have : i = 2 ∨ i = 3 ∨ i = 4 ∨ i = 5 := by omega
    rcases this with rfl | rfl | rfl | rfl <;> simp only [Nat.reduceSub] <;> omega
  unfold ordF
  cases s.Bold <;> cases s.Under <;> cases s.Inverse <;> by_cases h4 : s.Fore > 0 <;> by_cases h5 : s.Back > 0 <;> simp only [h4, h5, if_true, if_false, Bool.false_eq_true, List.append_nil, List.nil_append, List.cons_append] <;>
    refine ⟨by simp, by simp, rfl, key _ (by simp) ?_ ?_ ?_ ?_⟩ <;> simp <;> omega
theorem run_ord (s t : T22) (h : mayF s) : run 0 t (ordF s) = s := by
  obtain ⟨a, b, c, d⟩ := h
  obtain ⟨f, g, x, y, z⟩ := s
  simp only at a b c d
  have o3 : ∀ u : T22, f > 0 → oneF u (29 + f) = ⟨f, u.Back, u.Bold, u.Under, u.Inverse⟩ := by
    intro u hf
    unfold oneF
    simp (disch := omega) only [ifT, ifF]
    congr 1; omega
  have o4 : ∀ u : T22, g > 0 → oneF u (39 + g) = ⟨u.Fore, g, u.Bold, u.Under, u.Inverse⟩ := by
    intro u hf
    unfold oneF
    simp (disch := omega) only [ifT, ifF]
    congr 1; omega
  have n3 : ∀ u xs, f > 0 → run 0 u ((29 + f) :: xs) = run 0 (oneF u (29 + f)) xs := fun u xs hf => run_one _ _ _ (by omega)
  have n4 : ∀ u xs, g > 0 → run 0 u ((39 + g) :: xs) = run 0 (oneF u (39 + g)) xs := fun u xs hf => run_one _ _ _ (by omega)
  have n0 : ∀ u xs, run 0 u (0 :: xs) = run 0 ⟨0, 0, false, false, false⟩ xs := fun u xs => by rw [run_one _ _ _ (by omega)]; rfl
  have n1 : ∀ (u : T22) xs, run 0 u (1 :: xs) = run 0 ⟨u.Fore, u.Back, true, u.Under, u.Inverse⟩ xs := fun u xs => by rw [run_one _ _ _ (by omega)]; rfl
  have n44 : ∀ (u : T22) xs, run 0 u (4 :: xs) = run 0 ⟨u.Fore, u.Back, u.Bold, true, u.Inverse⟩ xs := fun u xs => by rw [run_one _ _ _ (by omega)]; rfl
  have n7 : ∀ (u : T22) xs, run 0 u (7 :: xs) = run 0 ⟨u.Fore, u.Back, u.Bold, u.Under, true⟩ xs := fun u xs => by rw [run_one _ _ _ (by omega)]; rfl
  have nn : ∀ u : T22, run 0 u [] = u := fun u => rfl
  unfold ordF
  cases x <;> cases y <;> cases z <;> by_cases h4 : f > 0 <;> by_cases h5 : g > 0 <;> simp only [h4, h5, if_true, if_false, Bool.false_eq_true, List.append_nil, List.nil_append, List.cons_append, n0, n1, n44, n7, nn, n3 _ _, n4 _ _, o3 _, o4 _] <;>
    simp only [T22.mk.injEq, and_true, true_and] <;> omega
theorem orders_loop (l : List Int) (hl : l.length ≤ 6) (hs : ∀ i, 2 ≤ i → i < l.length → l.getD (i - 1) 0 < l.getD i 0) : ∀ (k i : Nat), 6 < k + i → 2 ≤ i → i ≤ 6 → tidewracklaw08_StyleOrders_l3 l k i = some true
  | 0, i, h, h2, h3 => by
    omega
  | k + 1, i, h, h2, h3 => by
    have ih := orders_loop l hl hs k
    unfold tidewracklaw08_StyleOrders_l3
    by_cases hi : i < l.length
    · have hw : IntKind.wrap .i64 ((i : Int) + 1) = ((i + 1 : Nat) : Int) := by rw [w64 (by omega) (by omega)]; omega
      have hw2 : IntKind.wrap .i64 ((i : Int) - 1) = ((i - 1 : Nat) : Int) := by rw [w64 (by omega) (by omega)]; omega
      have := hs i h2 hi
      simp only [cD, hw, hw2, rdD_nat]
      rw [if_pos (by omega), if_pos (by omega), if_pos (by omega), if_neg (by omega)]
      exact ih (i + 1) (by omega) (by omega) (by omega)
    · simp only [cD]
      rw [if_neg (by omega), tidewracklaw08_StyleOrders_j2]
theorem eq_iff (x y : T22) : eqT22 x y = true ↔ x = y := by
  obtain ⟨a, b, c, d, e⟩ := x
  obtain ⟨a', b', c', d', e'⟩ := y
  simp [eqT22]
theorem orders_K (K : Nat) (hK : 100 ≤ K) (x0 x1 : T22) : tidewracklaw08_StyleOrders K x0 x1 = some true := by
  rw [tidewracklaw08_StyleOrders, awake_eq K (by omega), bS, style_Style_Order, may_eq, bS, rmay_eq, Bool.not_true, cond_false]
  by_cases h : mayF x0
  · simp only [h, decide_true, Bool.not_true, cond_false, bS]
    cases he : eqT22 x0 x1 with
    | true => simp only [cond_true, bS]; rfl
    | false =>
      obtain ⟨f1, f2, f3, f4⟩ := ord_facts x0 h
      have hr : setF x1 (ordF x0) = x0 := by rw [setF, if_neg (by omega), run_ord _ _ h]
      simp only [cond_false, order_eq K hK x0 h, bS, cD, f3, setR_eq K x1 (ordF x0) (by omega) (by omega), hr, eq_refl, Bool.not_true, bne_self_eq_false, tidewracklaw08_StyleOrders_j1]
      rw [if_neg (by omega), if_neg (by omega), if_pos (by omega)]
      exact orders_loop _ f2 f4 K 2 (by omega) (by omega) (by omega)
  · simp only [h, decide_false, Bool.not_false, cond_true, bS]; rfl
theorem StyleOrders (x0 : T22) (w0 : (WF.wfT22) x0) (x1 : T22) (w1 : (WF.wfT22) x1) : ∃ K, tidewracklaw08_StyleOrders K x0 x1 = some true := ⟨_, orders_K 100 (Nat.le_refl _) x0 x1⟩
end Go.Proofs.Ytbdocgjhidalfaa.Pure
