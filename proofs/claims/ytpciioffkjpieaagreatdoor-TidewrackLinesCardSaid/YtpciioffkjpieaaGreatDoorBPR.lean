/- Plain laws: what the plain functions answer, with no program in sight. -/
import Derived.Test.YtpciioffkjpieaaGreatDoorBPV
set_option linter.unusedVariables false
set_option linter.unusedSimpArgs false
namespace Go.Proofs.YtpciioffkjpieaaGreatDoor.Pure
open Go Go.Proofs.XC Go.Proofs.YtpciioffkjpieaaGreatDoor

/-! ### Rows of blanks -/
theorem mul_small : ∀ n : Fin 64, bits_Mul (IntKind.wrap .u64 1) (IntKind.wrap .u64 ((n.val : Nat) : Int)) = some (0, ((n.val : Nat) : Int)) := by decide +kernel
theorem rep_loop (b z : T77) (n : Nat) (hn : n ≤ 1000) : ∀ (k j : Nat), n < k + j → 1 ≤ j → j ≤ n → slices_Repeat_l4 k (List.replicate j b ++ List.replicate (n - j) z) j = some (List.replicate n b)
  | 0, j, h1, h2, h3 => by omega
  | k + 1, j, h1, h2, h3 => by
    have ih := rep_loop b z n hn k
    have hl : (List.replicate j b ++ List.replicate (n - j) z).length = n := by simp only [List.length_append, List.length_replicate]; omega
    have ht : List.take j (List.replicate j b ++ List.replicate (n - j) z) = List.replicate j b := by
      rw [List.take_append_of_le_length (by simp), List.take_of_length_le (by simp)]
    unfold slices_Repeat_l4
    rw [cD, hl]
    by_cases c : j < n
    · rw [if_pos (by omega), if_pos (by omega), if_pos (by omega), Int.toNat_natCast, ht, List.length_replicate]
      have hc : cpy j (List.replicate j b ++ List.replicate (n - j) z) (List.replicate j b) = List.replicate (j + min j (n - j)) b ++ List.replicate (n - (j + min j (n - j))) z := by
        unfold cpy
        rw [ht, hl, List.length_replicate, List.take_replicate, List.drop_append, List.drop_replicate, List.drop_replicate, List.length_replicate, ← List.append_assoc, ← List.append_assoc, List.replicate_append_replicate, show j - (j + j) = 0 by omega, List.replicate_zero, List.append_nil]
        congr 2 <;> omega
      have hw : IntKind.wrap .i64 ((j : Int) + ((min j (n - j) : Nat) : Int)) = ((j + min j (n - j) : Nat) : Int) := by rw [w64 (by omega) (by omega)]; omega
      rw [hc, hw]
      exact ih (j + min j (n - j)) (by omega) (by omega) (by omega)
    · have : j = n := by omega
      subst this
      rw [if_neg (by omega), Nat.sub_self, List.replicate_zero, List.append_nil]; rfl
theorem rep_eq (K : Nat) (hK : 2000 ≤ K) (b : T77) (n : Nat) (hn : n < 64) : slices_Repeat K [b] n = some (List.replicate n b) := by
  have hm := mul_small ⟨n, hn⟩
  have hw : IntKind.wrap .i64 (n : Int) = n := w64 (by omega) (by omega)
  unfold slices_Repeat
  rw [cD, if_neg (by omega)]
  unfold slices_Repeat_j1
  rw [show ((([b] : List T77).length : Nat) : Int) = 1 from rfl, hm, bS, cD, if_neg (show ¬ ((0 : Int) > 0) from by decide)]
  unfold slices_Repeat_j5
  rw [cD, if_neg (by simp only; omega)]
  unfold slices_Repeat_j2
  simp only [hw]
  rw [if_pos (by omega), if_pos (by omega), Int.toNat_natCast]
  cases n with
  | zero =>
    obtain ⟨k, rfl⟩ : ∃ k, K = k + 1 := ⟨K - 1, by omega⟩
    rfl
  | succ n =>
    have hc : cpy 0 (List.replicate (n + 1) (zT77 : T77)) [b] = List.replicate 1 b ++ List.replicate (n + 1 - 1) zT77 := by
      unfold cpy
      rw [List.take_zero, List.nil_append, List.length_replicate, List.drop_replicate, List.take_of_length_le (by simp)]
      rfl
    have hmin : ((min ([b] : List T77).length ((List.replicate (n + 1) (zT77 : T77)).length - 0) : Nat) : Int) = ((1 : Nat) : Int) := by simp only [List.length_replicate, List.length_cons, List.length_nil]; omega
    rw [hc, hmin]
    exact rep_loop b zT77 (n + 1) (by omega) K 1 (by omega) (by omega) (by omega)
/-! ### Rows that are whole -/
inductive Fine : List T77 → Prop
  | nil : Fine []
  | one {c : T77} {l : List T77} : c.Part = 0 → Fine l → Fine (c :: l)
  | two {a b : T77} {l : List T77} : a.Part = 1 → b.Part = 2 → Fine l → Fine (a :: b :: l)
theorem rd_mid (p : List T77) (c : T77) (l : List T77) : rdD zT77 (p ++ c :: l) (p.length : Int) = c := by
  rw [rdD_get _ _ (by simp)]; simp
theorem fine_ok {l : List T77} (h : Fine l) : ∀ (p : List T77) (i : Nat), (p ++ l).length ≤ 100000 → i < l.length → row_broken (p ++ l) ((p.length + i : Nat) : Int) = some false := by
  induction h with
  | nil => intro p i _ hi; simp at hi
  | @one c l hc _ ih =>
    intro p i hl hi
    cases i with
    | zero =>
      unfold row_broken
      rw [Nat.add_zero, rd_mid, hc, if_pos (by simp only [List.length_append, List.length_cons]; omega)]
      rfl
    | succ i =>
      have := ih (p ++ [c]) i (by simpa [Nat.add_assoc, Nat.add_comm] using hl) (by simpa using hi)
      rw [List.append_assoc, List.length_append] at this
      rw [show p.length + (i + 1) = p.length + [c].length + i by simp only [List.length_cons, List.length_nil]; omega]
      exact this
  | @two a b l ha hb _ ih =>
    intro p i hl hi
    have hlen : (p ++ a :: b :: l).length = p.length + 2 + l.length := by simp only [List.length_append, List.length_cons]; omega
    match i with
    | 0 =>
      have hw : IntKind.wrap .i64 ((p.length : Int) + 1) = ((p ++ [a]).length : Int) := by rw [w64 (by omega) (by omega)]; simp
      have hr := rd_mid (p ++ [a]) b l
      rw [List.append_assoc] at hr
      unfold row_broken
      rw [Nat.add_zero, rd_mid, ha, hw, if_pos (by omega), cE, if_pos rfl, cD, if_neg (by rw [hlen]; simp only [List.length_append, List.length_cons, List.length_nil]; omega), if_pos (by rw [hlen]; simp only [List.length_append, List.length_cons, List.length_nil]; omega)]
      show some ((rdD zT77 (p ++ ([a] ++ b :: l)) ((p ++ [a]).length : Int)).Part != 2) = _
      rw [hr, hb]; rfl
    | 1 =>
      have hw : IntKind.wrap .i64 (((p.length + 1 : Nat) : Int) - 1) = (p.length : Int) := by rw [w64 (by omega) (by omega)]; omega
      have hr := rd_mid (p ++ [a]) b l
      rw [List.append_assoc] at hr
      have he : ((p ++ [a]).length : Int) = ((p.length + 1 : Nat) : Int) := by simp
      rw [he] at hr
      have hr2 : rdD zT77 (p ++ a :: b :: l) ((p.length + 1 : Nat) : Int) = b := hr
      unfold row_broken
      rw [hr2, hb, hw, rd_mid, ha, if_pos (by omega), cE, if_neg (by decide), cE, if_pos rfl, cE, if_neg (by omega), if_pos (by omega)]
      rfl
    | i + 2 =>
      have := ih (p ++ [a, b]) i (by rw [List.append_assoc]; exact hl) (by simp only [List.length_cons] at hi; omega)
      rw [List.append_assoc, List.length_append] at this
      rw [show p.length + (i + 2) = p.length + [a, b].length + i by simp only [List.length_cons, List.length_nil]; omega]
      exact this
theorem mend_loop (l : List T77) (h : Fine l) (hl : l.length ≤ 100000) : ∀ (k i : Nat), l.length < k + i → i ≤ l.length → row_mend_l2 l k l i = some ⟨l, false⟩
  | 0, i, h1, h2 => by omega
  | k + 1, i, h1, h2 => by
    have ih := mend_loop l h hl k
    unfold row_mend_l2
    rw [cD]
    by_cases hi : i < l.length
    · have hw : IntKind.wrap .i64 ((i : Int) + 1) = ((i + 1 : Nat) : Int) := by rw [w64 (by omega) (by omega)]; omega
      have hf := fine_ok h [] i hl hi
      rw [List.nil_append, List.length_nil, Nat.zero_add] at hf
      rw [if_pos (by omega), hf, bS, cond_false, hw]
      exact ih (i + 1) (by omega) (by omega)
    · rw [if_neg (by omega)]; rfl
theorem mend_eq (K : Nat) (l : List T77) (h : Fine l) (hl : l.length ≤ 100000) (hK : l.length < K) : row_mend K l = some ⟨l, false⟩ := mend_loop l h hl K 0 (by omega) (by omega)
theorem Fine.app {a b : List T77} (ha : Fine a) (hb : Fine b) : Fine (a ++ b) := by
  induction ha with
  | nil => exact hb
  | one h1 _ ih => exact .one h1 ih
  | two h1 h2 _ ih => exact .two h1 h2 ih
theorem Fine.last {a : List T77} (ha : Fine a) : ∀ p c, a = p ++ [c] → c.Part ≠ 1 := by
  induction ha with
  | nil => intro p c h; simp at h
  | @one x l h1 hl ih =>
    intro p c h
    cases p with
    | nil => injection h with h2 _; subst h2; omega
    | cons y p => injection h with _ h2; exact ih p c h2
  | @two x y l h1 h2 hl ih =>
    intro p c h
    match p, h with
    | [], h => simp at h
    | [u], h => simp at h; obtain ⟨_, rfl, _⟩ := h; omega
    | u :: v :: p, h => injection h with _ h3; injection h3 with _ h4; exact ih p c h4
def b0 : T77 := ⟨32, 0, 0⟩
theorem fine_blanks : ∀ n, Fine (List.replicate n b0)
  | 0 => .nil
  | n + 1 => .one rfl (fine_blanks n)
def cellsOf (g : T46) : List T77 := if W g.Rune = 2 then [⟨g.Rune, g.Style, 1⟩, ⟨g.Rune, g.Style, 2⟩] else [⟨g.Rune, g.Style, 0⟩]
def pat (l : List T46) : List T77 := l.flatMap cellsOf
theorem fine_cells (g : T46) : Fine (cellsOf g) := by
  unfold cellsOf
  split
  · exact .two rfl rfl .nil
  · exact .one rfl .nil
theorem fine_pat : ∀ l, Fine (pat l)
  | [] => .nil
  | g :: l => by
    show Fine (cellsOf g ++ pat l)
    exact (fine_cells g).app (fine_pat l)
theorem set_mid (p : List T77) (c v : T77) (l : List T77) : (p ++ c :: l).set p.length v = p ++ v :: l := by
  induction p with
  | nil => rfl
  | cons x p ih => rw [List.cons_append, List.length_cons, List.set_cons_succ, ih]; rfl
theorem put_eq (K : Nat) (hK : 2000 ≤ K) (P : List T77) (hP : Fine P) (m : Nat) (r s : Int) (hr : -2147483648 ≤ r ∧ r ≤ 2147483647) (hn : W r ≠ 0) (hm : W r ≤ m) (hl : P.length + m ≤ 1000) :
    row_Row_Put K ⟨P ++ List.replicate m b0, false⟩ P.length r s = some ⟨P ++ cellsOf ⟨r, s⟩ ++ List.replicate (m - (W r).toNat) b0, false⟩ := by
  have hW := W_range r
  have hlen : (P ++ List.replicate m b0).length = P.length + m := by simp
  unfold row_Row_Put row_Row_cells slices_Clone
  simp only
  rw [if_pos (by rw [hlen]; simp only [List.length_nil]; omega), bS, bS, List.nil_append, of_eq K (by omega) r hr.1 hr.2, bS, cE, if_neg hn, cD, if_neg (by omega), hlen, w64 (by omega) (by omega), decide_eq_false (by omega)]
  unfold row_Row_Put_j1
  rw [cond_false, cE, hlen]
  by_cases h1 : W r = 1
  · obtain ⟨j, rfl⟩ : ∃ j, m = j + 1 := ⟨m - 1, by omega⟩
    have hc : cellsOf ⟨r, s⟩ = [⟨r, s, 0⟩] := by unfold cellsOf; rw [if_neg (by simp only; omega)]
    have hf : Fine (P ++ (⟨r, s, 0⟩ : T77) :: List.replicate j b0) := hP.app (.one rfl (fine_blanks j))
    rw [if_pos h1, if_pos (by omega), Int.toNat_natCast, List.replicate_succ, set_mid, mend_eq K _ hf (by simp only [List.length_append, List.length_cons, List.length_replicate]; omega) (by simp only [List.length_append, List.length_cons, List.length_replicate]; omega), bS, hc, h1, List.append_assoc]
    rfl
  · have h2 : W r = 2 := by omega
    obtain ⟨j, rfl⟩ : ∃ j, m = j + 2 := ⟨m - 2, by omega⟩
    have hc : cellsOf ⟨r, s⟩ = [⟨r, s, 1⟩, ⟨r, s, 2⟩] := by unfold cellsOf; rw [if_pos (by simp only; omega)]
    have hw : IntKind.wrap .i64 ((P.length : Int) + 1) = ((P.length + 1 : Nat) : Int) := by rw [w64 (by omega) (by omega)]; omega
    have e1 : (P ++ List.replicate (j + 2) b0).set P.length ⟨r, s, 1⟩ = P ++ (⟨r, s, 1⟩ : T77) :: b0 :: List.replicate j b0 := by
      rw [List.replicate_succ, set_mid, List.replicate_succ]
    have e2 : (P ++ (⟨r, s, 1⟩ : T77) :: b0 :: List.replicate j b0).set (P.length + 1) ⟨r, s, 2⟩ = P ++ (⟨r, s, 1⟩ : T77) :: ⟨r, s, 2⟩ :: List.replicate j b0 := by
      have := set_mid (P ++ [⟨r, s, 1⟩]) b0 ⟨r, s, 2⟩ (List.replicate j b0)
      rw [List.append_assoc, List.append_assoc, List.length_append] at this
      exact this
    have hf : Fine (P ++ (⟨r, s, 1⟩ : T77) :: ⟨r, s, 2⟩ :: List.replicate j b0) := hP.app (.two rfl rfl (fine_blanks j))
    have hfl : (P ++ (⟨r, s, 1⟩ : T77) :: ⟨r, s, 2⟩ :: List.replicate j b0).length = P.length + 2 + j := by simp only [List.length_append, List.length_cons, List.length_replicate]; omega
    have hfl1 : (P ++ (⟨r, s, 1⟩ : T77) :: b0 :: List.replicate j b0).length = P.length + 2 + j := by simp only [List.length_append, List.length_cons, List.length_replicate]; omega
    have hmd := mend_eq K _ hf (by rw [hfl]; omega) (by rw [hfl]; omega)
    have fin : row_Row_Put_j2 K P.length r s (P ++ List.replicate (j + 2) b0) false = some ⟨P ++ cellsOf ⟨r, s⟩ ++ List.replicate (j + 2 - (W r).toNat) b0, false⟩ := by
      unfold row_Row_Put_j2
      rw [cond_false, hw, Int.toNat_natCast, Int.toNat_natCast, e1, e2, hmd, bS, hc, h2, List.append_assoc]
      rfl
    rw [if_neg h1, if_pos (by omega), hw, Int.toNat_natCast, Int.toNat_natCast, e1, e2, hfl1, hfl, if_pos (by omega), cD]
    by_cases c : (P.length : Int) > 0
    · have hw2 : IntKind.wrap .i64 ((P.length : Int) - 1) = ((P.length - 1 : Nat) : Int) := by rw [w64 (by omega) (by omega)]; omega
      rw [if_pos c, hw2, if_pos (by omega)]
      obtain ⟨p, x, hpx⟩ : ∃ p x, P = p ++ [x] := by
        have hne : P ≠ [] := fun e => by rw [e] at c; simp at c
        exact ⟨P.dropLast, P.getLast hne, (List.dropLast_concat_getLast hne).symm⟩
      have hx := hP.last p x hpx
      have hrd : rdD zT77 (P ++ (⟨r, s, 1⟩ : T77) :: ⟨r, s, 2⟩ :: List.replicate j b0) ((P.length - 1 : Nat) : Int) = x := by
        have := rd_mid p x ((⟨r, s, 1⟩ : T77) :: ⟨r, s, 2⟩ :: List.replicate j b0)
        rw [hpx, List.append_assoc, show (p ++ [x]).length - 1 = p.length by simp]
        exact this
      rw [hrd, beq_eq_false_iff_ne.2 hx]
      exact fin
    · rw [if_neg c]
      exact fin
/-! ### Glyphs -/
def outF (l : List T77) : List T46 := l.flatMap fun c => if c.Part = 0 ∨ c.Part = 1 then [⟨c.Rune, c.Style⟩] else []
theorem out_pat : ∀ l : List T46, outF (pat l) = l
  | [] => rfl
  | g :: l => by
    have ih := out_pat l
    show outF (cellsOf g ++ pat l) = _
    unfold outF at *
    rw [List.flatMap_append, ih]
    unfold cellsOf
    split <;> simp
theorem glyphs3 (l : List T77) (hl : l.length ≤ 100000) : ∀ (k : Nat) (acc : List T46) (i : Nat), l.length < k + i → i ≤ l.length → acc.length ≤ i → row_Row_Glyphs_l3 l k acc i = some (acc ++ outF (l.drop i))
  | 0, acc, i, h1, h2, h3 => by omega
  | k + 1, acc, i, h1, h2, h3 => by
    have ih := glyphs3 l hl k
    unfold row_Row_Glyphs_l3
    rw [cD]
    by_cases hi : i < l.length
    · have hw : IntKind.wrap .i64 ((i : Int) + 1) = ((i + 1 : Nat) : Int) := by rw [w64 (by omega) (by omega)]; omega
      have hj : ∀ x : Bool, row_Row_Glyphs_j4 l acc i (row_Row_Glyphs_l3 l k) x = some (acc ++ ((bif x then [⟨l[i].Rune, l[i].Style⟩] else []) ++ outF (l.drop (i + 1)))) := fun x => by
        unfold row_Row_Glyphs_j4
        rw [hw]
        cases x with
        | true =>
          rw [cond_true, cond_true, if_pos (by simp only [List.length_cons, List.length_nil]; omega), ih _ (i + 1) (by omega) (by omega) (by simp only [List.length_append, List.length_cons, List.length_nil]; omega), rdD_get _ _ hi, List.append_assoc]
        | false => rw [cond_false, cond_false, ih _ (i + 1) (by omega) (by omega) (by omega), List.nil_append]
      rw [if_pos (by omega), if_pos (by omega), hj, hj, rdD_get _ _ hi, List.drop_eq_getElem_cons hi]
      have e : outF (l[i] :: l.drop (i + 1)) = (if l[i].Part = 0 ∨ l[i].Part = 1 then [⟨l[i].Rune, l[i].Style⟩] else []) ++ outF (l.drop (i + 1)) := rfl
      rw [e, cE]
      by_cases c0 : l[i].Part = 0
      · rw [if_pos c0, if_pos (.inl c0)]; rfl
      · rw [if_neg c0]
        by_cases c1 : l[i].Part = 1
        · rw [if_pos (.inr c1), beq_iff_eq.2 c1]; rfl
        · rw [if_neg (by omega), beq_eq_false_iff_ne.2 c1]; rfl
    · rw [if_neg (by omega), List.drop_eq_nil_of_le (by omega)]
      unfold row_Row_Glyphs_j2 outF
      simp
theorem glyphs5 (K : Nat) (P : List T77) (hs : ∀ c ∈ P, eqT77 c b0 = false) (q : T65) (hq : q.Wrapped = false) : ∀ (k m : Nat), m < k → P.length + m ≤ 1000 → 2000 ≤ K → row_Row_Glyphs_l5 K q k (P ++ List.replicate m b0) = some (outF P)
  | 0, m, h1, h2, hK => by omega
  | k + 1, m, h1, h2, hK => by
    have ih := glyphs5 K P hs q hq k
    have hlen : (P ++ List.replicate m b0).length = P.length + m := by simp
    unfold row_Row_Glyphs_l5
    rw [hq, Bool.not_false, cond_true, cD, hlen]
    have hbl : row_blank 0 = some b0 := rfl
    cases m with
    | zero =>
      have h3 := glyphs3 P (by omega) K [] 0 (by omega) (by omega) (by simp)
      rw [show ((0 : Nat) : Int) = 0 from rfl, List.nil_append, List.drop_zero] at h3
      have hj : row_Row_Glyphs_j1 K P = some (outF P) := h3
      rw [List.replicate_zero, List.append_nil, Nat.add_zero, hj]
      by_cases c : (P.length : Int) > 0
      · have hw : IntKind.wrap .i64 ((P.length : Int) - 1) = ((P.length - 1 : Nat) : Int) := by rw [w64 (by omega) (by omega)]; omega
        have hb : eqT77 (rdD zT77 P ((P.length - 1 : Nat) : Int)) b0 = false := by
          rw [rdD_get _ _ (by omega)]
          exact hs _ (List.getElem_mem (by omega : P.length - 1 < P.length))
        rw [if_pos c, hw, if_pos (by omega), hbl, bS, hb, cond_false]
      · rw [if_neg c]
    | succ m =>
      have hw : IntKind.wrap .i64 (((P.length + (m + 1) : Nat) : Int) - 1) = ((P.length + m : Nat) : Int) := by rw [w64 (by omega) (by omega)]; omega
      have e : P ++ List.replicate (m + 1) b0 = (P ++ List.replicate m b0) ++ b0 :: [] := by rw [List.replicate_succ', List.append_assoc]
      have hl2 : (P ++ List.replicate m b0).length = P.length + m := by simp
      have hrd : rdD zT77 (P ++ List.replicate (m + 1) b0) ((P.length + m : Nat) : Int) = b0 := by
        rw [e, ← hl2]; exact rd_mid _ _ _
      have htk : List.take (P.length + m) (P ++ List.replicate (m + 1) b0) = P ++ List.replicate m b0 := by
        rw [e, List.take_append_of_le_length (by rw [hl2]; exact Nat.le_refl _), List.take_of_length_le (by rw [hl2]; exact Nat.le_refl _)]
      rw [if_pos (by omega), hw, if_pos (by omega), hrd, hbl, bS, show eqT77 b0 b0 = true from rfl, cond_true, if_pos (by omega), if_pos (by omega), Int.toNat_natCast, htk, List.drop_zero]
      exact ih m (by omega) (by omega) hK
end Go.Proofs.YtpciioffkjpieaaGreatDoor.Pure
