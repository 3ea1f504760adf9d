/- Plain laws: what the plain functions answer, with no program in sight. -/
import Derived.Test.YthmdgjdgnfoloaaDoorPB
set_option linter.unusedVariables false
set_option linter.unusedSimpArgs false
namespace Go.Proofs.YthmdgjdgnfoloaaDoor.Pure
open Go Go.Proofs.XC Go.Proofs.YthmdgjdgnfoloaaDoor

/-! ### What a row shows -/
def trimF (l : List T82) : List T82 := (l.reverse.dropWhile fun c => eqT82 c b0).reverse
theorem trim_snoc (p : List T82) (c : T82) : trimF (p ++ [c]) = bif eqT82 c b0 then trimF p else p ++ [c] := by
  unfold trimF
  rw [List.reverse_append, List.reverse_cons, List.reverse_nil, List.nil_append, List.cons_append, List.nil_append, List.dropWhile_cons]
  cases h : eqT82 c b0 with
  | true => rw [if_pos rfl, cond_true]
  | false => rw [if_neg (by simp), cond_false, List.reverse_cons, List.reverse_reverse]
theorem trim_len (l : List T82) : (trimF l).length ≤ l.length := by
  unfold trimF
  rw [List.length_reverse]
  have := List.Sublist.length_le (List.dropWhile_sublist (fun c => eqT82 c b0) (l := l.reverse))
  rw [List.length_reverse] at this
  exact this
theorem out_len : ∀ l : List T82, (outF l).length ≤ l.length
  | [] => by simp [outF]
  | c :: l => by
    have ih := out_len l
    show ((if c.Part = 0 ∨ c.Part = 1 then [(⟨c.Rune, c.Style⟩ : T49)] else []) ++ outF l).length ≤ _
    rw [List.length_append, List.length_cons]
    split
    · simp only [List.length_cons, List.length_nil]; omega
    · simp only [List.length_nil]; omega
def gfF (r : T26) : List T49 := outF (bif r.Wrapped then r.Cells else trimF r.Cells)
theorem gf_len (r : T26) : (gfF r).length ≤ r.Cells.length := by
  unfold gfF
  cases r.Wrapped with
  | true => exact out_len _
  | false => exact Nat.le_trans (out_len _) (trim_len _)
theorem glyphs1 (K : Nat) (l : List T82) (hl : l.length ≤ 1000) (hK : 2000 ≤ K) : row_Row_Glyphs_j1 K l = some (outF l) := by
  have h3 := glyphs3 l (by omega) K [] 0 (by omega) (by omega) (by simp)
  rw [show ((0 : Nat) : Int) = 0 from rfl, List.nil_append, List.drop_zero] at h3
  exact h3
theorem glyphsT (K : Nat) (hK : 2000 ≤ K) (q : T26) (hq : q.Wrapped = false) : ∀ (k : Nat) (l : List T82), l.length < k → l.length ≤ 1000 → row_Row_Glyphs_l5 K q k l = some (outF (trimF l))
  | 0, l, h1, h2 => by omega
  | k + 1, l, h1, h2 => by
    have ih := glyphsT K hK q hq k
    unfold row_Row_Glyphs_l5
    rw [hq, Bool.not_false, cond_true, cD, glyphs1 K l h2 hK]
    by_cases c : (l.length : Int) > 0
    · have hne : l ≠ [] := fun e => by rw [e] at c; simp at c
      obtain ⟨p, x, rfl⟩ : ∃ p x, l = p ++ [x] := ⟨l.dropLast, l.getLast hne, (List.dropLast_concat_getLast hne).symm⟩
      rw [List.length_append, List.length_cons, List.length_nil] at h1 h2 ⊢
      have hw : IntKind.wrap .i64 (((p.length + (0 + 1) : Nat) : Int) - 1) = (p.length : Int) := by rw [w64 (by omega) (by omega)]; omega
      rw [if_pos (by omega), hw, if_pos (by omega), rd_mid, show row_blank 0 = some b0 from rfl, bS, trim_snoc]
      cases h : eqT82 x b0 with
      | true =>
        rw [cond_true, cond_true, if_pos (by omega), if_pos (by omega), Int.toNat_natCast, List.take_left, List.drop_zero]
        exact ih p (by omega) (by omega)
      | false => rw [cond_false, cond_false]
    · have : l = [] := List.eq_nil_of_length_eq_zero (by omega)
      subst this
      rw [if_neg (by simp)]
      rfl
theorem glyphs_eq (K : Nat) (hK : 2000 ≤ K) (r : T26) (hr : r.Cells.length ≤ 1000) : row_Row_Glyphs K r = some (gfF r) ∧ (gfF r).length ≤ 1000 := by
  refine ⟨?_, Nat.le_trans (gf_len r) hr⟩
  unfold row_Row_Glyphs gfF
  cases h : r.Wrapped with
  | true =>
    obtain ⟨k, rfl⟩ : ∃ k, K = k + 1 := ⟨K - 1, by omega⟩
    unfold row_Row_Glyphs_l5
    rw [h, Bool.not_true, cond_false, cond_true]
    exact glyphs1 _ _ hr hK
  | false => rw [cond_false]; exact glyphsT K hK r h K r.Cells (by omega) hr
theorem addR (K : Nat) (hK : 100000 ≤ K) (b : T75) (n : Nat) (hb : InvB b n) (rs : List T26) (hg : ∀ r ∈ rs, r.Cells.length ≤ 1000) (hn : n + 3 * rs.length ≤ 80000) :
    book_Book_Add K b rs = some ((((addsF gfF b rs).l.length - b.l.length : Nat) : Int), addsF gfF b rs) :=
  add_eq K hK b n hb rs gfF (fun r hr => glyphs_eq K (by omega) r (hg r hr)) hn
theorem line_eq (b : T75) (i : Nat) (hi : i < b.l.length) (hl : (b.l[i]).length ≤ 100000) : book_Book_Line b i = some (b.l[i], true) := by
  unfold book_Book_Line
  rw [cD, if_neg (by omega)]
  unfold book_Book_Line_j2
  rw [cD, if_neg (by omega)]
  unfold book_Book_Line_j1
  rw [if_pos (by omega), rdD_get _ _ hi, clone'_eq _ (by omega), bS]
theorem begun_eq (b : T75) (h : b.begun.length ≤ 100000) : book_Book_Begun b = some b.begun := by
  unfold book_Book_Begun
  rw [clone'_eq _ (by omega), bS]
def N0 : T75 := ⟨[], [0], []⟩
theorem n0_inv : InvB N0 0 := ⟨by decide, by decide, by decide⟩
theorem blank_eq (K : Nat) (hK : 2000 ≤ K) (n : Nat) (s : Int) (h : n < 64) : row_Blank K n s = some ⟨List.replicate n ⟨32, s, 0⟩, false⟩ := by
  unfold row_Blank row_clip row_blanks row_blank
  have hc : mxI 0 (mnI (n : Int) 1000) = n := by unfold mxI mnI; (repeat' split) <;> omega
  have hc2 : mxI 0 (n : Int) = n := by unfold mxI; split <;> omega
  rw [bS, hc, bS, hc2, rep_eq K hK _ n h, bS, bS]
theorem cells97 : cellsOf ⟨97, 0⟩ = [⟨97, 0, 0⟩] := by
  unfold cellsOf
  rw [if_neg (by decide +kernel)]
theorem cells98 : cellsOf ⟨98, 0⟩ = [⟨98, 0, 0⟩] := by
  unfold cellsOf
  rw [if_neg (by decide +kernel)]
theorem cells99 : cellsOf ⟨99, 0⟩ = [⟨99, 0, 0⟩] := by
  unfold cellsOf
  rw [if_neg (by decide +kernel)]
theorem awake_eq (K : Nat) (hK : 100000 ≤ K) : tidewracklaw12_awake K = some true := by
  have w97 : W 97 = 1 := by decide +kernel
  have w98 : W 98 = 1 := by decide +kernel
  have w99 : W 99 = 1 := by decide +kernel
  have p1 := put_eq K (by omega) [] .nil 2 97 0 (by decide) (by rw [w97]; decide) (by rw [w97]; decide) (by decide)
  have p2 := put_eq K (by omega) [⟨97, 0, 0⟩] (.one rfl .nil) 1 98 0 (by decide) (by rw [w98]; decide) (by rw [w98]; decide) (by decide)
  have p3 := put_eq K (by omega) [] .nil 2 99 0 (by decide) (by rw [w99]; decide) (by rw [w99]; decide) (by decide)
  rw [cells97, w97] at p1
  rw [cells98, w98] at p2
  rw [cells99, w99] at p3
  have q1 : row_Row_Put K ⟨List.replicate 2 ⟨32, 0, 0⟩, false⟩ 0 97 0 = some ⟨[⟨97, 0, 0⟩, ⟨32, 0, 0⟩], false⟩ := p1
  have q2 : row_Row_Put K ⟨[⟨97, 0, 0⟩, ⟨32, 0, 0⟩], false⟩ 1 98 0 = some ⟨[⟨97, 0, 0⟩, ⟨98, 0, 0⟩], false⟩ := p2
  have q3 : row_Row_Put K ⟨List.replicate 2 ⟨32, 0, 0⟩, false⟩ 0 99 0 = some ⟨[⟨99, 0, 0⟩, ⟨32, 0, 0⟩], false⟩ := p3
  have hb2 := blank_eq K (by omega) 2 0 (by decide)
  rw [show ((2 : Nat) : Int) = 2 from rfl] at hb2
  have ha := addR K hK N0 0 n0_inv [(⟨[⟨97, 0, 0⟩, ⟨98, 0, 0⟩], true⟩ : T26), ⟨[⟨99, 0, 0⟩, ⟨32, 0, 0⟩], false⟩, ⟨[⟨97, 0, 0⟩, ⟨98, 0, 0⟩], true⟩] (fun r hr => by
    simp only [List.mem_cons, List.not_mem_nil, or_false] at hr
    rcases hr with rfl | rfl | rfl <;> decide) (by decide)
  have e1 : (addsF gfF N0 [(⟨[⟨97, 0, 0⟩, ⟨98, 0, 0⟩], true⟩ : T26), ⟨[⟨99, 0, 0⟩, ⟨32, 0, 0⟩], false⟩, ⟨[⟨97, 0, 0⟩, ⟨98, 0, 0⟩], true⟩]).l = [[⟨97, 0⟩, ⟨98, 0⟩, ⟨99, 0⟩]] := rfl
  have e2 : (addsF gfF N0 [(⟨[⟨97, 0, 0⟩, ⟨98, 0, 0⟩], true⟩ : T26), ⟨[⟨99, 0, 0⟩, ⟨32, 0, 0⟩], false⟩, ⟨[⟨97, 0, 0⟩, ⟨98, 0, 0⟩], true⟩]).begun = [⟨97, 0⟩, ⟨98, 0⟩] := rfl
  unfold tidewracklaw12_awake book_New
  rw [bS, hb2, bS, q1, bS, q2, bS, bS, q3, bS]
  simp only
  rw [show (⟨[], [0], []⟩ : T75) = N0 from rfl, ha, bS]
  generalize addsF gfF N0 [(⟨[⟨97, 0, 0⟩, ⟨98, 0, 0⟩], true⟩ : T26), ⟨[⟨99, 0, 0⟩, ⟨32, 0, 0⟩], false⟩, ⟨[⟨97, 0, 0⟩, ⟨98, 0, 0⟩], true⟩] = b at e1 e2 ⊢
  obtain ⟨bl, bc, bb⟩ := b
  simp only at e1 e2
  subst e1 e2
  have hpk := pack_eq K [(⟨97, 5⟩ : T49)] (by decide) (by simp; omega)
  have hp2 : strOfNums (pkF [(⟨97, 5⟩ : T49)]) = (⟨#[1, 97, 5]⟩ : ByteArray) := by
    have d1 : dg (clipN 1) = [1] := by rw [show clipN 1 = 1 from by decide, dg_lt (by decide)]; rfl
    have d97 : dg (clipN (IntKind.wrap .i64 97)) = [97] := by rw [show clipN (IntKind.wrap .i64 97) = 97 from by decide, dg_lt (by decide)]; rfl
    have d5 : dg (clipN 5) = [5] := by rw [show clipN 5 = 5 from by decide, dg_lt (by decide)]; rfl
    have : pkF [(⟨97, 5⟩ : T49)] = [1, 97, 5] := by
      show (dg (clipN 1) ++ []) ++ ((dg (clipN (IntKind.wrap .i64 97)) ++ (dg (clipN 5) ++ [])) ++ []) = _
      rw [d1, d97, d5]; rfl
    rw [this]; decide
  have hln := line_eq (⟨[[⟨97, 0⟩, ⟨98, 0⟩, ⟨99, 0⟩]], bc, [⟨97, 0⟩, ⟨98, 0⟩]⟩ : T75) 0 (by simp) (by simp)
  rw [show ((0 : Nat) : Int) = 0 from rfl] at hln
  simp only
  rw [hln, bS]
  simp only [List.getElem_cons_zero]
  rw [cE, if_pos (by rfl)]
  unfold book_Book_Len
  rw [bS, cE, if_pos (by rfl), cond_true, cE, if_pos (by rfl), if_pos (by decide), cE, if_pos (by rfl), begun_eq _ (by simp), bS, cE, if_pos (by rfl), hpk, bS, hp2, beq_self_eq_true]
end Go.Proofs.YthmdgjdgnfoloaaDoor.Pure
