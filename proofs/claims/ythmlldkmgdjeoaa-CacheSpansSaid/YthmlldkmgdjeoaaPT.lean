/- Plain laws: what the plain functions answer, with no program in sight. -/
import Derived.Test.YthmlldkmgdjeoaaPS
set_option linter.unusedVariables false
set_option linter.unusedSimpArgs false
namespace Go.Proofs.Ythmlldkmgdjeoaa.Pure
open Go Go.Proofs.XC Go.Proofs.Ythmlldkmgdjeoaa

/-! ### CacheSpans -/
/-- Numbers up to 31, rows without glyphs. -/
structure Sm (c : T62) (E : List Ent) : Prop where
  inv : Inv c E
  most : 1 ≤ c.most ∧ c.most ≤ 16
  le : (E.length : Int) ≤ c.most
  keys : ∀ e ∈ E, 0 ≤ e.1 ∧ e.1 ≤ 31
  rows : ∀ e ∈ E, e.2.l = []
theorem l9_run {c : T62} {E : List Ent} (h : Sm c E) (t : List T44) (j : Nat) (hj : j < t.length) (s : Int) (lp : Int → Int → Option Bool) (hin : ∀ x, (t[j]).From ≤ x → x < (t[j]).To → x ∈ E.map (·.1)) (hb : 0 ≤ (t[j]).From ∧ (t[j]).To ≤ 32) : ∀ (f : Nat) (i : Int), ((t[j]).To - i).toNat < f → (t[j]).From ≤ i →
    tidewracklaw14_CacheSpans_l9 c.most c.now c.l t s (j : Int) lp f i = tidewracklaw14_CacheSpans_j8 t s (j : Int) lp
  | 0, i, h1, h2 => by omega
  | f + 1, i, h1, h2 => by
    have ih := l9_run h t j hj s lp hin hb f
    unfold tidewracklaw14_CacheSpans_l9
    rw [rdD_get _ _ hj, cD]
    by_cases a : i < (t[j]).To
    · have hc : (⟨c.most, c.now, c.l⟩ : T62) = c := rfl
      have hpk := peek_eq h.inv (fun e he => by rw [h.rows e he]; simp) i
      have hs : (mfind E i).isSome = true := by
        obtain ⟨e, he, hei⟩ := List.mem_map.1 (hin i h2 a)
        rw [(mfind_iff h.inv.ap).2 (show (i, e.2) ∈ E by rw [← hei]; exact he)]; rfl
      have hw : IntKind.wrap .i64 (i + 1) = i + 1 := w64 (by omega) (by omega)
      rw [hs] at hpk
      rw [if_pos a, hc, hpk, bS]
      dsimp only
      rw [Bool.not_true, cond_false, hw]
      exact ih (i + 1) (by omega) (by omega)
    · rw [if_neg a]
theorem l7_run (K : Nat) (hK : 20000 ≤ K) {c : T62} {E : List Ent} (h : Sm c E) (x8 : Int) (lp : Int → Int → M T71 → Int → Option Bool) (last : Int) (od : List Int) (t : List T44) (ht : t.length ≤ 1000) (hin : ∀ x, hasF t x = true → x ∈ E.map (·.1)) (hb : ∀ y ∈ t, 0 ≤ y.From ∧ y.From < y.To ∧ y.To ≤ 32) : ∀ (f j : Nat) (s : Int), t.length < f + j → j ≤ t.length →
    tidewracklaw14_CacheSpans_l7 K x8 lp c.most c.now c.l last od t f s (j : Int) = tidewracklaw14_CacheSpans_j6 x8 lp c.most c.now c.l last od (lenF (t.drop j) s)
  | 0, j, s, h1, h2 => by omega
  | f + 1, j, s, h1, h2 => by
    have ih := l7_run K hK h x8 lp last od t ht hin hb f
    unfold tidewracklaw14_CacheSpans_l7
    rw [cD]
    by_cases a : j < t.length
    · have hw : IntKind.wrap .i64 ((j : Int) + 1) = ((j + 1 : Nat) : Int) := by rw [w64 (by omega) (by omega)]; omega
      have hy := hb _ (List.getElem_mem a)
      rw [if_pos (by omega), if_pos (by omega), rdD_get _ _ a, l9_run h t j a s _ (fun x q1 q2 => hin x ((hasF_iff _ _).2 ⟨t[j], List.getElem_mem a, q1, q2⟩)) ⟨hy.1, hy.2.2⟩ K (t[j]).From (by omega) (Int.le_refl _)]
      unfold tidewracklaw14_CacheSpans_j8
      rw [rdD_get _ _ a, hw, ih (j + 1) _ (by omega) (by omega), List.drop_eq_getElem_cons a]
      rfl
    · rw [if_neg (by omega), List.drop_eq_nil_of_le (by omega)]; rfl
theorem j5_run (K : Nat) (hK : 20000 ≤ K) {c : T62} {E : List Ent} (h : Sm c E) (x8 : Int) (lp : Int → Int → M T71 → Int → Option Bool) (last : Int) (hl : 0 ≤ last → ∃ E0 v, E = E0 ++ [(last, v)]) :
    tidewracklaw14_CacheSpans_j5 K x8 lp c.most c.now c.l last = tidewracklaw14_CacheSpans_j4 x8 lp c.most c.now c.l := by
  have hc : (⟨c.most, c.now, c.l⟩ : T62) = c := rfl
  obtain ⟨r, e1, r1, r2⟩ := cspans_eq h.inv K hK
  have hrl := r1.len
  have hle := h.le
  have hm := h.most
  have hhas : ∀ n, hasF r n = decide (n ∈ E.map (·.1)) := fun n => by
    rw [r2, decide_eq_decide]
    constructor
    · exact fun q => q.1
    · intro q
      obtain ⟨e, he, rfl⟩ := List.mem_map.1 q
      have := h.keys e he
      exact ⟨q, by omega⟩
  have hwi := within_of r1.nf 0 32 fun n hn => by
    rw [hhas] at hn
    obtain ⟨e, he, rfl⟩ := List.mem_map.1 (of_decide_eq_true hn)
    have := h.keys e he
    omega
  have hmeas : (E.length : Int) = meas r := by
    rw [← cnt_meas 0 32 r r1.nf hwi, cnt_congr hhas, cnt_list 0 32 _ h.inv.ap (fun x hx => by
      obtain ⟨e, he, rfl⟩ := List.mem_map.1 hx
      have := h.keys e he
      omega), List.length_map]
  have h7 := l7_run K hK h x8 lp last (E.map (·.1)) r (by omega) (fun x hx => by rw [hhas] at hx; exact of_decide_eq_true hx) (fun y hy => ⟨(hwi y hy).1, r1.nf.mem_lt y hy, (hwi y hy).2⟩) K 0 0 (by omega) (by omega)
  rw [show ((0 : Nat) : Int) = 0 from rfl, List.drop_zero, lenF_ok r1, ← hmeas] at h7
  unfold tidewracklaw14_CacheSpans_j5
  rw [hc, order_eq h.inv, bS, e1, bS, h7]
  unfold tidewracklaw14_CacheSpans_j6 cache_Cache_Len
  rw [hc, bS, h.inv.length, cN, if_pos rfl, cN, List.length_map, if_pos rfl, cD]
  by_cases g : last ≥ 0
  · obtain ⟨E0, v, hE⟩ := hl (by omega)
    have hEl : E.length = E0.length + 1 := by rw [hE]; simp
    have hw : IntKind.wrap .i64 ((E.length : Int) - 1) = ((E0.length : Nat) : Int) := by rw [w64 (by omega) (by omega)]; omega
    have hrd : rdD 0 (E.map (·.1)) ((E0.length : Nat) : Int) = last := by
      rw [rdD_get _ _ (by rw [List.length_map]; omega), List.getElem_map]
      simp only [hE, List.getElem_append_right (Nat.le_refl _), Nat.sub_self]
      rfl
    rw [if_pos g, hw, if_pos (by omega), hrd, cN, if_pos rfl]
  · rw [if_neg g]
theorem putR_end {most : Int} (hm : 1 ≤ most) (E : List Ent) (k : Int) (l : List T59) (n : Int) (hE : (E.length : Int) ≤ most) : ∃ E0 v, (putR most (putE E k l n)).2.2 = E0 ++ [(k, v)] ∧ (((putR most (putE E k l n)).2.2.length : Nat) : Int) ≤ most := by
  have hl := putE_len E k l n
  unfold putR
  by_cases a : (((putE E k l n).length : Nat) : Int) ≤ most
  · rw [if_pos a]
    exact ⟨_, _, rfl, a⟩
  · rw [if_neg a]
    dsimp only
    have hne : without E k ≠ [] := by
      intro hh
      unfold putE at a
      rw [hh] at a
      simp at a
      omega
    obtain ⟨e0, E0, he⟩ := List.exists_cons_of_ne_nil hne
    refine ⟨E0, ⟨l, n⟩, by unfold putE; rw [he]; rfl, by rw [List.length_tail]; omega⟩
theorem spans_loop (K : Nat) (hK : 20000 ≤ K) (p0 : List T29) : ∀ (k i : Nat) (c : T62) (E : List Ent), 30 < k + i → i ≤ 30 → Sm c E → c.now ≤ (i : Int) → tidewracklaw14_CacheSpans_l2 K p0 k c.most c.now c.l (i : Int) = some true
  | 0, i, c, E, h1, h2, h3, h4 => by omega
  | k + 1, i, c, E, h1, h2, h3, h4 => by
    have ih := spans_loop K hK p0 k
    have hc : (⟨c.most, c.now, c.l⟩ : T62) = c := rfl
    have hle := h3.le
    have hm := h3.most
    unfold tidewracklaw14_CacheSpans_l2
    rw [cD]
    by_cases a : i < p0.length
    · rw [if_pos (by omega), cD]
      by_cases b : i < 30
      · have hw : IntKind.wrap .i64 ((i : Int) + 1) = ((i + 1 : Nat) : Int) := by rw [w64 (by omega) (by omega)]; omega
        obtain ⟨m, m1, m2⟩ := and_le (p0[i]).I 31 (by decide)
        rw [show ((31 : Nat) : Int) = 31 from rfl] at m2
        have fin : ∀ (c' : T62) (E' : List Ent) (last : Int), Sm c' E' → c'.now ≤ c.now + 1 → (0 ≤ last → ∃ E0 v, E' = E0 ++ [(last, v)]) → tidewracklaw14_CacheSpans_j5 K (i : Int) (tidewracklaw14_CacheSpans_l2 K p0 k) c'.most c'.now c'.l last = some true := by
          intro c' E' last h' hn hl
          rw [j5_run K hK h' (i : Int) _ last hl]
          unfold tidewracklaw14_CacheSpans_j4
          rw [hw]
          exact ih (i + 1) c' E' (by omega) (by omega) h' (by omega)
        rw [if_pos (by omega)]
        unfold tidewracklaw14_CacheSpans_j3
        rw [if_pos (by omega), rdD_get _ _ a, cE, m2]
        by_cases k0 : (p0[i]).Kind = 0
        · obtain ⟨c', e1, q1, n1, hi⟩ := put_eq h3.inv K (by omega) (m : Int) (by omega) [] (by simp) (by omega) (by omega)
          obtain ⟨E0, v, g1, g2⟩ := putR_end hm.1 E (m : Int) [] (c.now + 1) hle
          rw [if_pos k0, hc, e1, bS]
          refine fin c' _ (m : Int) ⟨hi, by rw [q1]; exact hm, by rw [q1]; exact g2, fun e he => ?_, fun e he => ?_⟩ (by omega) (fun _ => ⟨E0, v, g1⟩)
          · rcases List.mem_append.1 (putR_mem he) with he | he
            · exact h3.keys e (without_mem.1 he).1
            · rw [List.mem_singleton.1 he]; dsimp only; omega
          · rcases List.mem_append.1 (putR_mem he) with he | he
            · exact h3.rows e (without_mem.1 he).1
            · rw [List.mem_singleton.1 he]
        · rw [if_neg k0, cE]
          by_cases k1 : (p0[i]).Kind = 1
          · obtain ⟨c', e1, q1, n1, hi⟩ := get_eq h3.inv (fun e he => by rw [h3.rows e he]; simp) (m : Int) (by omega) (by omega) (by omega)
            rw [if_pos k1, hc, e1, bS]
            dsimp only
            cases hf : mfind E (m : Int) with
            | none =>
              rw [hf] at hi
              rw [Option.isSome_none, cond_false]
              exact fin c' E (-1) ⟨hi, by rw [q1]; exact hm, by rw [q1]; exact hle, h3.keys, h3.rows⟩ (by omega) (fun q => by omega)
            | some v =>
              rw [hf] at hi
              dsimp only at hi
              have hmem := (mfind_iff h3.inv.ap).1 hf
              have hv : v.l = [] := h3.rows _ hmem
              have hlo := putE_old h3.inv.ap hf v.l (c.now + 1)
              rw [Option.isSome_some, cond_true]
              refine fin c' _ (m : Int) ⟨hi, by rw [q1]; exact hm, by rw [q1, hlo]; exact hle, fun e he => ?_, fun e he => ?_⟩ (by omega) (fun _ => ⟨_, _, rfl⟩)
              · rcases List.mem_append.1 he with he | he
                · exact h3.keys e (without_mem.1 he).1
                · rw [List.mem_singleton.1 he]; dsimp only; omega
              · rcases List.mem_append.1 he with he | he
                · exact h3.rows e (without_mem.1 he).1
                · rw [List.mem_singleton.1 he]; exact hv
          · rw [if_neg k1]
            exact fin c E (-1) h3 (by omega) (fun q => by omega)
      · rw [if_neg (by omega)]; rfl
    · rw [if_neg (by omega)]; rfl
theorem CacheSpans (x0 : List T29) (w0 : ∀ y ∈ x0, (WF.wfT29) y) (l0 : x0.length ≤ maxLen) (x1 : Int) (w1 : (Lit.int .i64 x1).wf = true) : ∃ K, tidewracklaw14_CacheSpans K x0 x1 = some true := by
  refine ⟨20000, ?_⟩
  obtain ⟨m, hm1, hm2⟩ := and_le x1 15 (by decide)
  rw [show ((15 : Nat) : Int) = 15 from rfl] at hm2
  have hw : IntKind.wrap .i64 (1 + bits .and .i64 x1 15) = ((m + 1 : Nat) : Int) := by rw [hm2, w64 (by omega) (by omega)]; omega
  unfold tidewracklaw14_CacheSpans
  rw [awake_eq 20000 (by omega), bS, Bool.not_true, cond_false, hw]
  obtain ⟨c, e, m1, n1, h⟩ := new_inv ((m + 1 : Nat) : Int)
  rw [e, bS]
  have hmost : c.most = ((m + 1 : Nat) : Int) := by
    rw [m1]; unfold mxI mnI; split <;> split <;> omega
  exact spans_loop 20000 (Nat.le_refl _) x0 20000 0 c [] (by omega) (by omega) ⟨h, by omega, by rw [hmost]; show ((0 : Nat) : Int) ≤ _; omega, fun e he => absurd he (by simp), fun e he => absurd he (by simp)⟩ (by omega)
end Go.Proofs.Ythmlldkmgdjeoaa.Pure
