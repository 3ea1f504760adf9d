/- Plain laws: what the plain functions answer, with no program in sight. -/
import Derived.Test.YthmlldkmgdjeoaaPA
import Derived.Test.YthmlldkmgdjeoaaTPX
set_option linter.unusedVariables false
set_option linter.unusedSimpArgs false
namespace Go.Proofs.Ythmlldkmgdjeoaa.Pure
open Go Go.Proofs.XC Go.Proofs.Ythmlldkmgdjeoaa

/-! ### The spans of what is at hand -/
theorem isin_one (k n : Int) (hk : 0 ≤ k ∧ k ≤ 1152921504606846976) : isin (fitF ⟨k, IntKind.wrap .i64 (k + 1)⟩) n = decide (n = k ∧ k < 1152921504606846976) := by
  have hw : IntKind.wrap .i64 (k + 1) = k + 1 := w64 (by omega) (by omega)
  unfold isin fitF clampI mxI mnI
  rw [hw, decide_eq_decide]
  dsimp only
  (repeat' split) <;> omega
theorem spans_l2 (K : Nat) (hK : 20000 ≤ K) : ∀ (k : Nat) (left : List Int) (s : List T44) (j : Nat), left.length < k → j + left.length ≤ 1000 → Ok s j → left.Nodup → (∀ x ∈ left, 0 ≤ x ∧ x ≤ 1152921504606846976) →
    ∃ r, cache_Cache_Spans_l2 K k s left = some r ∧ Ok r (j + left.length) ∧ ∀ n, hasF r n = (hasF s n || decide (n ∈ left ∧ n < 1152921504606846976))
  | 0, left, s, j, h1, h2, h3, h4, h5 => by omega
  | k + 1, left, s, j, h1, h2, h3, h4, h5 => by
    have ih := spans_l2 K hK k
    have hl := h3.len
    unfold cache_Cache_Spans_l2
    cases left with
    | nil =>
      refine ⟨s, ?_, by simpa using h3, fun n => by simp⟩
      rw [List.isEmpty_nil, cond_true]
      unfold cache_Cache_Spans_j1
      rw [spans_eq s (by omega), bS]
    | cons z left =>
      rw [List.isEmpty_cons, cond_false]
      have step : ∀ kk ∈ z :: left, ∃ r, ((spans_Set_Add K (⟨s⟩ : T77) ([(⟨kk, (IntKind.wrap .i64 (kk + 1))⟩ : T44)] : List T44)).bind fun t => cache_Cache_Spans_l2 K k t.l (List.erase (z :: left) kk)) = some r ∧ Ok r (j + (z :: left).length) ∧ ∀ n, hasF r n = (hasF s n || decide (n ∈ z :: left ∧ n < 1152921504606846976)) := by
        intro kk hkk
        obtain ⟨a1, a2⟩ := addS_ok h3 ⟨kk, IntKind.wrap .i64 (kk + 1)⟩
        have hlen : (List.erase (z :: left) kk).length = left.length := by rw [List.length_erase_of_mem hkk]; simp
        simp only [List.length_cons] at h1 h2
        obtain ⟨r, e, h6, h7⟩ := ih (List.erase (z :: left) kk) _ (j + 1) (by omega) (by omega) a1 (h4.sublist List.erase_sublist) (fun x hx => h5 x (List.mem_of_mem_erase hx))
        refine ⟨r, ?_, by rw [hlen] at h6; rw [List.length_cons]; exact h6.up (by omega), fun n => ?_⟩
        · rw [add_eq K hK s _ (by simp; omega), bS]
          exact e
        · rw [h7, a2, isin_one _ _ (h5 kk hkk)]
          have hm : n ∈ List.erase (z :: left) kk ↔ n ≠ kk ∧ n ∈ z :: left := h4.mem_erase_iff
          cases hasF s n with
          | true => simp
          | false =>
            simp only [Bool.false_or]
            rw [← Bool.decide_or, decide_eq_decide, hm]
            constructor
            · rintro (⟨q1, q2⟩ | ⟨⟨q1, q2⟩, q3⟩)
              · exact ⟨by rw [q1]; exact hkk, by omega⟩
              · exact ⟨q2, q3⟩
            · rintro ⟨q1, q2⟩
              by_cases q : n = kk
              · exact .inl ⟨q, by omega⟩
              · exact .inr ⟨⟨q, q1⟩, q2⟩
      obtain ⟨r, e0, h6, h7⟩ := step z (by simp)
      refine ⟨r, anyP_of (fun kk hkk => ?_) (by simp), h6, h7⟩
      obtain ⟨r', e', h6', h7'⟩ := step kk hkk
      rw [e']
      congr 1
      exact NF.uniq h6'.nf h6.nf fun n => by rw [h7, h7']
theorem cspans_eq {c : T62} {E : List Ent} (h : Inv c E) (K : Nat) (hK : 20000 ≤ K) : ∃ r, cache_Cache_Spans K c = some r ∧ Ok r E.length ∧ ∀ n, hasF r n = decide (n ∈ E.map (·.1) ∧ n < 1152921504606846976) := by
  have hp := h.keys
  have hE := h.len
  have hl : (M.keys c.l).length = E.length := by rw [hp.length_eq, List.length_map]
  obtain ⟨r, e, h6, h7⟩ := spans_l2 K hK K (M.keys c.l) [] 0 (by omega) (by omega) ok_nil (hp.nodup_iff.2 h.ap) (fun x hx => by
    obtain ⟨e, he, rfl⟩ := List.mem_map.1 (hp.mem_iff.1 hx)
    exact h.key e he)
  refine ⟨r, ?_, by rw [hl, Nat.zero_add] at h6; exact h6, fun n => ?_⟩
  · unfold cache_Cache_Spans
    rw [if_pos h.keysOK]
    exact e
  · rw [h7, hasF_nil, Bool.false_or, decide_eq_decide, hp.mem_iff]
theorem cnt_list (lo : Int) (k : Nat) : ∀ ks : List Int, ks.Nodup → (∀ x ∈ ks, lo ≤ x ∧ x < lo + k) → cnt (fun n => decide (n ∈ ks)) lo k = ks.length
  | [], _, _ => cnt_zero (fun n => by simp) lo k
  | x :: ks, h1, h2 => by
    have hn := List.nodup_cons.1 h1
    have hx := h2 x (by simp)
    have e : cnt (fun n => decide (n ∈ x :: ks)) lo k = cnt (fun n => isin ⟨x, x + 1⟩ n || decide (n ∈ ks)) lo k := cnt_congr (fun n => by
      unfold isin
      rw [← Bool.decide_or, decide_eq_decide, List.mem_cons]
      constructor
      · rintro (h | h)
        · exact .inl (by simp only []; omega)
        · exact .inr h
      · rintro (h | h)
        · exact .inl (by simp only [] at h; omega)
        · exact .inr h) lo k
    rw [e, cnt_or (fun n hh => hn.1 (by
      have h3 := (isin_iff _ _).1 hh.1
      have h4 := of_decide_eq_true hh.2
      simp only [] at h3
      rw [show x = n by omega]; exact h4)) lo k, cnt_list lo k ks hn.2 (fun y hy => h2 y (by simp [hy])), cnt_one ⟨x, x + 1⟩ lo (by simp only []; omega) (by simp only []; omega)]
    simp only [List.length_cons]
    (repeat' split) <;> omega
theorem nf_split {y : T44} {b : List T44} : ∀ {a : List T44}, NF (a ++ y :: b) → ∀ x ∈ a, x.To < y.From
  | [], _, x, hx => by cases hx
  | z :: a, h, x, hx => by
    rcases List.mem_cons.1 hx with rfl | hx
    · exact h.2.1 y (by simp)
    · exact nf_split h.2.2 x hx
end Go.Proofs.Ythmlldkmgdjeoaa.Pure
