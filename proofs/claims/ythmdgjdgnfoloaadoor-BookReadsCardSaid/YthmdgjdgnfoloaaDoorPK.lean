/- Plain laws: what the plain functions answer, with no program in sight. -/
import Derived.Test.YthmdgjdgnfoloaaDoorPL
set_option linter.unusedVariables false
set_option linter.unusedSimpArgs false
namespace Go.Proofs.YthmdgjdgnfoloaaDoor.Pure
open Go Go.Proofs.XC Go.Proofs.YthmdgjdgnfoloaaDoor

/-! ### Reading: it always ends -/
structure InvR (x : T88) : Prop where
  e : x.e ≠ 0 → x.s.size = 0
  s : x.s.size ≤ 1000000
theorem fail_inv {x : T88} (h : InvR x) (v : Int) : ∃ y, num_In_Fail x v = some y ∧ InvR y := by
  unfold num_In_Fail num_In_Fail_j1
  by_cases he : x.e = 0
  · by_cases hv : v = 0
    · exact ⟨x, by rw [beq_iff_eq.2 he, cond_true, hv]; rfl, h⟩
    · exact ⟨⟨⟨#[]⟩, v⟩, by rw [beq_iff_eq.2 he, cond_true, show (v != 0) = true from bne_iff_ne.2 hv, cond_true], ⟨fun _ => rfl, by show (0 : Nat) ≤ _; omega⟩⟩
  · exact ⟨x, by rw [beq_eq_false_iff_ne.2 he, cond_false, cond_false], h⟩
theorem num_total (K : Nat) (hK : 10 ≤ K) {x : T88} (h : InvR x) : ∃ v y, num_In_Num K x = some (v, y) ∧ InvR y := by
  obtain ⟨s, e⟩ := x
  by_cases he : e = 0
  · subst he
    rw [inum_eq K hK s h.s]
    cases hp : pn (numsOf s) 0 0 with
    | error c => exact ⟨0, ⟨E0, c⟩, rfl, fun _ => rfl, by show (0 : Nat) ≤ _; omega⟩
    | ok v =>
      obtain ⟨n, k⟩ := v
      exact ⟨n, ⟨s.extract k s.size, 0⟩, rfl, fun he => absurd rfl he, by have := h.s; simp only [ByteArray.size_extract] at this ⊢; omega⟩
  · rw [inum_bad K hK s e (h.e he) he]
    exact ⟨0, ⟨s, e⟩, rfl, h⟩
theorem limited_total (K : Nat) (hK : 10 ≤ K) {x : T88} (h : InvR x) (m : Int) (hm : 0 ≤ m) : ∃ v y, book_limited K x m = some (v, y) ∧ v ≤ m ∧ InvR y := by
  obtain ⟨v, y, e, hy⟩ := num_total K hK h
  unfold book_limited
  rw [e, bS]
  simp only
  rw [cD]
  by_cases c : v > m
  · obtain ⟨z, ez, hz⟩ := fail_inv hy 1
    rw [if_pos c, ez, bS]
    exact ⟨0, z, rfl, hm, hz⟩
  · rw [if_neg c]
    exact ⟨v, y, rfl, by omega, hy⟩
theorem read2_total (K : Nat) (hK : 10 ≤ K) (t : Int × T88) (ht : t.1 ≤ 1024) : ∀ (k i : Nat) (x : T88) (acc : List T49), 1024 < k + i → i ≤ 1024 → InvR x → acc.length ≤ i → ∃ r, book_Read_l2 K t k x acc i = some r
  | 0, i, x, acc, h1, h2, h3, h4 => by omega
  | k + 1, i, x, acc, h1, h2, h3, h4 => by
    have ih := read2_total K hK t ht k
    unfold book_Read_l2
    rw [cD]
    by_cases hi : (i : Int) < t.1
    · have hw : IntKind.wrap .i64 ((i : Int) + 1) = ((i + 1 : Nat) : Int) := by rw [w64 (by omega) (by omega)]; omega
      obtain ⟨a, y, e1, _, hy⟩ := limited_total K hK h3 1114111 (by decide)
      obtain ⟨b, z, e2, _, hz⟩ := limited_total K hK hy 647 (by decide)
      rw [if_pos hi, e1, bS]
      simp only
      rw [e2, bS]
      simp only
      rw [if_pos (by simp only [List.length_cons, List.length_nil]; omega), hw]
      exact ih (i + 1) z _ (by omega) (by omega) hz (by simp only [List.length_append, List.length_cons, List.length_nil]; omega)
    · rw [if_neg hi]
      unfold book_Read_j1 num_In_Err
      rw [bS, cN]
      split
      · exact ⟨_, rfl⟩
      · exact ⟨_, rfl⟩
theorem read_total (K : Nat) (hK : 2000 ≤ K) {x : T88} (h : InvR x) : ∃ r, book_Read K x = some r := by
  obtain ⟨v, y, e, hv, hy⟩ := limited_total K (by omega) h 1024 (by decide)
  unfold book_Read
  rw [e, bS]
  exact read2_total K (by omega) (v, y) hv K 0 y [] (by omega) (by omega) hy (by simp)
/-! ### What was packed comes back -/
def Okg (g : T49) : Bool := decide (0 ≤ g.Rune ∧ g.Rune ≤ 1114111 ∧ 0 ≤ g.Style ∧ g.Style ≤ 647)
theorem catG_b : ∀ l : List T49, B256 (catG l) := fun l c hc => by
  obtain ⟨g, _, h⟩ := List.mem_flatMap.1 hc
  exact catN_b _ c h
theorem pk_b (l : List T49) : B256 (pkF l) := fun c hc => by
  rcases List.mem_append.1 hc with h | h
  · exact catN_b _ c h
  · exact catG_b l c h
theorem limited_ok (K : Nat) (hK : 10 ≤ K) (l rest : List Int) (m : Nat) (lim : Int) (hb : B256 l) (hl : l = dg m ++ rest) (hs : l.length ≤ 1000000) (hm : m ≤ 4611686018427387904) (hlim : (m : Int) ≤ lim) : book_limited K ⟨strOfNums l, 0⟩ lim = some ((m : Int), ⟨strOfNums rest, 0⟩) := by
  unfold book_limited
  rw [inum_ok K hK (strOfNums l) m rest (by rw [str_len]; exact hs) hm (by rw [nums_of_str l hb, hl]), bS, cD, if_neg (by omega)]
theorem read2_ok (K : Nat) (hK : 10 ≤ K) (q : List T49) (hq : ∀ g ∈ q, Okg g = true) (hl : q.length ≤ 1024) (t : Int × T88) (ht : t.1 = q.length) : ∀ (k i : Nat) (acc : List T49), q.length < k + i → i ≤ q.length → acc.length ≤ i → book_Read_l2 K t k ⟨strOfNums (catG (q.drop i)), 0⟩ acc i = some (acc ++ q.drop i, ⟨strOfNums [], 0⟩)
  | 0, i, acc, h1, h2, h3 => by omega
  | k + 1, i, acc, h1, h2, h3 => by
    have ih := read2_ok K hK q hq hl t ht k
    unfold book_Read_l2
    rw [ht, cD]
    by_cases hi : i < q.length
    · have hw : IntKind.wrap .i64 ((i : Int) + 1) = ((i + 1 : Nat) : Int) := by rw [w64 (by omega) (by omega)]; omega
      have ho := of_decide_eq_true (hq _ (List.getElem_mem hi))
      obtain ⟨o1, o2, o3, o4⟩ := ho
      obtain ⟨a, ea⟩ : ∃ a : Nat, q[i].Rune = (a : Int) := ⟨q[i].Rune.toNat, by omega⟩
      obtain ⟨b, eb⟩ : ∃ b : Nat, q[i].Style = (b : Int) := ⟨q[i].Style.toNat, by omega⟩
      have hcl := catG_len (q.drop i)
      have hcl2 := catG_len (q.drop (i + 1))
      rw [List.length_drop] at hcl hcl2
      have hd9 := dg9 (n := b) (by omega)
      have e1 : catG (q.drop i) = dg a ++ (dg b ++ catG (q.drop (i + 1))) := by
        rw [List.drop_eq_getElem_cons hi]
        show (dg (clipN (IntKind.wrap .i64 q[i].Rune)) ++ (dg (clipN q[i].Style) ++ [])) ++ catG (q.drop (i + 1)) = _
        rw [ea, eb, w64 (by omega) (by omega), clip_id a (by omega), clip_id b (by omega), List.append_nil, List.append_assoc]
      have hb1 := catG_b (q.drop i)
      have hb2 : B256 (dg b ++ catG (q.drop (i + 1))) := fun c hc => hb1 c (by rw [e1]; exact List.mem_append.2 (.inr hc))
      have l1 := limited_ok K hK _ _ a 1114111 hb1 e1 (by omega) (by omega) (by omega)
      have l2 := limited_ok K hK _ _ b 647 hb2 rfl (by rw [List.length_append]; omega) (by omega) (by omega)
      have hg : (⟨IntKind.wrap .i32 (a : Int), (b : Int)⟩ : T49) = q[i] := by
        rw [w32 (by omega) (by omega), ← ea, ← eb]
      rw [if_pos (by omega), l1, bS]
      simp only
      rw [l2, bS]
      simp only
      rw [if_pos (by simp only [List.length_cons, List.length_nil]; omega), hw, hg, ih (i + 1) _ (by omega) (by omega) (by simp only [List.length_append, List.length_cons, List.length_nil]; omega), List.append_assoc]
      rw [List.drop_eq_getElem_cons hi]
      rfl
    · rw [if_neg (by omega), List.drop_eq_nil_of_le (by omega), List.append_nil]
      unfold book_Read_j1 num_In_Err
      rw [bS, cN, if_pos rfl]
      rfl
theorem read_ok (K : Nat) (hK : 2000 ≤ K) (q : List T49) (hq : ∀ g ∈ q, Okg g = true) (hl : q.length ≤ 1024) : book_Read K ⟨strOfNums (pkF q), 0⟩ = some (q, ⟨strOfNums [], 0⟩) := by
  have hp := pk_len q
  have e1 : pkF q = dg q.length ++ catG q := by
    show (dg (clipN (q.length : Int)) ++ []) ++ catG q = _
    rw [clip_id q.length (by omega), List.append_nil]
  have l1 := limited_ok K (by omega) (pkF q) (catG q) q.length 1024 (pk_b q) e1 (by omega) (by omega) (by omega)
  have h2 := read2_ok K (by omega) q hq hl ((q.length : Int), ⟨strOfNums (catG q), 0⟩) rfl K 0 [] (by omega) (by omega) (by simp)
  rw [List.drop_zero, List.nil_append] at h2
  unfold book_Read
  rw [l1, bS]
  exact h2
theorem rpack_loop (K : Nat) (hK : 20 ≤ K) (q : List T49) (hl : q.length ≤ 1000) : ∀ (k i : Nat) (a : List Int), q.length < k + i → i ≤ q.length → a.length ≤ 9 + 18 * i → tidewrackref12_Pack_l2 K (tgs q) k (strOfNums a) i = some (strOfNums (a ++ catG (q.drop i)))
  | 0, i, a, h1, h2, h3 => by omega
  | k + 1, i, a, h1, h2, h3 => by
    have ih := rpack_loop K hK q hl k
    have hm := tgs_len q
    unfold tidewrackref12_Pack_l2
    rw [cD]
    by_cases hi : i < q.length
    · have hw : IntKind.wrap .i64 ((i : Int) + 1) = ((i + 1 : Nat) : Int) := by rw [w64 (by omega) (by omega)]; omega
      have hrd : rdD zT69 (tgs q) (i : Int) = tg q[i] := by rw [rdD_get _ _ (by omega : i < (tgs q).length)]; unfold tgs; rw [List.getElem_map]
      have ha := dg9 (clip_le (IntKind.wrap .i64 q[i].Rune))
      have hb := dg9 (clip_le q[i].Style)
      rw [if_pos (by omega), if_pos (by omega), hrd, rnum_eq K (by omega), bS, rnum_eq K (by omega), bS]
      show (if (((strOfNums (dg (clipN (IntKind.wrap .i64 q[i].Rune)))).size + (strOfNums (dg (clipN q[i].Style))).size : Nat) : Int) ≤ 9223372036854775807 then (if (((strOfNums a).size + (strOfNums (dg (clipN (IntKind.wrap .i64 q[i].Rune))) ++ strOfNums (dg (clipN q[i].Style))).size : Nat) : Int) ≤ 9223372036854775807 then tidewrackref12_Pack_l2 K (tgs q) k (strOfNums a ++ (strOfNums (dg (clipN (IntKind.wrap .i64 q[i].Rune))) ++ strOfNums (dg (clipN q[i].Style)))) (IntKind.wrap .i64 ((i : Int) + 1)) else none) else none) = _
      rw [← str_app, ← str_app, str_len, str_len, str_len, str_len, if_pos (by omega), if_pos (by rw [List.length_append]; omega), hw, ih (i + 1) _ (by omega) (by omega) (by simp only [List.length_append]; omega), List.drop_eq_getElem_cons hi]
      have e : catG (q[i] :: q.drop (i + 1)) = (dg (clipN (IntKind.wrap .i64 q[i].Rune)) ++ (dg (clipN q[i].Style) ++ [])) ++ catG (q.drop (i + 1)) := rfl
      rw [e, List.append_nil, List.append_assoc a]
    · rw [if_neg (by omega), List.drop_eq_nil_of_le (by omega)]
      unfold tidewrackref12_Pack_j1
      simp [catG]
theorem rpack_eq (K : Nat) (q : List T49) (hl : q.length ≤ 1000) (hK : 2000 ≤ K) : tidewrackref12_Pack K (tgs q) = some (strOfNums (pkF q)) := by
  have ha := dg9 (clip_le (q.length : Int))
  have h := rpack_loop K (by omega) q hl K 0 (dg (clipN (q.length : Int))) (by omega) (by omega) (by omega)
  rw [List.drop_zero] at h
  unfold tidewrackref12_Pack
  rw [tgs_len, rnum_eq K (by omega), bS]
  rw [show ((0 : Nat) : Int) = 0 from rfl] at h
  rw [h]
  show _ = some (strOfNums ((dg (clipN (q.length : Int)) ++ []) ++ catG q))
  rw [List.append_nil]
/-! ### BookBack -/
theorem back1 (K : Nat) (hK : 100000 ≤ K) (p0 q : List T49) (hq : List.drop 0 (List.take (Int.toNat (mnI ((p0).length : Int) 60)) p0) = q) (hl : q.length ≤ 60) : tidewracklaw12_BookBack_j1 K p0 (tgs q) (q.all Okg) = some true := by
  have hp := pk_len q
  unfold tidewracklaw12_BookBack_j1 num_Of
  rw [hq, pack_eq K q (by omega) (by omega), bS, rpack_eq K q (by omega) (by omega), bS, beq_self_eq_true, Bool.not_true, cond_false, bS]
  cases ho : q.all Okg with
  | false =>
    obtain ⟨r, hr⟩ := read_total K (by omega) (x := ⟨strOfNums (pkF q), 0⟩) ⟨fun he => absurd rfl he, by simp only [str_len]; omega⟩
    rw [hr, bS]; rfl
  | true =>
    rw [read_ok K (by omega) q (fun g hg => List.all_eq_true.1 ho g hg) (by omega), bS, Bool.not_true, cond_false]
    have he : num_In_End ⟨strOfNums [], 0⟩ = some 0 := by
      unfold num_In_End
      rw [show strOfNums [] = (⟨#[]⟩ : ByteArray) from rfl, beq_self_eq_true]; rfl
    rw [he, bS, cE, if_pos rfl, same_eq K q (by omega) (by omega), bS]
theorem back2 (K : Nat) (hK : 100000 ≤ K) (p0 q : List T49) (hq : List.drop 0 (List.take (Int.toNat (mnI ((p0).length : Int) 60)) p0) = q) (hl : q.length ≤ 60) : ∀ (k i : Nat), q.length < k + i → i ≤ q.length → tidewracklaw12_BookBack_l2 K p0 k (tgs (q.take i)) ((q.take i).all Okg) i = some true
  | 0, i, h1, h2 => by omega
  | k + 1, i, h1, h2 => by
    have ih := back2 K hK p0 q hq hl k
    unfold tidewracklaw12_BookBack_l2
    rw [hq, cD]
    by_cases hi : i < q.length
    · have hw : IntKind.wrap .i64 ((i : Int) + 1) = ((i + 1 : Nat) : Int) := by rw [w64 (by omega) (by omega)]; omega
      have fin := ih (i + 1) (by omega) (by omega)
      rw [List.take_succ_eq_append_getElem hi, List.all_append] at fin
      have e1 : tgs (q.take i ++ [q[i]]) = tgs (q.take i) ++ [tg q[i]] := by unfold tgs; rw [List.map_append]; rfl
      have e2 : [q[i]].all Okg = Okg q[i] := by simp
      rw [e1, e2] at fin
      have hmm := tgs_len (q.take i)
      rw [List.length_take] at hmm
      rw [if_pos (by omega), if_pos (by omega), rdD_get _ _ hi, if_pos (by simp only [List.length_cons, List.length_nil]; omega), hw]
      show (bif (q.take i).all Okg then _ else _) = _
      generalize (q.take i).all Okg = m at fin ⊢
      cases m with
      | false => rw [Bool.false_and] at fin; rw [cond_false]; exact fin
      | true =>
        rw [Bool.true_and] at fin
        rw [cond_true, cD, cD, cD]
        unfold Okg at fin
        by_cases c1 : q[i].Rune ≥ 0
        · rw [if_pos c1]
          by_cases c2 : q[i].Rune ≤ 1114111
          · rw [if_pos c2]
            by_cases c3 : q[i].Style ≥ 0
            · rw [if_pos c3]
              have : decide (0 ≤ q[i].Rune ∧ q[i].Rune ≤ 1114111 ∧ 0 ≤ q[i].Style ∧ q[i].Style ≤ 647) = decide (q[i].Style ≤ 647) := decide_eq_decide.2 ⟨fun h => h.2.2.2, fun h => ⟨c1, c2, c3, h⟩⟩
              rw [this] at fin
              exact fin
            · rw [if_neg c3]
              rw [decide_eq_false (fun h => c3 h.2.2.1)] at fin
              exact fin
          · rw [if_neg c2]
            rw [decide_eq_false (fun h => c2 h.2.1)] at fin
            exact fin
        · rw [if_neg c1]
          rw [decide_eq_false (fun h => c1 h.1)] at fin
          exact fin
    · have : i = q.length := by omega
      subst this
      rw [if_neg (by omega), List.take_length]
      exact back1 K hK p0 q hq hl
theorem BookBack (x0 : List T49) (w0 : ∀ y ∈ x0, (WF.wfT49) y) (l0 : x0.length ≤ maxLen) : ∃ K, tidewracklaw12_BookBack K x0 = some true := by
  suffices h : ∀ K, 100000 ≤ K → tidewracklaw12_BookBack K x0 = some true from ⟨100000, h _ (Nat.le_refl _)⟩
  intro K hK
  have hm : mnI (x0.length : Int) 60 = ((min x0.length 60 : Nat) : Int) := by unfold mnI; split <;> omega
  unfold tidewracklaw12_BookBack
  rw [awake_eq K hK, bS, Bool.not_true, cond_false, if_pos (by omega), if_pos (by omega)]
  obtain ⟨q, hq⟩ : ∃ q, List.drop 0 (List.take (Int.toNat (mnI ((x0).length : Int) 60)) x0) = q := ⟨_, rfl⟩
  have hl : q.length ≤ 60 := by rw [← hq, hm, List.drop_zero, List.length_take]; omega
  exact back2 K hK x0 q hq hl K 0 (by omega) (by omega)
end Go.Proofs.YthmdgjdgnfoloaaDoor.Pure
