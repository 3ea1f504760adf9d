/- Plain laws: what the plain functions answer, with no program in sight. -/
import Derived.Test.YthmlldkmgdjeoaaPB
set_option linter.unusedVariables false
set_option linter.unusedSimpArgs false
namespace Go.Proofs.Ythmlldkmgdjeoaa.Pure
open Go Go.Proofs.XC Go.Proofs.Ythmlldkmgdjeoaa

/-! ### CacheLast -/
theorem mput_find {β : Type} (k : Int) (v : β) : ∀ (l : List (Int × β)) (x : Int), mfind (mput l k v) x = if x = k then some v else mfind l x
  | [], x => by
    show (if k = x then some v else none) = _
    by_cases e : x = k
    · rw [if_pos e, if_pos e.symm]
    · rw [if_neg e, if_neg (fun h => e h.symm)]; rfl
  | p :: l, x => by
    rw [mput]
    by_cases hp : p.1 = k
    · rw [if_pos hp, mfind]
      by_cases e : x = k
      · rw [if_pos e, if_pos e.symm]
      · rw [if_neg e, if_neg (fun h => e h.symm), mfind, if_neg (fun h => e (by rw [← h, hp]))]
    · rw [if_neg hp, mfind, mput_find k v l x, mfind]
      by_cases e : p.1 = x
      · rw [if_pos e, if_pos e, if_neg (fun h => hp (by rw [e, h]))]
      · rw [if_neg e, if_neg e]
theorem mput_nodup {β : Type} {l : List (Int × β)} {k : Int} {v : β} (h : Ap l) : Ap (mput l k v) := ((mput_perm h).map _).nodup_iff.2 (ap_snoc h k v)
/-- What holds behind the acts: S the numbers put, the latest first; the newest are at hand. -/
structure Now (most : Nat) (c : T62) (last : M (List T59)) (order : List Int) (E : List Ent) : Prop where
  inv : Inv c E
  most_ : c.most = (most : Int)
  keys : E.reverse.map (·.1) = (dd order.reverse).take most
  last_ : M.isNil last = false
  val : ∀ e ∈ E, M.get [] last e.1 = e.2.l ∧ e.2.l.length ≤ 10
  lens : ∀ k, (M.get [] last k).length ≤ 10
  ord : ∀ k ∈ order, 0 ≤ k ∧ k ≤ 15
theorem mem_of_keys {E : List Ent} {R : List Int} (h : E.reverse.map (·.1) = R) (k : Int) : (mfind E k).isSome = decide (k ∈ R) := by
  have : k ∈ R ↔ ∃ e ∈ E, e.1 = k := by
    rw [← h]; simp
  cases hf : mfind E k with
  | none =>
    rw [decide_eq_false]; rfl
    rw [this]
    rintro ⟨e, he, rfl⟩
    have : ∀ l : List Ent, e ∈ l → mfind l e.1 ≠ none := by
      intro l
      induction l with
      | nil => intro h; cases h
      | cons p l ih =>
        intro h hn
        rw [mfind] at hn
        by_cases q : p.1 = e.1
        · rw [if_pos q] at hn; cases hn
        · rw [if_neg q] at hn
          rcases List.mem_cons.1 h with rfl | h
          · exact q rfl
          · exact ih h hn
    exact this E he hf
  | some v =>
    rw [decide_eq_true]; rfl
    rw [this]
    obtain ⟨p, hp, rfl⟩ := mfind_mem hf
    have : ∀ l : List Ent, mfind l k = some p.2 → ∃ e ∈ l, e.1 = k := by
      intro l
      induction l with
      | nil => intro h; cases h
      | cons q l ih =>
        intro h
        rw [mfind] at h
        by_cases z : q.1 = k
        · exact ⟨q, by simp, z⟩
        · rw [if_neg z] at h
          obtain ⟨e, h1, h2⟩ := ih h
          exact ⟨e, by simp [h1], h2⟩
    exact this E hf
theorem now_len {most : Nat} {c : T62} {last : M (List T59)} {order : List Int} {E : List Ent} (h : Now most c last order E) : E.length ≤ most := by
  have := congrArg List.length h.keys
  rw [List.length_map, List.length_reverse, List.length_take] at this
  omega
theorem filter_keys (k : Int) : ∀ E : List Ent, (without E k).reverse.map (·.1) = (E.reverse.map (·.1)).filter (fun x => decide (x ≠ k)) := by
  intro E
  unfold without
  rw [← List.filter_reverse, List.filter_map]
  rfl
theorem put_now {most : Nat} {c : T62} {last : M (List T59)} {order : List Int} {E : List Ent} (h : Now most c last order E) (hm : 1 ≤ most ∧ most ≤ 100) (K : Nat) (hK : 2000 ≤ K) (k : Int) (hk : 0 ≤ k ∧ k ≤ 15) (l : List T59) (hl : l.length ≤ 10) (hn : c.now ≤ 1000) :
    ∃ (x : Int × Bool) (c' : T62), cache_Cache_Put K c k l = some (x.1, x.2, c') ∧ c'.now = c.now + 1 ∧ ∃ E', Now most c' (M.put last k l) (order ++ [k]) E' := by
  have hE := now_len h
  obtain ⟨c', e, m1, n1, h1⟩ := put_eq h.inv K hK k (by omega) l (by omega) (by omega) (by omega)
  refine ⟨(_, _), c', e, n1, _, h1, by rw [m1, h.most_], ?_, rfl, ?_, fun x => ?_, fun x hx => ?_⟩
  · rw [h.most_]
    have hrev : (putE E k l (c.now + 1)).reverse.map (·.1) = k :: (E.reverse.map (·.1)).filter (fun x => decide (x ≠ k)) := by
      unfold putE
      rw [List.reverse_append, List.map_append, filter_keys]; rfl
    have hdd : (dd (order ++ [k]).reverse).take most = ((putE E k l (c.now + 1)).reverse.map (·.1)).take most := by
      rw [List.reverse_append, hrev, h.keys]
      show (k :: (dd order.reverse).filter (fun x => decide (x ≠ k))).take most = _
      obtain ⟨q, rfl⟩ : ∃ q, most = q + 1 := ⟨most - 1, by omega⟩
      rw [List.take_succ_cons, List.take_succ_cons, take_filter k _ q (dd_nodup _)]
    rw [hdd]
    unfold putR
    by_cases a : (((putE E k l (c.now + 1)).length : Nat) : Int) ≤ (most : Int)
    · rw [if_pos a, List.take_of_length_le (by rw [List.length_map, List.length_reverse]; omega)]
    · rw [if_neg a]
      have hlen := putE_len E k l (c.now + 1)
      obtain ⟨e0, E0, he⟩ : ∃ e0 E0, putE E k l (c.now + 1) = e0 :: E0 := List.exists_cons_of_ne_nil (by unfold putE; simp)
      rw [he] at a hlen ⊢
      rw [List.length_cons] at a hlen
      rw [List.reverse_cons, List.map_append, List.tail_cons, List.take_append_of_le_length (by rw [List.length_map, List.length_reverse]; omega), List.take_of_length_le (by rw [List.length_map, List.length_reverse]; omega)]
  · have hval : ∀ e ∈ putE E k l (c.now + 1), M.get [] (M.put last k l) e.1 = e.2.l ∧ e.2.l.length ≤ 10 := by
      intro e he
      have hg : M.get [] (M.put last k l) e.1 = if e.1 = k then l else M.get [] last e.1 := by
        show (mfind (mput last.es k l) e.1).getD [] = _
        rw [mput_find]
        split <;> rfl
      rcases List.mem_append.1 he with he | he
      · have := without_mem.1 he
        rw [hg, if_neg this.2]
        exact h.val e this.1
      · rw [List.mem_singleton.1 he] at hg ⊢
        rw [hg, if_pos rfl]
        exact ⟨rfl, hl⟩
    intro e he
    unfold putR at he
    split at he
    · exact hval e he
    · exact hval e (List.mem_of_mem_tail he)
  · show ((mfind (mput last.es k l) x).getD []).length ≤ 10
    rw [mput_find]
    split
    · exact hl
    · exact h.lens x
  · rcases List.mem_append.1 hx with hx | hx
    · exact h.ord x hx
    · rw [List.mem_singleton.1 hx]; exact hk
/-- The check: S has been seen. -/
theorem check {most : Nat} {c : T62} {last : M (List T59)} {order : List Int} {E : List Ent} (h : Now most c last order E) (p1 : Int) (hm : IntKind.wrap .i64 (1 + bits .and .i64 p1 7) = (most : Int)) (K : Nat) (hK : 2000 ≤ K) (ho : order.length ≤ 1000) :
    ∀ (k i : Nat) (S : List Int) (g : M Bool), i < k → i ≤ order.length → M.isNil g = false → g.es.length = S.length → (∀ x, M.get false g x = decide (x ∈ S)) → (∀ p ∈ g.es, p.1 ∈ S) → dd order.reverse = S ++ (dd (order.take i).reverse).filter (fun x => decide (x ∉ S)) →
    tidewracklaw14_CacheLast_l3 K p1 c.most c.now c.l last order k g ((i : Int) - 1) = some true
  | 0, i, S, g, h1, h2, h3, h4, h5, h7, h6 => by omega
  | k + 1, i, S, g, h1, h2, h3, h4, h5, h7, h6 => by
    have ih := check h p1 hm K hK ho k
    unfold tidewracklaw14_CacheLast_l3
    rw [cD]
    by_cases a : 1 ≤ i
    · obtain ⟨j, rfl⟩ : ∃ j, i = j + 1 := ⟨i - 1, by omega⟩
      have hj : ((j + 1 : Nat) : Int) - 1 = (j : Int) := by omega
      have hw : IntKind.wrap .i64 ((j : Int) - 1) = (j : Int) - 1 := w64 (by omega) (by omega)
      have hjl : j < order.length := by omega
      have ht : (order.take (j + 1)).reverse = order[j] :: (order.take j).reverse := by
        rw [List.take_succ_eq_append_getElem hjl, List.reverse_append]; rfl
      have hin : order[j] ∈ order := List.getElem_mem hjl
      rw [ht, dd_step] at h6
      rw [hj, if_pos (by omega), if_pos (by omega), rdD_get _ _ hjl, h5, hw]
      by_cases b : order[j] ∈ S
      · rw [if_pos b] at h6
        rw [decide_eq_true b, cond_true]
        exact ih j S g (by omega) (by omega) h3 h4 h5 h7 h6
      · rw [if_neg b] at h6
        have hnd := dd_nodup order.reverse
        have hmem : order[j] ∈ (dd order.reverse).take most ↔ S.length < most := by
          rw [h6] at hnd ⊢
          constructor
          · intro hx
            apply Classical.byContradiction
            intro hc
            rw [List.take_append_of_le_length (by omega)] at hx
            exact b (List.mem_of_mem_take hx)
          · intro hx
            obtain ⟨q, hq⟩ : ∃ q, most - S.length = q + 1 := ⟨most - S.length - 1, by omega⟩
            rw [List.take_append, hq, List.take_succ_cons]
            simp
        have hpk := peek_eq h.inv (fun e he => by have := (h.val e he).2; omega) order[j]
        rw [mem_of_keys h.keys] at hpk
        have hc : (⟨c.most, c.now, c.l⟩ : T62) = c := rfl
        have hlen : ((M.length g : Nat) : Int) = (S.length : Int) := by
          show ((g.es.length : Nat) : Int) = _
          rw [h4]
        rw [decide_eq_false b, cond_false, if_pos h3, hc, hpk, bS, hm, hlen]
        have hb : (decide (order[j] ∈ (dd order.reverse).take most) == decide ((S.length : Int) < (most : Int))) = true := by
          rw [beq_iff_eq, decide_eq_decide, hmem]
          omega
        dsimp only
        rw [hb, Bool.not_true, cond_false]
        have hnext : tidewracklaw14_CacheLast_l3 K p1 c.most c.now c.l last order k (M.put g order[j] true) ((j : Int) - 1) = some true := by
          refine ih j (S ++ [order[j]]) _ (by omega) (by omega) rfl ?_ (fun x => ?_) (fun p hp => ?_) (by rw [h6]; simp)
          · show (mput g.es order[j] true).length = _
            rw [List.length_append, List.length_singleton, ← h4]
            have hno : ∀ p ∈ g.es, p.1 ≠ order[j] := fun p hp e => b (e ▸ h7 p hp)
            rw [mput_none hno, List.length_append]; rfl
          · show (mfind (mput g.es order[j] true) x).getD false = _
            rw [mput_find]
            by_cases z : x = order[j]
            · rw [if_pos z, decide_eq_true (by rw [z]; simp)]; rfl
            · rw [if_neg z]
              have := h5 x
              unfold M.get at this
              rw [this]
              congr 1
              simp [z]
          · rcases mput_mem (show p ∈ mput g.es order[j] true from hp) with hp | hp
            · rw [hp]; simp
            · exact List.mem_append_left _ (h7 p hp)
        rw [cD]
        by_cases d : order[j] ∈ (dd order.reverse).take most
        · rw [if_pos d]
          have hs := mem_of_keys h.keys order[j]
          rw [decide_eq_true d] at hs
          obtain ⟨v, hv⟩ := Option.isSome_iff_exists.1 hs
          have hmemE := (mfind_iff h.inv.ap).1 hv
          obtain ⟨q1, q2⟩ := h.val _ hmemE
          have q1' : M.get [] last order[j] = v.l := q1
          have q2' : v.l.length ≤ 10 := q2
          rw [q1', hv, Option.getD_some, told_eq K _ (by omega) (by omega), bS, glyphs_eq K _ (by omega) (by omega), bS, Bool.not_true, cond_false]
          exact hnext
        · rw [if_neg d]; exact hnext
    · rw [if_neg (by omega)]; rfl
theorem mnI_nat (a b : Nat) : ∃ q : Nat, mnI (a : Int) (b : Int) = (q : Int) ∧ q ≤ a ∧ q ≤ b := ⟨min a b, by unfold mnI; split <;> omega, Nat.min_le_left _ _, Nat.min_le_right _ _⟩
theorem acts_loop (x0 : List T29) (x1 : Int) (w0 : ∀ y ∈ x0, WF.wfT29 y) (most : Nat) (hm : IntKind.wrap .i64 (1 + bits .and .i64 x1 7) = (most : Int)) (hm8 : 1 ≤ most ∧ most ≤ 100) (K : Nat) (hK : 2000 ≤ K) :
    ∀ (k i : Nat) (c : T62) (last : M (List T59)) (order : List Int) (E : List Ent), 30 < k + i → i ≤ 30 → i ≤ x0.length → Now most c last order E → c.now = (i : Int) → order.length = i →
    tidewracklaw14_CacheLast_l4 K x0 x1 k c.most c.now c.l last order (i : Int) = some true
  | 0, i, c, last, order, E, h1, h2, h3, h4, h5, h6 => by omega
  | k + 1, i, c, last, order, E, h1, h2, h3, h4, h5, h6 => by
    have ih := acts_loop x0 x1 w0 most hm hm8 K hK k
    have stop : tidewracklaw14_CacheLast_j1 K x1 c.most c.now c.l last order = some true := by
      unfold tidewracklaw14_CacheLast_j1
      have hw : IntKind.wrap .i64 ((order.length : Int) - 1) = (order.length : Int) - 1 := w64 (by omega) (by omega)
      rw [hw]
      refine check h4 x1 hm K hK (by omega) K order.length [] M.new (by omega) (Nat.le_refl _) rfl rfl (fun x => rfl) (fun p hp => by cases hp) ?_
      rw [List.take_of_length_le (Nat.le_refl _), List.nil_append]
      exact (List.filter_eq_self.2 fun x _ => by simp).symm
    unfold tidewracklaw14_CacheLast_l4
    rw [cD]
    by_cases a : i < x0.length
    · rw [if_pos (by omega), cD]
      by_cases b : i < 30
      · rw [if_pos (by omega)]
        have hw : IntKind.wrap .i64 ((i : Int) + 1) = ((i + 1 : Nat) : Int) := by rw [w64 (by omega) (by omega)]; omega
        have hy := w0 _ (List.getElem_mem a)
        obtain ⟨m, hm1, hm2⟩ := and_le (x0[i]).I 15 (by decide)
        rw [show ((15 : Nat) : Int) = 15 from rfl] at hm2
        obtain ⟨q, q1, q2, q3⟩ := mnI_nat (x0[i]).L.length 10
        rw [show ((10 : Nat) : Int) = 10 from rfl] at q1
        have hl : ([] ++ List.drop 0 (List.take q (x0[i]).L) : List T59).length ≤ 10 := by simp; omega
        obtain ⟨x, c', e1, n1, E', h'⟩ := put_now h4 hm8 K hK (m : Int) (by omega) _ hl (by omega)
        have hc : (⟨c.most, c.now, c.l⟩ : T62) = c := rfl
        unfold tidewracklaw14_CacheLast_j5
        rw [if_pos (by omega), rdD_get _ _ a, q1, Int.toNat_natCast, if_pos (by omega), if_pos (by omega), if_pos (by simp; omega), hm2, hc, e1, bS, if_pos h4.last_, if_pos (by simp; omega), hw]
        exact ih (i + 1) c' _ _ E' (by omega) (by omega) (by omega) h' (by rw [n1, h5]; omega) (by simp; omega)
      · rw [if_neg (by omega)]; exact stop
    · rw [if_neg (by omega)]; exact stop
theorem CacheLast (x0 : List T29) (w0 : ∀ y ∈ x0, (WF.wfT29) y) (l0 : x0.length ≤ maxLen) (x1 : Int) (w1 : (Lit.int .i64 x1).wf = true) : ∃ K, tidewracklaw14_CacheLast K x0 x1 = some true := by
  refine ⟨2000, ?_⟩
  obtain ⟨m, hm1, hm2⟩ := and_le x1 7 (by decide)
  rw [show ((7 : Nat) : Int) = 7 from rfl] at hm2
  have hw : IntKind.wrap .i64 (1 + bits .and .i64 x1 7) = ((m + 1 : Nat) : Int) := by rw [hm2, w64 (by omega) (by omega)]; omega
  unfold tidewracklaw14_CacheLast
  rw [awake_eq 2000 (Nat.le_refl _), bS, Bool.not_true, cond_false, hw]
  obtain ⟨c, e, m1, n1, h⟩ := new_inv ((m + 1 : Nat) : Int)
  rw [e, bS]
  have hmost : c.most = ((m + 1 : Nat) : Int) := by
    rw [m1]; unfold mxI mnI; split <;> split <;> omega
  refine acts_loop x0 x1 w0 (m + 1) hw ⟨by omega, by omega⟩ 2000 (Nat.le_refl _) 2000 0 c M.new [] [] (by omega) (by omega) (by omega) ⟨h, hmost, by simp [dd], rfl, fun e he => absurd he (by simp), fun k => by show (0 : Nat) ≤ 10; omega, fun k hk => absurd hk (by simp)⟩ n1 rfl
end Go.Proofs.Ythmlldkmgdjeoaa.Pure
