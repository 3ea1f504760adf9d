/- Plain laws: what the plain functions answer, with no program in sight. -/
import Derived.Test.YthmlldkmgdjeoaaPB
import Derived.Test.YthmlldkmgdjeoaaCS
set_option linter.unusedVariables false
set_option linter.unusedSimpArgs false
namespace Go.Proofs.Ythmlldkmgdjeoaa.Pure
open Go Go.Proofs.XC Go.Proofs.Ythmlldkmgdjeoaa

/-! ### CacheRoom -/
def seg (a : Int) (i n : Nat) : List Int := (List.range' i n).map fun j : Nat => a + (j : Int)
theorem seg_snoc (a : Int) (i n : Nat) : seg a i (n + 1) = seg a i n ++ [a + ((i + n : Nat) : Int)] := by unfold seg; rw [List.range'_concat]; simp
theorem seg_cons (a : Int) (i n : Nat) : seg a i (n + 1) = (a + (i : Int)) :: seg a (i + 1) n := by unfold seg; rw [List.range'_succ]; rfl
theorem seg_mem (a : Int) (i n : Nat) (x : Int) : x ∈ seg a i n ↔ a + (i : Int) ≤ x ∧ x < a + ((i + n : Nat) : Int) := by
  unfold seg
  rw [List.mem_map]
  constructor
  · rintro ⟨j, hj, rfl⟩
    have := List.mem_range'_1.1 hj
    omega
  · intro h
    exact ⟨(x - a).toNat, List.mem_range'_1.2 (by omega), by omega⟩
theorem seg_len (a : Int) (i n : Nat) : (seg a i n).length = n := by unfold seg; simp
theorem keys_without (E : List Ent) (k : Int) : (without E k).map (·.1) = (E.map (·.1)).filter fun x => decide (x ≠ k) := by unfold without; rw [List.filter_map]; rfl
theorem keys_new {E : List Ent} {r : List Int} {k : Int} (h : E.map (·.1) = r) (hk : k ∉ r) (l : List T59) (n : Int) : (putE E k l n).map (·.1) = r ++ [k] := by
  unfold putE
  rw [List.map_append, keys_without, h, List.filter_eq_self.2 (fun x hx => by simp only [decide_eq_true_eq]; rintro rfl; exact hk hx)]
  rfl
theorem keys_turn {E : List Ent} {r : List Int} {k : Int} (h : E.map (·.1) = k :: r) (hn : (k :: r).Nodup) (l : List T59) (n : Int) : (putE E k l n).map (·.1) = r ++ [k] := by
  have hk := (List.nodup_cons.1 hn).1
  unfold putE
  rw [List.map_append, keys_without, h, List.filter_cons_of_neg (by simp), List.filter_eq_self.2 (fun x hx => by simp only [decide_eq_true_eq]; rintro rfl; exact hk hx)]
  rfl
section
abbrev rowOf (p0 : List (List T59)) (j : Nat) : List T59 := ((p0.getD j [])).take 20
/-- What is at hand: the numbers ks, each with its row. -/
structure Rm (p0 : List (List T59)) (a : Int) (n : Nat) (c : T62) (E : List Ent) (ks : List Int) (t : Int) : Prop where
  inv : Inv c E
  most : c.most = mxI 1 (n : Int)
  now : c.now = t
  keys : E.map (·.1) = ks
  val : ∀ e ∈ E, ∃ j : Nat, j < n ∧ e.1 = a + (j : Int) ∧ e.2.l = rowOf p0 j
theorem mnI_nat (a b : Nat) : mnI (a : Int) (b : Int) = ((min a b : Nat) : Int) := by unfold mnI; split <;> omega
theorem row_eq (p0 : List (List T59)) (i : Nat) (hi : i < p0.length) : List.drop 0 (List.take (Int.toNat (mnI (((rdD [] p0 (i : Int)).length : Nat) : Int) 20)) (rdD [] p0 (i : Int))) = rowOf p0 i ∧ 0 ≤ mnI (((rdD [] p0 (i : Int)).length : Nat) : Int) 20 ∧ mnI (((rdD [] p0 (i : Int)).length : Nat) : Int) 20 ≤ (((rdD [] p0 (i : Int)).length : Nat) : Int) := by
  rw [rdD_get _ _ hi, show (20 : Int) = ((20 : Nat) : Int) from rfl, mnI_nat, Int.toNat_natCast, List.drop_zero]
  refine ⟨?_, by omega, by omega⟩
  unfold rowOf
  rw [List.getD_eq_getElem?_getD, List.getElem?_eq_getElem hi, Option.getD_some, Nat.min_comm, ← List.take_take, List.take_of_length_le (l := p0[i]) (Nat.le_refl _)]
theorem rowOf_len (p0 : List (List T59)) (j : Nat) : (rowOf p0 j).length ≤ 20 := by unfold rowOf; rw [List.length_take]; omega
theorem room_j2 (K : Nat) (hK : 20000 ≤ K) (p0 : List (List T59)) (p1 a : Int) (ha : bits .and .i64 p1 65535 = a) (ha0 : 0 ≤ a ∧ a ≤ 65535) (n : Nat) (hn : mnI (p0.length : Int) 20 = (n : Int)) (hn20 : n ≤ 20) {c : T62} {E : List Ent} {t : Int} (h : Rm p0 a n c E (seg a 0 n) t) (ht : t ≤ 100) :
    tidewracklaw14_CacheRoom_j2 K p0 p1 c.most c.now c.l = some true := by
  obtain ⟨r, e, r1, r2⟩ := cspans_eq h.inv K hK
  have hc : (⟨c.most, c.now, c.l⟩ : T62) = c := rfl
  have hEl : E.length = n := by rw [← seg_len a 0 n, ← h.keys, List.length_map]
  have hm : ∀ x, x ∈ E.map (·.1) ↔ a ≤ x ∧ x < a + (n : Int) := fun x => by rw [h.keys, seg_mem]; simp
  have hw : IntKind.wrap .i64 (a + (n : Int)) = a + (n : Int) := w64 (by omega) (by omega)
  unfold tidewracklaw14_CacheRoom_j2
  rw [hc, e, bS, hn, cE]
  by_cases hz : n = 0
  · have hr : r = [] := nil_of r1.nf fun x => by
      rw [r2]
      apply decide_eq_false
      intro hh
      have := (hm x).1 hh.1
      omega
    rw [if_pos (by omega), hr]; rfl
  · have hr : r = [⟨a, a + (n : Int)⟩] := NF.uniq r1.nf ⟨by dsimp only; omega, by simp, trivial⟩ fun x => by
      rw [r2]
      show _ = (isin ⟨a, a + (n : Int)⟩ x || false)
      rw [Bool.or_false]
      unfold isin
      rw [decide_eq_decide, hm]
      dsimp only
      omega
    obtain ⟨q, rfl⟩ : ∃ q, n = q + 1 := ⟨n - 1, by omega⟩
    have hnow := h.now
    obtain ⟨c', e', _⟩ := put_eq h.inv K (by omega) (a + ((q + 1 : Nat) : Int)) (by omega) [] (by simp) (by omega) (by omega)
    have hk := keys_new h.keys (k := a + ((q + 1 : Nat) : Int)) (by rw [seg_mem]; omega) [] (c.now + 1)
    have hl2 : (putE E (a + ((q + 1 : Nat) : Int)) [] (c.now + 1)).length = q + 2 := by
      have := congrArg List.length hk
      rw [List.length_map, List.length_append, seg_len] at this
      simpa using this
    have hmost : c.most = ((q + 1 : Nat) : Int) := by rw [h.most]; unfold mxI; split <;> omega
    have hp1 : (putR c.most (putE E (a + ((q + 1 : Nat) : Int)) [] (c.now + 1))).1 = a ∧ (putR c.most (putE E (a + ((q + 1 : Nat) : Int)) [] (c.now + 1))).2.1 = true := by
      unfold putR
      rw [hl2, hmost, if_neg (by omega)]
      refine ⟨?_, rfl⟩
      rw [seg_cons] at hk
      cases hE : putE E (a + ((q + 1 : Nat) : Int)) [] (c.now + 1) with
      | nil => rw [hE] at hk; cases hk
      | cons e0 E0 =>
        rw [hE] at hk
        injection hk with h1 _
        have h1' : e0.1 = a + ((0 : Nat) : Int) := h1
        show e0.1 = a
        rw [h1']; simp
    rw [if_neg (by omega), ha, hw, e', bS, hp1.1, hp1.2, hr]
    rw [cE, if_pos (by simp), if_pos (by simp)]
    have hrd : rdD zT44 [(⟨a, a + ((q + 1 : Nat) : Int)⟩ : T44)] 0 = ⟨a, a + ((q + 1 : Nat) : Int)⟩ := rfl
    rw [hrd]
    dsimp only
    rw [cE, if_pos rfl, cE, if_pos rfl, cond_true]
    simp
theorem room_l3 (K : Nat) (hK : 20000 ≤ K) (p0 : List (List T59)) (p1 a : Int) (ha : bits .and .i64 p1 65535 = a) (ha0 : 0 ≤ a ∧ a ≤ 65535) (n : Nat) (hn : mnI (p0.length : Int) 20 = (n : Int)) (hn20 : n ≤ 20 ∧ n ≤ p0.length) : ∀ (k i : Nat) (c : T62) (E : List Ent) (t : Int), n < k + i → i ≤ n → Rm p0 a n c E (seg a i (n - i) ++ seg a 0 i) t → 0 ≤ t ∧ t ≤ 20 + (i : Int) →
    tidewracklaw14_CacheRoom_l3 K p0 p1 k c.most c.now c.l (i : Int) = some true
  | 0, i, c, E, t, h1, h2, h3, h4 => by omega
  | k + 1, i, c, E, t, h1, h2, h3, h4 => by
    have ih := room_l3 K hK p0 p1 a ha ha0 n hn hn20 k
    have hEl : E.length = n := by
      have := congrArg List.length h3.keys
      rw [List.length_map, List.length_append, seg_len, seg_len] at this
      omega
    unfold tidewracklaw14_CacheRoom_l3
    rw [cD, hn]
    by_cases b : i < n
    · have hw : IntKind.wrap .i64 ((i : Int) + 1) = ((i + 1 : Nat) : Int) := by rw [w64 (by omega) (by omega)]; omega
      have hwa : IntKind.wrap .i64 (a + (i : Int)) = a + (i : Int) := w64 (by omega) (by omega)
      have hnow := h3.now
      obtain ⟨d1, d2, d3⟩ := row_eq p0 i (by omega)
      have hkeys := h3.keys
      obtain ⟨q, hq⟩ : ∃ q, n - i = q + 1 := ⟨n - i - 1, by omega⟩
      rw [hq, seg_cons] at hkeys
      have hin : a + (i : Int) ∈ E.map (·.1) := by rw [hkeys]; simp
      obtain ⟨e0, he0, hek⟩ := List.mem_map.1 hin
      have hfind : mfind E (a + (i : Int)) = some e0.2 := (mfind_iff h3.inv.ap).2 (by rw [← hek]; exact he0)
      obtain ⟨j, hj1, hj2, hj3⟩ := h3.val e0 he0
      have hji : j = i := by omega
      subst hji
      obtain ⟨c', e1, m1, n1, hi⟩ := get_eq h3.inv (fun e he => by
        obtain ⟨j', _, _, hj4⟩ := h3.val e he
        rw [hj4]; have := rowOf_len p0 j'; omega) (a + (j : Int)) (by omega) (by omega) (by omega)
      rw [hfind] at e1 hi
      dsimp only [Option.getD_some, Option.isSome_some] at e1 hi
      have hc : (⟨c.most, c.now, c.l⟩ : T62) = c := rfl
      rw [if_pos (by omega), ha, hwa, hc, e1, bS]
      dsimp only
      rw [Bool.not_true, cond_false, if_pos (by omega), if_pos d2, if_pos d3, d1, hj3, told_eq K _ (by have := rowOf_len p0 j; omega) (by have := rowOf_len p0 j; omega), bS, glyphs_eq K _ (by have := rowOf_len p0 j; omega) (by have := rowOf_len p0 j; omega), bS, Bool.not_true, cond_false, hw]
      have hnd : (E.map (·.1)).Nodup := h3.inv.ap
      rw [hkeys] at hnd
      refine ih (j + 1) c' _ c'.now (by omega) (by omega) ⟨hi, by rw [m1, h3.most], rfl, ?_, fun e he => ?_⟩ ?_
      · rw [keys_turn hkeys hnd]
        have e1 : n - (j + 1) = q := by omega
        rw [e1, seg_snoc, Nat.zero_add]
        exact List.append_assoc _ _ _
      · rcases List.mem_append.1 he with he | he
        · exact h3.val e (without_mem.1 he).1
        · rw [List.mem_singleton.1 he]
          exact ⟨j, hj1, rfl, hj3⟩
      · have := hi.now
        omega
    · have e1 : n = i := by omega
      subst e1
      rw [if_neg (by omega)]
      have h5 := h3.keys
      rw [Nat.sub_self, show seg a n 0 = [] from rfl, List.nil_append] at h5
      exact room_j2 K hK p0 p1 a ha ha0 n hn hn20.1 ⟨h3.inv, h3.most, h3.now, h5, h3.val⟩ (by omega)
theorem room_l4 (K : Nat) (hK : 20000 ≤ K) (p0 : List (List T59)) (p1 a : Int) (ha : bits .and .i64 p1 65535 = a) (ha0 : 0 ≤ a ∧ a ≤ 65535) (n : Nat) (hn : mnI (p0.length : Int) 20 = (n : Int)) (hn20 : n ≤ 20 ∧ n ≤ p0.length) : ∀ (k i : Nat) (c : T62) (E : List Ent), n < k + i → i ≤ n → Rm p0 a n c E (seg a 0 i) (i : Int) →
    tidewracklaw14_CacheRoom_l4 K p0 p1 k c.most c.now c.l (i : Int) = some true
  | 0, i, c, E, h1, h2, h3 => by omega
  | k + 1, i, c, E, h1, h2, h3 => by
    have ih := room_l4 K hK p0 p1 a ha ha0 n hn hn20 k
    have hEl : E.length = i := by rw [← seg_len a 0 i, ← h3.keys, List.length_map]
    unfold tidewracklaw14_CacheRoom_l4
    rw [cD, hn]
    by_cases b : i < n
    · have hw : IntKind.wrap .i64 ((i : Int) + 1) = ((i + 1 : Nat) : Int) := by rw [w64 (by omega) (by omega)]; omega
      have hwa : IntKind.wrap .i64 (a + (i : Int)) = a + (i : Int) := w64 (by omega) (by omega)
      have hnow := h3.now
      obtain ⟨d1, d2, d3⟩ := row_eq p0 i (by omega)
      have hkeys := keys_new h3.keys (k := a + (i : Int)) (by rw [seg_mem]; omega) (rowOf p0 i) (c.now + 1)
      obtain ⟨c', e1, m1, n1, hi⟩ := put_eq h3.inv K (by omega) (a + (i : Int)) (by omega) (rowOf p0 i) (by have := rowOf_len p0 i; omega) (by omega) (by omega)
      have hl2 : (putE E (a + (i : Int)) (rowOf p0 i) (c.now + 1)).length = i + 1 := by
        have := congrArg List.length hkeys
        rw [List.length_map, List.length_append, seg_len] at this
        simpa using this
      have hr : putR c.most (putE E (a + (i : Int)) (rowOf p0 i) (c.now + 1)) = (0, false, putE E (a + (i : Int)) (rowOf p0 i) (c.now + 1)) := by
        unfold putR
        have hm : c.most = (n : Int) := by rw [h3.most]; unfold mxI; split <;> omega
        rw [hl2, hm, if_pos (by omega)]
      rw [hr] at e1 hi
      have hc : (⟨c.most, c.now, c.l⟩ : T62) = c := rfl
      rw [if_pos (by omega), if_pos (by omega), if_pos d2, if_pos d3, d1, ha, hwa, hc, e1, bS]
      dsimp only
      rw [cond_false, hw]
      refine ih (i + 1) c' _ (by omega) (by omega) ⟨hi, by rw [m1, h3.most], by rw [n1, hnow]; omega, by rw [hkeys, seg_snoc, Nat.zero_add], fun e he => ?_⟩
      rcases List.mem_append.1 he with he | he
      · exact h3.val e (without_mem.1 he).1
      · rw [List.mem_singleton.1 he]
        exact ⟨i, b, rfl, rfl⟩
    · have e1 : n = i := by omega
      subst e1
      rw [if_neg (by omega)]
      unfold tidewracklaw14_CacheRoom_j1
      exact room_l3 K hK p0 p1 a ha ha0 n hn hn20 K 0 c E (n : Int) (by omega) (by omega) ⟨h3.inv, h3.most, h3.now, by rw [h3.keys]; simp [seg], h3.val⟩ ⟨by omega, by omega⟩
end
theorem CacheRoom (x0 : List (List T59)) (w0 : ∀ y ∈ x0, (fun y => (∀ z ∈ y, (WF.wfT59) z) ∧ y.length ≤ maxLen) y) (l0 : x0.length ≤ maxLen) (x1 : Int) (w1 : (Lit.int .i64 x1).wf = true) : ∃ K, tidewracklaw14_CacheRoom K x0 x1 = some true := by
  refine ⟨20000, ?_⟩
  obtain ⟨m, hm1, hm2⟩ := and_le x1 65535 (by decide)
  rw [show ((65535 : Nat) : Int) = 65535 from rfl] at hm2
  have hn : mnI (x0.length : Int) 20 = ((min x0.length 20 : Nat) : Int) := mnI_nat x0.length 20
  unfold tidewracklaw14_CacheRoom
  rw [awake_eq 20000 (by omega), bS, Bool.not_true, cond_false, hn]
  obtain ⟨c, e, q1, q2, h⟩ := new_inv ((min x0.length 20 : Nat) : Int)
  rw [e, bS]
  have hmost : c.most = mxI 1 ((min x0.length 20 : Nat) : Int) := by
    rw [q1]
    congr 1
    unfold mnI; split <;> omega
  exact room_l4 20000 (Nat.le_refl _) x0 x1 m hm2 (by omega) (min x0.length 20) hn (by omega) 20000 0 c [] (by omega) (by omega) ⟨h, hmost, q2, rfl, fun e he => absurd he (by simp)⟩
end Go.Proofs.Ythmlldkmgdjeoaa.Pure
