/- Plain laws: what the plain functions answer, with no program in sight. -/
import Derived.Test.YtpciioffkjpieaaCS
set_option linter.unusedVariables false
set_option linter.unusedSimpArgs false
namespace Go.Proofs.Ytpciioffkjpieaa.Pure
open Go Go.Proofs.XC Go.Proofs.Ytpciioffkjpieaa

/-! ### TidewrackMissing -/
structure Cs (c : T41) (E : List Ent) (n : Int) : Prop where
  inv : Inv c E
  most : c.most = 64
  len : (E.length : Int) ≤ c.now
  now : c.now ≤ n
  keys : ∀ e ∈ E, 0 ≤ e.1 ∧ e.1 ≤ 46
  rows : ∀ e ∈ E, e.2.l = []
theorem putE_keys (E : List Ent) (k : Int) (l : List T45) (n x : Int) : x ∈ (putE E k l n).map (·.1) ↔ x ∈ E.map (·.1) ∨ x = k := by
  unfold putE
  rw [List.map_append, List.mem_append]
  constructor
  · rintro (h | h)
    · obtain ⟨e, he, rfl⟩ := List.mem_map.1 h
      exact .inl (List.mem_map_of_mem (without_mem.1 he).1)
    · exact .inr (by simpa using h)
  · rintro (h | h)
    · obtain ⟨e, he, rfl⟩ := List.mem_map.1 h
      by_cases q : e.1 = k
      · exact .inr (by simp [q])
      · exact .inl (List.mem_map_of_mem (without_mem.2 ⟨he, q⟩))
    · exact .inr (by simp [h])
theorem put_cs {c : T41} {E : List Ent} {n : Int} (h : Cs c E n) (hn : n ≤ 60) (K : Nat) (hK : 2000 ≤ K) (k : Int) (hk : 0 ≤ k ∧ k ≤ 46) :
    ∃ c' E', cache_Cache_Put K c k [] = some (0, false, c') ∧ Cs c' E' (n + 1) ∧ ∀ x, x ∈ E'.map (·.1) ↔ x ∈ E.map (·.1) ∨ x = k := by
  have h1 := h.len
  have h2 := h.now
  have hl := putE_len E k [] (c.now + 1)
  obtain ⟨c', e, m1, n1, hi⟩ := put_eq h.inv K hK k (by omega) [] (by simp) (by omega) (by omega)
  have hr : putR c.most (putE E k [] (c.now + 1)) = (0, false, putE E k [] (c.now + 1)) := by
    unfold putR
    rw [h.most, if_pos (by omega)]
  rw [hr] at e hi
  refine ⟨c', _, e, ⟨hi, by rw [m1, h.most], by show ((putE E k [] (c.now + 1)).length : Int) ≤ c'.now; omega, by omega, fun x hx => ?_, fun x hx => ?_⟩, fun x => putE_keys E k [] _ x⟩
  · rcases List.mem_append.1 hx with hx | hx
    · exact h.keys x (without_mem.1 hx).1
    · rw [List.mem_singleton.1 hx]; exact hk
  · rcases List.mem_append.1 hx with hx | hx
    · exact h.rows x (without_mem.1 hx).1
    · rw [List.mem_singleton.1 hx]
theorem peek_no {c : T41} {E : List Ent} {n : Int} (h : Cs c E n) (k : Int) (hk : k ∉ E.map (·.1)) : ∃ l, cache_Cache_Peek c k = some (l, false) := by
  have hf : mfind E k = none := mfind_none fun p hp e => hk (by rw [← e]; exact List.mem_map_of_mem (f := (·.1)) hp)
  have := peek_eq h.inv (fun e he => by rw [h.rows e he]; simp) k
  rw [hf] at this
  exact ⟨_, this⟩
theorem inner (K : Nat) (hK : 20000 ≤ K) (p1 p2 fr sz : Int) (hfr : bits .and .i64 p1 31 = fr) (hsz : bits .and .i64 p2 15 = sz) (b1 : 0 ≤ fr ∧ fr ≤ 31) (b2 : 0 ≤ sz ∧ sz ≤ 15) (ms a : List T27) (j : Nat) (hj : j < ms.length) (KS : List Int) (xj : Int) (lp : Int → Int → M T52 → Int → Int → Option Bool) (hd : ∀ i, (ms[j]).From ≤ i → i < (ms[j]).To → i ∉ KS ∧ hasF a i = false ∧ fr ≤ i ∧ i < fr + sz) :
    ∀ (f : Nat) (c : T41) (E : List Ent) (cn i : Int), ((ms[j]).To - i).toNat < f → (ms[j]).From ≤ i → i ≤ (ms[j]).To → Cs c E (40 + cn) → (∀ x, x ∈ E.map (·.1) ↔ x ∈ KS ∨ hasF a x = true ∨ ((ms[j]).From ≤ x ∧ x < i)) → 0 ≤ cn → cn + ((ms[j]).To - i) ≤ 15 →
    ∃ c' E', tidewracktop_TidewrackMissing_l7 K p1 p2 ms (j : Int) lp f c.most c.now c.l cn i = lp c'.most c'.now c'.l (cn + ((ms[j]).To - i)) (IntKind.wrap .i64 ((j : Int) + 1)) ∧ Cs c' E' (40 + (cn + ((ms[j]).To - i))) ∧ (∀ x, x ∈ E'.map (·.1) ↔ x ∈ KS ∨ hasF a x = true ∨ ((ms[j]).From ≤ x ∧ x < (ms[j]).To))
  | 0, c, E, cn, i, h1, h2, h3, h4, h5, h6, h7 => by omega
  | f + 1, c, E, cn, i, h1, h2, h3, h4, h5, h6, h7 => by
    have ih := inner K hK p1 p2 fr sz hfr hsz b1 b2 ms a j hj KS xj lp hd f
    unfold tidewracktop_TidewrackMissing_l7
    rw [rdD_get _ _ hj, cD]
    by_cases q : i < (ms[j]).To
    · obtain ⟨d1, d2, d3, d4⟩ := hd i h2 q
      have hno : i ∉ E.map (·.1) := fun hh => by
        rcases (h5 i).1 hh with hh | hh | hh
        · exact d1 hh
        · rw [d2] at hh; cases hh
        · omega
      obtain ⟨l, hp⟩ := peek_no h4 i hno
      obtain ⟨c', E', e1, k1, k2⟩ := put_cs h4 (by omega) K (by omega) i (by omega)
      have hc : (⟨c.most, c.now, c.l⟩ : T41) = c := rfl
      have hw1 : IntKind.wrap .i64 (cn + 1) = cn + 1 := w64 (by omega) (by omega)
      have hw2 : IntKind.wrap .i64 (i + 1) = i + 1 := w64 (by omega) (by omega)
      have hw3 : IntKind.wrap .i64 (fr + sz) = fr + sz := w64 (by omega) (by omega)
      obtain ⟨c2, E2, e2, k3, k4⟩ := ih c' E' (cn + 1) (i + 1) (by omega) (by omega) (by omega) (by rw [← Int.add_assoc]; exact k1) (fun x => by
        rw [k2, h5]
        constructor
        · rintro ((g | g | g) | g)
          · exact .inl g
          · exact .inr (.inl g)
          · exact .inr (.inr (by omega))
          · exact .inr (.inr (by omega))
        · rintro (g | g | g)
          · exact .inl (.inl g)
          · exact .inl (.inr (.inl g))
          · by_cases z : x = i
            · exact .inr z
            · exact .inl (.inr (.inr (by omega)))) (by omega) (by omega)
      rw [if_pos q, hc, hp, bS]
      dsimp only
      rw [cond_false, cD, hfr, if_neg (by omega), cD, hsz, hw3, if_neg (by omega)]
      unfold tidewracktop_TidewrackMissing_j8
      rw [hc, e1, bS]
      dsimp only
      rw [cond_false, hw1, hw2]
      have e5 : cn + 1 + ((ms[j]).To - (i + 1)) = cn + ((ms[j]).To - i) := by omega
      rw [e5] at e2 k3
      exact ⟨c2, E2, e2, k3, k4⟩
    · rw [if_neg q]
      unfold tidewracktop_TidewrackMissing_j6
      have : i = (ms[j]).To := by omega
      subst this
      rw [Int.sub_self, Int.add_zero]
      exact ⟨c, E, rfl, h4, h5⟩
theorem l4_eq (K : Nat) (p1 p2 : Int) (c : T41) (cn : Int) (t : T30) (q : List T27) (hq : q.length ≤ 10000) : ∀ (k i : Nat) (s : Int), q.length < k + i → i ≤ q.length →
    tidewracktop_TidewrackMissing_l4 K p1 p2 c.most c.now c.l cn t q k s (i : Int) = tidewracktop_TidewrackMissing_j3 K p1 p2 c.most c.now c.l cn t (lenF (q.drop i) s)
  | 0, i, s, h1, h2 => by omega
  | k + 1, i, s, h1, h2 => by
    have ih := l4_eq K p1 p2 c cn t q hq k
    unfold tidewracktop_TidewrackMissing_l4
    rw [cD]
    by_cases a : i < q.length
    · have hw : IntKind.wrap .i64 ((i : Int) + 1) = ((i + 1 : Nat) : Int) := by rw [w64 (by omega) (by omega)]; omega
      rw [if_pos (by omega), if_pos (by omega), rdD_get _ _ a, hw, ih (i + 1) _ (by omega) (by omega), List.drop_eq_getElem_cons a]
      rfl
    · rw [if_neg (by omega), List.drop_eq_nil_of_le (by omega)]; rfl
theorem fit_x (fr sz : Int) (b1 : 0 ≤ fr ∧ fr ≤ 31) (b2 : 0 ≤ sz ∧ sz ≤ 15) : fitF ⟨fr, fr + sz⟩ = ⟨fr, fr + sz⟩ := fit_id fun z hz => by rw [List.mem_singleton.1 hz]; dsimp only; omega
theorem meas_sum (K : Nat) (hK : 20000 ≤ K) (p1 p2 fr sz : Int) (hfr : bits .and .i64 p1 31 = fr) (hsz : bits .and .i64 p2 15 = sz) (b1 : 0 ≤ fr ∧ fr ≤ 31) (b2 : 0 ≤ sz ∧ sz ≤ 15) {l : List T27} {k : Nat} (h : Ok l k) : meas (in1 (fitF ⟨fr, fr + sz⟩) l) + meas (missF l ⟨fr, fr + sz⟩) = sz := by
  have hin := in_ok h ⟨fr, fr + sz⟩
  obtain ⟨m1, m2⟩ := miss_ok h ⟨fr, fr + sz⟩
  have hr : ∀ q : List T27, NF q → Bd q → cnt (hasF q) (-1152921504606846976) 2305843009213693952 = meas q := fun q hq hqb => cnt_meas _ _ q hq (fun y hy => by have := hqb y hy; omega)
  rw [← hr _ hin.nf hin.bd, ← hr _ m1.nf m1.bd, ← cnt_or]
  · rw [cnt_congr (q := isin (fitF ⟨fr, fr + sz⟩)) (fun n => by rw [in1_has, m2]; cases hasF l n <;> cases isin (fitF ⟨fr, fr + sz⟩) n <;> rfl), fit_x fr sz b1 b2]
    rw [cnt_one _ _ (by dsimp only; omega) (by dsimp only; omega)]
    dsimp only
    (repeat' split) <;> omega
  · rintro n ⟨g1, g2⟩
    rw [in1_has] at g1
    rw [m2] at g2
    revert g1 g2
    cases hasF l n <;> cases isin (fitF ⟨fr, fr + sz⟩) n <;> simp
theorem last_part (K : Nat) (hK : 20000 ≤ K) (p1 p2 fr sz : Int) (hfr : bits .and .i64 p1 31 = fr) (hsz : bits .and .i64 p2 15 = sz) (b1 : 0 ≤ fr ∧ fr ≤ 31) (b2 : 0 ≤ sz ∧ sz ≤ 15) {l : List T27} {kl : Nat} (hl : Ok l kl) (hkl : kl ≤ 1000) {c : T41} {E : List Ent} (h : Cs c E 60) (hk : ∀ x, x ∈ E.map (·.1) ↔ hasF l x = true ∨ hasF (missF l ⟨fr, fr + sz⟩) x = true) :
    tidewracktop_TidewrackMissing_j2 K p1 p2 ⟨l⟩ c.most c.now c.l (meas (missF l ⟨fr, fr + sz⟩)) = some true := by
  obtain ⟨r, e1, r1, r2⟩ := cspans_eq h.inv K hK
  have hEl : E.length ≤ 60 := by have := h.len; have := h.now; omega
  have hrl := r1.len
  obtain ⟨a1, a2⟩ := adds_ok r [] 0 ok_nil
  have hal := a1.len
  have hll := hl.len
  have hin := in_ok hl ⟨fr, fr + sz⟩
  have hil := hin.len
  have hw3 : IntKind.wrap .i64 (fr + sz) = fr + sz := w64 (by omega) (by omega)
  have hc : (⟨c.most, c.now, c.l⟩ : T41) = c := rfl
  have hsum := meas_sum K hK p1 p2 fr sz hfr hsz b1 b2 hl
  obtain ⟨m1, m2⟩ := miss_ok hl ⟨fr, fr + sz⟩
  unfold tidewracktop_TidewrackMissing_j2
  rw [hc, e1, bS, add_eq K hK [] r (by simp; omega), bS, hfr, hsz, hw3, in_eq K l _ (by omega) (by omega), bS]
  have h4 := l4_eq K p1 p2 c (meas (missF l ⟨fr, fr + sz⟩)) ⟨r.foldl addS []⟩ (in1 (fitF ⟨fr, fr + sz⟩) l) (by omega) K 0 0 (by omega) (by omega)
  rw [show ((0 : Nat) : Int) = 0 from rfl] at h4
  rw [h4, List.drop_zero, lenF_ok hin]
  unfold tidewracktop_TidewrackMissing_j3
  have hhas : ∀ n, hasF (r.foldl addS []) n = decide (n ∈ E.map (·.1)) := fun n => by
    rw [a2, hasF_nil, Bool.false_or, anyF_bd _ r1.bd, r2, decide_eq_decide]
    constructor
    · exact fun q => q.1
    · intro q
      obtain ⟨e, he, rfl⟩ := List.mem_map.1 q
      have := h.keys e he
      exact ⟨q, by omega⟩
  have hz : IntKind.wrap .i64 (meas (missF l ⟨fr, fr + sz⟩) + meas (in1 (fitF ⟨fr, fr + sz⟩) l)) = sz := by rw [Int.add_comm, hsum]; exact w64 (by omega) (by omega)
  obtain ⟨d1, d2⟩ := miss_ok a1 ⟨fr, fr + sz⟩
  have hnil : missF (r.foldl addS []) ⟨fr, fr + sz⟩ = [] := nil_of d1.nf fun n => by
    rw [d2, hhas]
    cases hi : isin (fitF ⟨fr, fr + sz⟩) n with
    | false => simp
    | true =>
      have : n ∈ E.map (·.1) := (hk n).2 (by
        cases hb : hasF l n with
        | true => exact .inl rfl
        | false => exact .inr (by rw [m2, hb, hi]; rfl))
      simp [this]
  have hfin : (E.length : Int) = meas (r.foldl addS []) := by
    have hmm := cnt_meas 0 47 (r.foldl addS []) a1.nf (within_of a1.nf 0 47 fun n hn => by
      rw [hhas] at hn
      obtain ⟨e, he, rfl⟩ := List.mem_map.1 (of_decide_eq_true hn)
      have := h.keys e he
      omega)
    rw [← hmm, cnt_congr hhas, cnt_list 0 47 _ h.inv.ap (fun x hx => by
      obtain ⟨e, he, rfl⟩ := List.mem_map.1 hx
      have := h.keys e he
      omega), List.length_map]
  rw [hz, hsz, cE, if_pos rfl, hfr, hw3, miss_eq K hK a1 (by omega), bS, hnil, List.length_nil, cE, if_pos (show ((0 : Nat) : Int) = 0 from rfl), hc]
  unfold cache_Cache_Len
  rw [bS, len_eq K _ (by omega) (by omega), bS, h.inv.length, lenF_ok a1, hfin]
  simp
theorem outer (K : Nat) (hK : 20000 ≤ K) (p1 p2 fr sz : Int) (hfr : bits .and .i64 p1 31 = fr) (hsz : bits .and .i64 p2 15 = sz) (b1 : 0 ≤ fr ∧ fr ≤ 31) (b2 : 0 ≤ sz ∧ sz ≤ 15) {l : List T27} {kl : Nat} (hl : Ok l kl) (hkl : kl ≤ 1000) (KS : List Int) (hKS : ∀ x, x ∈ KS ↔ hasF l x = true) : ∀ (f j : Nat) (c : T41) (E : List Ent), (missF l ⟨fr, fr + sz⟩).length < f + j → j ≤ (missF l ⟨fr, fr + sz⟩).length →
    Cs c E (40 + meas ((missF l ⟨fr, fr + sz⟩).take j)) → (∀ x, x ∈ E.map (·.1) ↔ x ∈ KS ∨ hasF ((missF l ⟨fr, fr + sz⟩).take j) x = true) →
    tidewracktop_TidewrackMissing_l5 K p1 p2 ⟨l⟩ (missF l ⟨fr, fr + sz⟩) f c.most c.now c.l (meas ((missF l ⟨fr, fr + sz⟩).take j)) (j : Int) = some true
  | 0, j, c, E, h1, h2, h3, h4 => by omega
  | f + 1, j, c, E, h1, h2, h3, h4 => by
    have ih := outer K hK p1 p2 fr sz hfr hsz b1 b2 hl hkl KS hKS f
    have hsum := meas_sum K hK p1 p2 fr sz hfr hsz b1 b2 hl
    obtain ⟨m1, m2⟩ := miss_ok hl ⟨fr, fr + sz⟩
    have hin := in_ok hl ⟨fr, fr + sz⟩
    have hmi := meas_le (-1152921504606846976) 1152921504606846976 _ hin.nf (fun y hy => ⟨(hin.bd y hy).1, (hin.bd y hy).2.2.2⟩) (by decide)
    have hml := m1.len
    generalize hms : missF l ⟨fr, fr + sz⟩ = ms at *
    unfold tidewracktop_TidewrackMissing_l5
    rw [cD]
    by_cases a : j < ms.length
    · have hw : IntKind.wrap .i64 ((j : Int) + 1) = ((j + 1 : Nat) : Int) := by rw [w64 (by omega) (by omega)]; omega
      have hspl : ms = ms.take j ++ ms[j] :: ms.drop (j + 1) := by rw [← List.drop_eq_getElem_cons a, List.take_append_drop]
      have hnf := m1.nf
      rw [hspl] at hnf
      have hbefore := nf_split hnf
      have hlt := m1.nf.mem_lt ms[j] (List.getElem_mem a)
      have hme : meas ms = meas (ms.take j) + ((ms[j]).To - (ms[j]).From) + meas (ms.drop (j + 1)) := by
        conv => lhs; rw [hspl]
        rw [meas_app]
        show _ + (((ms[j]).To - (ms[j]).From) + meas (ms.drop (j + 1))) = _
        omega
      have hnn : ∀ q : List T27, (∀ x ∈ q, x.From < x.To) → 0 ≤ meas q := by
        intro q
        induction q with
        | nil => intro _; exact Int.le_refl _
        | cons x q ihq =>
          intro hx
          have h5 := hx x (by simp)
          have h6 := ihq fun y hy => hx y (by simp [hy])
          show 0 ≤ (x.To - x.From) + meas q
          omega
      have n1 := hnn (ms.drop (j + 1)) fun x hx => m1.nf.mem_lt x (List.mem_of_mem_drop hx)
      have n2 := hnn (ms.take j) fun x hx => m1.nf.mem_lt x (List.mem_of_mem_take hx)
      have hd : ∀ i, (ms[j]).From ≤ i → i < (ms[j]).To → i ∉ KS ∧ hasF (ms.take j) i = false ∧ fr ≤ i ∧ i < fr + sz := by
        intro i g1 g2
        have hh : hasF ms i = true := (hasF_iff _ _).2 ⟨ms[j], List.getElem_mem a, g1, g2⟩
        rw [m2, fit_x fr sz b1 b2] at hh
        simp only [Bool.and_eq_true, Bool.not_eq_true', isin_iff] at hh
        refine ⟨fun hx => ?_, ?_, hh.2.1, hh.2.2⟩
        · rw [(hKS i).1 hx] at hh; cases hh.1
        · cases hq : hasF (ms.take j) i with
          | false => rfl
          | true =>
            obtain ⟨x, hx, g3, g4⟩ := (hasF_iff _ _).1 hq
            have := hbefore x hx
            omega
      obtain ⟨c', E', e, k1, k2⟩ := inner K hK p1 p2 fr sz hfr hsz b1 b2 ms (ms.take j) j a KS (j : Int) (tidewracktop_TidewrackMissing_l5 K p1 p2 ⟨l⟩ ms f) hd K c E (meas (ms.take j)) (ms[j]).From (by omega) (Int.le_refl _) (by omega) h3 (fun x => by
        rw [h4]
        constructor
        · rintro (g | g)
          · exact .inl g
          · exact .inr (.inl g)
        · rintro (g | g | g)
          · exact .inl g
          · exact .inr g
          · omega) n2 (by omega)
      have ht : ms.take (j + 1) = ms.take j ++ [ms[j]] := List.take_succ_eq_append_getElem a
      have hm2 : meas (ms.take (j + 1)) = meas (ms.take j) + ((ms[j]).To - (ms[j]).From) := by
        rw [ht, meas_app]
        show _ + (((ms[j]).To - (ms[j]).From) + 0) = _
        omega
      rw [if_pos (by omega), if_pos (by omega), rdD_get _ _ a, e, hw, ← hm2]
      rw [← hm2] at k1
      refine ih (j + 1) c' E' (by omega) (by omega) k1 fun x => ?_
      rw [k2, ht, hasF_app, Bool.or_eq_true]
      have : hasF [ms[j]] x = true ↔ (ms[j]).From ≤ x ∧ x < (ms[j]).To := by rw [hasF_iff]; simp
      rw [this]
    · have ht : ms.take j = ms := List.take_of_length_le (by omega)
      rw [ht] at h3 h4 ⊢
      have hn : meas ms ≤ 15 := by omega
      rw [if_neg (by omega)]
      subst hms
      exact last_part K hK p1 p2 fr sz hfr hsz b1 b2 hl hkl ⟨h3.inv, h3.most, h3.len, by have := h3.now; omega, h3.keys, h3.rows⟩ (fun x => by rw [h4, hKS])
theorem mid_part (K : Nat) (hK : 20000 ≤ K) (p1 p2 fr sz : Int) (hfr : bits .and .i64 p1 31 = fr) (hsz : bits .and .i64 p2 15 = sz) (b1 : 0 ≤ fr ∧ fr ≤ 31) (b2 : 0 ≤ sz ∧ sz ≤ 15) {c : T41} {E : List Ent} (h : Cs c E 40) : tidewracktop_TidewrackMissing_j1 K p1 p2 c.most c.now c.l = some true := by
  obtain ⟨r, e1, r1, r2⟩ := cspans_eq h.inv K hK
  have hEl : E.length ≤ 40 := by have := h.len; have := h.now; omega
  have hrl := r1.len
  obtain ⟨a1, a2⟩ := adds_ok r [] 0 ok_nil
  have hal := a1.len
  have hw3 : IntKind.wrap .i64 (fr + sz) = fr + sz := w64 (by omega) (by omega)
  have hc : (⟨c.most, c.now, c.l⟩ : T41) = c := rfl
  have hhas : ∀ n, hasF (r.foldl addS []) n = decide (n ∈ E.map (·.1)) := fun n => by
    rw [a2, hasF_nil, Bool.false_or, anyF_bd _ r1.bd, r2, decide_eq_decide]
    constructor
    · exact fun q => q.1
    · intro q
      obtain ⟨e, he, rfl⟩ := List.mem_map.1 q
      have := h.keys e he
      exact ⟨q, by omega⟩
  obtain ⟨d1, d2⟩ := miss_ok a1 ⟨fr, fr + sz⟩
  have hdl := d1.len
  unfold tidewracktop_TidewrackMissing_j1
  rw [hc, e1, bS, add_eq K hK [] r (by simp; omega), bS, hfr, hsz, hw3, miss_eq K hK a1 (by omega), bS]
  have := outer K hK p1 p2 fr sz hfr hsz b1 b2 a1 (by omega) (E.map (·.1)) (fun x => by rw [hhas]; simp) K 0 c E (by omega) (by omega) h (fun x => by simp [hasF_nil])
  exact this
theorem puts_loop (K : Nat) (hK : 20000 ≤ K) (p0 : List Int) (p1 p2 : Int) (fin : ∀ c E, Cs c E 40 → tidewracktop_TidewrackMissing_j1 K p1 p2 c.most c.now c.l = some true) : ∀ (k i : Nat) (c : T41) (E : List Ent), 40 < k + i → i ≤ 40 → Cs c E (i : Int) →
    tidewracktop_TidewrackMissing_l9 K p0 p1 p2 k c.most c.now c.l (i : Int) = some true
  | 0, i, c, E, h1, h2, h3 => by omega
  | k + 1, i, c, E, h1, h2, h3 => by
    have ih := puts_loop K hK p0 p1 p2 fin k
    have stop := fin c E ⟨h3.inv, h3.most, h3.len, by have := h3.now; omega, h3.keys, h3.rows⟩
    unfold tidewracktop_TidewrackMissing_l9
    rw [cD]
    by_cases a : i < p0.length
    · rw [if_pos (by omega), cD]
      by_cases b : i < 40
      · have hw : IntKind.wrap .i64 ((i : Int) + 1) = ((i + 1 : Nat) : Int) := by rw [w64 (by omega) (by omega)]; omega
        obtain ⟨m, m1, m2⟩ := and_le p0[i] 31 (by decide)
        rw [show ((31 : Nat) : Int) = 31 from rfl] at m2
        obtain ⟨c', E', e1, k1, k2⟩ := put_cs h3 (by omega) K (by omega) (m : Int) (by omega)
        have hc : (⟨c.most, c.now, c.l⟩ : T41) = c := rfl
        rw [if_pos (by omega)]
        unfold tidewracktop_TidewrackMissing_j10
        rw [if_pos (by omega), rdD_get _ _ a, m2, hc, e1, bS, hw]
        exact ih (i + 1) c' E' (by omega) (by omega) k1
      · rw [if_neg (by omega)]; exact stop
    · rw [if_neg (by omega)]; exact stop
theorem TidewrackMissing (x0 : List Int) (w0 : ∀ y ∈ x0, (WF.wfi64) y) (l0 : x0.length ≤ maxLen) (x1 : Int) (w1 : (Lit.int .i64 x1).wf = true) (x2 : Int) (w2 : (Lit.int .i64 x2).wf = true) : ∃ K, tidewracktop_TidewrackMissing K x0 x1 x2 = some true := by
  refine ⟨20000, ?_⟩
  obtain ⟨m, m1, m2⟩ := and_le x1 31 (by decide)
  obtain ⟨n, n1, n2⟩ := and_le x2 15 (by decide)
  rw [show ((31 : Nat) : Int) = 31 from rfl] at m2
  rw [show ((15 : Nat) : Int) = 15 from rfl] at n2
  obtain ⟨c, e, q1, q2, h⟩ := new_inv 64
  have hm : mxI 1 (mnI 64 65536) = 64 := by decide
  rw [hm] at q1
  unfold tidewracktop_TidewrackMissing
  rw [e, bS]
  exact puts_loop 20000 (Nat.le_refl _) x0 x1 x2 (fun c E hc => mid_part 20000 (Nat.le_refl _) x1 x2 m n m2 n2 (by omega) (by omega) hc) 20000 0 c [] (by omega) (by omega) ⟨h, q1, by simp [q2], by omega, fun e he => absurd he (by simp), fun e he => absurd he (by simp)⟩
end Go.Proofs.Ytpciioffkjpieaa.Pure
