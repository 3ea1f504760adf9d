/- Plain laws: what the plain functions answer, with no program in sight. -/
import Derived.Test.YtpciioffkjpieaaDoorVCS
import Derived.Test.YtpciioffkjpieaaDoorWPX
set_option linter.unusedVariables false
set_option linter.unusedSimpArgs false
namespace Go.Proofs.YtpciioffkjpieaaDoor.Pure
open Go Go.Proofs.XC Go.Proofs.YtpciioffkjpieaaDoor

/-! ### TidewrackHand -/
theorem hmnI (a b : Nat) : mnI (a : Int) (b : Int) = ((min a b : Nat) : Int) := by unfold mnI; split <;> omega
abbrev rowOf (p0 : T54) (j : Nat) : List T36 := (p0.Lines.getD j []).take 30
theorem rowOf_len (p0 : T54) (j : Nat) : (rowOf p0 j).length ≤ 30 := by unfold rowOf; rw [List.length_take]; omega
theorem row_eq (p0 : T54) (i : Nat) (hi : i < p0.Lines.length) : List.drop 0 (List.take (Int.toNat (mnI (((rdD [] p0.Lines (i : Int)).length : Nat) : Int) 30)) (rdD [] p0.Lines (i : Int))) = rowOf p0 i ∧ 0 ≤ mnI (((rdD [] p0.Lines (i : Int)).length : Nat) : Int) 30 ∧ mnI (((rdD [] p0.Lines (i : Int)).length : Nat) : Int) 30 ≤ (((rdD [] p0.Lines (i : Int)).length : Nat) : Int) ∧
    mnI (((rdD [] p0.Lines (i : Int)).length : Nat) : Int) 30 = ((rowOf p0 i).length : Int) := by
  rw [rdD_get _ _ hi, show (30 : Int) = ((30 : Nat) : Int) from rfl, hmnI, Int.toNat_natCast, List.drop_zero]
  have e : rowOf p0 i = (p0.Lines[i]).take 30 := by
    unfold rowOf
    rw [List.getD_eq_getElem?_getD, List.getElem?_eq_getElem hi, Option.getD_some]
  refine ⟨?_, by omega, by omega, ?_⟩
  · rw [e, Nat.min_comm, ← List.take_take, List.take_of_length_le (l := p0.Lines[i]) (Nat.le_refl _)]
  · rw [e, List.length_take, Nat.min_comm]
theorem row_ir (p0 : T54) (w0 : WF.wfT54 p0) (i : Nat) : PureF.IR (rowOf p0 i) := by
  intro r hr
  unfold PureF.ru at hr
  obtain ⟨g, hg, rfl⟩ := List.mem_map.1 hr
  unfold rowOf at hg
  have hg := List.mem_of_mem_take hg
  rw [List.getD_eq_getElem?_getD] at hg
  cases hl : p0.Lines[i]? with
  | none => rw [hl] at hg; cases hg
  | some l =>
    rw [hl, Option.getD_some] at hg
    exact wf32 ((w0.1 l (List.mem_of_getElem? hl)).1 g hg).1
/-- What is at hand: the first t numbers, each with its row. -/
structure Hm (p0 : T54) (t : Nat) (c : T118) (E : List Ent) : Prop where
  inv : Inv c E
  most : c.most = 30
  now : c.now ≤ 100
  key : ∀ x, x ∈ E.map (·.1) ↔ 0 ≤ x ∧ x < (t : Int)
  val : ∀ e ∈ E, ∃ j : Nat, e.1 = (j : Int) ∧ e.2.l = rowOf p0 j
theorem hm_len {p0 : T54} {t : Nat} {c : T118} {E : List Ent} (h : Hm p0 t c E) : E.length = t := by
  have h1 := cnt_list 0 t (E.map (·.1)) h.inv.ap (fun x hx => by have := (h.key x).1 hx; omega)
  rw [cnt_congr (q := isin ⟨0, (t : Int)⟩) (fun n => by unfold isin; rw [decide_eq_decide, h.key]) 0 t, cnt_one ⟨0, (t : Int)⟩ 0 (by dsimp only; omega) (by dsimp only; omega), List.length_map] at h1
  dsimp only at h1
  revert h1
  (repeat' split) <;> intro h1 <;> omega
theorem putE_keys (E : List Ent) (k : Int) (l : List T36) (n x : Int) : x ∈ (putE E k l n).map (·.1) ↔ x ∈ E.map (·.1) ∨ x = k := by
  unfold putE
  rw [List.map_append, List.mem_append]
  constructor
  · rintro (h | h)
    · obtain ⟨e, he, rfl⟩ := List.mem_map.1 h
      exact .inl (List.mem_map_of_mem (without_mem.1 he).1)
    · exact .inr (by simpa using h)
  · rintro (h | h)
    · obtain ⟨e, he, rfl⟩ := List.mem_map.1 h
      by_cases q : e.1 = k
      · exact .inr (by simp [q])
      · exact .inl (List.mem_map_of_mem (without_mem.2 ⟨he, q⟩))
    · exact .inr (by simp [h])
theorem hand_get {p0 : T54} {t : Nat} {c : T118} {E : List Ent} (h : Hm p0 t c E) (ht : t ≤ 20) (hn : c.now ≤ 80) (i : Nat) (hi : i < t) : ∃ c' E', cache_Cache_Get c (i : Int) = some (rowOf p0 i, true, c') ∧ Hm p0 t c' E' ∧ c'.now ≤ c.now + 1 := by
  have hl := hm_len h
  have hin : (i : Int) ∈ E.map (·.1) := (h.key _).2 (by omega)
  obtain ⟨e0, he0, hek⟩ := List.mem_map.1 hin
  have hfind : mfind E (i : Int) = some e0.2 := (mfind_iff h.inv.ap).2 (by rw [← hek]; exact he0)
  obtain ⟨j, hj2, hj3⟩ := h.val e0 he0
  have hji : j = i := by omega
  subst hji
  obtain ⟨c', e1, m1, n1, hi'⟩ := get_eq h.inv (fun e he => by
    obtain ⟨j', _, hj4⟩ := h.val e he
    rw [hj4]; have := rowOf_len p0 j'; omega) (j : Int) (by omega) (by omega) (by omega)
  rw [hfind] at e1 hi'
  dsimp only [Option.getD_some, Option.isSome_some] at e1 hi'
  rw [hj3] at e1
  refine ⟨c', _, e1, ⟨hi', by rw [m1, h.most], by omega, fun x => ?_, fun e he => ?_⟩, n1⟩
  · rw [putE_keys, h.key]
    constructor
    · rintro (q | q) <;> omega
    · exact fun q => .inl q
  · rcases List.mem_append.1 he with he | he
    · exact h.val e (without_mem.1 he).1
    · rw [List.mem_singleton.1 he]
      exact ⟨j, rfl, hj3⟩
theorem eq36 (x : T36) : eqT36 x x = true := by simp [eqT36]
theorem hand_l9 (p0 : T54) (sn : Int) (i : Nat) (hi : i < p0.Lines.length) (lp : Int → Int → M T129 → Int → Int → Option Bool) (g : (List T36) × Bool × T118) : ∀ (k j : Nat), (rowOf p0 i).length < k + j → j ≤ (rowOf p0 i).length →
    tidewracktop_TidewrackHand_l9 p0 sn (i : Int) lp g (rowOf p0 i) k (j : Int) = tidewracktop_TidewrackHand_j8 sn (i : Int) lp g
  | 0, j, h1, h2 => by omega
  | k + 1, j, h1, h2 => by
    have ih := hand_l9 p0 sn i hi lp g k
    have hr := rowOf_len p0 i
    unfold tidewracktop_TidewrackHand_l9
    rw [cD]
    by_cases a : j < (rowOf p0 i).length
    · have hw : IntKind.wrap .i64 ((j : Int) + 1) = ((j + 1 : Nat) : Int) := by rw [w64 (by omega) (by omega)]; omega
      have e : rowOf p0 i = (p0.Lines[i]).take 30 := by
        unfold rowOf
        rw [List.getD_eq_getElem?_getD, List.getElem?_eq_getElem hi, Option.getD_some]
      have hjl : j < (p0.Lines[i]).length := by rw [e, List.length_take] at a; omega
      have e2 : (rowOf p0 i)[j] = (p0.Lines[i])[j] := by simp only [e, List.getElem_take]
      rw [if_pos (by omega), if_pos (by omega), rdD_get _ _ hi, if_pos (by omega), rdD_get _ _ a, rdD_get _ _ hjl, e2, eq36, Bool.not_true, cond_false, hw]
      exact ih (j + 1) (by omega) (by omega)
    · rw [if_neg (by omega)]
theorem hand_l6 (K : Nat) (hK : 20000 ≤ K) (p0 : T54) (w0 : WF.wfT54 p0) (n : Nat) (hn : n ≤ 20 ∧ n ≤ p0.Lines.length) (q : List T67) (jq : Nat) (hq : jq < q.length) (hq0 : 0 ≤ (q[jq]).From ∧ (q[jq]).To ≤ (n : Int)) (lp : Int → Int → M T129 → Int → Int → Option Bool) :
    ∀ (f : Nat) (i : Nat) (c : T118) (E : List Ent) (sn : Int), ((q[jq]).To - (i : Int)).toNat < f → (q[jq]).From ≤ (i : Int) → (i : Int) ≤ (q[jq]).To → Hm p0 n c E → c.now ≤ 40 + (i : Int) → 0 ≤ sn ∧ sn ≤ (i : Int) →
    ∃ c' E', tidewracktop_TidewrackHand_l6 K p0 q (jq : Int) lp f c.most c.now c.l sn (i : Int) = lp c'.most c'.now c'.l (sn + ((q[jq]).To - (i : Int))) (IntKind.wrap .i64 ((jq : Int) + 1)) ∧ Hm p0 n c' E'
  | 0, i, c, E, sn, h1, h2, h3, h4, h5, h6 => by omega
  | f + 1, i, c, E, sn, h1, h2, h3, h4, h5, h6 => by
    have ih := hand_l6 K hK p0 w0 n hn q jq hq hq0 lp f
    unfold tidewracktop_TidewrackHand_l6
    rw [rdD_get _ _ hq, cD]
    by_cases a : (i : Int) < (q[jq]).To
    · have hil : i < p0.Lines.length := by omega
      obtain ⟨c', E', e1, k1, k2⟩ := hand_get h4 hn.1 (by omega) i (by omega)
      have hr := rowOf_len p0 i
      obtain ⟨d1, d2, d3, d4⟩ := row_eq p0 i hil
      have hrows := PureF.rowsF_len (rowOf p0 i) p0.W
      have hc : (⟨c.most, c.now, c.l⟩ : T118) = c := rfl
      have hw1 : IntKind.wrap .i64 (sn + 1) = sn + 1 := w64 (by omega) (by omega)
      have hw2 : IntKind.wrap .i64 ((i : Int) + 1) = ((i + 1 : Nat) : Int) := by rw [w64 (by omega) (by omega)]; omega
      rw [if_pos a, hc, e1, bS]
      dsimp only
      rw [Bool.not_true, cond_false, PureF.cut_eq K (by omega) _ p0.W (by omega) (row_ir p0 w0 i), bS, PureF.join_eq K _ (by omega) (by rw [PureF.rowsF_flat]; omega) (by omega), bS, PureF.rowsF_flat, if_pos (by omega), cN, d4, if_pos rfl]
      have h9 := hand_l9 p0 sn i hil (tidewracktop_TidewrackHand_l6 K p0 q (jq : Int) lp f) (rowOf p0 i, true, c') K 0 (by omega) (by omega)
      rw [show ((0 : Nat) : Int) = 0 from rfl] at h9
      rw [h9]
      unfold tidewracktop_TidewrackHand_j8 tidewracktop_TidewrackHand_j7
      dsimp only
      rw [hw1, hw2]
      obtain ⟨c2, E2, e2, k3⟩ := ih (i + 1) c' E' (sn + 1) (by omega) (by omega) (by omega) k1 (by omega) (by omega)
      have e5 : sn + 1 + ((q[jq]).To - ((i + 1 : Nat) : Int)) = sn + ((q[jq]).To - (i : Int)) := by omega
      rw [e5] at e2
      exact ⟨c2, E2, e2, k3⟩
    · rw [if_neg a]
      unfold tidewracktop_TidewrackHand_j5
      have : (q[jq]).To - (i : Int) = 0 := by omega
      rw [this, Int.add_zero]
      exact ⟨c, E, rfl, h4⟩
theorem hand_j2 (K : Nat) (hK : 20000 ≤ K) (p0 : T54) (w0 : WF.wfT54 p0) (n : Nat) (hn : n ≤ 20 ∧ n ≤ p0.Lines.length) (hnn : mnI (p0.Lines.length : Int) 20 = (n : Int)) (c : T118) (E : List Ent) (h : Hm p0 n c E) (hnow : c.now ≤ 40) : tidewracktop_TidewrackHand_j2 K p0 c.most c.now c.l = some true := by
  obtain ⟨fm, fm1, fm2⟩ := and_le p0.From 31 (by decide)
  obtain ⟨tm, tm1, tm2⟩ := and_le p0.To 31 (by decide)
  rw [show ((31 : Nat) : Int) = 31 from rfl] at fm2 tm2
  obtain ⟨r, e, r1, r2⟩ := cspans_eq h.inv K hK
  have hEl := hm_len h
  have hrl := r1.len
  obtain ⟨a1, a2⟩ := adds_ok r [] 0 ok_nil
  have hal := a1.len
  have hc : (⟨c.most, c.now, c.l⟩ : T118) = c := rfl
  have hhas : ∀ x, hasF (r.foldl addS []) x = decide (0 ≤ x ∧ x < (n : Int)) := fun x => by
    rw [a2, hasF_nil, Bool.false_or, anyF_bd _ r1.bd, r2, decide_eq_decide, h.key]
    omega
  have hin := in_ok a1 ⟨(fm : Int), (tm : Int)⟩
  have hfit : fitF ⟨(fm : Int), (tm : Int)⟩ = ⟨(fm : Int), (tm : Int)⟩ := fit_id fun z hz => by rw [List.mem_singleton.1 hz]; dsimp only; omega
  have hmin : mnI (tm : Int) (n : Int) = ((min tm n : Nat) : Int) := hmnI tm n
  have hws : IntKind.wrap .i64 (((min tm n : Nat) : Int) - (fm : Int)) = ((min tm n : Nat) : Int) - (fm : Int) := w64 (by omega) (by omega)
  have fin : ∀ c' E' (sn : Int), Hm p0 n c' E' → sn = mxI 0 (((min tm n : Nat) : Int) - (fm : Int)) → tidewracktop_TidewrackHand_j3 p0 c'.most c'.now c'.l sn = some true := by
    intro c' E' sn h' hsn
    have hc' : (⟨c'.most, c'.now, c'.l⟩ : T118) = c' := rfl
    unfold tidewracktop_TidewrackHand_j3 cache_Cache_Len
    rw [tm2, fm2, hnn, hmin, hws, cE, if_pos hsn, hc', bS, h'.inv.length, hm_len h']
    simp
  unfold tidewracktop_TidewrackHand_j2
  rw [hc, e, bS, add_eq K hK [] r (by simp; omega), bS, fm2, tm2, in_eq K _ _ (by omega) (by omega), bS, hfit]
  rw [hfit] at hin
  have hi2 : ∀ x, hasF (in1 ⟨(fm : Int), (tm : Int)⟩ (r.foldl addS [])) x = decide ((fm : Int) ≤ x ∧ x < ((min tm n : Nat) : Int)) := fun x => by
    rw [in1_has, hhas]
    unfold isin
    rw [← Bool.decide_and, decide_eq_decide]
    dsimp only
    omega
  obtain ⟨K2, rfl⟩ : ∃ K2, K = K2 + 1 := ⟨K - 1, by omega⟩
  by_cases hz : fm < min tm n
  · have hr : in1 ⟨(fm : Int), (tm : Int)⟩ (r.foldl addS []) = [⟨(fm : Int), ((min tm n : Nat) : Int)⟩] := NF.uniq hin.nf ⟨by dsimp only; omega, by simp, trivial⟩ fun x => by
      rw [hi2]
      show _ = (isin ⟨(fm : Int), ((min tm n : Nat) : Int)⟩ x || false)
      rw [Bool.or_false]
      rfl
    rw [hr]
    obtain ⟨c', E', e1, k1⟩ := hand_l6 (K2 + 1) hK p0 w0 n hn [⟨(fm : Int), ((min tm n : Nat) : Int)⟩] 0 (by simp) (by dsimp only [List.getElem_cons_zero]; omega) (tidewracktop_TidewrackHand_l4 (K2 + 1) p0 [⟨(fm : Int), ((min tm n : Nat) : Int)⟩] K2) (K2 + 1) fm c E 0 (by dsimp only [List.getElem_cons_zero]; omega) (by dsimp only [List.getElem_cons_zero]; omega) (by dsimp only [List.getElem_cons_zero]; omega) h (by omega) (by omega)
    rw [show ((0 : Nat) : Int) = 0 from rfl] at e1
    have hr0 : rdD zT67 [(⟨(fm : Int), ((min tm n : Nat) : Int)⟩ : T67)] 0 = ⟨(fm : Int), ((min tm n : Nat) : Int)⟩ := rfl
    unfold tidewracktop_TidewrackHand_l4
    rw [cD, if_pos (by simp), if_pos (by simp), hr0]
    dsimp only
    rw [e1]
    obtain ⟨K3, rfl⟩ : ∃ K3, K2 = K3 + 1 := ⟨K2 - 1, by omega⟩
    have hw1 : IntKind.wrap .i64 (0 + 1) = 1 := by decide
    rw [hw1]
    unfold tidewracktop_TidewrackHand_l4
    rw [cD, if_neg (by simp)]
    refine fin c' E' _ k1 ?_
    dsimp only [List.getElem_cons_zero]
    unfold mxI; split <;> omega
  · have hr : in1 ⟨(fm : Int), (tm : Int)⟩ (r.foldl addS []) = [] := nil_of hin.nf fun x => by
      rw [hi2]
      apply decide_eq_false
      omega
    rw [hr]
    unfold tidewracktop_TidewrackHand_l4
    rw [cD, if_neg (by simp)]
    refine fin c E 0 h ?_
    unfold mxI; split <;> omega
theorem hand_l10 (K : Nat) (hK : 20000 ≤ K) (p0 : T54) (w0 : WF.wfT54 p0) (n : Nat) (hn : n ≤ 20 ∧ n ≤ p0.Lines.length) (hnn : mnI (p0.Lines.length : Int) 20 = (n : Int)) : ∀ (k i : Nat) (c : T118) (E : List Ent), n < k + i → i ≤ n → Hm p0 i c E → c.now ≤ (i : Int) →
    tidewracktop_TidewrackHand_l10 K p0 k c.most c.now c.l (i : Int) = some true
  | 0, i, c, E, h1, h2, h3, h4 => by omega
  | k + 1, i, c, E, h1, h2, h3, h4 => by
    have ih := hand_l10 K hK p0 w0 n hn hnn k
    have hEl := hm_len h3
    unfold tidewracktop_TidewrackHand_l10
    rw [cD, hnn]
    by_cases b : i < n
    · have hw : IntKind.wrap .i64 ((i : Int) + 1) = ((i + 1 : Nat) : Int) := by rw [w64 (by omega) (by omega)]; omega
      obtain ⟨d1, d2, d3, d4⟩ := row_eq p0 i (by omega)
      have hr := rowOf_len p0 i
      have hlp := putE_len E (i : Int) (rowOf p0 i) (c.now + 1)
      obtain ⟨c', e1, m1, n1, hi⟩ := put_eq h3.inv K (by omega) (i : Int) (by omega) (rowOf p0 i) (by omega) (by omega) (by omega)
      have hpr : putR c.most (putE E (i : Int) (rowOf p0 i) (c.now + 1)) = (0, false, putE E (i : Int) (rowOf p0 i) (c.now + 1)) := by
        unfold putR
        rw [h3.most, if_pos (by omega)]
      rw [hpr] at e1 hi
      have hc : (⟨c.most, c.now, c.l⟩ : T118) = c := rfl
      rw [if_pos (by omega), if_pos (by omega), if_pos d2, if_pos d3, d1, hc, e1, bS]
      dsimp only
      rw [hw]
      refine ih (i + 1) c' _ (by omega) (by omega) ⟨hi, by rw [m1, h3.most], by omega, fun x => ?_, fun e he => ?_⟩ (by omega)
      · show x ∈ (putE E (i : Int) (rowOf p0 i) (c.now + 1)).map (·.1) ↔ _
        rw [putE_keys, h3.key]
        omega
      · rcases List.mem_append.1 he with he | he
        · exact h3.val e (without_mem.1 he).1
        · rw [List.mem_singleton.1 he]
          exact ⟨i, rfl, rfl⟩
    · have e1 : n = i := by omega
      subst e1
      rw [if_neg (by omega)]
      exact hand_j2 K hK p0 w0 n hn hnn c E h3 (by omega)
theorem TidewrackHand (x0 : T54) (w0 : (WF.wfT54) x0) : ∃ K, tidewracktop_TidewrackHand K x0 = some true := by
  refine ⟨20000, ?_⟩
  have hnn : mnI (x0.Lines.length : Int) 20 = ((min x0.Lines.length 20 : Nat) : Int) := hmnI _ 20
  obtain ⟨c, e, q1, q2, h⟩ := new_inv 30
  have hm : mxI 1 (mnI 30 65536) = 30 := by decide
  rw [hm] at q1
  have hone : (PureF.rowsF [] 2).length = 1 := rfl
  unfold tidewracktop_TidewrackHand
  rw [e, bS, PureF.cut_eq 20000 (by omega) [] 2 (by simp) (fun r hr => by cases hr), bS, hone, cN, if_pos (show ((1 : Nat) : Int) = 1 from rfl)]
  unfold tidewracktop_TidewrackHand_j1
  exact hand_l10 20000 (Nat.le_refl _) x0 w0 (min x0.Lines.length 20) (by omega) hnn 20000 0 c [] (by omega) (by omega) ⟨h, q1, by omega, fun x => by simp only [List.map_nil, List.not_mem_nil, false_iff]; omega, fun e he => absurd he (by simp)⟩ (by omega)
end Go.Proofs.YtpciioffkjpieaaDoor.Pure
