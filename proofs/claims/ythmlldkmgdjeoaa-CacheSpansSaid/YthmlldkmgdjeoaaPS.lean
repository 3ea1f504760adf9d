/- Plain laws: what the plain functions answer, with no program in sight. -/
import Derived.Test.YthmlldkmgdjeoaaPB
import Derived.Test.YthmlldkmgdjeoaaCT
set_option linter.unusedVariables false
set_option linter.unusedSimpArgs false
namespace Go.Proofs.Ythmlldkmgdjeoaa.Pure
open Go Go.Proofs.XC Go.Proofs.Ythmlldkmgdjeoaa

/-! ### The order in which they were asked for -/
theorem order_eq {c : T62} {E : List Ent} (h : Inv c E) : cache_Cache_Order c = some (E.map (·.1)) := by
  have hg : ∀ e ∈ E, (M.get zT71 c.l e.1) = e.2 := fun e he => by
    rw [h.get, (mfind_iff h.ap).2 (show (e.1, e.2) ∈ _ from he)]; rfl
  have hsort : (E.map (·.1)).Pairwise fun a b => (M.get zT71 c.l a).at_ ≤ (M.get zT71 c.l b).at_ := by
    rw [List.pairwise_map]
    refine h.up.imp_of_mem fun {a b} ha hb hab => ?_
    rw [hg a ha, hg b hb]; omega
  have hlen := h.len
  unfold cache_Cache_Order maps_Keys'
  rw [bS]
  unfold slices_SortedFunc_of42_32
  rw [if_pos h.keysOK]
  have hin : ∀ ks : List Int, ks.Perm (M.keys c.l) → (if ks.length ≤ 1000000000 then (ordP (fun l_ => List.Perm l_ ks ∧ List.Pairwise (fun a_ b_ => (M.get zT71 c.l a_).at_ ≤ (M.get zT71 c.l b_).at_) l_) fun ks18 => (some ks18)) else none) = some (E.map (·.1)) := by
    intro ks hp
    have hp2 := hp.trans h.keys
    have hl : ks.length = E.length := by rw [hp2.length_eq, List.length_map]
    rw [if_pos (by omega)]
    refine ordP_of (fun l hl => ?_) (E.map (·.1)) ⟨hp2.symm, hsort⟩
    congr 1
    refine List.Perm.eq_of_pairwise (le := fun a b => (M.get zT71 c.l a).at_ ≤ (M.get zT71 c.l b).at_) (fun a b ha hb h1 h2 => ?_) hl.2 hsort (hl.1.trans hp2)
    have ha' := (hl.1.trans hp2).mem_iff.1 ha
    obtain ⟨ea, hea, rfl⟩ := List.mem_map.1 ha'
    obtain ⟨eb, heb, rfl⟩ := List.mem_map.1 hb
    rw [hg ea hea, hg eb heb] at h1 h2
    have hat : ea.2.at_ = eb.2.at_ := Int.le_antisymm h1 h2
    have key : ∀ l : List Ent, l.Pairwise (fun a b => a.2.at_ < b.2.at_) → ea ∈ l → eb ∈ l → ea = eb := by
      intro l
      induction l with
      | nil => intro _ h; cases h
      | cons z l ih =>
        intro hpw h3 h4
        have hq := List.pairwise_cons.1 hpw
        rcases List.mem_cons.1 h3 with g3 | g3
        · rcases List.mem_cons.1 h4 with g4 | g4
          · rw [g3, g4]
          · have := hq.1 eb g4; rw [g3] at hat; omega
        · rcases List.mem_cons.1 h4 with g4 | g4
          · have := hq.1 ea g3; rw [g4] at hat; omega
          · exact ih hq.2 g3 g4
    rw [key E h.up hea heb]
  have h2 : (ordP (fun l_ => List.Perm l_ (M.keys c.l)) fun ks7 => (if (ks7).length ≤ 1000000000 then (ordP (fun l_ => List.Perm l_ ks7 ∧ List.Pairwise (fun a_ b_ => (M.get zT71 c.l a_).at_ ≤ (M.get zT71 c.l b_).at_) l_) fun ks18 => (some ks18)) else none)) = some (E.map (·.1)) :=
    ordP_of (fun ks hp => hin ks hp) (M.keys c.l) (List.Perm.refl _)
  rw [h2, bS]
/-! ### The reference's cache -/
def tellE (e : Ent) : T87 := ⟨e.1, e.2.l.map tellG⟩
theorem newest_loop (m : Int) (L : List T87) (e : T87) (hL : L.length ≤ 100000) : ∀ (k i : Nat) (acc : List T87), L.length < k + i → i ≤ L.length → acc.length ≤ i → tidewrackref14_newest_l2 ⟨m, L⟩ e k acc (i : Int) = some ⟨m, acc ++ (L.drop i).filter (fun x => decide (x.I ≠ e.I)) ++ [e]⟩
  | 0, i, acc, h1, h2, h3 => by omega
  | k + 1, i, acc, h1, h2, h3 => by
    have ih := newest_loop m L e hL k
    unfold tidewrackref14_newest_l2
    rw [cD]
    by_cases a : i < L.length
    · have hw : IntKind.wrap .i64 ((i : Int) + 1) = ((i + 1 : Nat) : Int) := by rw [w64 (by omega) (by omega)]; omega
      dsimp only
      rw [if_pos (by omega), if_pos (by omega), rdD_get _ _ a, cN, hw, List.drop_eq_getElem_cons a]
      by_cases b : (L[i]).I = e.I
      · rw [if_pos b, List.filter_cons_of_neg (by simp [b])]
        exact ih (i + 1) acc (by omega) (by omega) (by omega)
      · rw [if_neg b, if_pos (by simp; omega), List.filter_cons_of_pos (by simp [b]), ih (i + 1) _ (by omega) (by omega) (by simp; omega)]
        simp
    · dsimp only
      rw [if_neg (by omega), List.drop_eq_nil_of_le (by omega)]
      unfold tidewrackref14_newest_j1
      rw [if_pos (by simp; omega)]
      simp
theorem newest_eq (K : Nat) (m : Int) (L : List T87) (e : T87) (hL : L.length ≤ 100000) (hK : L.length < K) : tidewrackref14_newest K ⟨m, L⟩ e = some ⟨m, L.filter (fun x => decide (x.I ≠ e.I)) ++ [e]⟩ := by
  unfold tidewrackref14_newest
  have := newest_loop m L e hL K 0 [] (by omega) (by omega) (by simp)
  rw [show ((0 : Nat) : Int) = 0 from rfl] at this
  rw [this]; simp
theorem newest_tell (E : List Ent) (k : Int) (l : List T59) (n : Int) : (E.map tellE).filter (fun x => decide (x.I ≠ k)) ++ [⟨k, l.map tellG⟩] = (putE E k l n).map tellE := by
  unfold putE without
  rw [List.map_append, List.filter_map]
  rfl
theorem find_loop (m : Int) (E : List Ent) (k : Int) (hE : E.length ≤ 100000) : ∀ (f i : Nat), E.length < f + i → i ≤ E.length → tidewrackref14_Find_l2 ⟨m, E.map tellE⟩ k f (i : Int) = some (((mfind (E.drop i) k).getD zT71).l.map tellG, (mfind (E.drop i) k).isSome)
  | 0, i, h1, h2 => by omega
  | f + 1, i, h1, h2 => by
    have ih := find_loop m E k hE f
    unfold tidewrackref14_Find_l2
    rw [cD]
    dsimp only
    rw [List.length_map]
    by_cases a : i < E.length
    · have hw : IntKind.wrap .i64 ((i : Int) + 1) = ((i + 1 : Nat) : Int) := by rw [w64 (by omega) (by omega)]; omega
      rw [if_pos (by omega), if_pos (by omega), rdD_get _ _ (by rw [List.length_map]; exact a), List.getElem_map, cE, hw, List.drop_eq_getElem_cons a, mfind]
      by_cases b : (E[i]).1 = k
      · rw [if_pos (show (tellE E[i]).I = k from b), if_pos b]; rfl
      · rw [if_neg (show ¬ (tellE E[i]).I = k from b), if_neg b]
        exact ih (i + 1) (by omega) (by omega)
    · rw [if_neg (by omega), List.drop_eq_nil_of_le (by omega)]; rfl
theorem find_eq (K : Nat) (m : Int) (E : List Ent) (k : Int) (hE : E.length ≤ 100000) (hK : E.length < K) : tidewrackref14_Find K ⟨m, E.map tellE⟩ k = some (((mfind E k).getD zT71).l.map tellG, (mfind E k).isSome) := by
  unfold tidewrackref14_Find
  have := find_loop m E k hE K 0 (by omega) (by omega)
  rw [show ((0 : Nat) : Int) = 0 from rfl] at this
  exact this
/-- A cache is the reference's. -/
structure Alike (c : T62) (x : T50) (E : List Ent) : Prop where
  inv : Inv c E
  most : x.Most = c.most
  pos : 1 ≤ c.most
  l : x.L = E.map tellE
  rows : ∀ e ∈ E, e.2.l.length ≤ 20
  le : (E.length : Int) ≤ c.most
theorem putE_old {E : List Ent} {k : Int} {v : T71} (hap : Ap E) (hf : mfind E k = some v) (l : List T59) (n : Int) : (putE E k l n).length = E.length := by
  have h1 := (mput_perm (v := (⟨l, n⟩ : T71)) (k := k) hap).length_eq
  obtain ⟨j, hj⟩ := List.getElem?_of_mem ((mfind_iff hap).1 hf)
  rw [mput_at hap hj, List.length_set] at h1
  exact h1.symm
theorem rput_eq (K : Nat) (m : Int) (E : List Ent) (k : Int) (hk : 0 ≤ k ∧ k ≤ 1152921504606846976) (l : List T59) (n : Int) (hm : 1 ≤ m) (hE : E.length ≤ 1000) (hK : 2000 ≤ K) :
    tidewrackref14_Put K ⟨m, E.map tellE⟩ k (l.map tellG) = some (⟨m, (putR m (putE E k l n)).2.2.map tellE⟩, (putR m (putE E k l n)).1, (putR m (putE E k l n)).2.1) := by
  have hl := putE_len E k l n
  unfold tidewrackref14_Put tidewrackref14_Put_j2 tidewrackref14_Put_j1
  rw [cD, if_neg (by omega), decide_eq_false (by omega), cond_false, newest_eq K m _ _ (by rw [List.length_map]; omega) (by rw [List.length_map]; omega), bS]
  dsimp only
  rw [newest_tell E k l n, cD, List.length_map]
  unfold putR
  by_cases a : (((putE E k l n).length : Nat) : Int) ≤ m
  · rw [if_pos a, if_pos a]
  · rw [if_neg a, if_neg a, if_pos (by omega), if_pos (by omega)]
    obtain ⟨e0, E0, he⟩ : ∃ e0 E0, putE E k l n = e0 :: E0 := List.exists_cons_of_ne_nil (by unfold putE; simp)
    rw [he]
    have : (List.drop (Int.toNat 1) (List.take (e0 :: E0).length (List.map tellE (e0 :: E0)))) = E0.map tellE := by
      rw [List.take_of_length_le (by simp)]; rfl
    rw [this]; rfl
theorem putR_mem {most : Int} {E1 : List Ent} {e : Ent} (h : e ∈ (putR most E1).2.2) : e ∈ E1 := by
  unfold putR at h
  split at h
  · exact h
  · exact List.mem_of_mem_tail h
theorem do_eq (K : Nat) (hK : 2000 ≤ K) {c : T62} {x : T50} {E : List Ent} (h : Alike c x E) (hn : c.now ≤ 900) (hE : E.length ≤ 800) (a : T29) (ha : a.L.length ≤ maxLen) :
    ∃ c' x' E', tidewracklaw14_do K c x a = some (x', true, c') ∧ Alike c' x' E' ∧ c'.now ≤ c.now + 1 ∧ E'.length ≤ E.length + 1 ∧ c'.most = c.most := by
  have hx : x = ⟨c.most, E.map tellE⟩ := by
    obtain ⟨xm, xl⟩ := x
    have h1 : xm = c.most := h.most
    have h2 : xl = E.map tellE := h.l
    rw [h1, h2]
  have hpk := peek_eq h.inv (fun e he => by have := h.rows e he; omega)
  have hfr := fun k => find_eq K c.most E k (by omega) (by omega)
  have hvl : ∀ k, (((mfind E k).getD zT71).l).length ≤ 20 := fun k => by
    cases hf : mfind E k with
    | none => simp
    | some v => exact h.rows _ ((mfind_iff h.inv.ap).1 hf)
  subst hx
  unfold tidewracklaw14_do
  rw [cE]
  by_cases k0 : a.Kind = 0
  · rw [if_pos k0]
    have hq : mnI (a.L.length : Int) 20 = ((min a.L.length 20 : Nat) : Int) := by unfold mnI; split <;> omega
    rw [hq, Int.toNat_natCast, List.drop_zero, List.nil_append]
    have hl : (List.take (min a.L.length 20) a.L).length ≤ 20 := by rw [List.length_take]; omega
    rw [if_pos (by omega), if_pos (by omega), if_pos (by simp; omega)]
    obtain ⟨l, hl0⟩ : ∃ l, List.take (min a.L.length 20) a.L = l := ⟨_, rfl⟩
    rw [hl0] at hl ⊢
    rw [told_eq K l (by omega) (by omega), bS]
    by_cases g : 0 ≤ a.I ∧ a.I ≤ 1152921504606846976
    · obtain ⟨c', e1, m1, n1, hi⟩ := put_eq h.inv K hK a.I g l (by omega) (by omega) (by omega)
      have hlp := putE_len E a.I l (c.now + 1)
      rw [rput_eq K c.most E a.I g l (c.now + 1) h.pos (by omega) hK, bS]
      unfold tidewracklaw14_do_j1
      rw [hq, Int.toNat_natCast, List.drop_zero, List.nil_append, hl0, e1, bS]
      dsimp only
      rw [cE, if_pos rfl]
      have hlen : (putR c.most (putE E a.I l (c.now + 1))).2.2.length ≤ E.length + 1 ∧ (((putR c.most (putE E a.I l (c.now + 1))).2.2.length : Nat) : Int) ≤ c.most := by
        unfold putR
        have h6 := h.le
        split
        · exact ⟨hlp, by assumption⟩
        · dsimp only
          rw [List.length_tail]
          omega
      refine ⟨c', _, _, by simp; rfl, ⟨hi, m1.symm, by rw [m1]; exact h.pos, rfl, fun e he => ?_, by rw [m1]; exact hlen.2⟩, by omega, hlen.1, m1⟩
      rcases List.mem_append.1 (putR_mem he) with he | he
      · exact h.rows e (without_mem.1 he).1
      · rw [List.mem_singleton.1 he]; exact hl
    · have e1 : tidewrackref14_Put K ⟨c.most, E.map tellE⟩ a.I (l.map tellG) = some (⟨c.most, E.map tellE⟩, 0, false) := by
        unfold tidewrackref14_Put tidewrackref14_Put_j2
        rw [cD]
        by_cases g1 : a.I < 0
        · rw [if_pos g1, cond_true]
        · rw [if_neg g1, decide_eq_true (by omega), cond_true]
      have e2 : cache_Cache_Put K c a.I l = some (0, false, c) := by
        unfold cache_Cache_Put cache_Cache_Put_j2
        rw [cD]
        by_cases g1 : a.I < 0
        · rw [if_pos g1, cond_true]
        · rw [if_neg g1, decide_eq_true (by omega), cond_true]
      rw [e1, bS]
      unfold tidewracklaw14_do_j1
      rw [hq, Int.toNat_natCast, List.drop_zero, List.nil_append, hl0, e2, bS]
      exact ⟨c, _, E, rfl, h, by omega, by omega, rfl⟩
  · rw [if_neg k0, cE]
    by_cases k1 : a.Kind = 1
    · rw [if_pos k1]
      unfold tidewrackref14_Get
      rw [hfr, bS]
      dsimp only
      cases hf : mfind E a.I with
      | none =>
        have e2 : cache_Cache_Get c a.I = some ([], false, c) := by
          unfold cache_Cache_Get
          rw [h.inv.has, hf]
          have := hpk a.I
          rw [hf] at this
          simp only [Option.isSome_none, cond_false]
          rw [this]; rfl
        rw [Option.isSome_none, Bool.not_false, cond_true, bS, e2, bS]
        dsimp only
        rw [show (false == false) = true from rfl, cond_true, show tidewracklaw09_Glyphs K [] [] = some true from glyphs_eq K [] (by simp) (by simp; omega), bS]
        exact ⟨c, _, E, rfl, h, by omega, by omega, rfl⟩
      | some v =>
        have hmem := (mfind_iff h.inv.ap).1 hf
        have hv := h.rows _ hmem
        obtain ⟨c', e1, m1, n1, hi⟩ := get_eq h.inv (fun e he => by have := h.rows e he; omega) a.I (h.inv.key _ hmem) (by omega) (by omega)
        rw [hf] at e1 hi
        dsimp only [Option.getD_some, Option.isSome_some] at e1 hi
        have hlo := putE_old h.inv.ap hf v.l (c.now + 1)
        rw [Option.isSome_some, Option.getD_some, Bool.not_true, cond_false, newest_eq K c.most _ _ (by rw [List.length_map]; omega) (by rw [List.length_map]; omega), bS, bS, e1, bS]
        dsimp only
        rw [show (true == true) = true from rfl, cond_true, glyphs_eq K v.l (by have hv' : v.l.length ≤ 20 := hv; omega) (by have hv' : v.l.length ≤ 20 := hv; omega), bS, newest_tell E a.I v.l (c.now + 1)]
        refine ⟨c', _, _, rfl, ⟨hi, m1.symm, by rw [m1]; exact h.pos, rfl, fun e he => ?_, by rw [m1, hlo]; exact h.le⟩, n1, by omega, m1⟩
        rcases List.mem_append.1 he with he | he
        · exact h.rows e (without_mem.1 he).1
        · rw [List.mem_singleton.1 he]; exact hv
    · rw [if_neg k1, cE]
      by_cases k2 : a.Kind = 2
      · rw [if_pos k2, hfr, bS, hpk, bS]
        dsimp only
        have hv := hvl a.I
        rw [show ((mfind E a.I).isSome == (mfind E a.I).isSome) = true from by simp, cond_true, glyphs_eq K _ (by omega) (by omega), bS]
        exact ⟨c, _, E, rfl, h, by omega, by omega, rfl⟩
      · rw [if_neg k2]
        unfold cache_Cache_Clear
        rw [bS]
        obtain ⟨es, ee, _⟩ := h.inv.es
        refine ⟨_, _, [], rfl, ⟨⟨⟨[], by rw [ee]; rfl, List.Perm.refl _⟩, List.nodup_nil, List.Pairwise.nil, fun e he => absurd he (by simp), fun e he => absurd he (by simp), h.inv.now, by simp⟩, rfl, h.pos, rfl, fun e he => absurd he (by simp), by have := h.pos; show ((0 : Nat) : Int) ≤ c.most; omega⟩, by show c.now ≤ c.now + 1; omega, by simp, rfl⟩
/-! ### Is -/
theorem rspans_loop (K : Nat) (hK : 20000 ≤ K) (m : Int) (E : List Ent) (hE : E.length ≤ 1000) (hk : ∀ e ∈ E, 0 ≤ e.1 ∧ e.1 ≤ 1152921504606846976) : ∀ (f i : Nat) (s : List T44), E.length < f + i → i ≤ E.length → Ok s i →
    ∃ r, tidewrackref14_Spans_l2 K ⟨m, E.map tellE⟩ f s (i : Int) = some r ∧ Ok r E.length ∧ ∀ n, hasF r n = (hasF s n || decide (n ∈ (E.drop i).map (·.1) ∧ n < 1152921504606846976))
  | 0, i, s, h1, h2, h3 => by omega
  | f + 1, i, s, h1, h2, h3 => by
    have ih := rspans_loop K hK m E hE hk f
    unfold tidewrackref14_Spans_l2
    rw [cD]
    dsimp only
    rw [List.length_map]
    by_cases a : i < E.length
    · have hw : IntKind.wrap .i64 ((i : Int) + 1) = ((i + 1 : Nat) : Int) := by rw [w64 (by omega) (by omega)]; omega
      obtain ⟨a1, a2⟩ := addS_ok h3 ⟨(E[i]).1, IntKind.wrap .i64 ((E[i]).1 + 1)⟩
      obtain ⟨r, e, h6, h7⟩ := ih (i + 1) _ (by omega) (by omega) a1
      refine ⟨r, ?_, h6, fun n => ?_⟩
      · rw [if_pos (by omega), if_pos (by omega), rdD_get _ _ (by rw [List.length_map]; exact a), List.getElem_map, hw]
        show (tidewrackref13_Add K s ⟨(E[i]).1, IntKind.wrap .i64 ((E[i]).1 + 1)⟩).bind _ = _
        rw [radd K hK h3 (by omega), bS]
        exact e
      · rw [h7, a2, isin_one _ _ (hk _ (List.getElem_mem a)), List.drop_eq_getElem_cons a, List.map_cons, Bool.or_assoc, ← Bool.decide_or]
        congr 1
        rw [decide_eq_decide, List.mem_cons]
        constructor
        · rintro (⟨q1, q2⟩ | ⟨q1, q2⟩)
          · exact ⟨.inl q1, by omega⟩
          · exact ⟨.inr q1, q2⟩
        · rintro ⟨q1 | q1, q2⟩
          · exact .inl ⟨q1, by omega⟩
          · exact .inr ⟨q1, q2⟩
    · have e1 : i = E.length := by omega
      rw [if_neg (by omega)]
      refine ⟨s, rfl, by rw [← e1]; exact h3, fun n => ?_⟩
      rw [List.drop_eq_nil_of_le (by omega)]
      simp
theorem isame_loop (p : List Int) (hp : p.length ≤ 100000) : ∀ (k i : Nat), p.length < k + i → i ≤ p.length → tidewracklaw01_Same_l2 p p k (i : Int) = some true
  | 0, i, h1, h2 => by omega
  | k + 1, i, h1, h2 => by
    have ih := isame_loop p hp k
    unfold tidewracklaw01_Same_l2
    rw [cD]
    by_cases a : i < p.length
    · have hw : IntKind.wrap .i64 ((i : Int) + 1) = ((i + 1 : Nat) : Int) := by rw [w64 (by omega) (by omega)]; omega
      rw [if_pos (by omega), if_pos (by omega), if_pos (by omega), rdD_get _ _ a, cN, if_pos rfl, hw]
      exact ih (i + 1) (by omega) (by omega)
    · rw [if_neg (by omega)]; rfl
theorem isame_eq (K : Nat) (p : List Int) (hp : p.length ≤ 100000) (hK : p.length < K) : tidewracklaw01_Same K p p = some true := by
  unfold tidewracklaw01_Same
  have := isame_loop p hp K 0 (by omega) (by omega)
  rw [show ((0 : Nat) : Int) = 0 from rfl] at this
  rw [cN, if_pos rfl, this]
theorem is_loop (K : Nat) (hK : 20000 ≤ K) {c : T62} {E : List Ent} (h : Alike c ⟨c.most, E.map tellE⟩ E) : ∀ (f i : Nat), E.length < f + i → i ≤ E.length → tidewracklaw14_Is_l2 K c ⟨c.most, E.map tellE⟩ f ((E.take i).map (·.1)) (i : Int) = some true
  | 0, i, h1, h2 => by omega
  | f + 1, i, h1, h2 => by
    have ih := is_loop K hK h f
    have hEl := h.inv.len
    unfold tidewracklaw14_Is_l2
    rw [cD]
    dsimp only
    rw [List.length_map]
    by_cases a : i < E.length
    · have hw : IntKind.wrap .i64 ((i : Int) + 1) = ((i + 1 : Nat) : Int) := by rw [w64 (by omega) (by omega)]; omega
      have hin : E[i] ∈ E := List.getElem_mem a
      have hf : mfind E (E[i]).1 = some (E[i]).2 := (mfind_iff h.inv.ap).2 hin
      have hpk := peek_eq h.inv (fun e he => by have := h.rows e he; omega) (E[i]).1
      rw [hf] at hpk
      have hr := h.rows _ hin
      have ht : (E.take i).map (·.1) ++ [(E[i]).1] = (E.take (i + 1)).map (·.1) := by rw [List.take_succ_eq_append_getElem a, List.map_append]; rfl
      rw [if_pos (by omega), if_pos (by omega), rdD_get _ _ (by rw [List.length_map]; exact a), List.getElem_map, hw]
      show (if _ then (cache_Cache_Peek c (E[i]).1).bind _ else none) = _
      rw [if_pos (by simp; omega), hpk, bS]
      dsimp only [Option.isSome_some, Option.getD_some]
      rw [Bool.not_true, cond_false]
      show (tidewracklaw09_Glyphs K (E[i]).2.l ((E[i]).2.l.map tellG)).bind _ = _
      rw [glyphs_eq K _ (by omega) (by omega), bS, Bool.not_true, cond_false]
      show tidewracklaw14_Is_l2 K c ⟨c.most, E.map tellE⟩ f ((E.take i).map (·.1) ++ [(E[i]).1]) _ = _
      rw [ht]
      exact ih (i + 1) (by omega) (by omega)
    · rw [if_neg (by omega), List.take_of_length_le (by omega)]
      unfold tidewracklaw14_Is_j1 cache_Cache_Len
      obtain ⟨r, e1, r1, r2⟩ := cspans_eq h.inv K hK
      obtain ⟨q, e2, q1, q2⟩ := rspans_loop K hK c.most E hEl (fun e he => h.inv.key e he) K 0 [] (by omega) (by omega) ok_nil
      rw [show ((0 : Nat) : Int) = 0 from rfl] at e2
      have hrq : r = q := NF.uniq r1.nf q1.nf fun n => by rw [r2, q2, hasF_nil, Bool.false_or, List.drop_zero]
      have hrl := r1.len
      rw [bS, h.inv.length, List.length_map, cE, if_pos rfl, order_eq h.inv, bS, isame_eq K _ (by rw [List.length_map]; omega) (by rw [List.length_map]; omega), bS, cond_true, e1, bS]
      unfold tidewrackref14_Spans
      rw [e2, bS, ← hrq, same_refl K _ (by omega) (by omega), bS]
theorem is_eq {c : T62} {x : T50} {E : List Ent} (h : Alike c x E) (K : Nat) (hK : 20000 ≤ K) : tidewracklaw14_Is K c x = some true := by
  have hx : x = ⟨c.most, E.map tellE⟩ := by
    obtain ⟨xm, xl⟩ := x
    have h1 : xm = c.most := h.most
    have h2 : xl = E.map tellE := h.l
    rw [h1, h2]
  subst hx
  unfold tidewracklaw14_Is
  have := is_loop K hK h K 0 (by have := h.inv.len; omega) (by omega)
  rw [show ((0 : Nat) : Int) = 0 from rfl] at this
  exact this
theorem new_alike (m : Int) : ∃ c x, cache_New m = some c ∧ tidewrackref14_New m = some x ∧ Alike c x [] ∧ c.now = 0 ∧ c.most = mxI 1 (mnI m 65536) := by
  obtain ⟨c, e, m1, n1, h⟩ := new_inv m
  have hpos : 1 ≤ mxI 1 (mnI m 65536) := by unfold mxI; split <;> omega
  exact ⟨c, _, e, rfl, ⟨h, m1.symm, by rw [m1]; exact hpos, rfl, fun e he => absurd he (by simp), by rw [m1]; show ((0 : Nat) : Int) ≤ _; omega⟩, n1, m1⟩
/-! ### CachePlays -/
theorem plays_loop (K : Nat) (hK : 20000 ≤ K) (p0 : Int) (p1 : List T29) (w1 : ∀ y ∈ p1, WF.wfT29 y) : ∀ (k i : Nat) (c : T62) (x : T50) (E : List Ent), 40 < k + i → i ≤ 40 → Alike c x E → c.now ≤ (i : Int) → E.length ≤ i → c.most = mxI 1 (mnI p0 65536) →
    tidewracklaw14_CachePlays_l2 K p0 p1 k c.most c.now c.l x.Most x.L (i : Int) = some true
  | 0, i, c, x, E, h1, h2, h3, h4, h5, h6 => by omega
  | k + 1, i, c, x, E, h1, h2, h3, h4, h5, h6 => by
    have ih := plays_loop K hK p0 p1 w1 k
    unfold tidewracklaw14_CachePlays_l2
    rw [cD]
    by_cases a : i < p1.length
    · rw [if_pos (by omega), cD]
      by_cases b : i < 40
      · have hw : IntKind.wrap .i64 ((i : Int) + 1) = ((i + 1 : Nat) : Int) := by rw [w64 (by omega) (by omega)]; omega
        obtain ⟨c', x', E', e1, k1, k2, k3, k4⟩ := do_eq K (by omega) h3 (by omega) (by omega) p1[i] (w1 _ (List.getElem_mem a)).2.2.2
        have hc : (⟨c.most, c.now, c.l⟩ : T62) = c := rfl
        have hx : (⟨x.Most, x.L⟩ : T50) = x := rfl
        rw [if_pos (by omega)]
        unfold tidewracklaw14_CachePlays_j3 cache_Cache_Len
        rw [if_pos (by omega), rdD_get _ _ a, hc, hx, e1, bS]
        dsimp only
        rw [Bool.not_true, cond_false, is_eq k1 K hK, bS, Bool.not_true, cond_false, bS, k1.inv.length, ← h6, ← k4, cD, if_neg (by have := k1.le; omega), hw]
        exact ih (i + 1) c' x' E' (by omega) (by omega) k1 (by omega) (by omega) (by rw [k4, h6])
      · rw [if_neg (by omega)]; rfl
    · rw [if_neg (by omega)]; rfl
theorem CachePlays (x0 : Int) (w0 : (Lit.int .i64 x0).wf = true) (x1 : List T29) (w1 : ∀ y ∈ x1, (WF.wfT29) y) (l1 : x1.length ≤ maxLen) : ∃ K, tidewracklaw14_CachePlays K x0 x1 = some true := by
  refine ⟨20000, ?_⟩
  obtain ⟨c, x, e1, e2, h, hn, hm⟩ := new_alike x0
  unfold tidewracklaw14_CachePlays
  rw [awake_eq 20000 (by omega), bS, Bool.not_true, cond_false, e1, bS, e2, bS]
  exact plays_loop 20000 (Nat.le_refl _) x0 x1 w1 20000 0 c x [] (by omega) (by omega) h (by omega) (by simp) hm
/-! ### CacheClones -/
theorem clones4 (K : Nat) (hK : 20000 ≤ K) (p1 : List T29) (w1 : ∀ y ∈ p1, WF.wfT29 y) {d : T62} {y : T50} {F : List Ent} (hd : Alike d y F) : ∀ (k i : Nat) (c : T62) (x : T50) (E : List Ent), 15 < k + i → i ≤ 15 → Alike c x E → c.now ≤ 20 + (i : Int) → E.length ≤ 20 + i →
    tidewracklaw14_CacheClones_l4 K p1 d.most d.now d.l y.Most y.L k c.most c.now c.l x.Most x.L (i : Int) = some true
  | 0, i, c, x, E, h1, h2, h3, h4, h5 => by omega
  | k + 1, i, c, x, E, h1, h2, h3, h4, h5 => by
    have ih := clones4 K hK p1 w1 hd k
    have hc : (⟨c.most, c.now, c.l⟩ : T62) = c := rfl
    have hx : (⟨x.Most, x.L⟩ : T50) = x := rfl
    have stop : tidewracklaw14_CacheClones_j3 K d.most d.now d.l y.Most y.L c.most c.now c.l x.Most x.L = some true := by
      unfold tidewracklaw14_CacheClones_j3
      have hd1 : (⟨d.most, d.now, d.l⟩ : T62) = d := rfl
      have hd2 : (⟨y.Most, y.L⟩ : T50) = y := rfl
      rw [hd1, hd2, is_eq hd K hK, bS, cond_true, hc, hx, is_eq h3 K hK, bS]
    unfold tidewracklaw14_CacheClones_l4
    rw [cD]
    by_cases a : i < p1.length
    · rw [if_pos (by omega), cD]
      by_cases b : i < 15
      · have hw : IntKind.wrap .i64 ((i : Int) + 1) = ((i + 1 : Nat) : Int) := by rw [w64 (by omega) (by omega)]; omega
        obtain ⟨c', x', E', e1, k1, k2, k3, k4⟩ := do_eq K (by omega) h3 (by omega) (by omega) p1[i] (w1 _ (List.getElem_mem a)).2.2.2
        rw [if_pos (by omega)]
        unfold tidewracklaw14_CacheClones_j5
        rw [if_pos (by omega), rdD_get _ _ a, hc, hx, e1, bS]
        dsimp only
        rw [Bool.not_true, cond_false, hw]
        exact ih (i + 1) c' x' E' (by omega) (by omega) k1 (by omega) (by omega)
      · rw [if_neg (by omega)]; exact stop
    · rw [if_neg (by omega)]; exact stop
theorem clones6 (K : Nat) (hK : 20000 ≤ K) (p0 p1 : List T29) (w0 : ∀ y ∈ p0, WF.wfT29 y) (w1 : ∀ y ∈ p1, WF.wfT29 y) : ∀ (k i : Nat) (c : T62) (x : T50) (E : List Ent), 20 < k + i → i ≤ 20 → Alike c x E → c.now ≤ (i : Int) → E.length ≤ i →
    tidewracklaw14_CacheClones_l6 K p0 p1 k c.most c.now c.l x.Most x.L (i : Int) = some true
  | 0, i, c, x, E, h1, h2, h3, h4, h5 => by omega
  | k + 1, i, c, x, E, h1, h2, h3, h4, h5 => by
    have ih := clones6 K hK p0 p1 w0 w1 k
    have hc : (⟨c.most, c.now, c.l⟩ : T62) = c := rfl
    have hx : (⟨x.Most, x.L⟩ : T50) = x := rfl
    have stop : tidewracklaw14_CacheClones_j1 K p1 c.most c.now c.l x.Most x.L = some true := by
      unfold tidewracklaw14_CacheClones_j1 cache_Cache_Clone maps_Clone
      rw [hc, h3.inv.not_nil, cond_false, bS, bS, hc]
      unfold tidewracklaw14_CacheClones_j2
      exact clones4 K hK p1 w1 h3 K 0 c x E (by omega) (by omega) h3 (by omega) (by omega)
    unfold tidewracklaw14_CacheClones_l6
    rw [cD]
    by_cases a : i < p0.length
    · rw [if_pos (by omega), cD]
      by_cases b : i < 20
      · have hw : IntKind.wrap .i64 ((i : Int) + 1) = ((i + 1 : Nat) : Int) := by rw [w64 (by omega) (by omega)]; omega
        obtain ⟨c', x', E', e1, k1, k2, k3, k4⟩ := do_eq K (by omega) h3 (by omega) (by omega) p0[i] (w0 _ (List.getElem_mem a)).2.2.2
        rw [if_pos (by omega)]
        unfold tidewracklaw14_CacheClones_j7
        rw [if_pos (by omega), rdD_get _ _ a, hc, hx, e1, bS]
        dsimp only
        rw [Bool.not_true, cond_false, hw]
        exact ih (i + 1) c' x' E' (by omega) (by omega) k1 (by omega) (by omega)
      · rw [if_neg (by omega)]; exact stop
    · rw [if_neg (by omega)]; exact stop
theorem CacheClones (x0 : List T29) (w0 : ∀ y ∈ x0, (WF.wfT29) y) (l0 : x0.length ≤ maxLen) (x1 : List T29) (w1 : ∀ y ∈ x1, (WF.wfT29) y) (l1 : x1.length ≤ maxLen) : ∃ K, tidewracklaw14_CacheClones K x0 x1 = some true := by
  refine ⟨20000, ?_⟩
  obtain ⟨c, x, e1, e2, h, hn, hm⟩ := new_alike 4
  unfold tidewracklaw14_CacheClones
  rw [awake_eq 20000 (by omega), bS, Bool.not_true, cond_false, e1, bS, e2, bS]
  exact clones6 20000 (Nat.le_refl _) x0 x1 w0 w1 20000 0 c x [] (by omega) (by omega) h (by omega) (by simp)
end Go.Proofs.Ythmlldkmgdjeoaa.Pure
