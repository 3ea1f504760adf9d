/- Plain laws: what the plain functions answer, with no program in sight. -/
import Derived.Test.YthmlldkmgdjeoaaD
set_option linter.unusedVariables false
set_option linter.unusedSimpArgs false
namespace Go.Proofs.Ythmlldkmgdjeoaa.Pure
open Go Go.Proofs.XC Go.Proofs.Ythmlldkmgdjeoaa

theorem bS {α β : Type} (x : α) (f : α → Option β) : (some x).bind f = f x := rfl
theorem cD {α : Type} (p : Prop) [Decidable p] (x y : α) : (bif decide p then x else y) = if p then x else y := by by_cases h : p <;> simp [h]
theorem cN {α : Type} (a b : Int) (x y : α) : (bif (a != b) then x else y) = if a = b then y else x := by
  by_cases h : a = b
  · simp [h]
  · have : (a != b) = true := by simp [h]
    rw [this, if_neg h]; rfl
theorem w64 {x : Int} (h0 : -9223372036854775808 ≤ x) (h1 : x ≤ 9223372036854775807) : IntKind.wrap .i64 x = x := by
  simp only [IntKind.wrap, IntKind.bits, IntKind.signed]
  simp
  omega
theorem rdD_get {α : Type} (d : α) (xs : List α) {i : Nat} (h : i < xs.length) : rdD d xs (i : Int) = xs[i] := rdD_at d xs (by omega) h
/-! ### Maps with keys that are apart -/
section
variable {β : Type}
abbrev Ap (l : List (Int × β)) : Prop := (l.map (·.1)).Nodup
theorem mfind_iff {l : List (Int × β)} (h : Ap l) {k : Int} {v : β} : mfind l k = some v ↔ (k, v) ∈ l := by
  constructor
  · intro hf
    induction l with
    | nil => cases hf
    | cons p l ih =>
      rw [mfind] at hf
      by_cases hp : p.1 = k
      · rw [if_pos hp] at hf
        injection hf with hf
        rw [← hp, ← hf]; exact List.mem_cons_self
      · rw [if_neg hp] at hf
        exact List.mem_cons_of_mem _ (ih (List.nodup_cons.1 h).2 hf)
  · intro hm
    obtain ⟨j, hj⟩ := List.getElem?_of_mem hm
    exact mfind_at h hj
theorem mfind_no {l : List (Int × β)} {k : Int} (h : ∀ v, (k, v) ∉ l) : mfind l k = none := mfind_none fun p hp e => h p.2 (by rw [← e]; exact hp)
theorem mfind_perm {l l' : List (Int × β)} (h : Ap l) (hp : l.Perm l') (k : Int) : mfind l k = mfind l' k := by
  have h' : Ap l' := (hp.map _).nodup_iff.1 h
  cases hf : mfind l k with
  | some v => exact ((mfind_iff h').2 (hp.mem_iff.1 ((mfind_iff h).1 hf))).symm
  | none =>
    cases hf' : mfind l' k with
    | none => rfl
    | some v =>
      have := (mfind_iff h).2 (hp.mem_iff.2 ((mfind_iff h').1 hf'))
      rw [hf] at this; cases this
def without (l : List (Int × β)) (k : Int) : List (Int × β) := l.filter fun p => decide (p.1 ≠ k)
theorem without_mem {l : List (Int × β)} {k : Int} {p : Int × β} : p ∈ without l k ↔ p ∈ l ∧ p.1 ≠ k := by simp [without, List.mem_filter]
theorem without_id {l : List (Int × β)} {k : Int} (h : ∀ p ∈ l, p.1 ≠ k) : without l k = l := List.filter_eq_self.2 fun p hp => by simpa using h p hp
theorem mput_perm : ∀ {l : List (Int × β)} {k : Int} {v : β}, Ap l → (mput l k v).Perm (without l k ++ [(k, v)])
  | [], k, v, _ => List.Perm.refl _
  | p :: l, k, v, h => by
    rw [mput]
    have hn := List.nodup_cons.1 h
    by_cases hp : p.1 = k
    · rw [if_pos hp]
      have e : without (p :: l) k = l := by
        unfold without
        rw [List.filter_cons_of_neg (by simp [hp])]
        exact without_id fun q hq e => hn.1 (by show p.1 ∈ _; rw [hp, ← e]; exact List.mem_map_of_mem (f := (·.1)) hq)
      rw [e]
      exact (List.perm_append_comm (l₁ := [(k, v)]) (l₂ := l))
    · rw [if_neg hp]
      have e : without (p :: l) k = p :: without l k := by unfold without; rw [List.filter_cons_of_pos (by simp [hp])]
      rw [e]
      exact (mput_perm hn.2).cons p
theorem mdel_perm : ∀ {l : List (Int × β)} {k : Int}, Ap l → mdel l k = without l k
  | [], k, _ => rfl
  | p :: l, k, h => by
    rw [mdel]
    have hn := List.nodup_cons.1 h
    by_cases hp : p.1 = k
    · rw [if_pos hp]
      unfold without
      rw [List.filter_cons_of_neg (by simp [hp])]
      exact (without_id fun q hq e => hn.1 (by show p.1 ∈ _; rw [hp, ← e]; exact List.mem_map_of_mem (f := (·.1)) hq)).symm
    · rw [if_neg hp, mdel_perm hn.2]
      unfold without
      rw [List.filter_cons_of_pos (by simp [hp])]
theorem without_ap {l : List (Int × β)} (h : Ap l) (k : Int) : Ap (without l k) := List.Nodup.sublist (List.Sublist.map _ List.filter_sublist) h
theorem ap_snoc {l : List (Int × β)} (h : Ap l) (k : Int) (v : β) : Ap (without l k ++ [(k, v)]) := by
  unfold Ap
  rw [List.map_append, List.map_cons, List.map_nil]
  refine List.nodup_append.2 ⟨without_ap h k, by simp, fun x hx y hy e => ?_⟩
  obtain ⟨p, hp, rfl⟩ := List.mem_map.1 hx
  rw [List.mem_singleton.1 hy] at e
  exact (without_mem.1 hp).2 e
end
/-! ### The cache -/
abbrev Ent := Int × T71
/-- E: what is at hand, the eldest first. -/
structure Inv (c : T62) (E : List Ent) : Prop where
  es : ∃ es, c.l = ⟨some es⟩ ∧ es.Perm E
  ap : Ap E
  up : E.Pairwise fun a b => a.2.at_ < b.2.at_
  at_ : ∀ e ∈ E, 0 < e.2.at_ ∧ e.2.at_ ≤ c.now
  key : ∀ e ∈ E, 0 ≤ e.1 ∧ e.1 ≤ 1152921504606846976
  now : 0 ≤ c.now ∧ c.now ≤ 1000000
  len : E.length ≤ 1000
theorem Inv.not_nil {c : T62} {E : List Ent} (h : Inv c E) : M.isNil c.l = false := by
  obtain ⟨es, e, _⟩ := h.es
  rw [e]; rfl
theorem Inv.length {c : T62} {E : List Ent} (h : Inv c E) : c.l.length = E.length := by
  obtain ⟨es, e, hp⟩ := h.es
  rw [e]; exact hp.length_eq
theorem Inv.find {c : T62} {E : List Ent} (h : Inv c E) (k : Int) : mfind c.l.es k = mfind E k := by
  obtain ⟨es, e, hp⟩ := h.es
  rw [e]
  exact mfind_perm ((hp.map _).nodup_iff.2 h.ap) hp k
theorem Inv.get {c : T62} {E : List Ent} (h : Inv c E) (k : Int) : M.get zT71 c.l k = (mfind E k).getD zT71 := by unfold M.get; rw [h.find]
theorem Inv.has {c : T62} {E : List Ent} (h : Inv c E) (k : Int) : M.has c.l k = (mfind E k).isSome := by unfold M.has; rw [h.find]
theorem Inv.keys {c : T62} {E : List Ent} (h : Inv c E) : (M.keys c.l).Perm (E.map (·.1)) := by
  obtain ⟨es, e, hp⟩ := h.es
  rw [e]; exact hp.map _
theorem Inv.keysOK {c : T62} {E : List Ent} (h : Inv c E) : KeysOK c.l := by
  refine ⟨h.not_nil, by rw [h.length]; have := h.len; omega, fun k hk => ?_⟩
  obtain ⟨e, he, rfl⟩ := List.mem_map.1 (h.keys.mem_iff.1 hk)
  have := h.key e he
  omega
def putE (E : List Ent) (k : Int) (l : List T59) (n : Int) : List Ent := without E k ++ [(k, ⟨l, n⟩)]
theorem putE_len (E : List Ent) (k : Int) (l : List T59) (n : Int) : (putE E k l n).length ≤ E.length + 1 := by
  unfold putE without
  rw [List.length_append]
  exact Nat.add_le_add_right (List.length_filter_le _ _) 1
theorem touch_eq {c : T62} {E : List Ent} (h : Inv c E) (k : Int) (hk : 0 ≤ k ∧ k ≤ 1152921504606846976) (l : List T59) (hn : c.now ≤ 999000) (hE : E.length ≤ 900) :
    ∃ c', cache_Cache_touch c k l = some c' ∧ c'.most = c.most ∧ c'.now = c.now + 1 ∧ Inv c' (putE E k l (c.now + 1)) := by
  have hw : IntKind.wrap .i64 (c.now + 1) = c.now + 1 := w64 (by have := h.now; omega) (by omega)
  refine ⟨⟨c.most, c.now + 1, M.put c.l k ⟨l, c.now + 1⟩⟩, ?_, rfl, rfl, ?_⟩
  · unfold cache_Cache_touch
    rw [if_pos h.not_nil, hw]
  · obtain ⟨es, e, hp⟩ := h.es
    have hap : Ap es := (hp.map _).nodup_iff.2 h.ap
    refine ⟨⟨mput es k ⟨l, c.now + 1⟩, by rw [e]; rfl, (mput_perm hap).trans (List.Perm.append_right _ (hp.filter _))⟩, ap_snoc h.ap k _, ?_, fun x hx => ?_, fun x hx => ?_, ⟨by have := h.now; show 0 ≤ c.now + 1; omega, by show c.now + 1 ≤ _; omega⟩, by have := putE_len E k l (c.now + 1); omega⟩
    · refine List.pairwise_append.2 ⟨h.up.sublist List.filter_sublist, by simp, fun a ha b hb => ?_⟩
      rw [List.mem_singleton.1 hb]
      have := (h.at_ a (without_mem.1 ha).1).2
      show a.2.at_ < c.now + 1
      omega
    · rcases List.mem_append.1 hx with hx | hx
      · have := h.at_ x (without_mem.1 hx).1
        exact ⟨this.1, by show x.2.at_ ≤ c.now + 1; omega⟩
      · rw [List.mem_singleton.1 hx]
        have := h.now
        exact ⟨by show 0 < c.now + 1; omega, Int.le_refl _⟩
    · rcases List.mem_append.1 hx with hx | hx
      · exact h.key x (without_mem.1 hx).1
      · rw [List.mem_singleton.1 hx]; exact hk
theorem clone_eq (l : List T59) (hl : l.length ≤ 1000000) : slices_Clone l = some l := by
  unfold slices_Clone
  rw [if_pos (by simp; omega), List.nil_append]
def cmp3 (a b : Int) : Int := if a < b then -1 else if a > b then 1 else 0
theorem compare_eq (a b : Int) : cmp_Compare a b = some (cmp3 a b) := by
  unfold cmp_Compare cmp_isNaN cmp3
  rw [bS, bS]
  have e1 : (a != a) = false := by simp
  have e2 : (b != b) = false := by simp
  rw [e1, e2, cond_false, cond_false, cD, cD]
  split
  · rfl
  · split <;> rfl
theorem min_loop (c : T62) (ks : List Int) (hl : ks.length ≤ 100000) : ∀ (k i : Nat) (x : Int), ks.length < k + i → i ≤ ks.length → x ∈ ks → (∀ y ∈ ks.take i, (M.get zT71 c.l x).at_ ≤ (M.get zT71 c.l y).at_) →
    ∃ z, slices_MinFunc_of27_l3 ks c k x (i : Int) = some z ∧ z ∈ ks ∧ ∀ y ∈ ks, (M.get zT71 c.l z).at_ ≤ (M.get zT71 c.l y).at_
  | 0, i, x, h1, h2, h3, h4 => by omega
  | k + 1, i, x, h1, h2, h3, h4 => by
    have ih := min_loop c ks hl k
    unfold slices_MinFunc_of27_l3
    rw [cD]
    by_cases a : i < ks.length
    · have hw : IntKind.wrap .i64 ((i : Int) + 1) = ((i + 1 : Nat) : Int) := by rw [w64 (by omega) (by omega)]; omega
      have ht : ks.take (i + 1) = ks.take i ++ [ks[i]] := List.take_succ_eq_append_getElem a
      rw [if_pos (by omega), if_pos (by omega), rdD_get _ _ a, hw]
      unfold cache_Cache_Put_1
      rw [compare_eq, bS, bS, cD]
      unfold cmp3
      by_cases b : (M.get zT71 c.l ks[i]).at_ < (M.get zT71 c.l x).at_
      · rw [if_pos b, if_pos (by omega)]
        refine ih (i + 1) _ (by omega) (by omega) (List.getElem_mem a) fun y hy => ?_
        rw [ht] at hy
        rcases List.mem_append.1 hy with hy | hy
        · have := h4 y hy; omega
        · rw [List.mem_singleton.1 hy]; exact Int.le_refl _
      · rw [if_neg b, if_neg (by split <;> omega)]
        refine ih (i + 1) _ (by omega) (by omega) h3 fun y hy => ?_
        rw [ht] at hy
        rcases List.mem_append.1 hy with hy | hy
        · exact h4 y hy
        · rw [List.mem_singleton.1 hy]; omega
    · rw [if_neg (by omega)]
      refine ⟨x, rfl, h3, fun y hy => h4 y ?_⟩
      rw [List.take_of_length_le (by omega)]; exact hy
theorem min_eq {c : T62} {e0 : Ent} {E : List Ent} (h : Inv c (e0 :: E)) (K : Nat) (hK : 2000 ≤ K) {ks : List Int} (hp : ks.Perm (M.keys c.l)) : slices_MinFunc_of27 K ks c = some e0.1 := by
  have hp2 := hp.trans h.keys
  have hl : ks.length = E.length + 1 := by rw [hp2.length_eq]; simp
  have hE := h.len
  rw [List.length_cons] at hE
  have hx : ks[0] ∈ ks := List.getElem_mem (by omega)
  obtain ⟨z, e, h1, h2⟩ := min_loop c ks (by omega) K 1 ks[0] (by omega) (by omega) hx (fun y hy => by
    have : ks.take 1 = [ks[0]] := by rw [List.take_succ_eq_append_getElem (by omega)]; rfl
    rw [this] at hy
    rw [List.mem_singleton.1 hy]; exact Int.le_refl _)
  unfold slices_MinFunc_of27 slices_MinFunc_of27_j1
  have r0 : rdD 0 ks 0 = ks[0] := rdD_get 0 ks (i := 0) (by omega)
  rw [cD, if_neg (by omega), if_pos (by omega), r0]
  rw [show ((1 : Nat) : Int) = 1 from rfl] at e
  rw [e]
  congr 1
  obtain ⟨ez, hz, rfl⟩ := List.mem_map.1 (hp2.mem_iff.1 h1)
  have h3 := h2 e0.1 (hp2.mem_iff.2 (by simp))
  have g : ∀ e ∈ e0 :: E, (M.get zT71 c.l e.1) = e.2 := fun e he => by
    rw [h.get, (mfind_iff h.ap).2 (show (e.1, e.2) ∈ _ from he)]; rfl
  rw [g ez hz, g e0 (by simp)] at h3
  rcases List.mem_cons.1 hz with rfl | hz
  · rfl
  · have := (List.pairwise_cons.1 h.up).1 ez hz
    omega
theorem del_inv {c : T62} {e0 : Ent} {E : List Ent} (h : Inv c (e0 :: E)) : Inv ⟨c.most, c.now, M.del c.l e0.1⟩ E := by
  obtain ⟨es, e, hp⟩ := h.es
  have hap : Ap es := (hp.map _).nodup_iff.2 h.ap
  have hn := List.nodup_cons.1 h.ap
  refine ⟨⟨mdel es e0.1, by rw [e]; rfl, ?_⟩, hn.2, (List.pairwise_cons.1 h.up).2, fun x hx => h.at_ x (by simp [hx]), fun x hx => h.key x (by simp [hx]), h.now, by have := h.len; simp at this; omega⟩
  rw [mdel_perm hap]
  have h1 : (without es e0.1).Perm (without (e0 :: E) e0.1) := hp.filter _
  have h2 : without (e0 :: E) e0.1 = E := by
    unfold without
    rw [List.filter_cons_of_neg (by simp)]
    exact without_id fun q hq e => hn.1 (by show e0.1 ∈ _; rw [← e]; exact List.mem_map_of_mem (f := (·.1)) hq)
  rw [h2] at h1
  exact h1
/-- What Put makes. -/
def putR (most : Int) (E1 : List Ent) : Int × Bool × List Ent := if (E1.length : Int) ≤ most then (0, false, E1) else ((E1.headD (0, zT71)).1, true, E1.tail)
theorem put_eq {c : T62} {E : List Ent} (h : Inv c E) (K : Nat) (hK : 2000 ≤ K) (k : Int) (hk : 0 ≤ k ∧ k ≤ 1152921504606846976) (l : List T59) (hl : l.length ≤ 1000000) (hn : c.now ≤ 999000) (hE : E.length ≤ 900) :
    ∃ c', cache_Cache_Put K c k l = some ((putR c.most (putE E k l (c.now + 1))).1, (putR c.most (putE E k l (c.now + 1))).2.1, c') ∧ c'.most = c.most ∧ c'.now = c.now + 1 ∧ Inv c' (putR c.most (putE E k l (c.now + 1))).2.2 := by
  obtain ⟨c1, e1, m1, n1, h1⟩ := touch_eq h k hk l hn hE
  unfold cache_Cache_Put cache_Cache_Put_j2 cache_Cache_Put_j1
  rw [cD, if_neg (by omega), decide_eq_false (by omega), cond_false, clone_eq l hl, bS, e1, bS, cD, h1.length, m1]
  unfold putR
  by_cases a : (((putE E k l (c.now + 1)).length : Nat) : Int) ≤ c.most
  · rw [if_pos a, if_pos a]
    exact ⟨c1, rfl, m1, n1, h1⟩
  · rw [if_neg a, if_neg a]
    unfold maps_Keys'
    rw [bS, if_pos h1.keysOK]
    obtain ⟨e0, E0, he⟩ : ∃ e0 E0, putE E k l (c.now + 1) = e0 :: E0 := List.exists_cons_of_ne_nil (by unfold putE; simp)
    rw [he] at h1 ⊢
    refine ⟨⟨c.most, c1.now, M.del c1.l e0.1⟩, ?_, rfl, n1, ?_⟩
    · refine ordP_of (fun ks hp => ?_) (M.keys c1.l) (List.Perm.refl _)
      rw [min_eq h1 K hK hp, bS]
      rfl
    · have := del_inv h1
      rw [m1] at this
      exact this
theorem new_inv (m : Int) : ∃ c, cache_New m = some c ∧ c.most = mxI 1 (mnI m 65536) ∧ c.now = 0 ∧ Inv c [] :=
  ⟨_, rfl, rfl, rfl, ⟨⟨[], rfl, List.Perm.refl _⟩, List.nodup_nil, List.Pairwise.nil, fun e he => absurd he (by simp), fun e he => absurd he (by simp), ⟨Int.le_refl _, by show (0 : Int) ≤ 1000000; omega⟩, by simp⟩⟩
theorem peek_eq {c : T62} {E : List Ent} (h : Inv c E) (hE : ∀ e ∈ E, e.2.l.length ≤ 1000000) (k : Int) : cache_Cache_Peek c k = some (((mfind E k).getD zT71).l, (mfind E k).isSome) := by
  unfold cache_Cache_Peek
  rw [h.get, h.has, clone_eq, bS]
  cases hf : mfind E k with
  | none => simp
  | some v => exact hE _ ((mfind_iff h.ap).1 hf)
theorem get_eq {c : T62} {E : List Ent} (h : Inv c E) (hE : ∀ e ∈ E, e.2.l.length ≤ 1000000) (k : Int) (hk : 0 ≤ k ∧ k ≤ 1152921504606846976) (hn : c.now ≤ 999000) (hl : E.length ≤ 900) :
    ∃ c', cache_Cache_Get c k = some (((mfind E k).getD zT71).l, (mfind E k).isSome, c') ∧ c'.most = c.most ∧ c'.now ≤ c.now + 1 ∧ Inv c' (match mfind E k with | none => E | some v => putE E k v.l (c.now + 1)) := by
  unfold cache_Cache_Get
  rw [h.has, h.get]
  cases hf : mfind E k with
  | none =>
    refine ⟨c, ?_, rfl, by omega, h⟩
    have := peek_eq h hE k
    rw [hf] at this
    simp only [Option.isSome_none, cond_false]
    rw [this]; rfl
  | some v =>
    obtain ⟨c1, e1, m1, n1, h1⟩ := touch_eq h k hk v.l hn hl
    refine ⟨c1, ?_, m1, by omega, h1⟩
    have hv := hE _ ((mfind_iff h.ap).1 hf)
    have hm : mfind (putE E k v.l (c.now + 1)) k = some ⟨v.l, c.now + 1⟩ := (mfind_iff h1.ap).2 (List.mem_append_right _ (by simp))
    have := peek_eq h1 (fun e he => by
      rcases List.mem_append.1 he with he | he
      · exact hE e (without_mem.1 he).1
      · rw [List.mem_singleton.1 he]; exact hv) k
    rw [hm] at this
    simp only [Option.isSome_some, cond_true, Option.getD_some]
    rw [e1, bS, this]; rfl
end Go.Proofs.Ythmlldkmgdjeoaa.Pure
