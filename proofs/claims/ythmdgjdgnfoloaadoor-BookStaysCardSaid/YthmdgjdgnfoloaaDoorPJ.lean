/- Plain laws: what the plain functions answer, with no program in sight. -/
import Derived.Test.YthmdgjdgnfoloaaDoorPA
set_option linter.unusedVariables false
set_option linter.unusedSimpArgs false
namespace Go.Proofs.YthmdgjdgnfoloaaDoor.Pure
open Go Go.Proofs.XC Go.Proofs.YthmdgjdgnfoloaaDoor

/-! ### The rows that are tried -/
def anyR (r : T26) : T26 := ⟨r.Cells.take 40, r.Wrapped⟩
theorem any_eq (r : T26) : tidewracklaw09_Any r.Cells r.Wrapped = some (anyR r) := by
  have hm : mnI (r.Cells.length : Int) 40 = ((min r.Cells.length 40 : Nat) : Int) := by unfold mnI; split <;> omega
  unfold tidewracklaw09_Any
  rw [hm, if_pos (by omega), if_pos (by omega), Int.toNat_natCast, List.drop_zero, List.nil_append, if_pos (by rw [List.length_take, List.length_nil]; omega)]
  unfold anyR
  congr 2
  by_cases c : r.Cells.length ≤ 40
  · rw [Nat.min_eq_left c, List.take_length, List.take_of_length_le c]
  · rw [Nat.min_eq_right (by omega)]
theorem rows_loop (p : List T26) (n : Nat) (hn : n ≤ 100) : ∀ (k : Nat) (acc : List T26) (i : Nat), n < k + i → i ≤ n → acc.length ≤ i → tidewracklaw12_Rows_l2 p n k acc i = some (acc ++ ((p.take n).drop i).map anyR)
  | 0, acc, i, h1, h2, h3 => by omega
  | k + 1, acc, i, h1, h2, h3 => by
    have ih := rows_loop p n hn k
    unfold tidewracklaw12_Rows_l2
    rw [cD, cD]
    by_cases c1 : i < p.length
    · by_cases c2 : i < n
      · have hw : IntKind.wrap .i64 ((i : Int) + 1) = ((i + 1 : Nat) : Int) := by rw [w64 (by omega) (by omega)]; omega
        have hl : i < (p.take n).length := by rw [List.length_take]; omega
        rw [if_pos (by omega), if_pos (by omega)]
        unfold tidewracklaw12_Rows_j3
        rw [if_pos (by omega), rdD_get _ _ c1, any_eq, bS, if_pos (by simp only [List.length_cons, List.length_nil]; omega), hw, ih _ (i + 1) (by omega) (by omega) (by simp only [List.length_append, List.length_cons, List.length_nil]; omega), List.drop_eq_getElem_cons hl, List.getElem_take, List.append_assoc]
        rfl
      · rw [if_pos (by omega), if_neg (by omega), List.drop_eq_nil_of_le (by rw [List.length_take]; omega), List.map_nil, List.append_nil]; rfl
    · rw [if_neg (by omega), List.drop_eq_nil_of_le (by rw [List.length_take]; omega), List.map_nil, List.append_nil]; rfl
theorem rows_eq (K : Nat) (hK : 2000 ≤ K) (p : List T26) (n : Nat) (hn : n ≤ 100) : tidewracklaw12_Rows K p n = some ((p.take n).map anyR) := by
  have := rows_loop p n hn K [] 0 (by omega) (by omega) (by simp)
  rw [show ((0 : Nat) : Int) = 0 from rfl, List.nil_append, List.drop_zero] at this
  exact this
theorem any_small {p : List T26} {n : Nat} {r : T26} (h : r ∈ (p.take n).map anyR) : r.Cells.length ≤ 40 := by
  obtain ⟨q, _, rfl⟩ := List.mem_map.1 h
  show (q.Cells.take 40).length ≤ 40
  rw [List.length_take]; omega
/-! ### BookJoins -/
def allF (b : T75) : List T49 := b.l.flatten ++ b.begun
theorem all_step {b : T75} {n : Nat} (h : InvB b n) (gs : List T49) (hg : gs.length ≤ 1000) (wr : Bool) : allF (addF b gs wr) = allF b ++ gs := by
  have hb := h.bg
  obtain ⟨c1, c2, c3, c4⟩ := cutF_spec 2 (b.begun ++ gs) (by rw [List.length_append]; omega)
  unfold allF addF
  cases wr with
  | true => rw [cond_true]; simp only; rw [List.flatten_append, List.append_assoc, c1, List.append_assoc]
  | false => rw [cond_false]; simp only; rw [List.flatten_append, List.flatten_append, List.flatten_cons, List.flatten_nil, List.append_nil, List.append_nil, List.append_assoc, c1, List.append_assoc]
theorem mem_flat {r : List T49} : ∀ {rs : List (List T49)}, r ∈ rs → r.length ≤ rs.flatten.length
  | [], h => by simp at h
  | q :: rs, h => by
    rw [List.flatten_cons, List.length_append]
    rcases List.mem_cons.1 h with rfl | h
    · omega
    · have := mem_flat h; omega
theorem eq49_refl (x : T49) : eqT49 x x = true := by simp [eqT49]
theorem joins4 (w a c : List T49) (h : a ++ c = w) (hl : w.length ≤ 100000) : ∀ (k i : Nat), w.length < k + i → i ≤ w.length → tidewracklaw12_BookJoins_l4 w a c k i = some true
  | 0, i, h1, h2 => by omega
  | k + 1, i, h1, h2 => by
    have ih := joins4 w a c h hl k
    unfold tidewracklaw12_BookJoins_l4
    rw [h, cD]
    by_cases hi : i < w.length
    · have hw : IntKind.wrap .i64 ((i : Int) + 1) = ((i + 1 : Nat) : Int) := by rw [w64 (by omega) (by omega)]; omega
      rw [if_pos (by omega), if_pos (by omega), if_pos (by omega), eq49_refl, Bool.not_true, cond_false, hw]
      exact ih (i + 1) (by omega) (by omega)
    · rw [if_neg (by omega)]; rfl
theorem joins5 (K : Nat) (hK : 100000 ≤ K) (b : T75) (w : List T49) (hw : allF b = w) (hl : w.length ≤ 3000) (hbl : b.l.length ≤ 1000) : ∀ (k i : Nat), b.l.length < k + i → i ≤ b.l.length → tidewracklaw12_BookJoins_l5 K b.l b.chains b.begun w (b.l.length : Int) k (b.l.take i).flatten i = some true
  | 0, i, h1, h2 => by omega
  | k + 1, i, h1, h2 => by
    have ih := joins5 K hK b w hw hl hbl k
    have hall : b.l.flatten.length + b.begun.length = w.length := by rw [← hw]; unfold allF; rw [List.length_append]
    unfold tidewracklaw12_BookJoins_l5
    rw [cD]
    by_cases hi : i < b.l.length
    · have hwr : IntKind.wrap .i64 ((i : Int) + 1) = ((i + 1 : Nat) : Int) := by rw [w64 (by omega) (by omega)]; omega
      have h3 := mem_flat (List.getElem_mem hi)
      have ht : (b.l.take (i + 1)).flatten = (b.l.take i).flatten ++ b.l[i] := by
        rw [List.take_succ_eq_append_getElem hi, List.flatten_append, List.flatten_cons, List.flatten_nil, List.append_nil]
      have hle : (b.l.take (i + 1)).flatten.length ≤ b.l.flatten.length := by
        have := congrArg List.length (congrArg List.flatten (List.take_append_drop (i + 1) b.l))
        rw [List.flatten_append, List.length_append] at this
        omega
      have fin := ih (i + 1) (by omega) (by omega)
      rw [ht] at fin hle
      rw [List.length_append] at hle
      rw [if_pos (by omega), line_eq b i hi (by omega), bS]
      simp only
      rw [if_pos (by omega), hwr]
      exact fin
    · have : i = b.l.length := by omega
      subst this
      have hj : b.l.flatten ++ b.begun = w := hw
      rw [if_neg (by omega), List.take_length]
      unfold tidewracklaw12_BookJoins_j2
      rw [begun_eq _ (by simp only; omega), bS]
      simp only
      rw [if_pos (by omega), hj, cN, if_pos rfl]
      exact joins4 w _ _ hj (by omega) K 0 (by omega) (by omega)
theorem joins6 (K : Nat) (hK : 100000 ≤ K) (q : List T26) (hq : ∀ r ∈ q, r.Cells.length ≤ 40) (hl : q.length ≤ 20) : ∀ (k i : Nat) (b : T75), q.length < k + i → i ≤ q.length → InvB b (3 * i) → (allF b).length ≤ 40 * i → tidewracklaw12_BookJoins_l6 K q k b.l b.chains b.begun (allF b) i = some true
  | 0, i, b, h1, h2, h3, h4 => by omega
  | k + 1, i, b, h1, h2, h3, h4 => by
    have ih := joins6 K hK q hq hl k
    have hb := h3.l
    unfold tidewracklaw12_BookJoins_l6
    rw [cD]
    by_cases hi : i < q.length
    · have hwr : IntKind.wrap .i64 ((i : Int) + 1) = ((i + 1 : Nat) : Int) := by rw [w64 (by omega) (by omega)]; omega
      have hc := hq _ (List.getElem_mem hi)
      obtain ⟨g1, g2⟩ := glyphs_eq K (by omega) q[i] (by omega)
      have g3 := gf_len q[i]
      have ha := addR K hK b (3 * i) h3 [q[i]] (fun r hr => by simp only [List.mem_singleton] at hr; subst hr; omega) (by simp only [List.length_cons, List.length_nil]; omega)
      have hst := h3.step (gfF q[i]) g2 q[i].Wrapped
      have hall := all_step h3 (gfF q[i]) g2 q[i].Wrapped
      rw [if_pos (by omega), if_pos (by omega), rdD_get _ _ hi, g1, bS, if_pos (by omega), ha, bS]
      simp only
      rw [hwr, ← hall]
      exact ih (i + 1) (addF b (gfF q[i]) q[i].Wrapped) (by omega) (by omega) (by have := hst.1; rw [show 3 * i + 3 = 3 * (i + 1) by omega] at this; exact this) (by rw [hall, List.length_append]; omega)
    · rw [if_neg (by omega)]
      unfold tidewracklaw12_BookJoins_j1 book_Book_Len
      rw [bS]
      exact joins5 K hK b _ rfl (by omega) (by omega) K 0 (by omega) (by omega)
theorem BookJoins (x0 : List T26) (w0 : ∀ y ∈ x0, (WF.wfT26) y) (l0 : x0.length ≤ maxLen) : ∃ K, tidewracklaw12_BookJoins K x0 = some true := by
  suffices h : ∀ K, 100000 ≤ K → tidewracklaw12_BookJoins K x0 = some true from ⟨100000, h _ (Nat.le_refl _)⟩
  intro K hK
  have hr := rows_eq K (by omega) x0 20 (by omega)
  rw [show ((20 : Nat) : Int) = 20 from rfl] at hr
  unfold tidewracklaw12_BookJoins book_New
  rw [awake_eq K hK, bS, Bool.not_true, cond_false, hr, bS, bS]
  have hql : ((x0.take 20).map anyR).length ≤ 20 := by rw [List.length_map, List.length_take]; omega
  exact joins6 K hK _ (fun r h => any_small h) hql K 0 N0 (by omega) (by omega) n0_inv (by simp [allF, N0])
/-! ### BookStays -/
theorem chs_pre : ∀ (ls : List (List T49)) (ch : List Int), ∃ e, chs ch ls = ch ++ e
  | [], ch => ⟨[], (List.append_nil _).symm⟩
  | l :: ls, ch => by
    obtain ⟨e, he⟩ := chs_pre ls (ch ++ [nextF (lastI ch) l])
    exact ⟨nextF (lastI ch) l :: e, by show chs (ch ++ [nextF (lastI ch) l]) ls = _; rw [he, List.append_assoc]; rfl⟩
theorem add_pre (b : T75) (gs : List T49) (wr : Bool) : (∃ e, (addF b gs wr).l = b.l ++ e) ∧ ∃ e, (addF b gs wr).chains = b.chains ++ e := by
  unfold addF
  cases wr with
  | true => exact ⟨⟨_, rfl⟩, chs_pre _ _⟩
  | false => exact ⟨⟨_, List.append_assoc _ _ _⟩, chs_pre _ _⟩
theorem adds_pre (gf : T26 → List T49) : ∀ (rs : List T26) (b : T75), (∃ e, (addsF gf b rs).l = b.l ++ e) ∧ ∃ e, (addsF gf b rs).chains = b.chains ++ e
  | [], b => ⟨⟨[], (List.append_nil _).symm⟩, ⟨[], (List.append_nil _).symm⟩⟩
  | r :: rs, b => by
    obtain ⟨⟨e1, h1⟩, e2, h2⟩ := add_pre b (gf r) r.Wrapped
    obtain ⟨⟨e3, h3⟩, e4, h4⟩ := adds_pre gf rs (addF b (gf r) r.Wrapped)
    have u1 : (addsF gf b (r :: rs)).l = b.l ++ (e1 ++ e3) := by
      show (addsF gf (addF b (gf r) r.Wrapped) rs).l = _
      rw [h3, h1, List.append_assoc]
    have u2 : (addsF gf b (r :: rs)).chains = b.chains ++ (e2 ++ e4) := by
      show (addsF gf (addF b (gf r) r.Wrapped) rs).chains = _
      rw [h4, h2, List.append_assoc]
    exact ⟨⟨_, u1⟩, _, u2⟩
theorem chain_eq (b : T75) (i : Nat) (h1 : i ≤ b.l.length) (h2 : b.chains.length = b.l.length + 1) : book_Book_Chain b i = some (rdD 0 b.chains (i : Int)) := by
  have hm : mxI 0 (mnI (i : Int) (b.l.length : Int)) = (i : Int) := by unfold mxI mnI; (repeat' split) <;> omega
  unfold book_Book_Chain
  rw [hm, if_pos (by omega)]
theorem adds_len (gf : T26 → List T49) : ∀ (rs : List T26) (b : T75) (n m : Nat), (∀ r ∈ rs, (gf r).length ≤ 40) → InvB b n → (allF b).length ≤ m → (allF (addsF gf b rs)).length ≤ m + 40 * rs.length
  | [], b, n, m, h, hb, hm => hm
  | r :: rs, b, n, m, h, hb, hm => by
    have hr := h r (by simp)
    have h1 := hb.step (gf r) (by omega) r.Wrapped
    have h2 := all_step hb (gf r) (by omega) r.Wrapped
    have h3 := adds_len gf rs (addF b (gf r) r.Wrapped) (n + 3) (m + 40) (fun x hx => h x (by simp [hx])) h1.1 (by rw [h2, List.length_append]; omega)
    show (allF (addsF gf (addF b (gf r) r.Wrapped) rs)).length ≤ _
    simp only [List.length_cons]; omega
theorem set_step {α : Type} (f : Nat → α) (z : α) (n i : Nat) (hi : i < n) : ((List.range i).map f ++ List.replicate (n - i) z).set i (f i) = (List.range (i + 1)).map f ++ List.replicate (n - (i + 1)) z := by
  obtain ⟨m, hm⟩ : ∃ m, n - i = m + 1 := ⟨n - i - 1, by omega⟩
  have h1 : ∀ (p : List α) (c v : α) (l : List α), (p ++ c :: l).set p.length v = p ++ v :: l := fun p c v l => by
    induction p with
    | nil => rfl
    | cons x p ih => rw [List.cons_append, List.length_cons, List.set_cons_succ, ih]; rfl
  have h2 := h1 ((List.range i).map f) z (f i) (List.replicate m z)
  rw [List.length_map, List.length_range] at h2
  rw [hm, List.replicate_succ, h2, List.range_succ, List.map_append, List.append_assoc, show n - (i + 1) = m by omega]
  rfl
theorem stays5 (n : Nat) (b2 : T75) (c : Int) (szs : List Int) (hn : n ≤ b2.l.length) (hbl : b2.l.length ≤ 1000) (hls : ∀ l ∈ b2.l, l.length ≤ 3000) (hs : szs = (List.range n).map fun i => (((b2.l.getD i []).length : Nat) : Int)) : ∀ (k i : Nat), n < k + i → i ≤ n → tidewracklaw12_BookStays_l5 n szs (c, b2) k i = some true
  | 0, i, h1, h2 => by omega
  | k + 1, i, h1, h2 => by
    have ih := stays5 n b2 c szs hn hbl hls hs k
    have hsl : szs.length = n := by rw [hs, List.length_map, List.length_range]
    unfold tidewracklaw12_BookStays_l5
    rw [cD]
    by_cases hi : i < n
    · have hwr : IntKind.wrap .i64 ((i : Int) + 1) = ((i + 1 : Nat) : Int) := by rw [w64 (by omega) (by omega)]; omega
      have hl := hls _ (List.getElem_mem (by omega : i < b2.l.length))
      have hrd : rdD 0 szs (i : Int) = (((b2.l[i]'(by omega)).length : Nat) : Int) := by
        rw [rdD_get _ _ (by omega)]
        simp only [hs, List.getElem_map, List.getElem_range]
        rw [List.getD_eq_getElem?_getD, List.getElem?_eq_getElem (by omega)]; rfl
      rw [if_pos (by omega), line_eq b2 i (by omega) (by omega), bS]
      simp only
      rw [Bool.not_true, cond_false, if_pos (by omega), hrd, cN, if_pos rfl, hwr]
      exact ih (i + 1) (by omega) (by omega)
    · rw [if_neg (by omega)]; rfl
theorem stays6 (K : Nat) (hK : 100000 ≤ K) (n : Nat) (b2 : T75) (c : Int) (szs cs : List Int) (hn : n ≤ b2.l.length) (hbl : b2.l.length ≤ 1000) (hch : b2.chains.length = b2.l.length + 1) (hls : ∀ l ∈ b2.l, l.length ≤ 3000) (hs : szs = (List.range n).map fun i => (((b2.l.getD i []).length : Nat) : Int)) (hc : cs = (List.range (n + 1)).map fun i => rdD 0 b2.chains ((i : Nat) : Int)) : ∀ (k i : Nat), n + 1 < k + i → i ≤ n + 1 → tidewracklaw12_BookStays_l6 K n cs szs (c, b2) k i = some true
  | 0, i, h1, h2 => by omega
  | k + 1, i, h1, h2 => by
    have ih := stays6 K hK n b2 c szs cs hn hbl hch hls hs hc k
    have hcl : cs.length = n + 1 := by rw [hc, List.length_map, List.length_range]
    unfold tidewracklaw12_BookStays_l6
    rw [w64 (x := (n : Int) + 1) (by omega) (by omega), cD]
    by_cases hi : i < n + 1
    · have hwr : IntKind.wrap .i64 ((i : Int) + 1) = ((i + 1 : Nat) : Int) := by rw [w64 (by omega) (by omega)]; omega
      have hrd : rdD 0 cs (i : Int) = rdD 0 b2.chains (i : Int) := by
        rw [rdD_get _ _ (by omega : i < cs.length)]
        simp only [hc, List.getElem_map, List.getElem_range]
      rw [if_pos (by omega), if_pos (by omega), chain_eq b2 i (by omega) hch, bS, hrd, cN, if_pos rfl, hwr]
      exact ih (i + 1) (by omega) (by omega)
    · rw [if_neg (by omega)]
      exact stays5 n b2 c szs hn hbl hls hs K 0 (by omega) (by omega)
theorem stays7 (K : Nat) (hK : 100000 ≤ K) (p1 : List T26) (b : T75) (c : Int) (cs : List Int) (hb : InvB b 40) (hal : (allF b).length ≤ 1000) (hc : cs = (List.range (b.l.length + 1)).map fun i => rdD 0 b.chains ((i : Nat) : Int)) : ∀ (k i : Nat), b.l.length < k + i → i ≤ b.l.length →
    tidewracklaw12_BookStays_l7 K p1 (c, b) (b.l.length : Int) cs k ((List.range i).map (fun i => (((b.l.getD i []).length : Nat) : Int)) ++ List.replicate (b.l.length - i) 0) i = some true
  | 0, i, h1, h2 => by omega
  | k + 1, i, h1, h2 => by
    have ih := stays7 K hK p1 b c cs hb hal hc k
    have hbl := hb.l
    have hall : b.l.flatten.length + b.begun.length = (allF b).length := by unfold allF; rw [List.length_append]
    unfold tidewracklaw12_BookStays_l7
    rw [cD]
    by_cases hi : i < b.l.length
    · have hwr : IntKind.wrap .i64 ((i : Int) + 1) = ((i + 1 : Nat) : Int) := by rw [w64 (by omega) (by omega)]; omega
      have h3 := mem_flat (List.getElem_mem hi)
      have fin := ih (i + 1) (by omega) (by omega)
      have hst := set_step (fun i => (((b.l.getD i []).length : Nat) : Int)) 0 b.l.length i hi
      rw [← hst] at fin
      have hgd : b.l.getD i [] = b.l[i] := by rw [List.getD_eq_getElem?_getD, List.getElem?_eq_getElem hi]; rfl
      simp only [hgd] at fin
      rw [if_pos (by omega), line_eq b i hi (by omega), bS, if_pos (by simp only [List.length_append, List.length_map, List.length_range, List.length_replicate]; omega), Int.toNat_natCast, hwr]
      exact fin
    · have : i = b.l.length := by omega
      subst this
      rw [if_neg (by omega), Nat.sub_self, List.replicate_zero, List.append_nil]
      unfold tidewracklaw12_BookStays_j2
      have hr := rows_eq K (by omega) p1 12 (by omega)
      rw [show ((12 : Nat) : Int) = 12 from rfl] at hr
      have hql : ((p1.take 12).map anyR).length ≤ 12 := by rw [List.length_map, List.length_take]; omega
      have hqs : ∀ r ∈ (p1.take 12).map anyR, r.Cells.length ≤ 40 := fun r h => any_small h
      rw [hr, bS]
      generalize (p1.take 12).map anyR = q at hql hqs
      have ha := addR K hK b 40 hb q (fun r hr => by have := hqs r hr; omega) (by omega)
      obtain ⟨i1, i2⟩ := adds_inv gfF q b 40 (fun r hr => by have := gf_len r; have := hqs r hr; omega) hb
      obtain ⟨⟨e1, h1'⟩, e2, h2'⟩ := adds_pre gfF q b
      have hlen := adds_len gfF q b 40 1000 (fun r hr => by have := gf_len r; have := hqs r hr; omega) hb hal
      have hall2 : (addsF gfF b q).l.flatten.length + (addsF gfF b q).begun.length = (allF (addsF gfF b q)).length := by unfold allF; rw [List.length_append]
      have hi1 := i1.l
      have hi2 := i1.ch
      unfold book_Book_Len
      rw [ha, bS, bS]
      simp only
      rw [cD, if_neg (by omega)]
      have hbc := hb.ch
      refine stays6 K hK b.l.length (addsF gfF b q) _ _ cs i2 (by omega) hi2 (fun l hl => by have := mem_flat hl; omega) ?_ ?_ K 0 (by omega) (by omega)
      · refine List.map_congr_left fun j hj => ?_
        have hj := List.mem_range.1 hj
        rw [h1', List.getD_eq_getElem?_getD, List.getD_eq_getElem?_getD, List.getElem?_append_left hj]
      · rw [hc]
        refine List.map_congr_left fun j hj => ?_
        have hj := List.mem_range.1 hj
        rw [rdD_get _ _ (by omega : j < b.chains.length), rdD_get _ _ (by omega : j < (addsF gfF b q).chains.length)]
        simp only [h2']
        rw [List.getElem_append_left (by omega)]
theorem stays8 (K : Nat) (hK : 100000 ≤ K) (p1 : List T26) (b : T75) (c : Int) (hb : InvB b 40) (hal : (allF b).length ≤ 1000) : ∀ (k i : Nat), b.l.length + 1 < k + i → i ≤ b.l.length + 1 →
    tidewracklaw12_BookStays_l8 K p1 (c, b) (b.l.length : Int) k ((List.range i).map (fun i => rdD 0 b.chains ((i : Nat) : Int)) ++ List.replicate (b.l.length + 1 - i) 0) i = some true
  | 0, i, h1, h2 => by omega
  | k + 1, i, h1, h2 => by
    have ih := stays8 K hK p1 b c hb hal k
    have hbl := hb.l
    have hbc := hb.ch
    unfold tidewracklaw12_BookStays_l8
    rw [w64 (x := (b.l.length : Int) + 1) (by omega) (by omega), cD]
    by_cases hi : i < b.l.length + 1
    · have hwr : IntKind.wrap .i64 ((i : Int) + 1) = ((i + 1 : Nat) : Int) := by rw [w64 (by omega) (by omega)]; omega
      have fin := ih (i + 1) (by omega) (by omega)
      have hst := set_step (fun i => rdD 0 b.chains ((i : Nat) : Int)) 0 (b.l.length + 1) i hi
      rw [← hst] at fin
      rw [if_pos (by omega), chain_eq b i (by omega) hbc, bS, if_pos (by simp only [List.length_append, List.length_map, List.length_range, List.length_replicate]; omega), Int.toNat_natCast, hwr]
      exact fin
    · have : i = b.l.length + 1 := by omega
      subst this
      rw [if_neg (by omega), Nat.sub_self, List.replicate_zero, List.append_nil]
      unfold tidewracklaw12_BookStays_j1
      rw [Int.toNat_natCast]
      exact stays7 K hK p1 b c _ hb hal rfl K 0 (by omega) (by omega)
theorem BookStays (x0 : List T26) (w0 : ∀ y ∈ x0, (WF.wfT26) y) (l0 : x0.length ≤ maxLen) (x1 : List T26) (w1 : ∀ y ∈ x1, (WF.wfT26) y) (l1 : x1.length ≤ maxLen) : ∃ K, tidewracklaw12_BookStays K x0 x1 = some true := by
  suffices h : ∀ K, 100000 ≤ K → tidewracklaw12_BookStays K x0 x1 = some true from ⟨100000, h _ (Nat.le_refl _)⟩
  intro K hK
  have hr := rows_eq K (by omega) x0 12 (by omega)
  rw [show ((12 : Nat) : Int) = 12 from rfl] at hr
  have hql : ((x0.take 12).map anyR).length ≤ 12 := by rw [List.length_map, List.length_take]; omega
  have hqs : ∀ r ∈ (x0.take 12).map anyR, r.Cells.length ≤ 40 := fun r h => any_small h
  unfold tidewracklaw12_BookStays book_New
  rw [awake_eq K hK, bS, Bool.not_true, cond_false, bS, hr, bS, show (⟨[], [0], []⟩ : T75) = N0 from rfl]
  generalize (x0.take 12).map anyR = q at hql hqs
  have ha := addR K hK N0 0 n0_inv q (fun r hr => by have := hqs r hr; omega) (by omega)
  obtain ⟨i1, i2⟩ := adds_inv gfF q N0 0 (fun r hr => by have := gf_len r; have := hqs r hr; omega) n0_inv
  have hlen := adds_len gfF q N0 0 0 (fun r hr => by have := gf_len r; have := hqs r hr; omega) n0_inv (by simp [allF, N0])
  have hi1 := i1.l
  have hinv : InvB (addsF gfF N0 q) 40 := ⟨by omega, i1.ch, i1.bg⟩
  unfold book_Book_Len
  rw [ha, bS, bS]
  simp only
  rw [w64 (x := ((addsF gfF N0 q).l.length : Int) + 1) (by omega) (by omega), if_pos (by omega), if_pos (by omega), if_pos (by omega), if_pos (by omega)]
  have := stays8 K hK x1 (addsF gfF N0 q) (((addsF gfF N0 q).l.length - N0.l.length : Nat) : Int) hinv (by omega) K 0 (by omega) (by omega)
  rw [show ((0 : Nat) : Int) = 0 from rfl] at this
  rw [show (((addsF gfF N0 q).l.length : Int) + 1).toNat = (addsF gfF N0 q).l.length + 1 by omega]
  exact this
end Go.Proofs.YthmdgjdgnfoloaaDoor.Pure
