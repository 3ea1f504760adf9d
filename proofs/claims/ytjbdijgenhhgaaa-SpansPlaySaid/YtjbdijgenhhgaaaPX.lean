/- Plain laws: what the plain functions answer, with no program in sight. -/
import Derived.Test.YtjbdijgenhhgaaaPC
set_option linter.unusedVariables false
set_option linter.unusedSimpArgs false
namespace Go.Proofs.Ytjbdijgenhhgaaa.Pure
open Go Go.Proofs.XC Go.Proofs.Ytjbdijgenhhgaaa

/-! ### What sets are, behind any calls -/
structure Ok (l : List T28) (k : Nat) : Prop where
  nf : NF l
  bd : Bd l
  len : l.length ≤ k
theorem ok_nil : Ok [] 0 := ⟨trivial, fun x hx => absurd hx (by simp), by simp⟩
theorem Ok.up {l : List T28} {k m : Nat} (h : Ok l k) (hm : k ≤ m) : Ok l m := ⟨h.nf, h.bd, by have := h.len; omega⟩
theorem empty_isin {x : T28} (h : ¬ x.From < x.To) (n : Int) : isin x n = false := decide_eq_false (by omega)
theorem addS_ok {l : List T28} {k : Nat} (h : Ok l k) (x : T28) : Ok (addS l x) (k + 1) ∧ ∀ n, hasF (addS l x) n = (hasF l n || isin (fitF x) n) := by
  unfold addS
  split
  · rename_i c
    refine ⟨⟨add1_nf l _ c h.nf, add1_bd l _ (fit_bd x) h.bd, by have := add1_len l (fitF x); have := h.len; omega⟩, fun n => ?_⟩
    rw [add1_has l _ n c h.nf, Bool.or_comm]
  · rename_i c
    exact ⟨h.up (by omega), fun n => by rw [empty_isin c]; simp⟩
theorem cut1_short (x : T28) (hx : x.From < x.To) : ∀ (l : List T28), (∀ z ∈ l, x.To ≤ z.From) → (cut1 x l).length ≤ l.length
  | [], _ => by simp [cut1]
  | y :: l, h => by
    have ih := cut1_short x hx l (fun z hz => h z (by simp [hz]))
    have hy := h y (by simp)
    have hp : (parts x y).length ≤ 1 := by
      unfold parts ne
      simp only [List.filter_cons, List.filter_nil]
      rw [if_neg (fun h => by have h := of_decide_eq_true h; simp only [mnI] at h; split at h <;> omega)]
      split <;> simp
    unfold cut1 at *
    simp only [List.flatMap_cons, List.length_append, List.length_cons]; omega
theorem cut1_nflen (x : T28) (hx : x.From < x.To) : ∀ (l : List T28), NF l → (cut1 x l).length ≤ l.length + 1
  | [], _ => by simp [cut1]
  | y :: l, h => by
    have ih := cut1_nflen x hx l h.2.2
    by_cases c : x.To < y.To
    · have hs := cut1_short x hx l (fun z hz => by have := h.2.1 z hz; omega)
      have hp := parts_len x y
      unfold cut1 at *
      simp only [List.flatMap_cons, List.length_append, List.length_cons]; omega
    · have hp : (parts x y).length ≤ 1 := by
        unfold parts ne
        simp only [List.filter_cons, List.filter_nil]
        rw [if_neg (c := decide ((⟨mxI y.From x.To, y.To⟩ : T28).From < (⟨mxI y.From x.To, y.To⟩ : T28).To) = true) (fun h => by have h := of_decide_eq_true h; simp only [mxI] at h; split at h <;> omega)]
        split <;> simp
      unfold cut1 at *
      simp only [List.flatMap_cons, List.length_append, List.length_cons]; omega
theorem cutS_ok {l : List T28} {k : Nat} (h : Ok l k) (x : T28) : Ok (cutS l x) (k + 1) ∧ ∀ n, hasF (cutS l x) n = (hasF l n && !(isin (fitF x) n)) := by
  unfold cutS
  split
  · rename_i c
    exact ⟨⟨cut1_nf _ c l h.nf, cut1_bd _ l h.bd, by have := cut1_nflen _ c l h.nf; have := h.len; omega⟩, fun n => cut1_has _ c n l⟩
  · rename_i c
    exact ⟨h.up (by omega), fun n => by rw [empty_isin c]; simp⟩
def anyF (p : List T28) (n : Int) : Bool := p.any fun x => isin (fitF x) n
theorem anyF_bd : ∀ (p : List T28), Bd p → ∀ n, anyF p n = hasF p n
  | [], _, n => rfl
  | x :: p, h, n => by
    have ih := anyF_bd p (fun z hz => h z (by simp [hz])) n
    have hx : Bd [x] := fun z hz => h z (by simp only [List.mem_singleton] at hz; subst hz; simp)
    unfold anyF at *
    rw [List.any_cons, fit_id hx, ih, hasF_cons]
theorem adds_ok : ∀ (p : List T28) (l : List T28) (k : Nat), Ok l k → Ok (p.foldl addS l) (k + p.length) ∧ ∀ n, hasF (p.foldl addS l) n = (hasF l n || anyF p n)
  | [], l, k, h => ⟨h, fun n => by simp [anyF]⟩
  | x :: p, l, k, h => by
    obtain ⟨h1, h2⟩ := addS_ok h x
    obtain ⟨g1, g2⟩ := adds_ok p _ _ h1
    refine ⟨g1.up (by simp only [List.length_cons]; omega), fun n => ?_⟩
    rw [List.foldl_cons, g2, h2, Bool.or_assoc]; rfl
theorem cuts_ok : ∀ (p : List T28) (l : List T28) (k : Nat), Ok l k → Ok (p.foldl cutS l) (k + p.length) ∧ ∀ n, hasF (p.foldl cutS l) n = (hasF l n && !(anyF p n))
  | [], l, k, h => ⟨h, fun n => by simp [anyF]⟩
  | x :: p, l, k, h => by
    obtain ⟨h1, h2⟩ := cutS_ok h x
    obtain ⟨g1, g2⟩ := cuts_ok p _ _ h1
    refine ⟨g1.up (by simp only [List.length_cons]; omega), fun n => ?_⟩
    rw [List.foldl_cons, g2, h2]
    show (hasF l n && !(isin (fitF x) n) && !(anyF p n)) = (hasF l n && !(isin (fitF x) n || anyF p n))
    cases hasF l n <;> cases isin (fitF x) n <;> cases anyF p n <;> rfl
theorem in_ok {l : List T28} {k : Nat} (h : Ok l k) (x : T28) : Ok (in1 (fitF x) l) k := ⟨in1_nf _ l h.nf, in1_bd _ l (fit_bd x) h.bd, by have := in1_len (fitF x) l; have := h.len; omega⟩
theorem cuts_eq (K : Nat) (hK : 20000 ≤ K) {l : List T28} {k : Nat} (h : Ok l k) (p : List T28) (hk : k + p.length ≤ 5000) : spans_Set_Cut K ⟨l⟩ p = some ⟨p.foldl cutS l⟩ := by
  refine cut_eq K hK l p (by omega) fun j hj => ?_
  have := (cuts_ok (p.take j) l k h).1.len
  rw [List.length_take] at this
  omega
def missF (l : List T28) (x : T28) : List T28 := l.foldl cutS (addS [] x)
theorem miss_ok {l : List T28} {k : Nat} (h : Ok l k) (x : T28) : Ok (missF l x) (1 + k) ∧ ∀ n, hasF (missF l x) n = (!(hasF l n) && isin (fitF x) n) := by
  obtain ⟨a1, a2⟩ := addS_ok ok_nil x
  obtain ⟨c1, c2⟩ := cuts_ok l _ _ a1
  refine ⟨c1.up (by have := h.len; omega), fun n => ?_⟩
  unfold missF
  rw [c2, a2, anyF_bd l h.bd, hasF_nil, Bool.false_or, Bool.and_comm]
theorem miss_eq (K : Nat) (hK : 20000 ≤ K) {l : List T28} {k : Nat} (h : Ok l k) (hk : k ≤ 4000) (x : T28) : spans_Set_Missing K ⟨l⟩ x = some (missF l x) := by
  unfold spans_Set_Missing
  have hl := h.len
  rw [add_eq K hK [] [x] (by simp), bS]
  show (spans_Set_Cut K ⟨addS [] x⟩ l).bind _ = _
  rw [cuts_eq K hK (addS_ok ok_nil x).1 l (by omega), bS]; rfl
theorem eqT_refl (x : T28) : eqT28 x x = true := by simp [eqT28]
theorem same_loop (p : List T28) (hp : p.length ≤ 100000) : ∀ (k i : Nat), p.length < k + i → i ≤ p.length → tidewracklaw13_Same_l2 p p k i = some true
  | 0, i, h1, h2 => by omega
  | k + 1, i, h1, h2 => by
    have ih := same_loop p hp k
    unfold tidewracklaw13_Same_l2
    rw [cD]
    by_cases hi : i < p.length
    · have hw : IntKind.wrap .i64 ((i : Int) + 1) = ((i + 1 : Nat) : Int) := by rw [w64 (by omega) (by omega)]; omega
      rw [if_pos (by omega), if_pos (by omega), if_pos (by omega), eqT_refl, Bool.not_true, cond_false, hw, ih (i + 1) (by omega) (by omega)]
    · rw [if_neg (by omega)]; rfl
theorem same_refl (K : Nat) (p : List T28) (hp : p.length ≤ 100000) (hK : p.length < K) : tidewracklaw13_Same K p p = some true := by
  unfold tidewracklaw13_Same
  rw [cN, if_pos rfl]
  exact same_loop p hp K 0 (by omega) (by omega)
theorem hasone (x : T28) (n : Int) : hasF (if (fitF x).From < (fitF x).To then [fitF x] else []) n = isin (fitF x) n := by
  split
  · simp [hasF]
  · rename_i c; rw [empty_isin c]; rfl
theorem onelen (x : T28) : (if (fitF x).From < (fitF x).To then [fitF x] else ([] : List T28)).length ≤ 1 := by split <;> simp
theorem rbuild (K : Nat) (hK : 20000 ≤ K) {l : List T28} {k : Nat} (h : Ok l k) (hk : k ≤ 3000) (x : T28) (m : Int) (r : List T28) (hr : NF r) (hm : ∀ n, hasF r n = keepF m (hasF l n) (isin (fitF x) n)) :
    tidewrackref13_build K l (if (fitF x).From < (fitF x).To then [fitF x] else []) m = some r := by
  have := onelen x
  have := h.len
  obtain ⟨q, e1, e2, e3⟩ := build_eq K l (if (fitF x).From < (fitF x).To then [fitF x] else []) m (by omega) hK
  rw [e1]
  congr 1
  refine NF.uniq e2 hr fun n => ?_
  rw [e3, hm, hasone]
theorem radd (K : Nat) (hK : 20000 ≤ K) {l : List T28} {k : Nat} (h : Ok l k) (hk : k ≤ 3000) (x : T28) : tidewrackref13_Add K l x = some (addS l x) := by
  unfold tidewrackref13_Add
  rw [one_eq, bS, rbuild K hK h hk x 0 (addS l x) (addS_ok h x).1.nf (addS_ok h x).2, bS]
theorem rcut (K : Nat) (hK : 20000 ≤ K) {l : List T28} {k : Nat} (h : Ok l k) (hk : k ≤ 3000) (x : T28) : tidewrackref13_Cut K l x = some (cutS l x) := by
  unfold tidewrackref13_Cut
  rw [one_eq, bS, rbuild K hK h hk x 1 (cutS l x) (cutS_ok h x).1.nf (cutS_ok h x).2, bS]
theorem rin (K : Nat) (hK : 20000 ≤ K) {l : List T28} {k : Nat} (h : Ok l k) (hk : k ≤ 3000) (x : T28) : tidewrackref13_In K l x = some (in1 (fitF x) l) := by
  unfold tidewrackref13_In
  rw [one_eq, bS, rbuild K hK h hk x 2 (in1 (fitF x) l) (in_ok h x).nf (fun n => in1_has _ n l), bS]
theorem rmiss (K : Nat) (hK : 20000 ≤ K) {l : List T28} {k : Nat} (h : Ok l k) (hk : k ≤ 3000) (x : T28) : tidewrackref13_Missing K l x = some (missF l x) := by
  unfold tidewrackref13_Missing
  rw [one_eq, bS, rbuild K hK h hk x 3 (missF l x) (miss_ok h x).1.nf (miss_ok h x).2, bS]
theorem awake_eq (K : Nat) (hK : 20000 ≤ K) : tidewracklaw13_awake K = some true := by
  unfold tidewracklaw13_awake
  have e1 : ([(⟨2, 5⟩ : T28), (⟨5, 7⟩ : T28)] : List T28).foldl addS [] = [⟨2, 7⟩] := rfl
  have e2 : cutS [⟨2, 7⟩] ⟨3, 4⟩ = [⟨2, 3⟩, ⟨4, 7⟩] := rfl
  rw [add_eq K hK [] _ (by simp), bS, e1, cut_one_eq K hK _ _ (by simp), bS, e2, spans_eq _ (by simp), bS, same_refl K _ (by simp) (by simp; omega), bS, cond_true, len_eq K _ (by simp) (by simp; omega), bS,
    show lenF [⟨2, 3⟩, ⟨4, 7⟩] 0 = 4 from by decide +kernel, cE, if_pos rfl, has_eq K _ 2 (by simp) (by simp; omega), bS, show hasF [⟨2, 3⟩, ⟨4, 7⟩] 2 = true from by decide +kernel, cond_true, has_eq K _ 3 (by simp) (by simp; omega), bS, show hasF [⟨2, 3⟩, ⟨4, 7⟩] 3 = false from by decide +kernel]
  rfl
/-! ### SpansPlay -/
theorem play8 (K : Nat) (p1 : T28) (p2 : Int) (x5 : Int) (lp : List T28 → List T28 → Int → Option Bool) (l : List T28) (hl : l.length ≤ 100000) : ∀ (k i : Nat) (s : Int), l.length < k + i → i ≤ l.length →
    tidewracklaw13_SpansPlay_l8 K p1 p2 x5 lp l l k s i = tidewracklaw13_SpansPlay_j7 K p1 p2 x5 lp l l (lenF (l.drop i) s)
  | 0, i, s, h1, h2 => by omega
  | k + 1, i, s, h1, h2 => by
    have ih := play8 K p1 p2 x5 lp l hl k
    unfold tidewracklaw13_SpansPlay_l8
    rw [cD]
    by_cases hi : i < l.length
    · have hw : IntKind.wrap .i64 ((i : Int) + 1) = ((i + 1 : Nat) : Int) := by rw [w64 (by omega) (by omega)]; omega
      rw [if_pos (by omega), if_pos (by omega), rdD_get _ _ hi, hw, ih (i + 1) _ (by omega) (by omega), List.drop_eq_getElem_cons hi]
      rfl
    · rw [if_neg (by omega), List.drop_eq_nil_of_le (by omega)]; rfl
theorem play6 (K : Nat) (hK : 20000 ≤ K) (p1 : T28) (p2 : Int) (x5 : Int) (lp : List T28 → List T28 → Int → Option Bool) {l : List T28} {k : Nat} (h : Ok l k) (hk : k ≤ 3000) :
    tidewracklaw13_SpansPlay_j6 K p1 p2 x5 lp l l = lp l l (IntKind.wrap .i64 (x5 + 1)) := by
  have hl := h.len
  have hi := (in_ok h p1).len
  have hm := (miss_ok h p1).1.len
  have h8 := play8 K p1 p2 x5 lp l (by omega) K 0 0 (by omega) (by omega)
  rw [show ((0 : Nat) : Int) = 0 from rfl, List.drop_zero] at h8
  unfold tidewracklaw13_SpansPlay_j6
  rw [h8]
  unfold tidewracklaw13_SpansPlay_j7 tidewracklaw13_SpansPlay_j4
  rw [spans_eq l (by omega), bS, same_refl K l (by omega) (by omega), bS, Bool.not_true, cond_false, len_eq K l (by omega) (by omega), bS, cN, if_pos rfl, has_eq K l _ (by omega) (by omega), bS, rhas_eq K l _ (by omega) (by omega), bS, beq_self_eq_true, Bool.not_true, cond_false,
    in_eq K l p1 (by omega) (by omega), bS, rin K hK h hk p1, bS, same_refl K _ (by omega) (by omega), bS, Bool.not_true, cond_false, miss_eq K hK h (by omega) p1, bS, rmiss K hK h hk p1, bS, same_refl K _ (by omega) (by omega), bS, Bool.not_true, cond_false]
theorem play_loop (K : Nat) (hK : 20000 ≤ K) (p0 : List T35) (p1 : T28) (p2 : Int) : ∀ (k i : Nat) (l : List T28), 25 < k + i → i ≤ 25 → Ok l i → tidewracklaw13_SpansPlay_l2 K p0 p1 p2 k l l i = some true
  | 0, i, l, h1, h2, h3 => by omega
  | k + 1, i, l, h1, h2, h3 => by
    have ih := play_loop K hK p0 p1 p2 k
    have hl := h3.len
    unfold tidewracklaw13_SpansPlay_l2
    rw [cD, cD]
    by_cases c1 : i < p0.length
    · by_cases c2 : i < 25
      · have hw : IntKind.wrap .i64 ((i : Int) + 1) = ((i + 1 : Nat) : Int) := by rw [w64 (by omega) (by omega)]; omega
        rw [if_pos (by omega), if_pos (by omega)]
        unfold tidewracklaw13_SpansPlay_j3 spans_Set_Clone slices_Clone
        rw [if_pos (by omega), if_pos (by simp only [List.length_nil]; omega), bS, bS, List.nil_append, spans_eq l (by omega), bS, same_refl K l (by omega) (by omega), bS, Bool.not_true, cond_false]
        unfold tidewracklaw13_SpansPlay_j5
        rw [rdD_get _ _ c1]
        generalize p0[i] = a
        cases a.Cut with
        | true =>
          rw [cond_true, rcut K hK h3 (by omega), bS, cut_one_eq K hK l _ (by omega), bS]
          simp only
          rw [play6 K hK p1 p2 i _ (cutS_ok h3 _).1 (by omega), hw]
          exact ih (i + 1) _ (by omega) (by omega) (cutS_ok h3 _).1
        | false =>
          rw [cond_false, radd K hK h3 (by omega), bS, add_eq K hK l _ (by simp; omega), bS]
          simp only [List.foldl_cons, List.foldl_nil]
          rw [play6 K hK p1 p2 i _ (addS_ok h3 _).1 (by omega), hw]
          exact ih (i + 1) _ (by omega) (by omega) (addS_ok h3 _).1
      · rw [if_pos (by omega), if_neg (by omega)]; rfl
    · rw [if_neg (by omega)]; rfl
theorem SpansPlay (x0 : List T35) (w0 : ∀ y ∈ x0, (WF.wfT35) y) (l0 : x0.length ≤ maxLen) (x1 : T28) (w1 : (WF.wfT28) x1) (x2 : Int) (w2 : (Lit.int .i64 x2).wf = true) : ∃ K, tidewracklaw13_SpansPlay K x0 x1 x2 = some true := by
  suffices h : ∀ K, 20000 ≤ K → tidewracklaw13_SpansPlay K x0 x1 x2 = some true from ⟨20000, h _ (Nat.le_refl _)⟩
  intro K hK
  unfold tidewracklaw13_SpansPlay
  rw [awake_eq K hK, bS, Bool.not_true, cond_false]
  exact play_loop K hK x0 x1 x2 K 0 [] (by omega) (by omega) ok_nil
/-! ### SpansOrder -/
theorem nf_get : ∀ (l : List T28), NF l → ∀ (i : Nat) (h : i + 1 < l.length), (l[i]'(by omega)).To < l[i + 1].From
  | [], _, i, h => by simp at h
  | x :: l, hn, 0, h => by
    simp only [List.getElem_cons_zero, List.getElem_cons_succ]
    exact hn.2.1 _ (List.getElem_mem _)
  | x :: l, hn, i + 1, h => by
    simp only [List.getElem_cons_succ]
    exact nf_get l hn.2.2 i (by simpa using h)
theorem order4 (l : List T28) (hn : NF l) (hl : l.length ≤ 1000) : ∀ (k i : Nat), l.length < k + i → i ≤ l.length → tidewracklaw13_SpansOrder_l4 l l k i = some true
  | 0, i, h1, h2 => by omega
  | k + 1, i, h1, h2 => by
    have ih := order4 l hn hl k
    unfold tidewracklaw13_SpansOrder_l4
    rw [cD]
    by_cases hi : i < l.length
    · have hw : IntKind.wrap .i64 ((i : Int) + 1) = ((i + 1 : Nat) : Int) := by rw [w64 (by omega) (by omega)]; omega
      have h3 := hn.mem_lt _ (List.getElem_mem hi)
      rw [if_pos (by omega), if_pos (by omega), if_pos (by omega), eqT_refl, Bool.not_true, cond_false, rdD_get _ _ hi, cD, if_neg (by omega), cD]
      by_cases c : i > 0
      · obtain ⟨j, rfl⟩ : ∃ j, i = j + 1 := ⟨i - 1, by omega⟩
        have h4 := nf_get l hn j hi
        rw [if_pos (by omega), show IntKind.wrap .i64 (((j + 1 : Nat) : Int) - 1) = ((j : Nat) : Int) from by rw [w64 (by omega) (by omega)]; omega, if_pos (by omega), rdD_get _ _ (by omega : j < l.length), cD, if_neg (by omega), hw]
        exact ih _ (by omega) (by omega)
      · rw [if_neg (by omega), hw]
        exact ih _ (by omega) (by omega)
    · rw [if_neg (by omega)]; rfl
theorem anyF_app (a b : List T28) (n : Int) : anyF (a ++ b) n = (anyF a n || anyF b n) := by simp [anyF]
theorem order5 (K : Nat) (hK : 20000 ≤ K) (p0 q : List T28) (hq : List.drop 0 (List.take (Int.toNat (mnI ((p0).length : Int) 20)) p0) = q) (hl : q.length ≤ 20) : ∀ (k i : Nat) (s t : List T28), q.length < k + i → i ≤ q.length → Ok s i → Ok t i → (∀ n, hasF s n = anyF (q.take i) n) → (∀ n, hasF t n = anyF (q.drop (q.length - i)) n) →
    tidewracklaw13_SpansOrder_l5 K p0 k s t i = some true
  | 0, i, s, t, h1, h2, h3, h4, h5, h6 => by omega
  | k + 1, i, s, t, h1, h2, h3, h4, h5, h6 => by
    have ih := order5 K hK p0 q hq hl k
    have l3 := h3.len
    have l4 := h4.len
    unfold tidewracklaw13_SpansOrder_l5
    rw [hq, cD]
    by_cases hi : i < q.length
    · have hw : IntKind.wrap .i64 ((i : Int) + 1) = ((i + 1 : Nat) : Int) := by rw [w64 (by omega) (by omega)]; omega
      have hw2 : IntKind.wrap .i64 (IntKind.wrap .i64 ((q.length : Int) - 1) - (i : Int)) = ((q.length - 1 - i : Nat) : Int) := by rw [w64 (x := (q.length : Int) - 1) (by omega) (by omega), w64 (by omega) (by omega)]; omega
      have hj : q.length - 1 - i < q.length := by omega
      rw [if_pos (by omega), if_pos (by omega), rdD_get _ _ hi, add_eq K hK s _ (by simp; omega), bS, hw2, if_pos (by omega), rdD_get _ _ hj, add_eq K hK t _ (by simp; omega), bS, hw]
      simp only [List.foldl_cons, List.foldl_nil]
      obtain ⟨a1, a2⟩ := addS_ok h3 q[i]
      obtain ⟨b1, b2⟩ := addS_ok h4 (q[q.length - 1 - i])
      refine ih (i + 1) _ _ (by omega) (by omega) a1 b1 (fun n => ?_) (fun n => ?_)
      · rw [a2, h5, List.take_succ_eq_append_getElem hi, anyF_app]
        simp [anyF]
      · rw [b2, h6]
        have e : q.drop (q.length - (i + 1)) = q[q.length - 1 - i] :: q.drop (q.length - i) := by
          rw [show q.length - (i + 1) = q.length - 1 - i by omega, List.drop_eq_getElem_cons hj, show q.length - 1 - i + 1 = q.length - i by omega]
        rw [e]
        simp only [anyF, List.any_cons]
        rw [Bool.or_comm]
    · have : i = q.length := by omega
      subst this
      have hst : s = t := NF.uniq h3.nf h4.nf fun n => by rw [h5, h6, List.take_length, Nat.sub_self, List.drop_zero]
      subst hst
      rw [if_neg (by omega)]
      unfold tidewracklaw13_SpansOrder_j1 tidewracklaw13_SpansOrder_j2
      have := order4 s h3.nf (by omega) K 0 (by omega) (by omega)
      rw [spans_eq s (by omega), bS, bS, cN, if_pos rfl, len_eq K s (by omega) (by omega), bS, bS, cN, if_pos rfl]
      exact this
theorem SpansOrder (x0 : List T28) (w0 : ∀ y ∈ x0, (WF.wfT28) y) (l0 : x0.length ≤ maxLen) : ∃ K, tidewracklaw13_SpansOrder K x0 = some true := by
  suffices h : ∀ K, 20000 ≤ K → tidewracklaw13_SpansOrder K x0 = some true from ⟨20000, h _ (Nat.le_refl _)⟩
  intro K hK
  unfold tidewracklaw13_SpansOrder
  have hm : mnI (x0.length : Int) 20 = ((min x0.length 20 : Nat) : Int) := by unfold mnI; split <;> omega
  rw [awake_eq K hK, bS, Bool.not_true, cond_false, if_pos (by omega), if_pos (by omega)]
  have hl : (List.drop 0 (List.take (Int.toNat (mnI ((x0).length : Int) 20)) x0)).length ≤ 20 := by rw [hm, List.drop_zero, List.length_take]; omega
  exact order5 K hK x0 _ rfl hl K 0 [] [] (by omega) (by omega) ok_nil ok_nil (fun n => by simp [anyF, hasF]) (fun n => by rw [Nat.sub_zero, List.drop_length]; rfl)
/-! ### SpansCounts -/
theorem within_of {l : List T28} (hn : NF l) (lo hi : Int) (h : ∀ n, hasF l n = true → lo ≤ n ∧ n < hi) : ∀ x ∈ l, lo ≤ x.From ∧ x.To ≤ hi := fun x hx => by
  have h1 := hn.mem_lt x hx
  have h2 := h x.From ((hasF_iff _ _).2 ⟨x, hx, by omega, h1⟩)
  have h3 := h (x.To - 1) ((hasF_iff _ _).2 ⟨x, hx, by omega, by omega⟩)
  omega
theorem lenF_ok {l : List T28} {k : Nat} (h : Ok l k) : lenF l 0 = meas l := by
  have := meas_le (-1152921504606846976) 1152921504606846976 l h.nf (fun y hy => ⟨(h.bd y hy).1, (h.bd y hy).2.2.2⟩) (by decide)
  rw [lenF_meas l 0 h.nf h.bd (by omega) (by omega)]; omega
theorem counts3 (K : Nat) (hK : 20000 ≤ K) {l : List T28} {k : Nat} (h : Ok l k) (hk : k ≤ 1000) (hr : ∀ n, hasF l n = true → 0 ≤ n ∧ n < 63) : ∀ (f j : Nat), 66 < f + j → j ≤ 66 → ∀ c : Nat, c ≤ j → (c : Int) = cnt (hasF l) (-1) j → tidewracklaw13_SpansCounts_l3 K l f c ((j : Int) - 1) = some true
  | 0, j, h1, h2 => by omega
  | f + 1, j, h1, h2 => fun c hc hcc => by
    have ih := counts3 K hK h hk hr f
    have hl := h.len
    unfold tidewracklaw13_SpansCounts_l3
    rw [cD]
    by_cases hj : j < 66
    · have hw : IntKind.wrap .i64 ((j : Int) - 1 + 1) = ((j + 1 : Nat) : Int) - 1 := by rw [w64 (by omega) (by omega)]; omega
      have hw2 : IntKind.wrap .i64 ((c : Int) + 1) = ((c + 1 : Nat) : Int) := by rw [w64 (by omega) (by omega)]; omega
      have hcnt : cnt (hasF l) (-1) (j + 1) = c + (if hasF l ((j : Int) - 1) = true then 1 else 0) := by
        rw [cnt, ← hcc, show (-1 : Int) + (j : Int) = (j : Int) - 1 by omega]
      rw [if_pos (by omega), has_eq K l _ (by omega) (by omega), bS, hw, hw2]
      cases hh : hasF l ((j : Int) - 1) with
      | true =>
        rw [hh, if_pos rfl] at hcnt
        rw [cond_true]
        exact ih (j + 1) (by omega) (by omega) (c + 1) (by omega) (by omega)
      | false =>
        rw [hh, if_neg (by simp)] at hcnt
        rw [cond_false]
        exact ih (j + 1) (by omega) (by omega) c (by omega) (by omega)
    · have : j = 66 := by omega
      subst this
      have hm := cnt_meas (-1) 66 l h.nf (fun x hx => by have := within_of h.nf 0 63 hr x hx; omega)
      have hf : ∀ n, ¬ (0 ≤ n ∧ n < 63) → hasF l n = false := fun n hn => by
        cases hh : hasF l n with
        | false => rfl
        | true => exact absurd (hr n hh) hn
      rw [if_neg (by omega)]
      unfold tidewracklaw13_SpansCounts_j2
      rw [len_eq K l (by omega) (by omega), bS, lenF_ok h, cE, if_pos (by omega), has_eq K l _ (by omega) (by omega), bS, hf (-1) (by omega), Bool.not_false, cond_true, has_eq K l _ (by omega) (by omega), bS, hf 63 (by omega)]
      rfl
theorem counts4 (K : Nat) (hK : 20000 ≤ K) (p0 : List T35) : ∀ (k i : Nat) (l : List T28), 20 < k + i → i ≤ 20 → Ok l i → (∀ n, hasF l n = true → 0 ≤ n ∧ n < 63) → tidewracklaw13_SpansCounts_l4 K p0 k l i = some true
  | 0, i, l, h1, h2, h3, h4 => by omega
  | k + 1, i, l, h1, h2, h3, h4 => by
    have ih := counts4 K hK p0 k
    have hl := h3.len
    have fin : tidewracklaw13_SpansCounts_j1 K l = some true := counts3 K hK h3 (by omega) h4 K 0 (by omega) (by omega) 0 (by omega) rfl
    unfold tidewracklaw13_SpansCounts_l4
    rw [cD, cD, fin]
    by_cases c1 : i < p0.length
    · by_cases c2 : i < 20
      · have hw : IntKind.wrap .i64 ((i : Int) + 1) = ((i + 1 : Nat) : Int) := by rw [w64 (by omega) (by omega)]; omega
        rw [if_pos (by omega), if_pos (by omega)]
        unfold tidewracklaw13_SpansCounts_j5
        rw [if_pos (by omega), rdD_get _ _ c1, hw]
        generalize p0[i] = a
        obtain ⟨u, hu, eu⟩ := and_le a.Span_From 63 (by decide)
        obtain ⟨v, hv, ev⟩ := and_le a.Span_To 63 (by decide)
        rw [show ((63 : Nat) : Int) = 63 from rfl] at eu ev
        rw [eu, ev]
        have hfit : fitF ⟨u, v⟩ = ⟨u, v⟩ := fit_id (fun z hz => by simp only [List.mem_singleton] at hz; subst hz; simp only; omega)
        cases a.Cut with
        | true =>
          rw [cond_true, cut_one_eq K hK l _ (by omega), bS]
          refine ih (i + 1) _ (by omega) (by omega) (cutS_ok h3 _).1 fun n hn => ?_
          rw [(cutS_ok h3 _).2] at hn
          exact h4 n (by simp only [Bool.and_eq_true] at hn; exact hn.1)
        | false =>
          rw [cond_false, add_eq K hK l _ (by simp; omega), bS]
          simp only [List.foldl_cons, List.foldl_nil]
          refine ih (i + 1) _ (by omega) (by omega) (addS_ok h3 _).1 fun n hn => ?_
          rw [(addS_ok h3 _).2, hfit, Bool.or_eq_true, isin_iff] at hn
          rcases hn with hn | hn
          · exact h4 n hn
          · simp only at hn; omega
      · rw [if_pos (by omega), if_neg (by omega)]
    · rw [if_neg (by omega)]
theorem SpansCounts (x0 : List T35) (w0 : ∀ y ∈ x0, (WF.wfT35) y) (l0 : x0.length ≤ maxLen) : ∃ K, tidewracklaw13_SpansCounts K x0 = some true := by
  suffices h : ∀ K, 20000 ≤ K → tidewracklaw13_SpansCounts K x0 = some true from ⟨20000, h _ (Nat.le_refl _)⟩
  intro K hK
  unfold tidewracklaw13_SpansCounts
  rw [awake_eq K hK, bS, Bool.not_true, cond_false]
  exact counts4 K hK x0 K 0 [] (by omega) (by omega) ok_nil (fun n h => by simp [hasF] at h)
/-! ### SpansCutBack -/
theorem back3 (l : List T28) (hl : l.length ≤ 100000) : ∀ (k i : Nat), l.length < k + i → i ≤ l.length → tidewracklaw13_SpansCutBack_l3 l l k i = some true
  | 0, i, h1, h2 => by omega
  | k + 1, i, h1, h2 => by
    have ih := back3 l hl k
    unfold tidewracklaw13_SpansCutBack_l3
    rw [cD]
    by_cases hi : i < l.length
    · have hw : IntKind.wrap .i64 ((i : Int) + 1) = ((i + 1 : Nat) : Int) := by rw [w64 (by omega) (by omega)]; omega
      rw [if_pos (by omega), if_pos (by omega), if_pos (by omega), eqT_refl, Bool.not_true, cond_false, hw, ih (i + 1) (by omega) (by omega)]
    · rw [if_neg (by omega)]; rfl
theorem nil_of {l : List T28} (h : NF l) (hn : ∀ n, hasF l n = false) : l = [] := NF.uniq h trivial fun n => by rw [hn]; rfl
theorem back1 (K : Nat) (hK : 20000 ≤ K) (p1 : T28) {l : List T28} {k : Nat} (h : Ok l k) (hk : k ≤ 1000) : tidewracklaw13_SpansCutBack_j1 K p1 l l = some true := by
  have hl := h.len
  obtain ⟨c1, c2⟩ := cutS_ok h p1
  have hcl := c1.len
  have hin := in_ok h p1
  have hil := hin.len
  have e1 : in1 (fitF p1) (cutS l p1) = [] := nil_of (in_ok c1 p1).nf fun n => by
    rw [in1_has, c2]; cases hasF l n <;> cases isin (fitF p1) n <;> rfl
  obtain ⟨a1, a2⟩ := adds_ok (in1 (fitF p1) l) _ _ c1
  have e2 : (in1 (fitF p1) l).foldl addS (cutS l p1) = l := NF.uniq a1.nf h.nf fun n => by
    rw [a2, c2, anyF_bd _ hin.bd, in1_has]; cases hasF l n <;> cases isin (fitF p1) n <;> rfl
  unfold tidewracklaw13_SpansCutBack_j1
  rw [in_eq K l p1 (by omega) (by omega), bS, cut_one_eq K hK l p1 (by omega), bS, in_eq K _ p1 (by omega) (by omega), bS, e1, cN, if_pos (show ((([] : List T28)).length : Int) = 0 from rfl), add_eq K hK _ _ (by omega), bS, e2, spans_eq l (by omega), bS, bS, cN, if_pos rfl]
  exact back3 l (by omega) K 0 (by omega) (by omega)
theorem back4 (K : Nat) (hK : 20000 ≤ K) (p0 : List T28) (p1 : T28) : ∀ (k i : Nat) (l : List T28), 15 < k + i → i ≤ 15 → Ok l i → tidewracklaw13_SpansCutBack_l4 K p0 p1 k l l i = some true
  | 0, i, l, h1, h2, h3 => by omega
  | k + 1, i, l, h1, h2, h3 => by
    have ih := back4 K hK p0 p1 k
    have hl := h3.len
    unfold tidewracklaw13_SpansCutBack_l4
    rw [cD, cD, back1 K hK p1 h3 (by omega)]
    by_cases c1 : i < p0.length
    · by_cases c2 : i < 15
      · have hw : IntKind.wrap .i64 ((i : Int) + 1) = ((i + 1 : Nat) : Int) := by rw [w64 (by omega) (by omega)]; omega
        rw [if_pos (by omega), if_pos (by omega)]
        unfold tidewracklaw13_SpansCutBack_j5
        rw [if_pos (by omega), add_eq K hK l _ (by simp; omega), bS, bS, hw]
        exact ih (i + 1) _ (by omega) (by omega) (addS_ok h3 _).1
      · rw [if_pos (by omega), if_neg (by omega)]
    · rw [if_neg (by omega)]
theorem SpansCutBack (x0 : List T28) (w0 : ∀ y ∈ x0, (WF.wfT28) y) (l0 : x0.length ≤ maxLen) (x1 : T28) (w1 : (WF.wfT28) x1) : ∃ K, tidewracklaw13_SpansCutBack K x0 x1 = some true := by
  suffices h : ∀ K, 20000 ≤ K → tidewracklaw13_SpansCutBack K x0 x1 = some true from ⟨20000, h _ (Nat.le_refl _)⟩
  intro K hK
  unfold tidewracklaw13_SpansCutBack
  rw [awake_eq K hK, bS, Bool.not_true, cond_false]
  exact back4 K hK x0 x1 K 0 [] (by omega) (by omega) ok_nil
/-! ### SpansAll -/
theorem lenF_app : ∀ (a b : List T28) (s : Int), lenF (a ++ b) s = lenF b (lenF a s)
  | [], b, s => rfl
  | x :: a, b, s => lenF_app a b _
theorem all4 (K : Nat) (p1 : T28) (a b : List T28) (hl : a.length + b.length ≤ 100000) : ∀ (k i : Nat) (s : Int), (a ++ b).length < k + i → i ≤ (a ++ b).length → tidewracklaw13_SpansAll_l4 K p1 a b k s i = tidewracklaw13_SpansAll_j2 K p1 a b (lenF ((a ++ b).drop i) s)
  | 0, i, s, h1, h2 => by omega
  | k + 1, i, s, h1, h2 => by
    have ih := all4 K p1 a b hl k
    have hab : (a ++ b).length = a.length + b.length := List.length_append
    unfold tidewracklaw13_SpansAll_l4
    rw [List.nil_append, cD]
    by_cases hi : i < (a ++ b).length
    · have hw : IntKind.wrap .i64 ((i : Int) + 1) = ((i + 1 : Nat) : Int) := by rw [w64 (by omega) (by omega)]; omega
      rw [if_pos (by omega), if_pos (by omega), rdD_get _ _ hi, hw, ih (i + 1) _ (by omega) (by omega), List.drop_eq_getElem_cons hi]
      rfl
    · rw [if_neg (by omega), List.drop_eq_nil_of_le (by omega)]; rfl
theorem all1 (K : Nat) (hK : 20000 ≤ K) (x : T28) {l : List T28} {k : Nat} (h : Ok l k) (hk : k ≤ 1000) : tidewracklaw13_SpansAll_j1 K x l = some true := by
  have hl := h.len
  have hin := in_ok h x
  have hil := hin.len
  obtain ⟨m1, m2⟩ := miss_ok h x
  have hml := m1.len
  have hab : (in1 (fitF x) l ++ missF l x).length = (in1 (fitF x) l).length + (missF l x).length := List.length_append
  have h4 := all4 K x (in1 (fitF x) l) (missF l x) (by omega) K 0 0 (by omega) (by omega)
  rw [show ((0 : Nat) : Int) = 0 from rfl, List.drop_zero, lenF_app, lenF_ok hin] at h4
  have hm1 := meas_le (-1152921504606846976) 1152921504606846976 _ hin.nf (fun y hy => ⟨(hin.bd y hy).1, (hin.bd y hy).2.2.2⟩) (by decide)
  have hm2 := meas_le (-1152921504606846976) 1152921504606846976 _ m1.nf (fun y hy => ⟨(m1.bd y hy).1, (m1.bd y hy).2.2.2⟩) (by decide)
  rw [lenF_meas _ _ m1.nf m1.bd (by omega) (by omega)] at h4
  unfold tidewracklaw13_SpansAll_j1
  rw [in_eq K l x (by omega) (by omega), bS, miss_eq K hK h (by omega) x, bS, if_pos (by simp only [List.length_nil]; omega), if_pos (by simp only [List.nil_append]; omega), h4]
  unfold tidewracklaw13_SpansAll_j2
  obtain ⟨a1, a2⟩ := adds_ok (in1 (fitF x) l) _ _ ok_nil
  obtain ⟨b1, b2⟩ := adds_ok (missF l x) _ _ a1
  have hal := a1.len
  have hbl := b1.len
  have hhas : ∀ n, hasF ((missF l x).foldl addS ((in1 (fitF x) l).foldl addS [])) n = isin (fitF x) n := fun n => by
    rw [b2, a2, hasF_nil, Bool.false_or, anyF_bd _ hin.bd, anyF_bd _ m1.bd, in1_has, m2]
    cases hasF l n <;> cases isin (fitF x) n <;> rfl
  rw [add_eq K hK _ _ (by simp only [List.length_nil]; omega), bS, add_eq K hK _ _ (by omega), bS, fit_ref, bS, cD]
  have hb := fit_bd x (fitF x) (by simp)
  have hsum : meas (in1 (fitF x) l) + meas (missF l x) = if (fitF x).From < (fitF x).To then (fitF x).To - (fitF x).From else 0 := by
    have hr : ∀ q : List T28, NF q → Bd q → cnt (hasF q) (-1152921504606846976) 2305843009213693952 = meas q := fun q hq hqb => cnt_meas _ _ q hq (fun y hy => by have := hqb y hy; omega)
    rw [← hr _ hin.nf hin.bd, ← hr _ m1.nf m1.bd, ← cnt_or]
    · rw [cnt_congr (q := isin (fitF x)) (fun n => by rw [in1_has, m2]; cases hasF l n <;> cases isin (fitF x) n <;> rfl)]
      split
      · rename_i c
        rw [cnt_one _ _ (by omega) (by omega)]
        (repeat' split) <;> omega
      · rename_i c
        exact cnt_zero (fun n => empty_isin c n) _ _
    · rintro n ⟨g1, g2⟩
      rw [in1_has] at g1
      rw [m2] at g2
      revert g1 g2
      cases hasF l n <;> cases isin (fitF x) n <;> simp
  rw [hsum]
  by_cases c : (fitF x).From < (fitF x).To
  · rw [if_neg (by omega), if_pos c, w64 (by omega) (by omega), cE, if_pos rfl]
    have e : (missF l x).foldl addS ((in1 (fitF x) l).foldl addS []) = [fitF x] := NF.uniq b1.nf ⟨c, by simp, trivial⟩ fun n => by rw [hhas]; simp [hasF]
    unfold tidewracklaw13_SpansAll_j3
    rw [e, spans_eq _ (by simp), bS, same_refl K _ (by simp) (by simp; omega), bS]
  · have e : (missF l x).foldl addS ((in1 (fitF x) l).foldl addS []) = [] := nil_of b1.nf fun n => by rw [hhas, empty_isin c]
    rw [if_pos (by omega), if_neg c, cE, if_pos rfl, e, len_eq K _ (by simp) (by simp; omega), bS]
    rfl
theorem all5 (K : Nat) (hK : 20000 ≤ K) (p0 : List T28) (p1 : T28) : ∀ (k i : Nat) (l : List T28), 20 < k + i → i ≤ 20 → Ok l i → tidewracklaw13_SpansAll_l5 K p0 p1 k l i = some true
  | 0, i, l, h1, h2, h3 => by omega
  | k + 1, i, l, h1, h2, h3 => by
    have ih := all5 K hK p0 p1 k
    have hl := h3.len
    unfold tidewracklaw13_SpansAll_l5
    rw [cD, cD, all1 K hK p1 h3 (by omega)]
    by_cases c1 : i < p0.length
    · by_cases c2 : i < 20
      · have hw : IntKind.wrap .i64 ((i : Int) + 1) = ((i + 1 : Nat) : Int) := by rw [w64 (by omega) (by omega)]; omega
        rw [if_pos (by omega), if_pos (by omega)]
        unfold tidewracklaw13_SpansAll_j6
        rw [if_pos (by omega), add_eq K hK l _ (by simp; omega), bS, hw]
        exact ih (i + 1) _ (by omega) (by omega) (addS_ok h3 _).1
      · rw [if_pos (by omega), if_neg (by omega)]
    · rw [if_neg (by omega)]
theorem SpansAll (x0 : List T28) (w0 : ∀ y ∈ x0, (WF.wfT28) y) (l0 : x0.length ≤ maxLen) (x1 : T28) (w1 : (WF.wfT28) x1) : ∃ K, tidewracklaw13_SpansAll K x0 x1 = some true := by
  suffices h : ∀ K, 20000 ≤ K → tidewracklaw13_SpansAll K x0 x1 = some true from ⟨20000, h _ (Nat.le_refl _)⟩
  intro K hK
  unfold tidewracklaw13_SpansAll
  rw [awake_eq K hK, bS, Bool.not_true, cond_false]
  exact all5 K hK x0 x1 K 0 [] (by omega) (by omega) ok_nil
end Go.Proofs.Ytjbdijgenhhgaaa.Pure
