/- Plain laws: what the plain functions answer, with no program in sight. -/
import Derived.Test.YtmgopcmdljhjoaaPPC
set_option linter.unusedVariables false
set_option linter.unusedSimpArgs false
namespace Go.Proofs.Ytmgopcmdljhjoaa.Pure
open Go Go.Proofs.XC Go.Proofs.Ytmgopcmdljhjoaa

/-! ### What sets are, behind any calls -/
structure Ok (l : List T30) (k : Nat) : Prop where
  nf : NF l
  bd : Bd l
  len : l.length ≤ k
theorem ok_nil : Ok [] 0 := ⟨trivial, fun x hx => absurd hx (by simp), by simp⟩
theorem Ok.up {l : List T30} {k m : Nat} (h : Ok l k) (hm : k ≤ m) : Ok l m := ⟨h.nf, h.bd, by have := h.len; omega⟩
theorem empty_isin {x : T30} (h : ¬ x.From < x.To) (n : Int) : isin x n = false := decide_eq_false (by omega)
theorem addS_ok {l : List T30} {k : Nat} (h : Ok l k) (x : T30) : Ok (addS l x) (k + 1) ∧ ∀ n, hasF (addS l x) n = (hasF l n || isin (fitF x) n) := by
  unfold addS
  split
  · rename_i c
    refine ⟨⟨add1_nf l _ c h.nf, add1_bd l _ (fit_bd x) h.bd, by have := add1_len l (fitF x); have := h.len; omega⟩, fun n => ?_⟩
    rw [add1_has l _ n c h.nf, Bool.or_comm]
  · rename_i c
    exact ⟨h.up (by omega), fun n => by rw [empty_isin c]; simp⟩
theorem cut1_short (x : T30) (hx : x.From < x.To) : ∀ (l : List T30), (∀ z ∈ l, x.To ≤ z.From) → (cut1 x l).length ≤ l.length
  | [], _ => by simp [cut1]
  | y :: l, h => by
    have ih := cut1_short x hx l (fun z hz => h z (by simp [hz]))
    have hy := h y (by simp)
    have hp : (parts x y).length ≤ 1 := by
      unfold parts ne
      simp only [List.filter_cons, List.filter_nil]
      rw [if_neg (fun h => by have h := of_decide_eq_true h; simp only [mnI] at h; split at h <;> omega)]
      split <;> simp
    unfold cut1 at *
    simp only [List.flatMap_cons, List.length_append, List.length_cons]; omega
theorem cut1_nflen (x : T30) (hx : x.From < x.To) : ∀ (l : List T30), NF l → (cut1 x l).length ≤ l.length + 1
  | [], _ => by simp [cut1]
  | y :: l, h => by
    have ih := cut1_nflen x hx l h.2.2
    by_cases c : x.To < y.To
    · have hs := cut1_short x hx l (fun z hz => by have := h.2.1 z hz; omega)
      have hp := parts_len x y
      unfold cut1 at *
      simp only [List.flatMap_cons, List.length_append, List.length_cons]; omega
    · have hp : (parts x y).length ≤ 1 := by
        unfold parts ne
        simp only [List.filter_cons, List.filter_nil]
        rw [if_neg (c := decide ((⟨mxI y.From x.To, y.To⟩ : T30).From < (⟨mxI y.From x.To, y.To⟩ : T30).To) = true) (fun h => by have h := of_decide_eq_true h; simp only [mxI] at h; split at h <;> omega)]
        split <;> simp
      unfold cut1 at *
      simp only [List.flatMap_cons, List.length_append, List.length_cons]; omega
theorem cutS_ok {l : List T30} {k : Nat} (h : Ok l k) (x : T30) : Ok (cutS l x) (k + 1) ∧ ∀ n, hasF (cutS l x) n = (hasF l n && !(isin (fitF x) n)) := by
  unfold cutS
  split
  · rename_i c
    exact ⟨⟨cut1_nf _ c l h.nf, cut1_bd _ l h.bd, by have := cut1_nflen _ c l h.nf; have := h.len; omega⟩, fun n => cut1_has _ c n l⟩
  · rename_i c
    exact ⟨h.up (by omega), fun n => by rw [empty_isin c]; simp⟩
def anyF (p : List T30) (n : Int) : Bool := p.any fun x => isin (fitF x) n
theorem anyF_bd : ∀ (p : List T30), Bd p → ∀ n, anyF p n = hasF p n
  | [], _, n => rfl
  | x :: p, h, n => by
    have ih := anyF_bd p (fun z hz => h z (by simp [hz])) n
    have hx : Bd [x] := fun z hz => h z (by simp only [List.mem_singleton] at hz; subst hz; simp)
    unfold anyF at *
    rw [List.any_cons, fit_id hx, ih, hasF_cons]
theorem adds_ok : ∀ (p : List T30) (l : List T30) (k : Nat), Ok l k → Ok (p.foldl addS l) (k + p.length) ∧ ∀ n, hasF (p.foldl addS l) n = (hasF l n || anyF p n)
  | [], l, k, h => ⟨h, fun n => by simp [anyF]⟩
  | x :: p, l, k, h => by
    obtain ⟨h1, h2⟩ := addS_ok h x
    obtain ⟨g1, g2⟩ := adds_ok p _ _ h1
    refine ⟨g1.up (by simp only [List.length_cons]; omega), fun n => ?_⟩
    rw [List.foldl_cons, g2, h2, Bool.or_assoc]; rfl
theorem cuts_ok : ∀ (p : List T30) (l : List T30) (k : Nat), Ok l k → Ok (p.foldl cutS l) (k + p.length) ∧ ∀ n, hasF (p.foldl cutS l) n = (hasF l n && !(anyF p n))
  | [], l, k, h => ⟨h, fun n => by simp [anyF]⟩
  | x :: p, l, k, h => by
    obtain ⟨h1, h2⟩ := cutS_ok h x
    obtain ⟨g1, g2⟩ := cuts_ok p _ _ h1
    refine ⟨g1.up (by simp only [List.length_cons]; omega), fun n => ?_⟩
    rw [List.foldl_cons, g2, h2]
    show (hasF l n && !(isin (fitF x) n) && !(anyF p n)) = (hasF l n && !(isin (fitF x) n || anyF p n))
    cases hasF l n <;> cases isin (fitF x) n <;> cases anyF p n <;> rfl
theorem in_ok {l : List T30} {k : Nat} (h : Ok l k) (x : T30) : Ok (in1 (fitF x) l) k := ⟨in1_nf _ l h.nf, in1_bd _ l (fit_bd x) h.bd, by have := in1_len (fitF x) l; have := h.len; omega⟩
theorem cuts_eq (K : Nat) (hK : 20000 ≤ K) {l : List T30} {k : Nat} (h : Ok l k) (p : List T30) (hk : k + p.length ≤ 5000) : spans_Set_Cut K ⟨l⟩ p = some ⟨p.foldl cutS l⟩ := by
  refine cut_eq K hK l p (by omega) fun j hj => ?_
  have := (cuts_ok (p.take j) l k h).1.len
  rw [List.length_take] at this
  omega
def missF (l : List T30) (x : T30) : List T30 := l.foldl cutS (addS [] x)
theorem miss_ok {l : List T30} {k : Nat} (h : Ok l k) (x : T30) : Ok (missF l x) (1 + k) ∧ ∀ n, hasF (missF l x) n = (!(hasF l n) && isin (fitF x) n) := by
  obtain ⟨a1, a2⟩ := addS_ok ok_nil x
  obtain ⟨c1, c2⟩ := cuts_ok l _ _ a1
  refine ⟨c1.up (by have := h.len; omega), fun n => ?_⟩
  unfold missF
  rw [c2, a2, anyF_bd l h.bd, hasF_nil, Bool.false_or, Bool.and_comm]
theorem eqT_refl (x : T30) : eqT30 x x = true := by simp [eqT30]
theorem same_loop (p : List T30) (hp : p.length ≤ 100000) : ∀ (k i : Nat), p.length < k + i → i ≤ p.length → tidewracklaw13_Same_l2 p p k i = some true
  | 0, i, h1, h2 => by omega
  | k + 1, i, h1, h2 => by
    have ih := same_loop p hp k
    unfold tidewracklaw13_Same_l2
    rw [cD]
    by_cases hi : i < p.length
    · have hw : IntKind.wrap .i64 ((i : Int) + 1) = ((i + 1 : Nat) : Int) := by rw [w64 (by omega) (by omega)]; omega
      rw [if_pos (by omega), if_pos (by omega), if_pos (by omega), eqT_refl, Bool.not_true, cond_false, hw, ih (i + 1) (by omega) (by omega)]
    · rw [if_neg (by omega)]; rfl
theorem same_refl (K : Nat) (p : List T30) (hp : p.length ≤ 100000) (hK : p.length < K) : tidewracklaw13_Same K p p = some true := by
  unfold tidewracklaw13_Same
  rw [cN, if_pos rfl]
  exact same_loop p hp K 0 (by omega) (by omega)
theorem hasone (x : T30) (n : Int) : hasF (if (fitF x).From < (fitF x).To then [fitF x] else []) n = isin (fitF x) n := by
  split
  · simp [hasF]
  · rename_i c; rw [empty_isin c]; rfl
theorem onelen (x : T30) : (if (fitF x).From < (fitF x).To then [fitF x] else ([] : List T30)).length ≤ 1 := by split <;> simp
theorem rbuild (K : Nat) (hK : 20000 ≤ K) {l : List T30} {k : Nat} (h : Ok l k) (hk : k ≤ 3000) (x : T30) (m : Int) (r : List T30) (hr : NF r) (hm : ∀ n, hasF r n = keepF m (hasF l n) (isin (fitF x) n)) :
    tidewrackref13_build K l (if (fitF x).From < (fitF x).To then [fitF x] else []) m = some r := by
  have := onelen x
  have := h.len
  obtain ⟨q, e1, e2, e3⟩ := build_eq K l (if (fitF x).From < (fitF x).To then [fitF x] else []) m (by omega) hK
  rw [e1]
  congr 1
  refine NF.uniq e2 hr fun n => ?_
  rw [e3, hm, hasone]
theorem radd (K : Nat) (hK : 20000 ≤ K) {l : List T30} {k : Nat} (h : Ok l k) (hk : k ≤ 3000) (x : T30) : tidewrackref13_Add K l x = some (addS l x) := by
  unfold tidewrackref13_Add
  rw [one_eq, bS, rbuild K hK h hk x 0 (addS l x) (addS_ok h x).1.nf (addS_ok h x).2, bS]
theorem rcut (K : Nat) (hK : 20000 ≤ K) {l : List T30} {k : Nat} (h : Ok l k) (hk : k ≤ 3000) (x : T30) : tidewrackref13_Cut K l x = some (cutS l x) := by
  unfold tidewrackref13_Cut
  rw [one_eq, bS, rbuild K hK h hk x 1 (cutS l x) (cutS_ok h x).1.nf (cutS_ok h x).2, bS]
theorem rin (K : Nat) (hK : 20000 ≤ K) {l : List T30} {k : Nat} (h : Ok l k) (hk : k ≤ 3000) (x : T30) : tidewrackref13_In K l x = some (in1 (fitF x) l) := by
  unfold tidewrackref13_In
  rw [one_eq, bS, rbuild K hK h hk x 2 (in1 (fitF x) l) (in_ok h x).nf (fun n => in1_has _ n l), bS]
/-! ### SpansPlay -/
/-! ### SpansOrder -/
theorem nf_get : ∀ (l : List T30), NF l → ∀ (i : Nat) (h : i + 1 < l.length), (l[i]'(by omega)).To < l[i + 1].From
  | [], _, i, h => by simp at h
  | x :: l, hn, 0, h => by
    simp only [List.getElem_cons_zero, List.getElem_cons_succ]
    exact hn.2.1 _ (List.getElem_mem _)
  | x :: l, hn, i + 1, h => by
    simp only [List.getElem_cons_succ]
    exact nf_get l hn.2.2 i (by simpa using h)
theorem anyF_app (a b : List T30) (n : Int) : anyF (a ++ b) n = (anyF a n || anyF b n) := by simp [anyF]
/-! ### SpansCounts -/
theorem within_of {l : List T30} (hn : NF l) (lo hi : Int) (h : ∀ n, hasF l n = true → lo ≤ n ∧ n < hi) : ∀ x ∈ l, lo ≤ x.From ∧ x.To ≤ hi := fun x hx => by
  have h1 := hn.mem_lt x hx
  have h2 := h x.From ((hasF_iff _ _).2 ⟨x, hx, by omega, h1⟩)
  have h3 := h (x.To - 1) ((hasF_iff _ _).2 ⟨x, hx, by omega, by omega⟩)
  omega
theorem lenF_ok {l : List T30} {k : Nat} (h : Ok l k) : lenF l 0 = meas l := by
  have := meas_le (-1152921504606846976) 1152921504606846976 l h.nf (fun y hy => ⟨(h.bd y hy).1, (h.bd y hy).2.2.2⟩) (by decide)
  rw [lenF_meas l 0 h.nf h.bd (by omega) (by omega)]; omega
/-! ### SpansCutBack -/
theorem nil_of {l : List T30} (h : NF l) (hn : ∀ n, hasF l n = false) : l = [] := NF.uniq h trivial fun n => by rw [hn]; rfl
/-! ### SpansAll -/
theorem lenF_app : ∀ (a b : List T30) (s : Int), lenF (a ++ b) s = lenF b (lenF a s)
  | [], b, s => rfl
  | x :: a, b, s => lenF_app a b _
end Go.Proofs.Ytmgopcmdljhjoaa.Pure
