/- Plain laws: what the plain functions answer, with no program in sight. -/
import Derived.Test.YtmgopcmdljhjoaaPPB
set_option linter.unusedVariables false
set_option linter.unusedSimpArgs false
namespace Go.Proofs.Ytmgopcmdljhjoaa.Pure
open Go Go.Proofs.XC Go.Proofs.Ytmgopcmdljhjoaa

/-! ### The document's edges -/
def insE (e : Int) : List Int → List Int
  | [] => [e]
  | a :: l => if a < e then a :: insE e l else if a = e then a :: l else e :: a :: l
def SortE (l : List Int) : Prop := l.Pairwise (· < ·)
theorem insE_mem (e z : Int) : ∀ l, z ∈ insE e l ↔ z = e ∨ z ∈ l
  | [] => by simp [insE]
  | a :: l => by
    have ih := insE_mem e z l
    unfold insE
    split
    · rw [List.mem_cons, ih, List.mem_cons]
      constructor
      · rintro (h | h | h)
        · exact .inr (.inl h)
        · exact .inl h
        · exact .inr (.inr h)
      · rintro (h | h | h)
        · exact .inr (.inl h)
        · exact .inl h
        · exact .inr (.inr h)
    · split
      · rename_i h; subst h
        simp
      · simp
theorem insE_sort (e : Int) : ∀ l, SortE l → SortE (insE e l)
  | [], _ => by simp [insE, SortE]
  | a :: l, h => by
    have h2 : (∀ b ∈ l, a < b) ∧ SortE l := List.pairwise_cons.1 h
    unfold insE
    split
    · refine List.pairwise_cons.2 ⟨fun b hb => ?_, insE_sort e l h2.2⟩
      rcases (insE_mem e b l).1 hb with rfl | hb
      · assumption
      · exact h2.1 b hb
    · split
      · exact h
      · refine List.pairwise_cons.2 ⟨fun b hb => ?_, h⟩
        rcases List.mem_cons.1 hb with rfl | hb
        · omega
        · have := h2.1 b hb; omega
theorem insE_len (e : Int) : ∀ l, (insE e l).length ≤ l.length + 1
  | [] => by simp [insE]
  | a :: l => by
    have := insE_len e l
    unfold insE
    split
    · simp only [List.length_cons]; omega
    · split <;> simp
def edgesF (l : List T30) (es : List Int) : List Int := l.foldl (fun es x => insE x.To (insE x.From es)) es
theorem edges_sort : ∀ (l : List T30) (es : List Int), SortE es → SortE (edgesF l es)
  | [], es, h => h
  | x :: l, es, h => edges_sort l _ (insE_sort _ _ (insE_sort _ _ h))
theorem edges_mem : ∀ (l : List T30) (es : List Int) (z : Int), z ∈ edgesF l es ↔ z ∈ es ∨ ∃ x ∈ l, z = x.From ∨ z = x.To
  | [], es, z => by simp [edgesF]
  | x :: l, es, z => by
    have := edges_mem l (insE x.To (insE x.From es)) z
    unfold edgesF at this ⊢
    rw [List.foldl_cons, this, insE_mem, insE_mem]
    constructor
    · rintro ((h | h | h) | ⟨y, hy, h⟩)
      · exact .inr ⟨x, by simp, .inr h⟩
      · exact .inr ⟨x, by simp, .inl h⟩
      · exact .inl h
      · exact .inr ⟨y, by simp [hy], h⟩
    · rintro (h | ⟨y, hy, h⟩)
      · exact .inl (.inr (.inr h))
      · rcases List.mem_cons.1 hy with rfl | hy
        · rcases h with h | h
          · exact .inl (.inr (.inl h))
          · exact .inl (.inl h)
        · exact .inr ⟨y, hy, h⟩
theorem edges_len : ∀ (l : List T30) (es : List Int), (edgesF l es).length ≤ es.length + 2 * l.length
  | [], es => by simp [edgesF]
  | x :: l, es => by
    have := edges_len l (insE x.To (insE x.From es))
    have := insE_len x.To (insE x.From es)
    have := insE_len x.From es
    unfold edgesF at *
    simp only [List.foldl_cons, List.length_cons]; omega
/-! ### Of edges the spans -/
def keepF (m : Int) (p q : Bool) : Bool := if m = 0 then p || q else if m = 1 then p && !q else if m = 2 then p && q else !p && q
theorem keep_eq (m : Int) (p q : Bool) : tidewrackref13_keep m p q = some (keepF m p q) := by
  unfold tidewrackref13_keep keepF
  rw [cE, cE, cE]
  (repeat' split) <;> cases p <;> cases q <;> rfl
theorem keep_ff (m : Int) : keepF m false false = false := by unfold keepF; (repeat' split) <;> rfl
def grow1 (out : List T30) (e e' : Int) : List T30 := if out ≠ [] ∧ (out.getLastD zT30).To = e then out.dropLast ++ [⟨(out.getLastD zT30).From, e'⟩] else out ++ [⟨e, e'⟩]
def outF (f : Int → Bool) : List Int → List T30 → List T30
  | e :: e' :: es, out => outF f (e' :: es) (if f e = true then grow1 out e e' else out)
  | _, out => out
def segF (f : Int → Bool) : List Int → Int → Bool
  | e :: e' :: es, n => if e ≤ n ∧ n < e' then f e else segF f (e' :: es) n
  | _, _ => false
theorem seg_lt (f : Int → Bool) : ∀ (es : List Int) (e n : Int), SortE (e :: es) → n < e → segF f (e :: es) n = false
  | [], e, n, _, _ => rfl
  | e' :: es, e, n, h, hn => by
    have h2 : (∀ b ∈ e' :: es, e < b) ∧ SortE (e' :: es) := List.pairwise_cons.1 h
    have := h2.1 e' (by simp)
    unfold segF
    rw [if_neg (by omega)]
    exact seg_lt f es e' n h2.2 (by omega)
theorem grow1_spec (out : List T30) (e e' : Int) (he : e < e') (h : NF out) (hb : ∀ x ∈ out, x.To ≤ e) : NF (grow1 out e e') ∧ (∀ x ∈ grow1 out e e', x.To ≤ e') ∧ ∀ n, hasF (grow1 out e e') n = (hasF out n || decide (e ≤ n ∧ n < e')) := by
  unfold grow1
  rcases List.eq_nil_or_concat out with rfl | ⟨o, x, rfl⟩
  · rw [if_neg (by simp)]
    refine ⟨⟨he, by simp, trivial⟩, by simp, fun n => ?_⟩
    simp [hasF, isin]
  · rw [List.concat_eq_append] at *
    have hl : (o ++ [x]).getLastD zT30 = x := by simp [List.getLastD_eq_getLast?]
    have hd : (o ++ [x]).dropLast = o := by simp
    rw [hl, hd]
    have hsplit : ∀ (o : List T30) (x : T30), NF (o ++ [x]) → NF o ∧ x.From < x.To ∧ ∀ y ∈ o, y.To < x.From := by
      intro o
      induction o with
      | nil => intro x h; exact ⟨trivial, h.1, by simp⟩
      | cons y o ih =>
        intro x h
        obtain ⟨h1, h2, h3⟩ := ih x h.2.2
        refine ⟨⟨h.1, fun z hz => h.2.1 z (by simp [hz]), h1⟩, h2, fun z hz => ?_⟩
        rcases List.mem_cons.1 hz with rfl | hz
        · exact h.2.1 x (by simp)
        · exact h3 z hz
    obtain ⟨s1, s2, s3⟩ := hsplit o x h
    have hx := hb x (by simp)
    split
    · rename_i c
      have hxe : x.To = e := c.2
      refine ⟨NF.app s1 ⟨by simp only; omega, by simp, trivial⟩ (fun y hy z hz => ?_), fun y hy => ?_, fun n => ?_⟩
      · simp only [List.mem_singleton] at hz; subst hz; exact s3 y hy
      · rcases List.mem_append.1 hy with hy | hy
        · have := hb y (by simp [hy]); omega
        · simp only [List.mem_singleton] at hy; subst hy; simp
      · rw [hasF_app, hasF_app, Bool.or_assoc]
        congr 1
        rw [Bool.eq_iff_iff]
        simp only [hasF, List.any_cons, List.any_nil, Bool.or_false, isin, Bool.or_eq_true, decide_eq_true_eq]
        omega
    · refine ⟨NF.app h ⟨he, by simp, trivial⟩ (fun y hy z hz => ?_), fun y hy => ?_, fun n => ?_⟩
      · simp only [List.mem_singleton] at hz; subst hz
        rename_i c
        have hxe : x.To ≠ e := fun hh => c ⟨by simp, hh⟩
        rcases List.mem_append.1 hy with hy | hy
        · have := s3 y hy; simp only; omega
        · simp only [List.mem_singleton] at hy; subst hy; simp only; omega
      · rcases List.mem_append.1 hy with hy | hy
        · have := hb y hy; omega
        · simp only [List.mem_singleton] at hy; subst hy; simp
      · rw [hasF_app (o ++ [x])]
        simp [hasF, isin]
theorem out_spec (f : Int → Bool) : ∀ (es : List Int) (e : Int) (out : List T30), SortE (e :: es) → NF out → (∀ x ∈ out, x.To ≤ e) → NF (outF f (e :: es) out) ∧ ∀ n, hasF (outF f (e :: es) out) n = (hasF out n || segF f (e :: es) n)
  | [], e, out, _, h, _ => ⟨h, fun n => by simp [outF, segF]⟩
  | e' :: es, e, out, hs, h, hb => by
    have h2 : (∀ b ∈ e' :: es, e < b) ∧ SortE (e' :: es) := List.pairwise_cons.1 hs
    have he := h2.1 e' (by simp)
    unfold outF
    by_cases c : f e = true
    · rw [if_pos c]
      obtain ⟨g1, g2, g3⟩ := grow1_spec out e e' he h hb
      obtain ⟨i1, i2⟩ := out_spec f es e' (grow1 out e e') h2.2 g1 g2
      refine ⟨i1, fun n => ?_⟩
      rw [i2, g3]
      conv => rhs; unfold segF
      by_cases cn : e ≤ n ∧ n < e'
      · rw [if_pos cn, c, decide_eq_true cn]; simp
      · rw [if_neg cn, decide_eq_false cn, Bool.or_false]
    · rw [if_neg c]
      obtain ⟨i1, i2⟩ := out_spec f es e' out h2.2 h (fun x hx => by have := hb x hx; omega)
      refine ⟨i1, fun n => ?_⟩
      rw [i2]
      conv => rhs; unfold segF
      by_cases cn : e ≤ n ∧ n < e'
      · rw [if_pos cn, seg_lt f es e' n h2.2 (by omega)]
        simp at c; rw [c]
      · rw [if_neg cn]
theorem has_const (a : List T30) (full : List Int) (hf : ∀ x ∈ a, x.From ∈ full ∧ x.To ∈ full) (e e' n : Int) (hc : ∀ z ∈ full, z ≤ e ∨ e' ≤ z) (hn : e ≤ n ∧ n < e') : hasF a n = hasF a e := by
  rw [Bool.eq_iff_iff, hasF_iff, hasF_iff]
  constructor
  · rintro ⟨x, hx, h1, h2⟩
    have h3 := hc _ (hf x hx).1; have h4 := hc _ (hf x hx).2
    exact ⟨x, hx, by omega, by omega⟩
  · rintro ⟨x, hx, h1, h2⟩
    have h3 := hc _ (hf x hx).1; have h4 := hc _ (hf x hx).2
    exact ⟨x, hx, by omega, by omega⟩
theorem has_out (a : List T30) (full : List Int) (hf : ∀ x ∈ a, x.From ∈ full ∧ x.To ∈ full) (n : Int) (hc : (∀ z ∈ full, z ≤ n) ∨ (∀ z ∈ full, n < z)) : hasF a n = false := by
  cases h : hasF a n with
  | false => rfl
  | true =>
    obtain ⟨x, hx, h1, h2⟩ := (hasF_iff _ _).1 h
    rcases hc with hc | hc
    · have := hc _ (hf x hx).2; omega
    · have := hc _ (hf x hx).1; omega
theorem seg_spec (a b : List T30) (m : Int) (full : List Int) (ha : ∀ x ∈ a, x.From ∈ full ∧ x.To ∈ full) (hb : ∀ x ∈ b, x.From ∈ full ∧ x.To ∈ full) : ∀ (es : List Int) (e n : Int), SortE (e :: es) → (∀ z ∈ full, z ≤ e ∨ z ∈ es) → e ≤ n →
    segF (fun e => keepF m (hasF a e) (hasF b e)) (e :: es) n = keepF m (hasF a n) (hasF b n)
  | [], e, n, _, hz, hn => by
    have h1 : ∀ z ∈ full, z ≤ n := fun z h => by
      rcases hz z h with h | h
      · omega
      · simp at h
    rw [has_out a full ha n (.inl h1), has_out b full hb n (.inl h1), keep_ff]; rfl
  | e' :: es, e, n, hs, hz, hn => by
    have h2 : (∀ b ∈ e' :: es, e < b) ∧ SortE (e' :: es) := List.pairwise_cons.1 hs
    have h3 : (∀ b ∈ es, e' < b) ∧ SortE es := List.pairwise_cons.1 h2.2
    have he := h2.1 e' (by simp)
    unfold segF
    by_cases cn : e ≤ n ∧ n < e'
    · have hc : ∀ z ∈ full, z ≤ e ∨ e' ≤ z := fun z h => by
        rcases hz z h with h | h
        · exact .inl h
        · rcases List.mem_cons.1 h with rfl | h
          · right; omega
          · have := h3.1 z h; right; omega
      rw [if_pos cn, has_const a full ha e e' n hc cn, has_const b full hb e e' n hc cn]
    · rw [if_neg cn]
      have := seg_spec a b m full ha hb es e' n h2.2 (fun z h => by
        rcases hz z h with h | h
        · left; omega
        · rcases List.mem_cons.1 h with rfl | h
          · left; omega
          · exact .inr h) (by omega)
      exact this
/-! ### The document's code -/
theorem ins_loop (p0 p1 : List T30) (x9 : Int) (es : List Int) (hl : es.length ≤ 100000) (x13 : Int) (lp : List Int → Int → Option (List T30)) (e : Int)
    (he : rdD 0 ([(rdD zT30 ((([] : List T30) ++ p0) ++ p1) x9).From, (rdD zT30 ((([] : List T30) ++ p0) ++ p1) x9).To] : List Int) x13 = e) : ∀ (k i : Nat), es.length < k + i → i ≤ es.length →
    tidewrackref13_build_l11 p0 p1 x9 es x13 lp k i = lp (es.take i ++ insE e (es.drop i)) (IntKind.wrap .i64 (x13 + 1))
  | 0, i, h1, h2 => by omega
  | k + 1, i, h1, h2 => by
    have ih := ins_loop p0 p1 x9 es hl x13 lp e he k
    have fin : ∀ b : Bool, b = true → tidewrackref13_build_j10 p0 p1 x9 es x13 lp i b = lp (es.take i ++ ([e] ++ es.drop i)) (IntKind.wrap .i64 (x13 + 1)) := fun b hb => by
      subst hb
      unfold tidewrackref13_build_j10 tidewrackref13_build_j8
      rw [cond_true, if_pos (by omega), if_pos (by omega), he, List.take_length, Int.toNat_natCast, if_pos (by simp only [List.length_cons, List.length_nil, List.length_drop]; omega), if_pos (by simp only [List.length_append, List.length_cons, List.length_nil, List.length_take, List.length_drop]; omega)]
    unfold tidewrackref13_build_l11
    rw [cD]
    by_cases hi : i < es.length
    · have hw : IntKind.wrap .i64 ((i : Int) + 1) = ((i + 1 : Nat) : Int) := by rw [w64 (by omega) (by omega)]; omega
      have hd := List.drop_eq_getElem_cons hi
      rw [if_pos (by omega), if_pos (by omega), rdD_get _ _ hi, he, cD, hd]
      unfold insE
      by_cases c1 : es[i] < e
      · rw [if_pos c1, if_pos c1, hw, ih (i + 1) (by omega) (by omega), List.take_succ_eq_append_getElem hi, List.append_assoc]; rfl
      · rw [if_neg c1, if_neg c1]
        unfold tidewrackref13_build_j9
        rw [cE, if_neg (by omega), if_pos (by omega), rdD_get _ _ hi, he]
        by_cases c2 : es[i] = e
        · rw [if_pos c2]
          unfold tidewrackref13_build_j10 tidewrackref13_build_j8
          rw [show (es[i] != e) = false from by simpa using c2, cond_false, ← hd, List.take_append_drop]
        · rw [if_neg c2, fin _ (by simpa using c2), hd]; rfl
    · have : i = es.length := by omega
      subst this
      rw [if_neg (by omega)]
      unfold tidewrackref13_build_j9
      rw [cE, if_pos rfl, fin true rfl, List.drop_length]
      rfl
theorem two_loop (K : Nat) (p0 p1 : List T30) (i : Nat) (hi : i < (p0 ++ p1).length) (es : List Int) (hl : es.length ≤ 10000) (hK : 20000 ≤ K) (lp : List Int → Int → Option (List T30)) :
    tidewrackref13_build_l7 K p0 p1 i lp K es 0 = lp (insE (p0 ++ p1)[i].To (insE (p0 ++ p1)[i].From es)) (IntKind.wrap .i64 ((i : Int) + 1)) := by
  obtain ⟨k, hk⟩ : ∃ k, K = k + 3 := ⟨K - 3, by omega⟩
  have hg : rdD zT30 ((([] : List T30) ++ p0) ++ p1) (i : Int) = (p0 ++ p1)[i] := by rw [List.nil_append]; exact rdD_get _ _ hi
  have h2 : ((([(rdD zT30 ((([] : List T30) ++ p0) ++ p1) (i : Int)).From, (rdD zT30 ((([] : List T30) ++ p0) ++ p1) (i : Int)).To] : List Int)).length : Int) = 2 := rfl
  have hl1 := insE_len (p0 ++ p1)[i].From es
  conv => lhs; arg 6; rw [hk]
  unfold tidewrackref13_build_l7
  rw [h2, cD, if_pos (by omega), if_pos (by omega)]
  have i1 := ins_loop p0 p1 i es (by omega) 0 (tidewrackref13_build_l7 K p0 p1 i lp (k + 2)) (p0 ++ p1)[i].From (by rw [hg]; rfl) K 0 (by omega) (by omega)
  rw [show ((0 : Nat) : Int) = 0 from rfl, List.take_zero, List.drop_zero, List.nil_append] at i1
  rw [i1, show IntKind.wrap .i64 ((0 : Int) + 1) = 1 from by rw [w64 (by decide) (by decide)]; rfl]
  unfold tidewrackref13_build_l7
  rw [h2, cD, if_pos (by omega), if_pos (by omega)]
  have i2 := ins_loop p0 p1 i (insE (p0 ++ p1)[i].From es) (by omega) 1 (tidewrackref13_build_l7 K p0 p1 i lp (k + 1)) (p0 ++ p1)[i].To (by rw [hg]; rfl) K 0 (by omega) (by omega)
  rw [show ((0 : Nat) : Int) = 0 from rfl, List.take_zero, List.drop_zero, List.nil_append] at i2
  rw [i2, show IntKind.wrap .i64 ((1 : Int) + 1) = 2 from by rw [w64 (by decide) (by decide)]; rfl]
  unfold tidewrackref13_build_l7
  rw [h2, cD, if_neg (by omega)]
  rfl
theorem last_eq (out : List T30) (h : out ≠ []) : rdD zT30 out ((out.length - 1 : Nat) : Int) = out.getLastD zT30 := by
  rcases List.eq_nil_or_concat out with rfl | ⟨o, x, rfl⟩
  · exact absurd rfl h
  · rw [List.concat_eq_append]
    have : (o ++ [x]).length - 1 = o.length := by simp
    rw [this, rdD_get _ _ (by simp), List.getElem_append_right (Nat.le_refl _)]
    simp [List.getLastD_eq_getLast?]
theorem set_last (out : List T30) (h : out ≠ []) (y : T30) : out.set (out.length - 1) y = out.dropLast ++ [y] := by
  rcases List.eq_nil_or_concat out with rfl | ⟨o, x, rfl⟩
  · exact absurd rfl h
  · rw [List.concat_eq_append]
    have : (o ++ [x]).length - 1 = o.length := by simp
    rw [this, List.set_append_right _ _ (Nat.le_refl _)]
    simp
theorem grow1_len (out : List T30) (e e' : Int) : (grow1 out e e').length ≤ out.length + 1 := by
  unfold grow1
  split
  · simp only [List.length_append, List.length_dropLast, List.length_cons, List.length_nil]; omega
  · simp
theorem out_loop (K : Nat) (a b : List T30) (m : Int) (ha : a.length ≤ 10000) (hb : b.length ≤ 10000) (hK : 20000 ≤ K) (es : List Int) (hl : es.length ≤ 100000) : ∀ (k i : Nat) (out : List T30), es.length < k + i → i ≤ es.length → out.length ≤ i →
    tidewrackref13_build_l3 K a b m es k out i = some (outF (fun e => keepF m (hasF a e) (hasF b e)) (es.drop i) out)
  | 0, i, out, h1, h2, h3 => by omega
  | k + 1, i, out, h1, h2, h3 => by
    have ih := out_loop K a b m ha hb hK es hl k
    have hw : IntKind.wrap .i64 ((i : Int) + 1) = ((i + 1 : Nat) : Int) := by rw [w64 (by omega) (by omega)]; omega
    unfold tidewrackref13_build_l3
    rw [hw, cD]
    by_cases hi : i + 1 < es.length
    · have hi0 : i < es.length := by omega
      have hgl := grow1_len out es[i] es[i + 1]
      rw [if_pos (by omega), if_pos (by omega), rdD_get _ _ hi0, rhas_eq K a _ (by omega) (by omega), bS, rhas_eq K b _ (by omega) (by omega), bS, keep_eq, bS, List.drop_eq_getElem_cons hi0, List.drop_eq_getElem_cons hi]
      unfold outF
      cases hf : keepF m (hasF a es[i]) (hasF b es[i]) with
      | false =>
        rw [Bool.not_false, cond_true, if_neg (by simp), ih (i + 1) out (by omega) (by omega) (by omega), List.drop_eq_getElem_cons hi]
      | true =>
        rw [Bool.not_true, cond_false, if_pos rfl]
        have j4 : ∀ c : Bool, c = decide (out ≠ [] ∧ (out.getLastD zT30).To = es[i]) → tidewrackref13_build_j4 es out i (tidewrackref13_build_l3 K a b m es k) c = some (outF (fun e => keepF m (hasF a e) (hasF b e)) (es[i + 1] :: es.drop (i + 1 + 1)) (grow1 out es[i] es[i + 1])) := fun c hc => by
          have fin := ih (i + 1) (grow1 out es[i] es[i + 1]) (by omega) (by omega) (by omega)
          rw [List.drop_eq_getElem_cons hi] at fin
          rw [← fin]
          unfold tidewrackref13_build_j4 grow1
          rw [hw, rdD_get _ _ hi, rdD_get _ _ hi0]
          by_cases c2 : out ≠ [] ∧ (out.getLastD zT30).To = es[i]
          · have hpos : 0 < out.length := List.length_pos_iff.2 c2.1
            rw [hc, decide_eq_true c2, cond_true, if_pos (by omega), show IntKind.wrap .i64 ((out.length : Int) - 1) = ((out.length - 1 : Nat) : Int) from by rw [w64 (by omega) (by omega)]; omega, if_pos (by omega), last_eq out c2.1, Int.toNat_natCast, set_last out c2.1, if_pos c2]
          · rw [hc, decide_eq_false c2, cond_false, if_pos (by omega), if_pos (by simp only [List.length_cons, List.length_nil]; omega), if_neg c2]
        rw [cD]
        by_cases c3 : out.length > 0
        · have hne : out ≠ [] := List.length_pos_iff.1 c3
          rw [if_pos (by omega), show IntKind.wrap .i64 ((out.length : Int) - 1) = ((out.length - 1 : Nat) : Int) from by rw [w64 (by omega) (by omega)]; omega, if_pos (by omega), last_eq out hne]
          refine j4 _ ?_
          rw [Bool.eq_iff_iff]
          simp [hne]
        · have hne : out = [] := List.eq_nil_of_length_eq_zero (by omega)
          rw [if_neg (by omega)]
          exact j4 false (by subst hne; simp)
    · rw [if_neg (by omega)]
      have hlen : (es.drop i).length ≤ 1 := by rw [List.length_drop]; omega
      match hd : es.drop i, hlen with
      | [], _ => rfl
      | [e], _ => rfl
      | _ :: _ :: _, h => simp at h
theorem edge_loop (K : Nat) (a b : List T30) (m : Int) (ha : a.length + b.length ≤ 4000) (hK : 20000 ≤ K) : ∀ (k i : Nat) (es : List Int), (a ++ b).length < k + i → i ≤ (a ++ b).length → es.length ≤ 2 * i →
    tidewrackref13_build_l5 K a b m k es i = tidewrackref13_build_j1 K a b m (edgesF ((a ++ b).drop i) es)
  | 0, i, es, h1, h2, h3 => by omega
  | k + 1, i, es, h1, h2, h3 => by
    have ih := edge_loop K a b m ha hK k
    have hab : (a ++ b).length = a.length + b.length := List.length_append
    have hab2 : ((([] : List T30) ++ a) ++ b).length = a.length + b.length := by simp
    unfold tidewrackref13_build_l5
    rw [hab2, cD]
    by_cases hi : i < (a ++ b).length
    · have hw : IntKind.wrap .i64 ((i : Int) + 1) = ((i + 1 : Nat) : Int) := by rw [w64 (by omega) (by omega)]; omega
      have l1 := insE_len (a ++ b)[i].From es
      have l2 := insE_len (a ++ b)[i].To (insE (a ++ b)[i].From es)
      rw [if_pos (by omega), if_pos (by omega), two_loop K a b i hi es (by omega) hK, hw, ih (i + 1) _ (by omega) (by omega) (by omega), List.drop_eq_getElem_cons hi]
      rfl
    · rw [if_neg (by omega), List.drop_eq_nil_of_le (by omega)]; rfl
theorem build_eq (K : Nat) (a b : List T30) (m : Int) (ha : a.length + b.length ≤ 4000) (hK : 20000 ≤ K) : ∃ r, tidewrackref13_build K a b m = some r ∧ NF r ∧ ∀ n, hasF r n = keepF m (hasF a n) (hasF b n) := by
  unfold tidewrackref13_build
  have hab : (a ++ b).length = a.length + b.length := List.length_append
  have h5 := edge_loop K a b m ha hK K 0 [] (by omega) (by omega) (by simp)
  rw [show ((0 : Nat) : Int) = 0 from rfl, List.drop_zero] at h5
  rw [if_pos (by simp; omega), if_pos (by simp; omega), h5]
  unfold tidewrackref13_build_j1
  have hel := edges_len (a ++ b) []
  have hes := edges_sort (a ++ b) [] (by simp [SortE])
  have hem := edges_mem (a ++ b) []
  simp only [List.length_nil] at hel
  have h3 := out_loop K a b m (by omega) (by omega) hK (edgesF (a ++ b) []) (by omega) K 0 [] (by omega) (by omega) (by simp)
  rw [show ((0 : Nat) : Int) = 0 from rfl, List.drop_zero] at h3
  rw [h3]
  refine ⟨_, rfl, ?_⟩
  have hfa : ∀ x ∈ a, x.From ∈ edgesF (a ++ b) [] ∧ x.To ∈ edgesF (a ++ b) [] := fun x hx => ⟨(hem _).2 (.inr ⟨x, by simp [hx], .inl rfl⟩), (hem _).2 (.inr ⟨x, by simp [hx], .inr rfl⟩)⟩
  have hfb : ∀ x ∈ b, x.From ∈ edgesF (a ++ b) [] ∧ x.To ∈ edgesF (a ++ b) [] := fun x hx => ⟨(hem _).2 (.inr ⟨x, by simp [hx], .inl rfl⟩), (hem _).2 (.inr ⟨x, by simp [hx], .inr rfl⟩)⟩
  generalize edgesF (a ++ b) [] = es at *
  match es, hes, hfa, hfb with
  | [], _, hfa, hfb =>
    refine ⟨trivial, fun n => ?_⟩
    rw [has_out a [] hfa n (.inl (by simp)), has_out b [] hfb n (.inl (by simp)), keep_ff]; rfl
  | e :: es, hes, hfa, hfb =>
    obtain ⟨o1, o2⟩ := out_spec (fun e => keepF m (hasF a e) (hasF b e)) es e [] hes trivial (by simp)
    refine ⟨o1, fun n => ?_⟩
    rw [o2, hasF_nil, Bool.false_or]
    by_cases hn : e ≤ n
    · exact seg_spec a b m (e :: es) hfa hfb es e n hes (fun z hz => (List.mem_cons.1 hz).imp (fun h => by omega) id) hn
    · have h2 : (∀ b ∈ es, e < b) ∧ SortE es := List.pairwise_cons.1 hes
      have hlt : ∀ z ∈ e :: es, n < z := fun z hz => by
        rcases List.mem_cons.1 hz with rfl | hz
        · omega
        · have := h2.1 z hz; omega
      rw [seg_lt _ es e n hes (by omega), has_out a (e :: es) hfa n (.inr hlt), has_out b (e :: es) hfb n (.inr hlt), keep_ff]
theorem one_eq (x : T30) : tidewrackref13_one x = some (if (fitF x).From < (fitF x).To then [fitF x] else []) := by
  unfold tidewrackref13_one
  rw [fit_ref, bS, cD]
  by_cases c : (fitF x).From < (fitF x).To
  · rw [if_pos c, if_neg (by omega)]
  · rw [if_neg c, if_pos (by omega)]
end Go.Proofs.Ytmgopcmdljhjoaa.Pure
