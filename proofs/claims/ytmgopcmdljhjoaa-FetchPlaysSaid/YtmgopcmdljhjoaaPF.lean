/- Plain laws: what the plain functions answer, with no program in sight. -/
import Derived.Test.YtmgopcmdljhjoaaPPX
set_option linter.unusedVariables false
set_option linter.unusedSimpArgs false
namespace Go.Proofs.Ytmgopcmdljhjoaa.Pure
open Go Go.Proofs.XC Go.Proofs.Ytmgopcmdljhjoaa

def clipF (n : Int) : Int := mxI 0 (mnI n 1152921504606846976)
theorem clipF_bd (n : Int) : 0 ≤ clipF n ∧ clipF n ≤ 1152921504606846976 := by unfold clipF mxI mnI; (repeat' split) <;> omega
def spanF (m : Int) (x : T30) : T30 := ⟨clipF x.From, mnI (clipF x.To) (clipF x.From + m)⟩
def wantL (m : Int) (x : T30) (q : List T30) : List T30 := q.foldl cutS (addS [] (spanF m x))
theorem wantL_ok (m : Int) (x : T30) (q : List T30) : Ok (wantL m x q) (1 + q.length) := (cuts_ok q _ _ (addS_ok ok_nil _).1).1.up (by omega)
def Win (m : Int) (l : List T30) : Prop := ∃ lo : Int, ∀ n, hasF l n = true → lo ≤ n ∧ n < lo + m
theorem win_nil (m : Int) : Win m [] := ⟨0, fun n h => by simp [hasF] at h⟩
theorem win_want (m : Int) (hm : 0 ≤ m ∧ m ≤ 65536) (x : T30) (q : List T30) : Win m (wantL m x q) := by
  have h1 := clipF_bd x.From
  have h2 := clipF_bd x.To
  refine ⟨clipF x.From, fun n hn => ?_⟩
  unfold wantL at hn
  have hs : fitF (spanF m x) = spanF m x := fit_id (fun z hz => by
    simp only [List.mem_singleton] at hz; subst hz; unfold spanF; simp only; unfold mnI; split <;> omega)
  rw [(cuts_ok q _ _ (addS_ok ok_nil (spanF m x)).1).2, (addS_ok ok_nil (spanF m x)).2, hs] at hn
  simp only [hasF_nil, Bool.false_or, Bool.and_eq_true] at hn
  have h3 := (isin_iff _ _).1 hn.1
  unfold spanF at h3; simp only at h3; unfold mnI at h3
  split at h3 <;> omega
theorem win_cut {m : Int} {l : List T30} {k : Nat} (h : Ok l k) (hw : Win m l) (x : T30) : Win m (cutS l x) := by
  obtain ⟨lo, hlo⟩ := hw
  refine ⟨lo, fun n hn => hlo n ?_⟩
  rw [(cutS_ok h x).2] at hn
  simp only [Bool.and_eq_true] at hn
  exact hn.1
theorem win_len {m : Int} (hm : 0 ≤ m) {l : List T30} {k : Nat} (h : Ok l k) (hw : Win m l) : lenF l 0 ≤ m := by
  obtain ⟨lo, hlo⟩ := hw
  rw [lenF_ok h]
  have := (meas_le lo (lo + m) l h.nf (within_of h.nf lo (lo + m) hlo) (by omega)).2
  omega
theorem want_eq (K : Nat) (hK : 20000 ≤ K) (m e d : Int) (l : List T30) (hm : 0 ≤ m ∧ m ≤ 65536) (x : T30) (q : List T30) (hq : q.length ≤ 1000) :
    fetch_Fetch_Want K ⟨m, e, d, l⟩ x q = some (lenF (wantL m x q) 0, ⟨m, e, 0, wantL m x q⟩) := by
  have h1 := clipF_bd x.From
  have hl := (wantL_ok m x q).len
  unfold fetch_Fetch_Want fetch_clip
  rw [bS, bS]
  unfold fetch_Fetch_Reset
  rw [bS]
  show (spans_Set_Add K ⟨[]⟩ [(⟨clipF x.From, mnI (clipF x.To) (IntKind.wrap .i64 (clipF x.From + m))⟩ : T30)]).bind _ = _
  rw [w64 (by omega) (by omega), add_eq K hK [] _ (by simp), bS]
  show (spans_Set_Cut K ⟨addS [] (spanF m x)⟩ q).bind _ = _
  rw [cuts_eq K hK (addS_ok ok_nil _).1 q (by omega), bS]
  show (spans_Set_Len K ⟨wantL m x q⟩).bind _ = _
  rw [len_eq K _ (by omega) (by omega), bS]
  rfl
theorem rwant_loop (K : Nat) (hK : 20000 ≤ K) (f : T27) (q : List T30) (hq : q.length ≤ 1000) : ∀ (k i : Nat) (l : List T30), q.length < k + i → i ≤ q.length → Ok l (1 + i) → tidewrackref21_Want_l2 K f q k l i = some ⟨f.Most, f.Every, 0, (q.drop i).foldl cutS l⟩
  | 0, i, l, h1, h2, h3 => by omega
  | k + 1, i, l, h1, h2, h3 => by
    have ih := rwant_loop K hK f q hq k
    unfold tidewrackref21_Want_l2
    rw [cD]
    by_cases hi : i < q.length
    · have hw : IntKind.wrap .i64 ((i : Int) + 1) = ((i + 1 : Nat) : Int) := by rw [w64 (by omega) (by omega)]; omega
      rw [if_pos (by omega), if_pos (by omega), rdD_get _ _ hi, rcut K hK h3 (by omega), bS, hw, ih (i + 1) _ (by omega) (by omega) ((cutS_ok h3 _).1.up (by omega)), List.drop_eq_getElem_cons hi, List.foldl_cons]
    · rw [if_neg (by omega), List.drop_eq_nil_of_le (by omega)]; rfl
theorem rwant_eq (K : Nat) (hK : 20000 ≤ K) (m e d : Int) (l : List T30) (hm : 0 ≤ m ∧ m ≤ 65536) (x : T30) (q : List T30) (hq : q.length ≤ 1000) :
    tidewrackref21_Want K ⟨m, e, d, l⟩ x q = some ⟨m, e, 0, wantL m x q⟩ := by
  have h1 := clipF_bd x.From
  unfold tidewrackref21_Want
  show (tidewrackref13_Add K [] (⟨clipF x.From, mnI (clipF x.To) (IntKind.wrap .i64 (clipF x.From + m))⟩ : T30)).bind _ = _
  rw [w64 (by omega) (by omega), radd K hK ok_nil (by omega), bS]
  have h2 := rwant_loop K hK ⟨m, e, d, l⟩ q hq K 0 _ (by omega) (by omega) ((addS_ok ok_nil (spanF m x)).1.up (by omega))
  rw [List.drop_zero] at h2
  exact h2
theorem count_loop (l : List T30) (hl : l.length ≤ 100000) : ∀ (k i : Nat) (s : Int), l.length < k + i → i ≤ l.length → tidewrackref21_Count_l2 l k s i = some (lenF (l.drop i) s)
  | 0, i, s, h1, h2 => by omega
  | k + 1, i, s, h1, h2 => by
    have ih := count_loop l hl k
    unfold tidewrackref21_Count_l2
    rw [cD]
    by_cases hi : i < l.length
    · have hw : IntKind.wrap .i64 ((i : Int) + 1) = ((i + 1 : Nat) : Int) := by rw [w64 (by omega) (by omega)]; omega
      rw [if_pos (by omega), if_pos (by omega), rdD_get _ _ hi, hw, ih (i + 1) _ (by omega) (by omega), List.drop_eq_getElem_cons hi]
      rfl
    · rw [if_neg (by omega), List.drop_eq_nil_of_le (by omega)]; rfl
theorem count_eq (K : Nat) (l : List T30) (hl : l.length ≤ 100000) (hK : l.length < K) : tidewrackref21_Count K l = some (lenF l 0) := by
  have := count_loop l hl K 0 0 (by omega) (by omega)
  rw [List.drop_zero] at this
  exact this
/-! ### Got -/
theorem has_bd {l : List T30} (h : Bd l) {i : Int} (hi : hasF l i = true) : -1152921504606846976 ≤ i ∧ i < 1152921504606846976 := by
  obtain ⟨x, hx, h1, h2⟩ := (hasF_iff _ _).1 hi
  have := h x hx
  omega
def gotL (l : List T30) (i : Int) : List T30 := bif hasF l i then cutS l ⟨i, i + 1⟩ else l
theorem cut_none {l : List T30} {k : Nat} (h : Ok l k) (x : T30) (hx : ∀ n, isin (fitF x) n = true → hasF l n = false) : cutS l x = l := by
  refine NF.uniq (cutS_ok h x).1.nf h.nf fun n => ?_
  rw [(cutS_ok h x).2]
  cases h1 : isin (fitF x) n with
  | false => simp
  | true => rw [hx n h1]; rfl
theorem gotL_ok {l : List T30} {k : Nat} (h : Ok l k) (i : Int) : Ok (gotL l i) (k + 1) := by
  unfold gotL
  cases hasF l i
  · exact h.up (by omega)
  · exact (cutS_ok h _).1
theorem win_got {m : Int} {l : List T30} {k : Nat} (h : Ok l k) (hw : Win m l) (i : Int) : Win m (gotL l i) := by
  unfold gotL
  cases hasF l i
  · exact hw
  · exact win_cut h hw _
theorem got_eq (K : Nat) (hK : 20000 ≤ K) (m e d : Int) {l : List T30} {k : Nat} (h : Ok l k) (hk : k ≤ 3000) (i : Int) (hi : -9223372036854775808 ≤ i) :
    fetch_Fetch_Got K ⟨m, e, d, l⟩ i = some (hasF l i, ⟨m, e, d, gotL l i⟩) := by
  have hl := h.len
  unfold fetch_Fetch_Got
  rw [has_eq K l i (by omega) (by omega), bS]
  unfold fetch_bit
  by_cases c : i < 1152921504606846976
  · rw [decide_eq_true c, cond_true, bS, w64 (by omega) (by omega), cut_one_eq K hK l _ (by omega), bS]
    unfold gotL
    cases hh : hasF l i with
    | true => rfl
    | false =>
      rw [cut_none h ⟨i, i + 1⟩ (fun n hn => ?_)]
      · rfl
      · have h3 := (isin_iff _ _).1 hn
        unfold fitF clampI at h3; simp only at h3
        unfold mxI mnI at h3
        have : n = i := by
          revert h3
          (repeat' split) <;> omega
        rw [this, hh]
  · rw [decide_eq_false c, cond_false, bS]
    have hh : hasF l i = false := by
      cases hh : hasF l i with
      | false => rfl
      | true => have := has_bd h.bd hh; omega
    have hc : cutS l ⟨i, IntKind.wrap .i64 (i + 0)⟩ = l := by
      refine cut_none h _ fun n hn => ?_
      rw [Int.add_zero] at hn
      have h3 := (isin_iff _ _).1 hn
      unfold fitF at h3; simp only at h3
      by_cases c2 : i ≤ 9223372036854775807
      · rw [w64 (by omega) (by omega)] at h3; omega
      · have h4 : clampI i = 1152921504606846976 := by unfold clampI mxI mnI; (repeat' split) <;> omega
        have h5 := (clamp_bd (IntKind.wrap .i64 i)).2
        omega
    rw [cut_one_eq K hK l _ (by omega), bS, hc]
    unfold gotL
    rw [hh]
    rfl
theorem rgot_eq (K : Nat) (hK : 20000 ≤ K) (m e d : Int) {l : List T30} {k : Nat} (h : Ok l k) (hk : k ≤ 3000) (i : Int) :
    tidewrackref21_Got K ⟨m, e, d, l⟩ i = some (⟨m, e, d, gotL l i⟩, hasF l i) := by
  have hl := h.len
  unfold tidewrackref21_Got
  rw [rhas_eq K l i (by omega) (by omega), bS]
  unfold gotL
  cases hh : hasF l i with
  | false => rfl
  | true =>
    have := has_bd h.bd hh
    rw [Bool.not_true, cond_false, w64 (by omega) (by omega), rcut K hK h hk, bS]
    rfl
/-! ### Ask -/
theorem ask_both (K : Nat) (hK : 20000 ≤ K) (m e d : Int) {l : List T30} {k : Nat} (h : Ok l k) (hk : k ≤ 3000) (now n : Int) :
    ∃ d' t, t.length ≤ 8 ∧ fetch_Fetch_Ask K ⟨m, e, d, l⟩ now n = some (t, ⟨m, e, d', l⟩) ∧ tidewrackref21_Ask K ⟨m, e, d, l⟩ now n = some (⟨m, e, d', l⟩, t) := by
  have hl := h.len
  unfold fetch_Fetch_Ask tidewrackref21_Ask tidewrackref21_Ask_j2 fetch_Fetch_Ask_j1 tidewrackref21_Ask_j1
  rw [in_eq K l _ (by omega) (by omega), bS, rin K hK h hk, bS]
  generalize in1 (fitF ⟨0, n⟩) l = t
  by_cases c1 : t.length = 0
  · have hc : ((t.length : Int) == (0 : Int)) = true := by simpa using c1
    rw [hc]
    exact ⟨d, [], by simp, rfl, rfl⟩
  · have hc : ((t.length : Int) == (0 : Int)) = false := by simpa using c1
    rw [hc]
    by_cases c2 : now < d
    · have hd : decide (now < d) = true := decide_eq_true c2
      simp only [hd]
      exact ⟨d, [], by simp, rfl, rfl⟩
    · have hd : decide (now < d) = false := decide_eq_false c2
      have hm : mnI (t.length : Int) 8 = ((min t.length 8 : Nat) : Int) := by unfold mnI; split <;> omega
      simp only [hd, hm, cond_false]
      rw [if_pos (by omega), if_pos (by omega)]
      by_cases c3 : 8 < t.length
      · have h8 : decide ((t.length : Int) > 8) = true := decide_eq_true (by omega)
        rw [h8, cond_true, if_pos (by omega)]
        refine ⟨_, t.take 8, by rw [List.length_take]; omega, ?_, rfl⟩
        rw [show Int.toNat ((min t.length 8 : Nat) : Int) = 8 from by omega]
      · have h8 : decide ((t.length : Int) > 8) = false := decide_eq_false (by omega)
        rw [h8, cond_false]
        refine ⟨_, t, by omega, ?_, rfl⟩
        rw [show Int.toNat ((min t.length 8 : Nat) : Int) = t.length from by omega, List.take_length]
/-! ### do -/
theorem do_loop (K : Nat) (hK : 20000 ≤ K) (m e d : Int) (l : List T30) (hm : 0 ≤ m ∧ m ≤ 65536) (a : T32) (q : List T30) (hq : List.drop 0 (List.take (Int.toNat (mnI ((a.Have).length : Int) 6)) a.Have) = q) (hql : q.length ≤ 6) :
    ∀ (k i : Nat), q.length < k + i → i ≤ q.length →
    tidewracklaw21_do_l3 K ⟨m, e, d, l⟩ ⟨m, e, d, l⟩ a k (q.take i) i = some (⟨m, e, 0, wantL m ⟨a.Span_From, a.Span_To⟩ q⟩, true, ⟨m, e, 0, wantL m ⟨a.Span_From, a.Span_To⟩ q⟩)
  | 0, i, h1, h2 => by omega
  | k + 1, i, h1, h2 => by
    have ih := do_loop K hK m e d l hm a q hq hql k
    unfold tidewracklaw21_do_l3
    rw [hq, cD]
    by_cases hi : i < q.length
    · have hw : IntKind.wrap .i64 ((i : Int) + 1) = ((i + 1 : Nat) : Int) := by rw [w64 (by omega) (by omega)]; omega
      rw [if_pos (by omega), if_pos (by omega), rdD_get _ _ hi, if_pos (by simp only [List.length_take, List.length_singleton]; omega), hw, ← List.take_succ_eq_append_getElem hi]
      exact ih (i + 1) (by omega) (by omega)
    · have : i = q.length := by omega
      subst this
      have hl := (wantL_ok m ⟨a.Span_From, a.Span_To⟩ q).len
      rw [if_neg (by omega), List.take_length]
      unfold tidewracklaw21_do_j2
      rw [hq, rwant_eq K hK m e d l hm _ q (by omega), bS, want_eq K hK m e d l hm _ q (by omega), bS, count_eq K (wantL m ⟨a.Span_From, a.Span_To⟩ q) (by omega) (by omega), bS, beq_self_eq_true]
theorem do_eq (K : Nat) (hK : 20000 ≤ K) (m e d : Int) {l : List T30} {k : Nat} (h : Ok l k) (hk : k ≤ 2000) (hk6 : 7 ≤ k) (hm : 0 ≤ m ∧ m ≤ 65536) (hw : Win m l) (a : T32) (ha : WF.wfT32 a) (now : Int) :
    ∃ d' l', tidewracklaw21_do K ⟨m, e, d, l⟩ ⟨m, e, d, l⟩ a now = some (⟨m, e, d', l'⟩, true, ⟨m, e, d', l'⟩) ∧ Ok l' (k + 1) ∧ Win m l' := by
  unfold tidewracklaw21_do
  rw [cE]
  by_cases c0 : a.Kind = 0
  · have hmn : mnI ((a.Have).length : Int) 6 = ((min a.Have.length 6 : Nat) : Int) := by unfold mnI; split <;> omega
    have hql : (List.drop 0 (List.take (Int.toNat (mnI ((a.Have).length : Int) 6)) a.Have)).length ≤ 6 := by rw [hmn, List.drop_zero, List.length_take]; omega
    have h1 := do_loop K hK m e d l hm a _ rfl hql K 0 (by omega) (by omega)
    rw [if_pos c0, if_pos (by omega), if_pos (by omega)]
    rw [List.take_zero] at h1
    exact ⟨_, _, h1, (wantL_ok _ _ _).up (by omega), win_want m hm _ _⟩
  · rw [if_neg c0, cE]
    by_cases c1 : a.Kind = 1
    · have hn : -9223372036854775808 ≤ a.N ∧ True := by
        have := ha.2.1
        simp only [Lit.wf, Bool.and_eq_true, decide_eq_true_eq] at this
        exact ⟨this.1, trivial⟩
      rw [if_pos c1, rgot_eq K hK m e d h (by omega), bS, got_eq K hK m e d h (by omega) _ hn.1, bS, beq_self_eq_true]
      exact ⟨_, _, rfl, gotL_ok h _, win_got h hw _⟩
    · rw [if_neg c1, cE]
      by_cases c2 : a.Kind = 2
      · obtain ⟨d', t, ht, e1, e2⟩ := ask_both K hK m e d h (by omega) now a.N
        rw [if_pos c2, e2, bS, e1, bS, same_refl K t (by omega) (by omega), bS]
        exact ⟨_, _, rfl, h.up (by omega), hw⟩
      · rw [if_neg c2]
        exact ⟨0, [], rfl, ok_nil.up (by omega), win_nil m⟩
/-! ### FetchPlays -/
theorem clone_eq (m e d : Int) (l : List T30) (hl : l.length ≤ 100000) : fetch_Fetch_Clone ⟨m, e, d, l⟩ = some ⟨m, e, d, l⟩ := by
  unfold fetch_Fetch_Clone spans_Set_Clone slices_Clone
  rw [if_pos (by simp only [List.length_nil]; omega), bS, bS]; rfl
theorem wanted_eq (m e d : Int) (l : List T30) (hl : l.length ≤ 100000) : fetch_Fetch_Wanted ⟨m, e, d, l⟩ = some l := by
  unfold fetch_Fetch_Wanted
  rw [spans_eq l hl, bS]
theorem plays_loop (K : Nat) (hK : 20000 ≤ K) (p : List T32) (hp : ∀ y ∈ p, WF.wfT32 y) (m e : Int) (hm : 0 ≤ m ∧ m ≤ 65536) : ∀ (k i : Nat) (d now : Int) (l : List T30), 30 < k + i → i ≤ 30 → Ok l (10 + i) → Win m l →
    tidewracklaw21_FetchPlays_l2 K p k m e d l m e d l now i = some true
  | 0, i, d, now, l, h1, h2, h3, h4 => by omega
  | k + 1, i, d, now, l, h1, h2, h3, h4 => by
    have ih := plays_loop K hK p hp m e hm k
    have hl := h3.len
    unfold tidewracklaw21_FetchPlays_l2
    rw [cD, cD]
    by_cases c1 : i < p.length
    · by_cases c2 : i < 30
      · have hw : IntKind.wrap .i64 ((i : Int) + 1) = ((i + 1 : Nat) : Int) := by rw [w64 (by omega) (by omega)]; omega
        rw [if_pos (by omega), if_pos (by omega)]
        unfold tidewracklaw21_FetchPlays_j3
        rw [if_pos (by omega), rdD_get _ _ c1, clone_eq m e d l (by omega), bS]
        obtain ⟨d', l', e1, e2, e3⟩ := do_eq K hK m e d h3 (by omega) (by omega) hm h4 p[i] (hp _ (List.getElem_mem c1)) (IntKind.wrap .i64 (now + (bits .and .i64 (p[i].Later) 255)))
        have hl' := e2.len
        have hn := win_len hm.1 e2 e3
        rw [e1, bS]
        unfold tidewracklaw21_FetchPlays_j4
        rw [Bool.not_true, cond_false, wanted_eq m e d l (by omega), bS, same_refl K l (by omega) (by omega), bS, Bool.not_true, cond_false, wanted_eq m e d' l' (by omega), bS, same_refl K l' (by omega) (by omega), bS, Bool.not_true, cond_false,
          count_eq K l' (by omega) (by omega), bS, cD, if_neg (by omega), hw]
        exact ih (i + 1) d' _ l' (by omega) (by omega) (e2.up (by omega)) e3
      · rw [if_pos (by omega), if_neg (by omega)]; rfl
    · rw [if_neg (by omega)]; rfl
theorem awake21 (K : Nat) (hK : 20000 ≤ K) : tidewracklaw21_awake K = some true := by
  unfold tidewracklaw21_awake
  have e0 : fetch_New 5 9 = some ⟨5, 9, 0, []⟩ := rfl
  have hk : Ok [(⟨3, 8⟩ : T30)] 1 := by
    have := (addS_ok ok_nil (⟨3, 8⟩ : T30)).1
    exact this
  rw [e0, bS, want_eq K hK 5 9 0 [] (by omega) _ _ (by simp), bS, show wantL 5 (⟨3, 20⟩ : T30) [] = [⟨3, 8⟩] from rfl, show lenF [(⟨3, 8⟩ : T30)] 0 = 5 from by decide +kernel]
  simp only
  unfold fetch_Fetch_Ask fetch_Fetch_Ask_j1
  rw [in_eq K _ _ (by simp) (by simp; omega), bS, show in1 (fitF (⟨0, 6⟩ : T30)) [(⟨3, 8⟩ : T30)] = [⟨3, 6⟩] from rfl]
  simp only [List.length_cons, List.length_nil]
  rw [show (mnI (((0 + 1 : Nat) : Int)) 8) = 1 from rfl, show IntKind.wrap .i64 (0 + 9) = 9 from by decide +kernel]
  have hd1 : (((0 + 1 : Nat) : Int) == (0 : Int)) = false := rfl
  have hd2 : decide ((0 : Int) < 0) = false := rfl
  have hd3 : decide ((8 : Int) < 9) = true := rfl
  have hr : rdD zT30 [(⟨3, 6⟩ : T30)] 0 = ⟨3, 6⟩ := rfl
  rw [hd1, cond_false, hd2, cond_false, if_pos (by decide), if_pos (by decide), bS]
  simp only
  rw [show ((5 : Int) == 5) = true from rfl, cond_true]
  simp only [show List.take (Int.toNat 1) [(⟨3, 6⟩ : T30)] = [⟨3, 6⟩] from rfl, List.length_cons, List.length_nil]
  rw [show (((0 + 1 : Nat) : Int) == (1 : Int)) = true from rfl, cond_true, if_pos (by decide), hr, show eqT30 ⟨3, 6⟩ ⟨3, 6⟩ = true from rfl, cond_true, in_eq K _ _ (by simp) (by simp; omega), bS, show in1 (fitF (⟨0, 6⟩ : T30)) [(⟨3, 8⟩ : T30)] = [⟨3, 6⟩] from rfl]
  simp only [List.length_cons, List.length_nil]
  rw [hd1, cond_false, hd3, cond_true, bS]
  simp only [List.length_nil]
  rw [show (((0 : Nat) : Int) == (0 : Int)) = true from rfl, cond_true, got_eq K hK 5 9 9 hk (by omega) 3 (by omega), bS]
  simp only
  rw [show hasF [(⟨3, 8⟩ : T30)] 3 = true from by decide +kernel, cond_true, got_eq K hK 5 9 9 (gotL_ok hk 3) (by omega) 3 (by omega), bS]
  simp only
  rw [show hasF (gotL [(⟨3, 8⟩ : T30)] 3) 3 = false from by decide +kernel]
  rfl
theorem FetchPlays (x0 : Int) (w0 : (Lit.int .i64 x0).wf = true) (x1 : Int) (w1 : (Lit.int .i64 x1).wf = true) (x2 : List T32) (w2 : ∀ y ∈ x2, (WF.wfT32) y) (l2 : x2.length ≤ maxLen) : ∃ K, tidewracklaw21_FetchPlays K x0 x1 x2 = some true := by
  refine ⟨20000, ?_⟩
  have hm : 0 ≤ mxI 1 (mnI x0 65536) ∧ mxI 1 (mnI x0 65536) ≤ 65536 := by unfold mxI mnI; (repeat' split) <;> omega
  unfold tidewracklaw21_FetchPlays fetch_New fetch_clip tidewrackref21_New
  rw [awake21 20000 (by omega), bS, Bool.not_true, cond_false, bS, bS, bS, bS]
  exact plays_loop 20000 (by omega) x2 w2 _ _ hm 20000 0 0 0 [] (by omega) (by omega) (ok_nil.up (by omega)) (win_nil _)
end Go.Proofs.Ytmgopcmdljhjoaa.Pure
