/- Walks, printed by an own program: the machine's calls compute the plain functions. -/
import Derived.Test.YtpciioffkjpieaaDoorD
set_option linter.unusedVariables false
set_option linter.unusedSimpArgs false
namespace Go.Proofs.YtpciioffkjpieaaDoor.PureF
open Go Go.Proofs.XC Go.Proofs.YtpciioffkjpieaaDoor

structure T45 where
  a0 : Int
  a1 : Int
/-! ### A rune's columns -/
def zl : List T45 := [(⟨127, 159⟩ : T45), (⟨768, 879⟩ : T45), (⟨6832, 6911⟩ : T45), (⟨7616, 7679⟩ : T45), (⟨8203, 8207⟩ : T45), (⟨8400, 8447⟩ : T45), (⟨55296, 57343⟩ : T45), (⟨65024, 65039⟩ : T45), (⟨65056, 65071⟩ : T45), (⟨65279, 65279⟩ : T45), (⟨917760, 917999⟩ : T45)]
def tl : List T45 := [(⟨4352, 4447⟩ : T45), (⟨11904, 12350⟩ : T45), (⟨12353, 13311⟩ : T45), (⟨13312, 19903⟩ : T45), (⟨19968, 40959⟩ : T45), (⟨40960, 42191⟩ : T45), (⟨44032, 55203⟩ : T45), (⟨63744, 64255⟩ : T45), (⟨65072, 65135⟩ : T45), (⟨65280, 65376⟩ : T45), (⟨65504, 65510⟩ : T45), (⟨127744, 128591⟩ : T45), (⟨129280, 129535⟩ : T45), (⟨131072, 262141⟩ : T45)]
def inP (l : List T45) (r : Int) : Bool := l.any fun s => decide (s.a0 ≤ r ∧ r ≤ s.a1)
def inS (l : List T97) (r : Int) : Bool := l.any fun s => decide (s.from_ ≤ r ∧ r ≤ s.to)
def W (r : Int) : Int := if r < 32 ∨ r > 1114111 ∨ inP zl r = true then 0 else if inP tl r = true then 2 else 1
theorem inP_cons (s : T45) (l : List T45) (r : Int) : inP (s :: l) r = (decide (s.a0 ≤ r ∧ r ≤ s.a1) || inP l r) := rfl
theorem W_range (r : Int) : 0 ≤ W r ∧ W r ≤ 2 := by unfold W; (repeat' split) <;> omega
theorem in_loop (l : List T97) (r : Int) (hl : l.length ≤ 1000) (hs : ∀ i j, i ≤ j → j < l.length → (l.getD i zT97).to ≤ (l.getD j zT97).to) : ∀ (k lo hi : Nat), hi < k + lo → lo ≤ hi → hi ≤ l.length → (∀ j, j < lo → (l.getD j zT97).to < r) → (∀ j, hi ≤ j → j < l.length → r ≤ (l.getD j zT97).to) →
    ∃ m, wide_in_l2 l r k lo hi = wide_in_j1 l r (m : Nat) ∧ m ≤ l.length ∧ (∀ j, j < m → (l.getD j zT97).to < r) ∧ (∀ j, m ≤ j → j < l.length → r ≤ (l.getD j zT97).to)
  | 0, lo, hi, h1, h2, h3, h4, h5 => by omega
  | k + 1, lo, hi, h1, h2, h3, h4, h5 => by
    have ih := in_loop l r hl hs k
    unfold wide_in_l2
    rw [cD]
    by_cases c : lo < hi
    · have hm : IntKind.wrap .i64 (Int.tdiv (IntKind.wrap .i64 ((lo : Int) + (hi : Int))) 2) = (((lo + hi) / 2 : Nat) : Int) := by
        rw [w64 (x := (lo : Int) + (hi : Int)) (by omega) (by omega), Int.tdiv_eq_ediv_of_nonneg (by omega), w64 (by omega) (by omega)]; omega
      have hw : IntKind.wrap .i64 ((((lo + hi) / 2 : Nat) : Int) + 1) = (((lo + hi) / 2 + 1 : Nat) : Int) := by rw [w64 (by omega) (by omega)]; omega
      rw [if_pos (by omega), hm, if_pos (by omega), cD, rdD_nat, hw]
      by_cases c2 : (l.getD ((lo + hi) / 2) zT97).to < r
      · rw [if_pos c2]
        exact ih _ hi (by omega) (by omega) h3 (fun j hj => by have := hs j ((lo + hi) / 2) (by omega) (by omega); omega) h5
      · rw [if_neg c2]
        exact ih lo _ (by omega) (by omega) (by omega) h4 (fun j hj hj2 => by have := hs ((lo + hi) / 2) j hj hj2; omega)
    · rw [if_neg (by omega)]
      exact ⟨lo, rfl, by omega, h4, fun j hj hj2 => h5 j (by omega) hj2⟩
theorem in_eq (K : Nat) (l : List T97) (r : Int) (hl : l.length ≤ 1000) (hK : l.length < K) (hs : ∀ i j, i ≤ j → j < l.length → (l.getD i zT97).to ≤ (l.getD j zT97).to) (hd : ∀ i j, i < j → j < l.length → (l.getD i zT97).to < (l.getD j zT97).from_) : wide_in K l r = some (inS l r) := by
  unfold wide_in
  obtain ⟨m, h1, h2, h3, h4⟩ := in_loop l r hl hs K 0 l.length (by omega) (by omega) (by omega) (fun j h => by omega) (fun j h h2 => by omega)
  rw [show ((0 : Nat) : Int) = 0 from rfl] at h1
  rw [h1]
  unfold wide_in_j1
  rw [cD]
  by_cases c : m < l.length
  · rw [if_pos (by omega), if_pos (by omega), rdD_nat]
    have h5 := h4 m (Nat.le_refl _) c
    have hg : l.getD m zT97 = l[m] := by simp [List.getD_eq_getElem?_getD, c]
    congr 1
    cases hb : inS l r with
    | true =>
      obtain ⟨s, hs1, hs2⟩ := List.any_eq_true.1 hb
      have hs2 := of_decide_eq_true hs2
      obtain ⟨j, hj, rfl⟩ := List.getElem_of_mem hs1
      have hgj : l.getD j zT97 = l[j] := by simp [List.getD_eq_getElem?_getD, hj]
      apply decide_eq_true
      by_cases c1 : j < m
      · have := h3 j c1; rw [hgj] at this; omega
      · by_cases c2 : m = j
        · subst c2; rw [hgj]; omega
        · have := hd m j (by omega) hj; rw [hgj] at this; omega
    | false =>
      apply decide_eq_false
      intro h
      have : inS l r = true := List.any_eq_true.2 ⟨l[m], List.getElem_mem c, decide_eq_true (by rw [← hg]; omega)⟩
      rw [hb] at this; cases this
  · rw [if_neg (by omega)]
    congr 1
    cases hb : inS l r with
    | true =>
      obtain ⟨s, hs1, hs2⟩ := List.any_eq_true.1 hb
      have hs2 := of_decide_eq_true hs2
      obtain ⟨j, hj, rfl⟩ := List.getElem_of_mem hs1
      have hgj : l.getD j zT97 = l[j] := by simp [List.getD_eq_getElem?_getD, hj]
      have := h3 j (by omega); rw [hgj] at this; omega
    | false => rfl
theorem g0_len : glob0.length = 13 := rfl
theorem g1_len : glob1.length = 14 := rfl
theorem g0_s : ∀ i j, i ≤ j → j < glob0.length → (glob0.getD i zT97).to ≤ (glob0.getD j zT97).to := by
  have : ∀ i j : Fin 13, i.1 ≤ j.1 → (glob0.getD i.1 zT97).to ≤ (glob0.getD j.1 zT97).to := by decide +kernel
  intro i j h h2
  rw [g0_len] at h2
  exact this ⟨i, by omega⟩ ⟨j, h2⟩ h
theorem g0_d : ∀ i j, i < j → j < glob0.length → (glob0.getD i zT97).to < (glob0.getD j zT97).from_ := by
  have : ∀ i j : Fin 13, i.1 < j.1 → (glob0.getD i.1 zT97).to < (glob0.getD j.1 zT97).from_ := by decide +kernel
  intro i j h h2
  rw [g0_len] at h2
  exact this ⟨i, by omega⟩ ⟨j, h2⟩ h
theorem g1_s : ∀ i j, i ≤ j → j < glob1.length → (glob1.getD i zT97).to ≤ (glob1.getD j zT97).to := by
  have : ∀ i j : Fin 14, i.1 ≤ j.1 → (glob1.getD i.1 zT97).to ≤ (glob1.getD j.1 zT97).to := by decide +kernel
  intro i j h h2
  rw [g1_len] at h2
  exact this ⟨i, by omega⟩ ⟨j, h2⟩ h
theorem g1_d : ∀ i j, i < j → j < glob1.length → (glob1.getD i zT97).to < (glob1.getD j zT97).from_ := by
  have : ∀ i j : Fin 14, i.1 < j.1 → (glob1.getD i.1 zT97).to < (glob1.getD j.1 zT97).from_ := by decide +kernel
  intro i j h h2
  rw [g1_len] at h2
  exact this ⟨i, by omega⟩ ⟨j, h2⟩ h
theorem inS_glob1 (r : Int) : inS glob1 r = inP tl r := rfl
theorem inS_glob0 (r : Int) (h1 : -2147483648 ≤ r) (h2 : r ≤ 2147483647) : inS glob0 r = decide (r < 32 ∨ r > 1114111 ∨ inP zl r = true) := by
  have e : inS glob0 r = (decide (-2147483648 ≤ r ∧ r ≤ 31) || (inP zl r || decide (1114112 ≤ r ∧ r ≤ 2147483647))) := by
    unfold inS inP glob0 zl
    simp only [List.any_cons, List.any_nil, Bool.or_false, Bool.or_assoc]
  rw [e]
  by_cases c1 : r < 32
  · rw [decide_eq_true (show -2147483648 ≤ r ∧ r ≤ 31 by omega), Bool.true_or]; exact (decide_eq_true (.inl c1)).symm
  · rw [decide_eq_false (show ¬ (-2147483648 ≤ r ∧ r ≤ 31) by omega), Bool.false_or]
    by_cases c2 : r > 1114111
    · rw [decide_eq_true (show 1114112 ≤ r ∧ r ≤ 2147483647 by omega), Bool.or_true]; exact (decide_eq_true (.inr (.inl c2))).symm
    · rw [decide_eq_false (show ¬ (1114112 ≤ r ∧ r ≤ 2147483647) by omega), Bool.or_false]
      cases inP zl r <;> simp [c1, c2]
theorem of_eq (K : Nat) (hK : 100 ≤ K) (r : Int) (h1 : -2147483648 ≤ r) (h2 : r ≤ 2147483647) : wide_Of K r = some (W r) := by
  unfold wide_Of W
  rw [in_eq K glob0 r (by decide) (by rw [g0_len]; omega) g0_s g0_d, bS, inS_glob0 r h1 h2, cD, in_eq K glob1 r (by decide) (by rw [g1_len]; omega) g1_s g1_d, bS, inS_glob1]
  by_cases c : r < 32 ∨ r > 1114111 ∨ inP zl r = true
  · rw [if_pos c, if_pos c]
  · rw [if_neg c, if_neg c]
    cases inP tl r <;> rfl
/-! ### The document's -/
/-! ### Columns up to each -/
def sumW : List Int → Int
  | [] => 0
  | r :: l => W r + sumW l
theorem sumW_range : ∀ l, 0 ≤ sumW l ∧ sumW l ≤ 2 * l.length
  | [] => by simp [sumW]
  | r :: l => by have := sumW_range l; have := W_range r; simp only [sumW, List.length_cons]; omega
theorem sumW_app : ∀ a b, sumW (a ++ b) = sumW a + sumW b
  | [], b => by simp [sumW]
  | r :: a, b => by have := sumW_app a b; simp only [List.cons_append, sumW]; omega
theorem sumW_take (l : List Int) (n : Nat) : sumW (l.take n) ≤ sumW l := by
  have h := sumW_app (l.take n) (l.drop n)
  rw [List.take_append_drop] at h
  have := (sumW_range (l.drop n)).1; omega
def pre : List Int → Int → Nat → List (Int × Int)
  | [], _, _ => []
  | r :: l, s, i => ((i : Int), s + W r) :: pre l (s + W r) (i + 1)
def I32 (l : List Int) : Prop := ∀ r ∈ l, -2147483648 ≤ r ∧ r ≤ 2147483647
theorem cols_loop (K : Nat) (hK : 100 ≤ K) (p : List Int) (hp : p.length ≤ 1000) (h32 : I32 p) : ∀ (k i : Nat) (s : Int), p.length < k + i → i ≤ p.length → 0 ≤ s → s ≤ 2 * i → wide_columns_1_l1 K p k s i = some (pre (p.drop i) s i)
  | 0, i, s, h1, h2, h3, h4 => by omega
  | k + 1, i, s, h1, h2, h3, h4 => by
    have ih := cols_loop K hK p hp h32 k
    unfold wide_columns_1_l1
    rw [cD]
    by_cases hi : i < p.length
    · have hw : IntKind.wrap .i64 ((i : Int) + 1) = ((i + 1 : Nat) : Int) := by rw [w64 (by omega) (by omega)]; omega
      have hr := h32 _ (List.getElem_mem hi)
      have hW := W_range p[i]
      rw [if_pos (by omega), if_pos (by omega), rdD_get _ _ hi, of_eq K hK _ hr.1 hr.2, bS, w64 (by omega) (by omega), hw, ih (i + 1) _ (by omega) (by omega) (by omega) (by omega), List.drop_eq_getElem_cons hi]
      rfl
    · rw [if_neg (by omega), List.drop_eq_nil_of_le (by omega)]; rfl
theorem cols_eq (K : Nat) (hK : 2000 ≤ K) (p : List Int) (hp : p.length ≤ 1000) (h32 : I32 p) : wide_columns_1 K p = some (pre p 0 0) := by
  have := cols_loop K (by omega) p hp h32 K 0 0 (by omega) (by omega) (by omega) (by omega)
  unfold wide_columns_1
  simpa using this
def fitN (w : Int) : List Int → Int → Nat
  | [], _ => 0
  | r :: l, s => if s + W r > w then 0 else fitN w l (s + W r) + 1
theorem fit_r (w : Int) : ∀ (l : List Int) (s : Int) (i : Nat), i + l.length ≤ 1000000 → wide_Fit_r2 w (pre l s i) i = some ((i + fitN w l s : Nat) : Int)
  | [], s, i, h => rfl
  | r :: l, s, i, h => by
    simp only [List.length_cons] at h
    have hw : IntKind.wrap .i64 ((i : Int) + 1) = ((i + 1 : Nat) : Int) := by rw [w64 (by omega) (by omega)]; omega
    unfold pre wide_Fit_r2 fitN
    rw [cD]
    simp only
    by_cases c : s + W r > w
    · rw [if_pos c, if_pos c]; rfl
    · rw [if_neg c, if_neg c, hw, fit_r w l _ (i + 1) (by omega)]
      congr 2; omega
theorem fit_eq (K : Nat) (hK : 2000 ≤ K) (w : Int) (p : List Int) (hp : p.length ≤ 1000) (h32 : I32 p) : wide_Fit K w p = some ((fitN w p 0 : Nat) : Int) := by
  unfold wide_Fit wide_columns
  have := fit_r w p 0 0 (by omega)
  rw [bS, cols_eq K hK p hp h32, bS]
  simpa using this
theorem fit_spec (w : Int) : ∀ (l : List Int) (s : Int), s ≤ w → fitN w l s ≤ l.length ∧ s + sumW (l.take (fitN w l s)) ≤ w ∧ (fitN w l s < l.length → s + sumW (l.take (fitN w l s + 1)) > w)
  | [], s, h => by simp [fitN, sumW, h]
  | r :: l, s, h => by
    unfold fitN
    by_cases c : s + W r > w
    · rw [if_pos c]
      refine ⟨by omega, by simp [sumW, h], fun _ => ?_⟩
      simp only [Nat.zero_add, List.take_succ_cons, List.take_zero, sumW]; omega
    · rw [if_neg c]
      obtain ⟨h1, h2, h3⟩ := fit_spec w l (s + W r) (by omega)
      refine ⟨by simp only [List.length_cons]; omega, ?_, fun h => ?_⟩
      · simp only [List.take_succ_cons, sumW]; omega
      · have := h3 (by simp only [List.length_cons] at h; omega)
        simp only [List.take_succ_cons, sumW] at this ⊢; omega
theorem fit_mono (w w' : Int) (hw : w ≤ w') : ∀ (l : List Int) (s : Int), fitN w l s ≤ fitN w' l s
  | [], s => by simp [fitN]
  | r :: l, s => by
    have := fit_mono w w' hw l (s + W r)
    unfold fitN
    (repeat' split) <;> omega
theorem fit_all (w : Int) (l : List Int) (h : 0 ≤ w) : sumW l > w ↔ fitN w l 0 < l.length := by
  obtain ⟨h1, h2, h3⟩ := fit_spec w l 0 h
  constructor
  · intro hs
    apply Nat.lt_of_not_le
    intro hc
    rw [List.take_of_length_le hc] at h2; omega
  · intro hc
    have := h3 hc
    have := sumW_take l (fitN w l 0 + 1); omega
end Go.Proofs.YtpciioffkjpieaaDoor.PureF
