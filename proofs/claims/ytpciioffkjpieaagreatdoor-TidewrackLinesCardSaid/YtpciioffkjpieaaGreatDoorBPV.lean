/- Plain laws: what the plain functions answer, with no program in sight. -/
import Derived.Test.YtpciioffkjpieaaGreatDoorBPT
set_option linter.unusedVariables false
set_option linter.unusedSimpArgs false
namespace Go.Proofs.YtpciioffkjpieaaGreatDoor.Pure
open Go Go.Proofs.XC Go.Proofs.YtpciioffkjpieaaGreatDoor

/-! ### A rune's columns -/
structure Pr where
  a0 : Int
  a1 : Int
def zl : List Pr := [(⟨127, 159⟩ : Pr), (⟨768, 879⟩ : Pr), (⟨6832, 6911⟩ : Pr), (⟨7616, 7679⟩ : Pr), (⟨8203, 8207⟩ : Pr), (⟨8400, 8447⟩ : Pr), (⟨55296, 57343⟩ : Pr), (⟨65024, 65039⟩ : Pr), (⟨65056, 65071⟩ : Pr), (⟨65279, 65279⟩ : Pr), (⟨917760, 917999⟩ : Pr)]
def tl : List Pr := [(⟨4352, 4447⟩ : Pr), (⟨11904, 12350⟩ : Pr), (⟨12353, 13311⟩ : Pr), (⟨13312, 19903⟩ : Pr), (⟨19968, 40959⟩ : Pr), (⟨40960, 42191⟩ : Pr), (⟨44032, 55203⟩ : Pr), (⟨63744, 64255⟩ : Pr), (⟨65072, 65135⟩ : Pr), (⟨65280, 65376⟩ : Pr), (⟨65504, 65510⟩ : Pr), (⟨127744, 128591⟩ : Pr), (⟨129280, 129535⟩ : Pr), (⟨131072, 262141⟩ : Pr)]
def inP (l : List Pr) (r : Int) : Bool := l.any fun s => decide (s.a0 ≤ r ∧ r ≤ s.a1)
def inS (l : List T109) (r : Int) : Bool := l.any fun s => decide (s.from_ ≤ r ∧ r ≤ s.to)
def W (r : Int) : Int := if r < 32 ∨ r > 1114111 ∨ inP zl r = true then 0 else if inP tl r = true then 2 else 1
theorem W_range (r : Int) : 0 ≤ W r ∧ W r ≤ 2 := by unfold W; (repeat' split) <;> omega
theorem in_loop (l : List T109) (r : Int) (hl : l.length ≤ 1000) (hs : ∀ i j, i ≤ j → j < l.length → (l.getD i zT109).to ≤ (l.getD j zT109).to) : ∀ (k lo hi : Nat), hi < k + lo → lo ≤ hi → hi ≤ l.length → (∀ j, j < lo → (l.getD j zT109).to < r) → (∀ j, hi ≤ j → j < l.length → r ≤ (l.getD j zT109).to) →
    ∃ m, wide_in_l2 l r k lo hi = wide_in_j1 l r (m : Nat) ∧ m ≤ l.length ∧ (∀ j, j < m → (l.getD j zT109).to < r) ∧ (∀ j, m ≤ j → j < l.length → r ≤ (l.getD j zT109).to)
  | 0, lo, hi, h1, h2, h3, h4, h5 => by omega
  | k + 1, lo, hi, h1, h2, h3, h4, h5 => by
    have ih := in_loop l r hl hs k
    unfold wide_in_l2
    rw [cD]
    by_cases c : lo < hi
    · have hm : IntKind.wrap .i64 (Int.tdiv (IntKind.wrap .i64 ((lo : Int) + (hi : Int))) 2) = (((lo + hi) / 2 : Nat) : Int) := by
        rw [w64 (x := (lo : Int) + (hi : Int)) (by omega) (by omega), Int.tdiv_eq_ediv_of_nonneg (by omega), w64 (by omega) (by omega)]; omega
      have hw : IntKind.wrap .i64 ((((lo + hi) / 2 : Nat) : Int) + 1) = (((lo + hi) / 2 + 1 : Nat) : Int) := by rw [w64 (by omega) (by omega)]; omega
      rw [if_pos (by omega), hm, if_pos (by omega), cD, rdD_nat, hw]
      by_cases c2 : (l.getD ((lo + hi) / 2) zT109).to < r
      · rw [if_pos c2]
        exact ih _ hi (by omega) (by omega) h3 (fun j hj => by have := hs j ((lo + hi) / 2) (by omega) (by omega); omega) h5
      · rw [if_neg c2]
        exact ih lo _ (by omega) (by omega) (by omega) h4 (fun j hj hj2 => by have := hs ((lo + hi) / 2) j hj hj2; omega)
    · rw [if_neg (by omega)]
      exact ⟨lo, rfl, by omega, h4, fun j hj hj2 => h5 j (by omega) hj2⟩
theorem in_eq (K : Nat) (l : List T109) (r : Int) (hl : l.length ≤ 1000) (hK : l.length < K) (hs : ∀ i j, i ≤ j → j < l.length → (l.getD i zT109).to ≤ (l.getD j zT109).to) (hd : ∀ i j, i < j → j < l.length → (l.getD i zT109).to < (l.getD j zT109).from_) : wide_in K l r = some (inS l r) := by
  unfold wide_in
  obtain ⟨m, h1, h2, h3, h4⟩ := in_loop l r hl hs K 0 l.length (by omega) (by omega) (by omega) (fun j h => by omega) (fun j h h2 => by omega)
  rw [show ((0 : Nat) : Int) = 0 from rfl] at h1
  rw [h1]
  unfold wide_in_j1
  rw [cD]
  by_cases c : m < l.length
  · rw [if_pos (by omega), if_pos (by omega), rdD_nat]
    have h5 := h4 m (Nat.le_refl _) c
    have hg : l.getD m zT109 = l[m] := by simp [List.getD_eq_getElem?_getD, c]
    congr 1
    cases hb : inS l r with
    | true =>
      obtain ⟨s, hs1, hs2⟩ := List.any_eq_true.1 hb
      have hs2 := of_decide_eq_true hs2
      obtain ⟨j, hj, rfl⟩ := List.getElem_of_mem hs1
      have hgj : l.getD j zT109 = l[j] := by simp [List.getD_eq_getElem?_getD, hj]
      apply decide_eq_true
      by_cases c1 : j < m
      · have := h3 j c1; rw [hgj] at this; omega
      · by_cases c2 : m = j
        · subst c2; rw [hgj]; omega
        · have := hd m j (by omega) hj; rw [hgj] at this; omega
    | false =>
      apply decide_eq_false
      intro h
      have : inS l r = true := List.any_eq_true.2 ⟨l[m], List.getElem_mem c, decide_eq_true (by rw [← hg]; omega)⟩
      rw [hb] at this; cases this
  · rw [if_neg (by omega)]
    congr 1
    cases hb : inS l r with
    | true =>
      obtain ⟨s, hs1, hs2⟩ := List.any_eq_true.1 hb
      have hs2 := of_decide_eq_true hs2
      obtain ⟨j, hj, rfl⟩ := List.getElem_of_mem hs1
      have hgj : l.getD j zT109 = l[j] := by simp [List.getD_eq_getElem?_getD, hj]
      have := h3 j (by omega); rw [hgj] at this; omega
    | false => rfl
theorem g0_len : glob0.length = 13 := rfl
theorem g1_len : glob1.length = 14 := rfl
theorem g0_s : ∀ i j, i ≤ j → j < glob0.length → (glob0.getD i zT109).to ≤ (glob0.getD j zT109).to := by
  have : ∀ i j : Fin 13, i.1 ≤ j.1 → (glob0.getD i.1 zT109).to ≤ (glob0.getD j.1 zT109).to := by decide +kernel
  intro i j h h2
  rw [g0_len] at h2
  exact this ⟨i, by omega⟩ ⟨j, h2⟩ h
theorem g0_d : ∀ i j, i < j → j < glob0.length → (glob0.getD i zT109).to < (glob0.getD j zT109).from_ := by
  have : ∀ i j : Fin 13, i.1 < j.1 → (glob0.getD i.1 zT109).to < (glob0.getD j.1 zT109).from_ := by decide +kernel
  intro i j h h2
  rw [g0_len] at h2
  exact this ⟨i, by omega⟩ ⟨j, h2⟩ h
theorem g1_s : ∀ i j, i ≤ j → j < glob1.length → (glob1.getD i zT109).to ≤ (glob1.getD j zT109).to := by
  have : ∀ i j : Fin 14, i.1 ≤ j.1 → (glob1.getD i.1 zT109).to ≤ (glob1.getD j.1 zT109).to := by decide +kernel
  intro i j h h2
  rw [g1_len] at h2
  exact this ⟨i, by omega⟩ ⟨j, h2⟩ h
theorem g1_d : ∀ i j, i < j → j < glob1.length → (glob1.getD i zT109).to < (glob1.getD j zT109).from_ := by
  have : ∀ i j : Fin 14, i.1 < j.1 → (glob1.getD i.1 zT109).to < (glob1.getD j.1 zT109).from_ := by decide +kernel
  intro i j h h2
  rw [g1_len] at h2
  exact this ⟨i, by omega⟩ ⟨j, h2⟩ h
theorem inS_glob1 (r : Int) : inS glob1 r = inP tl r := rfl
theorem inS_glob0 (r : Int) (h1 : -2147483648 ≤ r) (h2 : r ≤ 2147483647) : inS glob0 r = decide (r < 32 ∨ r > 1114111 ∨ inP zl r = true) := by
  have e : inS glob0 r = (decide (-2147483648 ≤ r ∧ r ≤ 31) || (inP zl r || decide (1114112 ≤ r ∧ r ≤ 2147483647))) := by
    unfold inS inP glob0 zl
    simp only [List.any_cons, List.any_nil, Bool.or_false, Bool.or_assoc]
  rw [e]
  by_cases c1 : r < 32
  · rw [decide_eq_true (show -2147483648 ≤ r ∧ r ≤ 31 by omega), Bool.true_or]; exact (decide_eq_true (.inl c1)).symm
  · rw [decide_eq_false (show ¬ (-2147483648 ≤ r ∧ r ≤ 31) by omega), Bool.false_or]
    by_cases c2 : r > 1114111
    · rw [decide_eq_true (show 1114112 ≤ r ∧ r ≤ 2147483647 by omega), Bool.or_true]; exact (decide_eq_true (.inr (.inl c2))).symm
    · rw [decide_eq_false (show ¬ (1114112 ≤ r ∧ r ≤ 2147483647) by omega), Bool.or_false]
      cases inP zl r <;> simp [c1, c2]
theorem of_eq (K : Nat) (hK : 100 ≤ K) (r : Int) (h1 : -2147483648 ≤ r) (h2 : r ≤ 2147483647) : wide_Of K r = some (W r) := by
  unfold wide_Of W
  rw [in_eq K glob0 r (by decide) (by rw [g0_len]; omega) g0_s g0_d, bS, inS_glob0 r h1 h2, cD, in_eq K glob1 r (by decide) (by rw [g1_len]; omega) g1_s g1_d, bS, inS_glob1]
  by_cases c : r < 32 ∨ r > 1114111 ∨ inP zl r = true
  · rw [if_pos c, if_pos c]
  · rw [if_neg c, if_neg c]
    cases inP tl r <;> rfl
/-! ### The document's -/
/-! ### Columns up to each -/
def sumW : List Int → Int
  | [] => 0
  | r :: l => W r + sumW l
def I32 (l : List Int) : Prop := ∀ r ∈ l, -2147483648 ≤ r ∧ r ≤ 2147483647
end Go.Proofs.YtpciioffkjpieaaGreatDoor.Pure
