/- Plain laws: what the plain functions answer, with no program in sight. -/
import Derived.Test.YticilepdpobheaaDoorPB
set_option linter.unusedVariables false
set_option linter.unusedSimpArgs false
namespace Go.Proofs.YticilepdpobheaaDoor.Pure
open Go Go.Proofs.XC Go.Proofs.YticilepdpobheaaDoor

theorem iend_eq (s : ByteArray) (e : Int) : num_In_End ⟨s, e⟩ = some (if s = E0 then e else 1) := by
  unfold num_In_End
  rw [cSN]
  by_cases h : s = E0
  · rw [if_pos h, if_pos h]
  · rw [if_neg h, if_neg h]
theorem str_nil : strOfNums [] = E0 := rfl
def cutF (s : ByteArray) (n : Nat) : ByteArray := if s.size > n then s.extract 0 n else s
theorem cut_eq (s : ByteArray) (n : Nat) : tidewracklaw01_Cut s (n : Int) = some (cutF s n) := by
  simp only [tidewracklaw01_Cut, cutF, cD]
  by_cases h : s.size > n
  · rw [if_pos (by omega), if_pos (by omega), if_pos (by omega), if_pos h]; simp
  · rw [if_neg (by omega), if_neg h]
theorem cut_size (s : ByteArray) (n : Nat) : (cutF s n).size ≤ n := by
  unfold cutF; split
  · simp [ByteArray.size_extract]; omega
  · omega
def s50 (x : T73) : T59 := ⟨x.s, x.e⟩
def InvI (x : T73) : Prop := (x.e ≠ 0 → x.s = E0) ∧ x.s.size ≤ 10000
theorem num_both (K : Nat) (hK : 10 ≤ K) (x : T73) (h : InvI x) : ∃ n x', num_In_Num K x = some (n, x') ∧ tidewrackref01_Read K (s50 x) = some (s50 x', n) ∧ InvI x' := by
  obtain ⟨s, e⟩ := x
  by_cases he : e = 0
  · subst he
    have hz : s.size ≤ 10000 := h.2
    refine ⟨_, _, inum_eq K hK s (by omega), ?_, ?_⟩
    · rw [show s50 ⟨s, 0⟩ = ⟨s, 0⟩ from rfl, rread_eq K hK s (by omega)]
      cases pn (numsOf s) 0 0 with
      | ok r => obtain ⟨n, k⟩ := r; rfl
      | error c => rfl
    · cases pn (numsOf s) 0 0 with
      | ok r => obtain ⟨n, k⟩ := r; exact ⟨fun h => absurd rfl h, by simp only [resI, ext_size]; omega⟩
      | error c => exact ⟨fun _ => rfl, by simp [resI, ByteArray.size]⟩
  · have hs : s = E0 := h.1 he
    subst hs
    refine ⟨_, _, inum_bad K hK E0 e rfl he, ?_, h⟩
    unfold tidewrackref01_Read s50
    rw [cN, if_neg he]
theorem raw_both (x : T73) (n : Int) (h : InvI x) : ∃ t x', num_In_Raw x n = some (t, x') ∧ tidewrackref01_Raw (s50 x) n = some (s50 x', t) ∧ InvI x' := by
  obtain ⟨s, e⟩ := x
  obtain ⟨m, hm⟩ : ∃ m : Nat, mxI 0 n = (m : Int) := ⟨(mxI 0 n).toNat, by unfold mxI; split <;> omega⟩
  unfold num_In_Raw tidewrackref01_Raw s50
  simp only [hm, cD, cN]
  have hz : s.size ≤ 10000 := h.2
  by_cases he : e = 0
  · subst he
    rw [if_pos rfl]
    by_cases c : m > s.size
    · rw [if_pos (by omega), if_pos (by omega)]
      exact ⟨E0, ⟨E0, 2⟩, rfl, rfl, fun _ => rfl, by simp [ByteArray.size]⟩
    · rw [if_neg (by omega), if_pos (by omega), if_pos (by omega), if_neg (by omega), if_pos (by omega), if_pos (by omega)]
      exact ⟨_, _, rfl, rfl, fun h => absurd rfl h, by simp only [ext_size]; omega⟩
  · have hs : s = E0 := h.1 he
    subst hs
    rw [if_neg he]
    by_cases c : m > 0
    · rw [if_pos (by simp [ByteArray.size]; omega)]
      refine ⟨E0, ⟨E0, e⟩, ?_, rfl, h⟩
      simp only [num_In_Fail, cE, num_In_Fail_j1]
      rw [if_neg he]; rfl
    · have : m = 0 := by omega
      subst this
      rw [if_neg (by simp [ByteArray.size]), if_pos (by omega), if_pos (by simp [ByteArray.size])]
      exact ⟨E0, ⟨E0, e⟩, rfl, rfl, h⟩
theorem text_both (K : Nat) (hK : 10 ≤ K) (x : T73) (h : InvI x) : ∃ t x', num_In_Text K x = some (t, x') ∧ tidewrackref01_ReadText K (s50 x) = some (s50 x', t) ∧ InvI x' := by
  obtain ⟨n, x1, h1, h2, h3⟩ := num_both K hK x h
  obtain ⟨t, x2, h4, h5, h6⟩ := raw_both x1 n h3
  refine ⟨t, x2, ?_, ?_, h6⟩
  · unfold num_In_Text; rw [h1, bS]; simp only; rw [h4, bS]
  · unfold tidewrackref01_ReadText; rw [h2, bS]; simp only; rw [h5, bS]
def failF (x : T73) (v : Int) : T73 := if x.e = 0 ∧ v ≠ 0 then ⟨E0, v⟩ else x
theorem fail_eq (x : T73) (v : Int) : num_In_Fail x v = some (failF x v) := by
  simp only [num_In_Fail, num_In_Fail_j1, failF, cE]
  by_cases h1 : x.e = 0
  · by_cases h2 : v = 0
    · rw [if_pos h1, if_neg (by omega), show (v != 0) = false from by simpa using h2]; rfl
    · rw [if_pos h1, if_pos ⟨h1, h2⟩, show (v != 0) = true from by simpa using h2]; rfl
  · rw [if_neg h1, if_neg (fun h => h1 h.1)]; rfl
theorem fail_inv (x : T73) (v : Int) (h : InvI x) : InvI (failF x v) := by
  unfold failF
  split
  · exact ⟨fun _ => rfl, by simp [ByteArray.size]⟩
  · exact h
end Go.Proofs.YticilepdpobheaaDoor.Pure
