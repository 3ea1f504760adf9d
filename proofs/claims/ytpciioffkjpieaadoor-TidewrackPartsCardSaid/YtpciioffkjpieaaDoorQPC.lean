/- Plain laws: what the plain functions answer, with no program in sight. -/
import Derived.Test.YtpciioffkjpieaaDoorQPB
set_option linter.unusedVariables false
set_option linter.unusedSimpArgs false
namespace Go.Proofs.YtpciioffkjpieaaDoor.Pure
open Go Go.Proofs.XC Go.Proofs.YtpciioffkjpieaaDoor

theorem iend_eq (s : ByteArray) (e : Int) : num_In_End ⟨s, e⟩ = some (if s = E0 then e else 1) := by
  unfold num_In_End
  rw [cSN]
  by_cases h : s = E0
  · rw [if_pos h, if_pos h]
  · rw [if_neg h, if_neg h]
theorem str_nil : strOfNums [] = E0 := rfl
def cutF (s : ByteArray) (n : Nat) : ByteArray := if s.size > n then s.extract 0 n else s
theorem cut_eq (s : ByteArray) (n : Nat) : tidewracklaw01_Cut s (n : Int) = some (cutF s n) := by
  simp only [tidewracklaw01_Cut, cutF, cD]
  by_cases h : s.size > n
  · rw [if_pos (by omega), if_pos (by omega), if_pos (by omega), if_pos h]; simp
  · rw [if_neg (by omega), if_neg h]
theorem cut_size (s : ByteArray) (n : Nat) : (cutF s n).size ≤ n := by
  unfold cutF; split
  · simp [ByteArray.size_extract]; omega
  · omega
def InvI (x : T169) : Prop := (x.e ≠ 0 → x.s = E0) ∧ x.s.size ≤ 10000
def failF (x : T169) (v : Int) : T169 := if x.e = 0 ∧ v ≠ 0 then ⟨E0, v⟩ else x
theorem fail_eq (x : T169) (v : Int) : num_In_Fail x v = some (failF x v) := by
  simp only [num_In_Fail, num_In_Fail_j1, failF, cE]
  by_cases h1 : x.e = 0
  · by_cases h2 : v = 0
    · rw [if_pos h1, if_neg (by omega), show (v != 0) = false from by simpa using h2]; rfl
    · rw [if_pos h1, if_pos ⟨h1, h2⟩, show (v != 0) = true from by simpa using h2]; rfl
  · rw [if_neg h1, if_neg (fun h => h1 h.1)]; rfl
theorem fail_inv (x : T169) (v : Int) (h : InvI x) : InvI (failF x v) := by
  unfold failF
  split
  · exact ⟨fun _ => rfl, by simp [ByteArray.size]⟩
  · exact h
end Go.Proofs.YtpciioffkjpieaaDoor.Pure
