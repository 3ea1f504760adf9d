/- Plain laws: what the plain functions answer, with no program in sight. -/
import Derived.Test.YtpciioffkjpieaaDoorQPI
set_option linter.unusedVariables false
set_option linter.unusedSimpArgs false
namespace Go.Proofs.YtpciioffkjpieaaDoor.Pure
open Go Go.Proofs.XC Go.Proofs.YtpciioffkjpieaaDoor

/-! ### Reading, both ways at once -/
theorem pn_err12 : ∀ (l : List Int) (i : Nat) (n c : Int), pn l i n = .error c → c = 1 ∨ c = 2 := by
  intro l
  induction l with
  | nil => intro i n c h; simp only [pn] at h; split at h <;> (injection h with h; omega)
  | cons b bs ih =>
    intro i n c h
    simp only [pn] at h
    split at h
    · injection h with h; omega
    · split at h
      · exact ih _ _ _ h
      · split at h
        · injection h with h; omega
        · cases h
theorem mn64 (n M : Nat) (h : M = min n 64) : mnI (n : Int) 64 = (M : Int) := by unfold mnI; split <;> omega
theorem bad_loop (K : Nat) (hK : 10 ≤ K) (a b c : Int × T169) (M : Nat) (hM : M ≤ 64) (hc : mnI c.1 64 = (M : Int)) (x : T169) (hx : InvI x) (he : x.e ≠ 0) : ∀ (k i : Nat) (l : List Int), M < k + i → i ≤ M → l.length ≤ i → ∃ l1, gram_read_l3 K a b c k x l i = gram_read_j2 K a b x l1 ∧ l1.length ≤ 64
  | 0, i, l, h1, h2, h3 => by omega
  | k + 1, i, l, h1, h2, h3 => by
    have ih := bad_loop K hK a b c M hM hc x hx he k
    unfold gram_read_l3
    rw [hc, cD]
    by_cases hi : i < M
    · have hw : IntKind.wrap .i64 ((i : Int) + 1) = ((i + 1 : Nat) : Int) := by rw [w64 (by omega) (by omega)]; omega
      have hb : num_In_Num K x = some (0, x) := by
        obtain ⟨s, e⟩ := x
        have : s = E0 := hx.1 he
        subst this
        exact inum_bad K hK E0 e rfl he
      rw [if_pos (by omega), hb, bS, if_pos (by simp; omega), hw]
      exact ih (i + 1) _ (by omega) (by omega) (by simp; omega)
    · rw [if_neg (by omega)]
      exact ⟨l, rfl, by omega⟩
abbrev zG : T76 := ⟨0, 0, [], E0⟩
theorem open_ok {s t : ByteArray} (h : openF s = (t, true)) : s = sealF t ∧ t.size ≤ s.size := by
  unfold openF at h
  split at h
  · simp at h
  · rename_i h4
    split at h
    · rename_i c
      simp only [Prod.mk.injEq, and_true] at h
      subst h
      refine ⟨?_, by rw [ext_size]; omega⟩
      unfold sealF
      rw [← c, split4 s h4]
    · simp at h
def PR (s : ByteArray) (r : T76 × Int) : Prop := Sm r.1 ∧ (r.2 = 0 → chk r.1 = 0 ∧ bytesF r.1 = s) ∧ (r.2 ≠ 0 → r.1 = zG) ∧ (s.size > 8192 → r.2 = 3) ∧ (s.size ≤ 8192 → (openF s).2 = false → r.2 = 4)
theorem sm_z : Sm zG := ⟨by simp, by simp [ByteArray.size]⟩
end Go.Proofs.YtpciioffkjpieaaDoor.Pure
