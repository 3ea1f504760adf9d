/- Words of an own calculus over the model: how a call's frame, rows and boxes go through its operations. -/
import Derived.Test.YtmgopcmdljhjoaaY12
set_option linter.unusedSimpArgs false
set_option linter.unusedVariables false
namespace Go.Proofs.XC
open Go
theorem bl_loop (bs : ByteArray) : ∀ (n i : Nat) (r : List UInt8), bs.size - i = n → ByteArray.toList.loop bs i r = r.reverse ++ bs.data.toList.drop i
  | 0, i, r, h => by
    rw [ByteArray.toList.loop]
    have h1 : ¬ i < bs.size := by omega
    have h2 : bs.data.toList.length ≤ i := by
      have : bs.data.toList.length = bs.size := by simp [ByteArray.size_data]
      omega
    simp [h1, List.drop_eq_nil_of_le h2]
  | n + 1, i, r, h => by
    have h1 : i < bs.size := by omega
    have hl : bs.data.toList.length = bs.size := by simp [ByteArray.size_data]
    rw [ByteArray.toList.loop, if_pos h1, bl_loop bs n (i + 1) _ (by omega), List.drop_eq_getElem_cons (by omega : i < bs.data.toList.length)]
    simp [ByteArray.get!, h1]
theorem bl_eq (bs : ByteArray) : bs.toList = bs.data.toList := by
  rw [ByteArray.toList, bl_loop bs _ 0 [] rfl]; simp
theorem str_ext {x y : ByteArray} (h : x.data.toList = y.data.toList) : x = y := by
  cases x; cases y; simp only [ByteArray.mk.injEq]; exact Array.toList_inj.1 h
theorem str_eq (x y : ByteArray) : (ByteArray.toList x == ByteArray.toList y) = decide (x = y) := by
  rw [bl_eq, bl_eq]
  by_cases h : x = y
  · subst h; simp
  · have h1 : ¬ x.data = y.data := fun e => h (str_ext (by rw [e]))
    simp [h, h1]
theorem cS {α : Type} (x y : ByteArray) (a b : α) : (bif (ByteArray.toList x == ByteArray.toList y) then a else b) = if x = y then a else b := by rw [str_eq]; exact cD _ _
end Go.Proofs.XC
