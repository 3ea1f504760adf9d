/- Words of an own calculus over the model: how a call's frame, rows and boxes go through its operations. -/
import Derived.Test.YtmgopcmdljhjoaaY7
set_option linter.unusedSimpArgs false
set_option linter.unusedVariables false
namespace Go.Proofs.XC
open Go

/-! ### Words for the plain laws -/
theorem w64 {x : Int} (h1 : -9223372036854775808 ≤ x) (h2 : x ≤ 9223372036854775807) : IntKind.wrap .i64 x = x := by
  simp only [IntKind.wrap, IntKind.bits, IntKind.signed]
  simp only [Bool.true_and, decide_eq_true_eq, ge_iff_le, show (2:Int)^64 = 18446744073709551616 from rfl, show (2:Int)^(64-1) = 9223372036854775808 from rfl, show (2:Int)^32 = 4294967296 from rfl, show (2:Int)^(32-1) = 2147483648 from rfl]
  split <;> omega
theorem w32 {x : Int} (h1 : -2147483648 ≤ x) (h2 : x ≤ 2147483647) : IntKind.wrap .i32 x = x := by
  simp only [IntKind.wrap, IntKind.bits, IntKind.signed]
  simp only [Bool.true_and, decide_eq_true_eq, ge_iff_le, show (2:Int)^64 = 18446744073709551616 from rfl, show (2:Int)^(64-1) = 9223372036854775808 from rfl, show (2:Int)^32 = 4294967296 from rfl, show (2:Int)^(32-1) = 2147483648 from rfl]
  split <;> omega
theorem wu32 {x : Int} (h1 : 0 ≤ x) (h2 : x ≤ 4294967295) : IntKind.wrap .u32 x = x := by
  have : IntKind.wrap .u32 x = x % 4294967296 := by simp [IntKind.wrap, IntKind.bits, IntKind.signed]
  rw [this]; omega
theorem wu8 {x : Int} (h1 : 0 ≤ x) (h2 : x ≤ 255) : IntKind.wrap .u8 x = x := by
  have : IntKind.wrap .u8 x = x % 256 := by simp [IntKind.wrap, IntKind.bits, IntKind.signed]
  rw [this]; omega
theorem wu64 {x : Int} (h1 : 0 ≤ x) (h2 : x ≤ 18446744073709551615) : IntKind.wrap .u64 x = x := by
  have : IntKind.wrap .u64 x = x % 18446744073709551616 := by simp [IntKind.wrap, IntKind.bits, IntKind.signed]
  rw [this]; omega
theorem wu8' (x : Int) : IntKind.wrap .u8 x = x % 256 := by
  simp [IntKind.wrap, IntKind.bits, IntKind.signed]
theorem wu32' (x : Int) : IntKind.wrap .u32 x = x % 4294967296 := by
  simp [IntKind.wrap, IntKind.bits, IntKind.signed]
theorem wu64' (x : Int) : IntKind.wrap .u64 x = x % 18446744073709551616 := by
  simp [IntKind.wrap, IntKind.bits, IntKind.signed]
theorem wf64 {x : Int} (h : (Lit.int .i64 x).wf = true) : -9223372036854775808 ≤ x ∧ x ≤ 9223372036854775807 := by
  simpa [Lit.wf, IntKind.min, IntKind.max, IntKind.bits, IntKind.signed] using h
theorem wf32 {x : Int} (h : (Lit.int .i32 x).wf = true) : -2147483648 ≤ x ∧ x ≤ 2147483647 := by
  simpa [Lit.wf, IntKind.min, IntKind.max, IntKind.bits, IntKind.signed] using h
theorem wfu32 {x : Int} (h : (Lit.int .u32 x).wf = true) : 0 ≤ x ∧ x ≤ 4294967295 := by
  simpa [Lit.wf, IntKind.min, IntKind.max, IntKind.bits, IntKind.signed] using h
theorem wfu8 {x : Int} (h : (Lit.int .u8 x).wf = true) : 0 ≤ x ∧ x ≤ 255 := by
  simpa [Lit.wf, IntKind.min, IntKind.max, IntKind.bits, IntKind.signed] using h
theorem wfu64 {x : Int} (h : (Lit.int .u64 x).wf = true) : 0 ≤ x ∧ x ≤ 18446744073709551615 := by
  simpa [Lit.wf, IntKind.min, IntKind.max, IntKind.bits, IntKind.signed] using h
theorem ifT {α : Type} {p : Prop} [Decidable p] (h : p) (a b : α) : (if p then a else b) = a := if_pos h
theorem ifF {α : Type} {p : Prop} [Decidable p] (h : ¬p) (a b : α) : (if p then a else b) = b := if_neg h
theorem cT {α : Type} {c : Bool} (h : c = true) (a b : α) : (bif c then a else b) = a := by rw [h]; rfl
theorem cF {α : Type} {c : Bool} (h : c = false) (a b : α) : (bif c then a else b) = b := by rw [h]; rfl
theorem cD {α : Type} {p : Prop} [Decidable p] (a b : α) : (bif decide p then a else b) = if p then a else b := by by_cases h : p <;> simp [h]
theorem cE {α β : Type} [BEq β] [LawfulBEq β] [DecidableEq β] (x y : β) (a b : α) : (bif x == y then a else b) = if x = y then a else b := by
  by_cases h : x = y
  · subst h; simp
  · rw [if_neg h, show (x == y) = false from by simpa using h]; rfl
theorem cN {α β : Type} [BEq β] [LawfulBEq β] [DecidableEq β] (x y : β) (a b : α) : (bif x != y then a else b) = if x = y then b else a := by
  by_cases h : x = y
  · subst h; simp
  · rw [if_neg h, show (x != y) = true from by simpa using h]; rfl
theorem bS {α β : Type} (x : α) (f : α → Option β) : (some x).bind f = f x := rfl
theorem bO {α β : Type} (f : α → Option β) : (none : Option α).bind f = none := rfl
theorem rdD_nat {α : Type} (d : α) (xs : List α) (n : Nat) : rdD d xs (n : Int) = xs.getD n d := rfl
theorem rdD_get {α : Type} (d : α) (xs : List α) {i : Nat} (h : i < xs.length) : rdD d xs (i : Int) = xs[i] := by simp [rdD, List.getD_eq_getElem?_getD, h]
theorem rdD_at {α : Type} (d : α) (xs : List α) {z : Int} {i : Nat} (hz : z = i) (h : i < xs.length) : rdD d xs z = xs[i] := by subst hz; exact rdD_get d xs h
theorem drop_cons {α : Type} (xs : List α) {i : Nat} (h : i < xs.length) : xs.drop i = xs[i] :: xs.drop (i + 1) := List.drop_eq_getElem_cons h
theorem take_len {α : Type} (xs : List α) {n : Nat} (h : xs.length ≤ n) : xs.take n = xs := List.take_of_length_le h
theorem rep_i (n : Nat) (x : Int) : (List.replicate n x).length = n := by simp
end Go.Proofs.XC
