/- Plain functions, printed by an own program: what the walked code computes. -/
import Derived.Test.YtmgkcahjpehckaaDoorX18
set_option linter.unusedVariables false
set_option linter.unusedSimpArgs false
namespace Go.Proofs.YtmgkcahjpehckaaDoor
open Go Go.Proofs.XC

namespace WF
def wfBool (_ : Bool) : Prop := True
def wfStr (x : ByteArray) : Prop := x.size ≤ maxLen
def wfi64 (x : Int) : Prop := (Lit.int .i64 x).wf = true
def wfi32 (x : Int) : Prop := (Lit.int .i32 x).wf = true
def wfu8 (x : Int) : Prop := (Lit.int .u8 x).wf = true
def wfu32 (x : Int) : Prop := (Lit.int .u32 x).wf = true
def wfu64 (x : Int) : Prop := (Lit.int .u64 x).wf = true
def wfi8 (x : Int) : Prop := (Lit.int .i8 x).wf = true
def wfi16 (x : Int) : Prop := (Lit.int .i16 x).wf = true
def wfu16 (x : Int) : Prop := (Lit.int .u16 x).wf = true
end WF
def glob0 : List Int := [0, 498536548, 997073096, 651767980, 1994146192, 1802195444, 1303535960, 1342533948, 3988292384, 4027552580, 3604390888, 3412177804, 2607071920, 2262029012, 2685067896, 3183342108]
/-! tidewrack/sum.step -/
def sum_step (p0 : Int) (p1 : Int) : Option Int :=
  if 0 ≤ (bits .and .u32 (bits .xor .u32 p0 (IntKind.wrap .u32 p1)) 15) ∧ (bits .and .u32 (bits .xor .u32 p0 (IntKind.wrap .u32 p1)) 15) < ((glob0).length : Int) then (if 0 ≤ (bits .and .u32 (bits .xor .u32 (Int.fdiv (bits .xor .u32 p0 (IntKind.wrap .u32 p1)) (2 ^ min (Int.toNat 4) 32)) (rdD 0 glob0 (bits .and .u32 (bits .xor .u32 p0 (IntKind.wrap .u32 p1)) 15))) 15) ∧ (bits .and .u32 (bits .xor .u32 (Int.fdiv (bits .xor .u32 p0 (IntKind.wrap .u32 p1)) (2 ^ min (Int.toNat 4) 32)) (rdD 0 glob0 (bits .and .u32 (bits .xor .u32 p0 (IntKind.wrap .u32 p1)) 15))) 15) < ((glob0).length : Int) then (some (bits .xor .u32 (Int.fdiv (bits .xor .u32 (Int.fdiv (bits .xor .u32 p0 (IntKind.wrap .u32 p1)) (2 ^ min (Int.toNat 4) 32)) (rdD 0 glob0 (bits .and .u32 (bits .xor .u32 p0 (IntKind.wrap .u32 p1)) 15))) (2 ^ min (Int.toNat 4) 32)) (rdD 0 glob0 (bits .and .u32 (bits .xor .u32 (Int.fdiv (bits .xor .u32 p0 (IntKind.wrap .u32 p1)) (2 ^ min (Int.toNat 4) 32)) (rdD 0 glob0 (bits .and .u32 (bits .xor .u32 p0 (IntKind.wrap .u32 p1)) 15))) 15)))) else none) else none

/-! tidewrack/sum.Of -/
def sum_Of_j1 (x328 : Int) : Option Int :=
  some (bits .xor .u32 4294967295 x328)
def sum_Of_j3 (x441 : Int) (lp546 : Int → Int → Option Int) (x602 : Int) : Option Int :=
  lp546 x602 (IntKind.wrap .i64 (x441 + 1))
def sum_Of_l4 (p0 : List ByteArray) (x441 : Int) (lp546 : Int → Int → Option Int) : Nat → Int → Int → Option Int
  | 0, _, _ => none
  | k637 + 1, x624, x625 => bif (decide (x625 < (((rdD (⟨#[]⟩ : ByteArray) p0 x441)).size : Int))) then (if 0 ≤ x625 ∧ x625 < (((rdD (⟨#[]⟩ : ByteArray) p0 x441)).size : Int) then ((sum_step x624 (bt (rdD (⟨#[]⟩ : ByteArray) p0 x441) x625)).bind fun t645 => ((sum_Of_l4 p0 x441 lp546 k637) t645 (IntKind.wrap .i64 (x625 + 1)))) else none) else (sum_Of_j3 x441 lp546 x624)
def sum_Of_l2 (K : Nat) (p0 : List ByteArray) : Nat → Int → Int → Option Int
  | 0, _, _ => none
  | k545 + 1, x436, x441 => bif (decide (x441 < ((p0).length : Int))) then (if 0 ≤ x441 ∧ x441 < ((p0).length : Int) then (sum_Of_l4 p0 x441 (sum_Of_l2 K p0 k545) K x436 0) else none) else (sum_Of_j1 x436)
def sum_Of (K : Nat) (p0 : List ByteArray) : Option Int :=
  sum_Of_l2 K p0 K 4294967295 0

/-! tidewrack/tidewracklaw02.awake -/
def tidewracklaw02_awake (K : Nat)  : Option Bool :=
  (sum_Of K ([(⟨#[49, 50, 51, 52, 53, 54, 55, 56, 57]⟩ : ByteArray)] : List ByteArray)).bind fun t10 => (bif (t10 == (3421780262 : Int)) then ((sum_Of K ([(⟨#[49, 50, 51, 52]⟩ : ByteArray), (⟨#[53, 54, 55, 56, 57]⟩ : ByteArray)] : List ByteArray)).bind fun t25 => (bif (t25 == (3421780262 : Int)) then ((sum_Of K ([] : List ByteArray)).bind fun t34 => (some (t34 == (0 : Int)))) else (some false))) else (some false))

/-! tidewrack/tidewracklaw02.SumThree -/
def tidewracklaw02_SumThree_j2 (x1876 : Bool) : Option Bool :=
  some x1876
def tidewracklaw02_SumThree_j1 (K : Nat) (p0 : ByteArray) (p1 : ByteArray) (p2 : ByteArray) (l136 : List Int) : Option Bool :=
  (sum_Of K ([(strOfNums l136)] : List ByteArray)).bind fun t1946 => (if (mnI (mnI (mnI ((p0).size : Int) ((p1).size : Int)) ((p2).size : Int)) 60) ≤ ((p0).size : Int) then ((sum_Of K ([(ByteArray.extract p0 0 (Int.toNat (mnI (mnI (mnI ((p0).size : Int) ((p1).size : Int)) ((p2).size : Int)) 60)))] : List ByteArray)).bind fun t1961 => (if (mnI (mnI (mnI ((p0).size : Int) ((p1).size : Int)) ((p2).size : Int)) 60) ≤ ((p1).size : Int) then ((sum_Of K ([(ByteArray.extract p1 0 (Int.toNat (mnI (mnI (mnI ((p0).size : Int) ((p1).size : Int)) ((p2).size : Int)) 60)))] : List ByteArray)).bind fun t1976 => (if (mnI (mnI (mnI ((p0).size : Int) ((p1).size : Int)) ((p2).size : Int)) 60) ≤ ((p2).size : Int) then ((sum_Of K ([(ByteArray.extract p2 0 (Int.toNat (mnI (mnI (mnI ((p0).size : Int) ((p1).size : Int)) ((p2).size : Int)) 60)))] : List ByteArray)).bind fun t1991 => (tidewracklaw02_SumThree_j2 (t1946 == (bits .xor .u32 (bits .xor .u32 t1961 t1976) t1991)))) else none)) else none)) else none)
def tidewracklaw02_SumThree_l3 (K : Nat) (p0 : ByteArray) (p1 : ByteArray) (p2 : ByteArray) : Nat → (List Int) → Int → Option Bool
  | 0, _, _ => none
  | k3619 + 1, l3584, x3587 => bif (decide (x3587 < (mnI (mnI (mnI ((p0).size : Int) ((p1).size : Int)) ((p2).size : Int)) 60))) then (if 0 ≤ x3587 ∧ x3587 < ((p0).size : Int) then (if 0 ≤ x3587 ∧ x3587 < ((p1).size : Int) then (if 0 ≤ x3587 ∧ x3587 < ((p2).size : Int) then (if 0 ≤ x3587 ∧ x3587 < ((l3584).length : Int) then ((tidewracklaw02_SumThree_l3 K p0 p1 p2 k3619) (List.set l3584 (Int.toNat x3587) (bits .xor .u8 (bits .xor .u8 (bt p0 x3587) (bt p1 x3587)) (bt p2 x3587))) (IntKind.wrap .i64 (x3587 + 1))) else none) else none) else none) else none) else (tidewracklaw02_SumThree_j1 K p0 p1 p2 l3584)
def tidewracklaw02_SumThree (K : Nat) (p0 : ByteArray) (p1 : ByteArray) (p2 : ByteArray) : Option Bool :=
  (tidewracklaw02_awake K).bind fun t4 => (bif (!t4) then (some false) else (if 0 ≤ (mnI (mnI (mnI ((p0).size : Int) ((p1).size : Int)) ((p2).size : Int)) 60) then (if (mnI (mnI (mnI ((p0).size : Int) ((p1).size : Int)) ((p2).size : Int)) 60) ≤ 1000000000 then (tidewracklaw02_SumThree_l3 K p0 p1 p2 K (List.replicate (Int.toNat (mnI (mnI (mnI ((p0).size : Int) ((p1).size : Int)) ((p2).size : Int)) 60)) (0 : Int)) 0) else none) else none))

end Go.Proofs.YtmgkcahjpehckaaDoor
