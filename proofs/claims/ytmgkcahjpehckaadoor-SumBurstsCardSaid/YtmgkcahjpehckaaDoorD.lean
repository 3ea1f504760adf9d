/- Plain functions, printed by an own program: what the walked code computes. -/
import Derived.Test.YtmgkcahjpehckaaDoorX13
set_option linter.unusedVariables false
set_option linter.unusedSimpArgs false
namespace Go.Proofs.YtmgkcahjpehckaaDoor
open Go Go.Proofs.XC

namespace WF
def wfBool (_ : Bool) : Prop := True
def wfStr (x : ByteArray) : Prop := x.size ≤ maxLen
def wfi64 (x : Int) : Prop := (Lit.int .i64 x).wf = true
def wfi32 (x : Int) : Prop := (Lit.int .i32 x).wf = true
def wfu8 (x : Int) : Prop := (Lit.int .u8 x).wf = true
def wfu32 (x : Int) : Prop := (Lit.int .u32 x).wf = true
def wfu64 (x : Int) : Prop := (Lit.int .u64 x).wf = true
def wfi8 (x : Int) : Prop := (Lit.int .i8 x).wf = true
def wfi16 (x : Int) : Prop := (Lit.int .i16 x).wf = true
def wfu16 (x : Int) : Prop := (Lit.int .u16 x).wf = true
end WF
def glob0 : List Int := [0, 498536548, 997073096, 651767980, 1994146192, 1802195444, 1303535960, 1342533948, 3988292384, 4027552580, 3604390888, 3412177804, 2607071920, 2262029012, 2685067896, 3183342108]
/-! tidewrack/sum.step -/
def sum_step (p0 : Int) (p1 : Int) : Option Int :=
  if 0 ≤ (bits .and .u32 (bits .xor .u32 p0 (IntKind.wrap .u32 p1)) 15) ∧ (bits .and .u32 (bits .xor .u32 p0 (IntKind.wrap .u32 p1)) 15) < ((glob0).length : Int) then (if 0 ≤ (bits .and .u32 (bits .xor .u32 (Int.fdiv (bits .xor .u32 p0 (IntKind.wrap .u32 p1)) (2 ^ min (Int.toNat 4) 32)) (rdD 0 glob0 (bits .and .u32 (bits .xor .u32 p0 (IntKind.wrap .u32 p1)) 15))) 15) ∧ (bits .and .u32 (bits .xor .u32 (Int.fdiv (bits .xor .u32 p0 (IntKind.wrap .u32 p1)) (2 ^ min (Int.toNat 4) 32)) (rdD 0 glob0 (bits .and .u32 (bits .xor .u32 p0 (IntKind.wrap .u32 p1)) 15))) 15) < ((glob0).length : Int) then (some (bits .xor .u32 (Int.fdiv (bits .xor .u32 (Int.fdiv (bits .xor .u32 p0 (IntKind.wrap .u32 p1)) (2 ^ min (Int.toNat 4) 32)) (rdD 0 glob0 (bits .and .u32 (bits .xor .u32 p0 (IntKind.wrap .u32 p1)) 15))) (2 ^ min (Int.toNat 4) 32)) (rdD 0 glob0 (bits .and .u32 (bits .xor .u32 (Int.fdiv (bits .xor .u32 p0 (IntKind.wrap .u32 p1)) (2 ^ min (Int.toNat 4) 32)) (rdD 0 glob0 (bits .and .u32 (bits .xor .u32 p0 (IntKind.wrap .u32 p1)) 15))) 15)))) else none) else none

/-! tidewrack/sum.Of -/
def sum_Of_j1 (x335 : Int) : Option Int :=
  some (bits .xor .u32 4294967295 x335)
def sum_Of_j3 (x451 : Int) (lp558 : Int → (List ByteArray) → Int → Option Int) (x615 : Int) (l618 : List ByteArray) : Option Int :=
  lp558 x615 l618 (IntKind.wrap .i64 (x451 + 1))
def sum_Of_l4 (l448 : List ByteArray) (x451 : Int) (lp558 : Int → (List ByteArray) → Int → Option Int) : Nat → Int → Int → Option Int
  | 0, _, _ => none
  | k651 + 1, x638, x639 => bif (decide (x639 < (((rdD (⟨#[]⟩ : ByteArray) l448 x451)).size : Int))) then (if 0 ≤ x639 ∧ x639 < (((rdD (⟨#[]⟩ : ByteArray) l448 x451)).size : Int) then ((sum_step x638 (bt (rdD (⟨#[]⟩ : ByteArray) l448 x451) x639)).bind fun t659 => ((sum_Of_l4 l448 x451 lp558 k651) t659 (IntKind.wrap .i64 (x639 + 1)))) else none) else (sum_Of_j3 x451 lp558 x638 l448)
def sum_Of_l2 (K : Nat) (p0 : List ByteArray) : Nat → Int → (List ByteArray) → Int → Option Int
  | 0, _, _, _ => none
  | k557 + 1, x445, l448, x451 => bif (decide (x451 < ((p0).length : Int))) then (if 0 ≤ x451 ∧ x451 < ((l448).length : Int) then (sum_Of_l4 l448 x451 (sum_Of_l2 K p0 k557) K x445 0) else none) else (sum_Of_j1 x445)
def sum_Of (K : Nat) (p0 : List ByteArray) : Option Int :=
  sum_Of_l2 K p0 K 4294967295 p0 0

/-! tidewrack/tidewracklaw02.awake -/
def tidewracklaw02_awake (K : Nat)  : Option Bool :=
  (sum_Of K ([(⟨#[49, 50, 51, 52, 53, 54, 55, 56, 57]⟩ : ByteArray)] : List ByteArray)).bind fun t10 => (bif (t10 == (3421780262 : Int)) then ((sum_Of K ([(⟨#[49, 50, 51, 52]⟩ : ByteArray), (⟨#[53, 54, 55, 56, 57]⟩ : ByteArray)] : List ByteArray)).bind fun t25 => (bif (t25 == (3421780262 : Int)) then ((sum_Of K ([] : List ByteArray)).bind fun t34 => (some (t34 == (0 : Int)))) else (some false))) else (some false))

/-! tidewrack/tidewracklaw01.Cut -/
def tidewracklaw01_Cut (p0 : ByteArray) (p1 : Int) : Option ByteArray :=
  bif (decide (((p0).size : Int) > p1)) then (if 0 ≤ p1 then (if p1 ≤ ((p0).size : Int) then (some (ByteArray.extract p0 0 (Int.toNat p1))) else none) else none) else (some p0)

/-! tidewrack/tidewracklaw01.Few -/
def tidewracklaw01_Few_j1 (l127 : List ByteArray) : Option (List ByteArray) :=
  some l127
def tidewracklaw01_Few_j3 (p0 : List ByteArray) (p2 : Int) (l170 : List ByteArray) (x173 : Int) (lp209 : (List ByteArray) → Int → Option (List ByteArray)) : Option (List ByteArray) :=
  if 0 ≤ x173 ∧ x173 < ((p0).length : Int) then ((tidewracklaw01_Cut (rdD (⟨#[]⟩ : ByteArray) p0 x173) p2).bind fun t223 => (if (l170).length + (([t223] : List ByteArray)).length ≤ 1000000000 then (lp209 (l170 ++ ([t223] : List ByteArray)) (IntKind.wrap .i64 (x173 + 1))) else none)) else none
def tidewracklaw01_Few_l2 (p0 : List ByteArray) (p1 : Int) (p2 : Int) : Nat → (List ByteArray) → Int → Option (List ByteArray)
  | 0, _, _ => none
  | k208 + 1, l170, x173 => bif (decide (x173 < ((p0).length : Int))) then (bif (decide (x173 < p1)) then (tidewracklaw01_Few_j3 p0 p2 l170 x173 (tidewracklaw01_Few_l2 p0 p1 p2 k208)) else (tidewracklaw01_Few_j1 l170)) else (tidewracklaw01_Few_j1 l170)
def tidewracklaw01_Few (K : Nat) (p0 : List ByteArray) (p1 : Int) (p2 : Int) : Option (List ByteArray) :=
  tidewracklaw01_Few_l2 p0 p1 p2 K ([] : List ByteArray) 0

/-! tidewrack/tidewrackref02.Of -/
def tidewrackref02_Of_j1 (x150 : Int) : Option Int :=
  some (IntKind.wrap .i64 (4294967295 - x150))
def tidewrackref02_Of_j3 (x201 : Int) (lp248 : Int → Int → Option Int) (x275 : Int) : Option Int :=
  lp248 x275 (IntKind.wrap .i64 (x201 + 1))
def tidewrackref02_Of_l4 (x201 : Int) (lp248 : Int → Int → Option Int) : Nat → Int → Int → Option Int
  | 0, _, _ => none
  | k289 + 1, x284, x285 => bif (decide (x285 < (8 : Int))) then (bif ((Int.tmod x284 2) == (1 : Int)) then ((tidewrackref02_Of_l4 x201 lp248 k289) (bits .xor .i64 (IntKind.wrap .i64 (Int.tdiv x284 2)) 3988292384) (IntKind.wrap .i64 (x285 + 1))) else ((tidewrackref02_Of_l4 x201 lp248 k289) (IntKind.wrap .i64 (Int.tdiv x284 2)) (IntKind.wrap .i64 (x285 + 1)))) else (tidewrackref02_Of_j3 x201 lp248 x284)
def tidewrackref02_Of_l2 (K : Nat) (p0 : ByteArray) : Nat → Int → Int → Option Int
  | 0, _, _ => none
  | k247 + 1, x200, x201 => bif (decide (x201 < ((p0).size : Int))) then (if 0 ≤ x201 ∧ x201 < ((p0).size : Int) then (tidewrackref02_Of_l4 x201 (tidewrackref02_Of_l2 K p0 k247) K (bits .xor .i64 x200 (IntKind.wrap .i64 (bt p0 x201))) 0) else none) else (tidewrackref02_Of_j1 x200)
def tidewrackref02_Of (K : Nat) (p0 : ByteArray) : Option Int :=
  tidewrackref02_Of_l2 K p0 K 4294967295 0

/-! tidewrack/sum.tail -/
def sum_tail (p0 : Int) : Option ByteArray :=
  some (strOfNums ([(IntKind.wrap .u8 p0), (IntKind.wrap .u8 (Int.fdiv p0 (2 ^ min (Int.toNat 8) 32))), (IntKind.wrap .u8 (Int.fdiv p0 (2 ^ min (Int.toNat 16) 32))), (IntKind.wrap .u8 (Int.fdiv p0 (2 ^ min (Int.toNat 24) 32)))] : List Int))

/-! tidewrack/sum.Seal -/
def sum_Seal (K : Nat) (p0 : ByteArray) : Option ByteArray :=
  (sum_Of K ([p0] : List ByteArray)).bind fun t10 => ((sum_tail t10).bind fun t18 => (if ((p0.size + t18.size : Nat) : Int) ≤ 9223372036854775807 then (some (p0 ++ t18)) else none))

/-! tidewrack/tidewrackref02.Seal -/
def tidewrackref02_Seal (K : Nat) (p0 : ByteArray) : Option ByteArray :=
  (tidewrackref02_Of K p0).bind fun t4 => (if ((p0.size + (strOfNums ([(IntKind.wrap .u8 (Int.tmod t4 256)), (IntKind.wrap .u8 (Int.tmod (IntKind.wrap .i64 (Int.tdiv t4 256)) 256)), (IntKind.wrap .u8 (Int.tmod (IntKind.wrap .i64 (Int.tdiv t4 65536)) 256)), (IntKind.wrap .u8 (IntKind.wrap .i64 (Int.tdiv t4 16777216)))] : List Int)).size : Nat) : Int) ≤ 9223372036854775807 then (some (p0 ++ (strOfNums ([(IntKind.wrap .u8 (Int.tmod t4 256)), (IntKind.wrap .u8 (Int.tmod (IntKind.wrap .i64 (Int.tdiv t4 256)) 256)), (IntKind.wrap .u8 (Int.tmod (IntKind.wrap .i64 (Int.tdiv t4 65536)) 256)), (IntKind.wrap .u8 (IntKind.wrap .i64 (Int.tdiv t4 16777216)))] : List Int)))) else none)

/-! tidewrack/tidewracklaw02.SumTells -/
def tidewracklaw02_SumTells_j1 (K : Nat) (t13 : List ByteArray) (x52 : ByteArray) : Option Bool :=
  (sum_Of K t13).bind fun t57 => ((tidewrackref02_Of K x52).bind fun t65 => (bif ((IntKind.wrap .i64 t57) == t65) then ((sum_Seal K x52).bind fun t74 => ((tidewrackref02_Seal K x52).bind fun t82 => (some (ByteArray.toList t74 == ByteArray.toList t82)))) else (some false)))
def tidewracklaw02_SumTells_l2 (K : Nat) (t13 : List ByteArray) : Nat → ByteArray → Int → Option Bool
  | 0, _, _ => none
  | k103 + 1, x96, x97 => bif (decide (x97 < ((t13).length : Int))) then (if 0 ≤ x97 ∧ x97 < ((t13).length : Int) then (if ((x96.size + (rdD (⟨#[]⟩ : ByteArray) t13 x97).size : Nat) : Int) ≤ 9223372036854775807 then ((tidewracklaw02_SumTells_l2 K t13 k103) (x96 ++ (rdD (⟨#[]⟩ : ByteArray) t13 x97)) (IntKind.wrap .i64 (x97 + 1))) else none) else none) else (tidewracklaw02_SumTells_j1 K t13 x96)
def tidewracklaw02_SumTells (K : Nat) (p0 : List ByteArray) : Option Bool :=
  (tidewracklaw02_awake K).bind fun t4 => (bif (!t4) then (some false) else ((tidewracklaw01_Few K p0 5 60).bind fun t13 => (tidewracklaw02_SumTells_l2 K t13 K (⟨#[]⟩ : ByteArray) 0)))

/-! tidewrack/sum.Open -/
def sum_Open_j1 (p0 : ByteArray) (x85 : Bool) : Option (ByteArray × Bool) :=
  bif x85 then (some ((⟨#[]⟩ : ByteArray), false)) else (if 0 ≤ (IntKind.wrap .i64 (((p0).size : Int) - 4)) then (if (IntKind.wrap .i64 (((p0).size : Int) - 4)) ≤ ((p0).size : Int) then (some ((ByteArray.extract p0 0 (Int.toNat (IntKind.wrap .i64 (((p0).size : Int) - 4)))), true)) else none) else none)
def sum_Open (K : Nat) (p0 : ByteArray) : Option (ByteArray × Bool) :=
  bif (decide ((IntKind.wrap .i64 (((p0).size : Int) - 4)) < (0 : Int))) then (sum_Open_j1 p0 true) else (if 0 ≤ (IntKind.wrap .i64 (((p0).size : Int) - 4)) then (if (IntKind.wrap .i64 (((p0).size : Int) - 4)) ≤ ((p0).size : Int) then ((sum_Of K ([(ByteArray.extract p0 0 (Int.toNat (IntKind.wrap .i64 (((p0).size : Int) - 4))))] : List ByteArray)).bind fun t154 => ((sum_tail t154).bind fun t162 => (sum_Open_j1 p0 (!(ByteArray.toList (ByteArray.extract p0 (Int.toNat (IntKind.wrap .i64 (((p0).size : Int) - 4))) (p0).size) == ByteArray.toList t162))))) else none) else none)

/-! tidewrack/tidewrackref02.Open -/
def tidewrackref02_Open_j1 (p0 : ByteArray) (x19 : Bool) : Option (ByteArray × Bool) :=
  bif x19 then (some ((⟨#[]⟩ : ByteArray), false)) else (if 0 ≤ (IntKind.wrap .i64 (((p0).size : Int) - 4)) then (if (IntKind.wrap .i64 (((p0).size : Int) - 4)) ≤ ((p0).size : Int) then (some ((ByteArray.extract p0 0 (Int.toNat (IntKind.wrap .i64 (((p0).size : Int) - 4)))), true)) else none) else none)
def tidewrackref02_Open (K : Nat) (p0 : ByteArray) : Option (ByteArray × Bool) :=
  bif (decide (((p0).size : Int) < (4 : Int))) then (tidewrackref02_Open_j1 p0 true) else (if 0 ≤ (IntKind.wrap .i64 (((p0).size : Int) - 4)) then (if (IntKind.wrap .i64 (((p0).size : Int) - 4)) ≤ ((p0).size : Int) then ((tidewrackref02_Seal K (ByteArray.extract p0 0 (Int.toNat (IntKind.wrap .i64 (((p0).size : Int) - 4))))).bind fun t30 => (tidewrackref02_Open_j1 p0 (!(ByteArray.toList t30 == ByteArray.toList p0)))) else none) else none)

/-! tidewrack/tidewracklaw02.SumOpens -/
def tidewracklaw02_SumOpens (K : Nat) (p0 : ByteArray) : Option Bool :=
  (tidewracklaw02_awake K).bind fun t4 => (bif (!t4) then (some false) else ((tidewracklaw01_Cut p0 120).bind fun t13 => ((sum_Open K t13).bind fun t21 => ((tidewrackref02_Open K t13).bind fun t29 => ((sum_Seal K t13).bind fun t37 => ((sum_Open K t37).bind fun t45 => (bif (ByteArray.toList t21.1 == ByteArray.toList t29.1) then (bif (t21.2 == t29.2) then (bif (ByteArray.toList t45.1 == ByteArray.toList t13) then (some t45.2) else (some false)) else (some false)) else (some false))))))))

/-! tidewrack/sum.Turn -/
def sum_Turn_j1 (l132 : List Int) : Option ByteArray :=
  some (strOfNums l132)
def sum_Turn_j3 (x172 : Int) (l175 : List Int) (x178 : Int) (lp213 : Int → (List Int) → Int → Option ByteArray) : Option ByteArray :=
  if 0 ≤ (IntKind.wrap .i64 (Int.tdiv x178 8)) ∧ (IntKind.wrap .i64 (Int.tdiv x178 8)) < ((l175).length : Int) then (if 0 ≤ (Int.tmod x178 8) then (lp213 (Int.fdiv x172 (2 ^ min (Int.toNat 1) 32)) (List.set l175 (Int.toNat (IntKind.wrap .i64 (Int.tdiv x178 8))) (bits .xor .u8 (rdD 0 l175 (IntKind.wrap .i64 (Int.tdiv x178 8))) (IntKind.wrap .u8 ((IntKind.wrap .u8 (bits .and .u32 x172 1)) * 2 ^ min (Int.toNat (Int.tmod x178 8)) 8)))) (IntKind.wrap .i64 (x178 + 1))) else none) else none
def sum_Turn_l2 : Nat → Int → (List Int) → Int → Option ByteArray
  | 0, _, _, _ => none
  | k212 + 1, x172, l175, x178 => bif (x172 != (0 : Int)) then (bif (decide (x178 < (IntKind.wrap .i64 (8 * ((l175).length : Int))))) then (sum_Turn_j3 x172 l175 x178 (sum_Turn_l2 k212)) else (sum_Turn_j1 l175)) else (sum_Turn_j1 l175)
def sum_Turn (K : Nat) (p0 : ByteArray) (p1 : Int) (p2 : Int) : Option ByteArray :=
  sum_Turn_l2 K p2 (numsOf p0) (if (if (IntKind.wrap .i64 (8 * (((numsOf p0)).length : Int))) < p1 then (IntKind.wrap .i64 (8 * (((numsOf p0)).length : Int))) else p1) > 0 then (if (IntKind.wrap .i64 (8 * (((numsOf p0)).length : Int))) < p1 then (IntKind.wrap .i64 (8 * (((numsOf p0)).length : Int))) else p1) else 0)

/-! tidewrack/tidewrackref02.Turn -/
def tidewrackref02_Turn_j1 (l136 : List Int) : Option ByteArray :=
  some (strOfNums l136)
def tidewrackref02_Turn_j3 (p0 : ByteArray) (p1 : Int) (p2 : Int) (l179 : List Int) (x182 : Int) (lp219 : (List Int) → Int → Option ByteArray) : Option ByteArray :=
  if 0 ≤ x182 then (bif ((Int.tmod (Int.fdiv p2 (2 ^ min (Int.toNat x182) 32)) 2) == (1 : Int)) then (if 0 ≤ (IntKind.wrap .i64 (Int.tdiv (IntKind.wrap .i64 ((if (if (IntKind.wrap .i64 (8 * (((numsOf p0)).length : Int))) < p1 then (IntKind.wrap .i64 (8 * (((numsOf p0)).length : Int))) else p1) > 0 then (if (IntKind.wrap .i64 (8 * (((numsOf p0)).length : Int))) < p1 then (IntKind.wrap .i64 (8 * (((numsOf p0)).length : Int))) else p1) else 0) + x182)) 8)) ∧ (IntKind.wrap .i64 (Int.tdiv (IntKind.wrap .i64 ((if (if (IntKind.wrap .i64 (8 * (((numsOf p0)).length : Int))) < p1 then (IntKind.wrap .i64 (8 * (((numsOf p0)).length : Int))) else p1) > 0 then (if (IntKind.wrap .i64 (8 * (((numsOf p0)).length : Int))) < p1 then (IntKind.wrap .i64 (8 * (((numsOf p0)).length : Int))) else p1) else 0) + x182)) 8)) < ((l179).length : Int) then (if 0 ≤ (Int.tmod (IntKind.wrap .i64 ((if (if (IntKind.wrap .i64 (8 * (((numsOf p0)).length : Int))) < p1 then (IntKind.wrap .i64 (8 * (((numsOf p0)).length : Int))) else p1) > 0 then (if (IntKind.wrap .i64 (8 * (((numsOf p0)).length : Int))) < p1 then (IntKind.wrap .i64 (8 * (((numsOf p0)).length : Int))) else p1) else 0) + x182)) 8) then (lp219 (List.set l179 (Int.toNat (IntKind.wrap .i64 (Int.tdiv (IntKind.wrap .i64 ((if (if (IntKind.wrap .i64 (8 * (((numsOf p0)).length : Int))) < p1 then (IntKind.wrap .i64 (8 * (((numsOf p0)).length : Int))) else p1) > 0 then (if (IntKind.wrap .i64 (8 * (((numsOf p0)).length : Int))) < p1 then (IntKind.wrap .i64 (8 * (((numsOf p0)).length : Int))) else p1) else 0) + x182)) 8))) (bits .xor .u8 (rdD 0 l179 (IntKind.wrap .i64 (Int.tdiv (IntKind.wrap .i64 ((if (if (IntKind.wrap .i64 (8 * (((numsOf p0)).length : Int))) < p1 then (IntKind.wrap .i64 (8 * (((numsOf p0)).length : Int))) else p1) > 0 then (if (IntKind.wrap .i64 (8 * (((numsOf p0)).length : Int))) < p1 then (IntKind.wrap .i64 (8 * (((numsOf p0)).length : Int))) else p1) else 0) + x182)) 8))) (IntKind.wrap .u8 (1 * 2 ^ min (Int.toNat (Int.tmod (IntKind.wrap .i64 ((if (if (IntKind.wrap .i64 (8 * (((numsOf p0)).length : Int))) < p1 then (IntKind.wrap .i64 (8 * (((numsOf p0)).length : Int))) else p1) > 0 then (if (IntKind.wrap .i64 (8 * (((numsOf p0)).length : Int))) < p1 then (IntKind.wrap .i64 (8 * (((numsOf p0)).length : Int))) else p1) else 0) + x182)) 8)) 8)))) (IntKind.wrap .i64 (x182 + 1))) else none) else none) else (lp219 l179 (IntKind.wrap .i64 (x182 + 1)))) else none
def tidewrackref02_Turn_l2 (p0 : ByteArray) (p1 : Int) (p2 : Int) : Nat → (List Int) → Int → Option ByteArray
  | 0, _, _ => none
  | k218 + 1, l179, x182 => bif (decide (x182 < (32 : Int))) then (bif (decide ((IntKind.wrap .i64 ((if (if (IntKind.wrap .i64 (8 * (((numsOf p0)).length : Int))) < p1 then (IntKind.wrap .i64 (8 * (((numsOf p0)).length : Int))) else p1) > 0 then (if (IntKind.wrap .i64 (8 * (((numsOf p0)).length : Int))) < p1 then (IntKind.wrap .i64 (8 * (((numsOf p0)).length : Int))) else p1) else 0) + x182)) < (IntKind.wrap .i64 (8 * ((l179).length : Int))))) then (tidewrackref02_Turn_j3 p0 p1 p2 l179 x182 (tidewrackref02_Turn_l2 p0 p1 p2 k218)) else (tidewrackref02_Turn_j1 l179)) else (tidewrackref02_Turn_j1 l179)
def tidewrackref02_Turn (K : Nat) (p0 : ByteArray) (p1 : Int) (p2 : Int) : Option ByteArray :=
  tidewrackref02_Turn_l2 p0 p1 p2 K (numsOf p0) 0

/-! tidewrack/tidewracklaw02.SumBursts -/
def tidewracklaw02_SumBursts (K : Nat) (p0 : ByteArray) (p1 : Int) (p2 : Int) : Option Bool :=
  (tidewracklaw02_awake K).bind fun t4 => (bif (!t4) then (some false) else ((tidewracklaw01_Cut p0 120).bind fun t13 => ((sum_Seal K t13).bind fun t21 => ((sum_Turn K t21 p1 p2).bind fun t29 => ((sum_Open K t29).bind fun t37 => ((tidewrackref02_Turn K t21 p1 p2).bind fun t45 => (bif (ByteArray.toList t29 == ByteArray.toList t45) then (bif (t37.2 == (ByteArray.toList t29 == ByteArray.toList t21)) then ((sum_Turn K t29 p1 p2).bind fun t55 => (some (ByteArray.toList t55 == ByteArray.toList t21))) else (some false)) else (some false))))))))

end Go.Proofs.YtmgkcahjpehckaaDoor
