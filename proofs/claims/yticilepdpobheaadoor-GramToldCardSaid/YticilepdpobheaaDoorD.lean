/- Plain functions, printed by an own program: what the walked code computes. -/
import Derived.Test.YticilepdpobheaaDoorY22
set_option linter.unusedVariables false
set_option linter.unusedSimpArgs false
namespace Go.Proofs.YticilepdpobheaaDoor
open Go Go.Proofs.XC
structure T23 where
  Epoch : Int
  Kind : Int
  Nums : List Int
  Data : ByteArray
structure T67 where
  b : List Int
structure T73 where
  s : ByteArray
  e : Int
abbrev zT73 : T73 := ⟨(⟨#[]⟩ : ByteArray), 0⟩
structure T59 where
  S : ByteArray
  E : Int
abbrev zT59 : T59 := ⟨(⟨#[]⟩ : ByteArray), 0⟩
namespace WF
def wfBool (_ : Bool) : Prop := True
def wfStr (x : ByteArray) : Prop := x.size ≤ maxLen
def wfi64 (x : Int) : Prop := (Lit.int .i64 x).wf = true
def wfi32 (x : Int) : Prop := (Lit.int .i32 x).wf = true
def wfu8 (x : Int) : Prop := (Lit.int .u8 x).wf = true
def wfu32 (x : Int) : Prop := (Lit.int .u32 x).wf = true
def wfu64 (x : Int) : Prop := (Lit.int .u64 x).wf = true
def wfi8 (x : Int) : Prop := (Lit.int .i8 x).wf = true
def wfi16 (x : Int) : Prop := (Lit.int .i16 x).wf = true
def wfu16 (x : Int) : Prop := (Lit.int .u16 x).wf = true
def wfT23 (x : T23) : Prop := (Lit.int .i64 x.Epoch).wf = true ∧ (Lit.int .i64 x.Kind).wf = true ∧ (∀ y ∈ x.Nums, wfi64 y) ∧ x.Nums.length ≤ maxLen ∧ x.Data.size ≤ maxLen
def wfT67 (x : T67) : Prop := (∀ y ∈ x.b, wfu8 y) ∧ x.b.length ≤ maxLen
def wfT73 (x : T73) : Prop := x.s.size ≤ maxLen ∧ (Lit.int .i64 x.e).wf = true
def wfT59 (x : T59) : Prop := x.S.size ≤ maxLen ∧ (Lit.int .i64 x.E).wf = true
end WF
def glob0 : List Int := [0, 498536548, 997073096, 651767980, 1994146192, 1802195444, 1303535960, 1342533948, 3988292384, 4027552580, 3604390888, 3412177804, 2607071920, 2262029012, 2685067896, 3183342108]
/-! tidewrack/gram.within -/
def gram_within (p0 : Int) (p1 : Int) (p2 : Int) : Option Bool :=
  bif (decide (p0 ≥ p1)) then (some (decide (p0 ≤ p2))) else (some false)

/-! (tidewrack/gram.Gram).right -/
def gram_Gram_right_j2 : Option Bool :=
  some true
def gram_Gram_right_l3 (p0 : T23) : Nat → Int → Option Bool
  | 0, _ => none
  | k110 + 1, x96 => bif (decide (x96 < ((p0.Nums).length : Int))) then (if 0 ≤ x96 ∧ x96 < ((p0.Nums).length : Int) then ((gram_within (rdD 0 p0.Nums x96) 0 4611686018427387904).bind fun t119 => (bif (!t119) then (some false) else ((gram_Gram_right_l3 p0 k110) (IntKind.wrap .i64 (x96 + 1))))) else none) else (gram_Gram_right_j2)
def gram_Gram_right_j1 (K : Nat) (p0 : T23) : Option Bool :=
  gram_Gram_right_l3 p0 K 0
def gram_Gram_right (K : Nat) (p0 : T23) : Option Bool :=
  (gram_within p0.Epoch 1 4294967296).bind fun t128 => (bif (!t128) then (some false) else ((gram_within p0.Kind 1 4).bind fun t137 => (bif (!t137) then (some false) else (bif (decide (((p0.Nums).length : Int) > (64 : Int))) then (some false) else (gram_Gram_right_j1 K p0)))))

/-! tidewrack/num.clip -/
def num_clip (p0 : Int) : Option Int :=
  some (mxI 0 (mnI p0 4611686018427387904))

/-! tidewrack/num.digits$1 -/
def num_digits_1_j1 (x63 : Int) : Option (List Int) :=
  Option.map (List.cons (IntKind.wrap .u8 x63)) (some [])
def num_digits_1_l2 : Nat → Int → Option (List Int)
  | 0, _ => none
  | k110 + 1, x98 => bif (decide (x98 ≥ (128 : Int))) then (Option.map (List.cons (bits .or .u8 (bits .and .u8 (IntKind.wrap .u8 x98) 127) 128)) ((num_digits_1_l2 k110) (Int.fdiv x98 (2 ^ min (Int.toNat 7) 64)))) else (num_digits_1_j1 x98)
def num_digits_1 (K : Nat) (p1 : Int) : Option (List Int) :=
  (num_clip p1).bind fun t74 => (num_digits_1_l2 K t74)

/-! tidewrack/num.digits -/
def num_digits (p0 : Int) : Option Int :=
  some p0

/-! (*tidewrack/num.Out).Num -/
def num_Out_Num_j1 (l5361 : List Int) : Option T67 :=
  some (⟨l5361⟩ : T67)
def num_Out_Num_j3 (x7155 : Int) (lp8931 : (List Int) → Int → Option T67) (l9826 : List Int) : Option T67 :=
  lp8931 l9826 (IntKind.wrap .i64 (x7155 + 1))
def num_Out_Num_j5 (x9848 : Int) (l10143 : List Int) (lp9853 : (List Int) → Option T67) : Option T67 :=
  lp9853 (l10143 ++ ([x9848] : List Int))
def num_Out_Num_r4 (x7155 : Int) (lp8931 : (List Int) → Int → Option T67) : List Int → (List Int) → Option T67
  | [], l10143 => num_Out_Num_j3 x7155 lp8931 l10143
  | x9848 :: rest9849, l10143 => if (l10143).length + (([x9848] : List Int)).length ≤ 1000000000 then (num_Out_Num_j5 x9848 l10143 (num_Out_Num_r4 x7155 lp8931 rest9849)) else none
def num_Out_Num_l2 (K : Nat) (p1 : List Int) : Nat → (List Int) → Int → Option T67
  | 0, _, _ => none
  | k8930 + 1, l7148, x7155 => bif (decide (x7155 < ((p1).length : Int))) then (if 0 ≤ x7155 ∧ x7155 < ((p1).length : Int) then ((num_digits (rdD 0 p1 x7155)).bind fun t9839 => ((num_digits_1 K t9839).bind fun ys9846 => (num_Out_Num_r4 x7155 (num_Out_Num_l2 K p1 k8930) ys9846 l7148))) else none) else (num_Out_Num_j1 l7148)
def num_Out_Num (K : Nat) (p0 : T67) (p1 : List Int) : Option T67 :=
  num_Out_Num_l2 K p1 K p0.b 0

/-! (*tidewrack/num.Out).Raw -/
def num_Out_Raw_j1 (l70 : List Int) : Option T67 :=
  some (⟨l70⟩ : T67)
def num_Out_Raw_l2 (p1 : List ByteArray) : Nat → (List Int) → Int → Option T67
  | 0, _, _ => none
  | k113 + 1, l94, x97 => bif (decide (x97 < ((p1).length : Int))) then (if 0 ≤ x97 ∧ x97 < ((p1).length : Int) then (if (l94).length + ((rdD (⟨#[]⟩ : ByteArray) p1 x97)).size ≤ 1000000000 then ((num_Out_Raw_l2 p1 k113) (l94 ++ numsOf (rdD (⟨#[]⟩ : ByteArray) p1 x97)) (IntKind.wrap .i64 (x97 + 1))) else none) else none) else (num_Out_Raw_j1 l94)
def num_Out_Raw (K : Nat) (p0 : T67) (p1 : List ByteArray) : Option T67 :=
  num_Out_Raw_l2 p1 K p0.b 0

/-! (*tidewrack/num.Out).Text -/
def num_Out_Text_j1 (l151 : List Int) : Option T67 :=
  some (⟨l151⟩ : T67)
def num_Out_Text_l2 (K : Nat) (p1 : List ByteArray) : Nat → (List Int) → Int → Option T67
  | 0, _, _ => none
  | k248 + 1, l202, x205 => bif (decide (x205 < ((p1).length : Int))) then (if 0 ≤ x205 ∧ x205 < ((p1).length : Int) then ((num_Out_Num K (⟨l202⟩ : T67) ([(((rdD (⟨#[]⟩ : ByteArray) p1 x205)).size : Int)] : List Int)).bind fun t263 => ((num_Out_Raw K t263 ([(rdD (⟨#[]⟩ : ByteArray) p1 x205)] : List ByteArray)).bind fun t282 => ((num_Out_Text_l2 K p1 k248) t282.b (IntKind.wrap .i64 (x205 + 1))))) else none) else (num_Out_Text_j1 l202)
def num_Out_Text (K : Nat) (p0 : T67) (p1 : List ByteArray) : Option T67 :=
  num_Out_Text_l2 K p1 K p0.b 0

/-! (*tidewrack/num.Out).Bytes -/
def num_Out_Bytes (p0 : T67) : Option (ByteArray × T67) :=
  some ((strOfNums p0.b), p0)

/-! tidewrack/sum.step -/
def sum_step (p0 : Int) (p1 : Int) : Option Int :=
  if 0 ≤ (bits .and .u32 (bits .xor .u32 p0 (IntKind.wrap .u32 p1)) 15) ∧ (bits .and .u32 (bits .xor .u32 p0 (IntKind.wrap .u32 p1)) 15) < ((glob0).length : Int) then (if 0 ≤ (bits .and .u32 (bits .xor .u32 (Int.fdiv (bits .xor .u32 p0 (IntKind.wrap .u32 p1)) (2 ^ min (Int.toNat 4) 32)) (rdD 0 glob0 (bits .and .u32 (bits .xor .u32 p0 (IntKind.wrap .u32 p1)) 15))) 15) ∧ (bits .and .u32 (bits .xor .u32 (Int.fdiv (bits .xor .u32 p0 (IntKind.wrap .u32 p1)) (2 ^ min (Int.toNat 4) 32)) (rdD 0 glob0 (bits .and .u32 (bits .xor .u32 p0 (IntKind.wrap .u32 p1)) 15))) 15) < ((glob0).length : Int) then (some (bits .xor .u32 (Int.fdiv (bits .xor .u32 (Int.fdiv (bits .xor .u32 p0 (IntKind.wrap .u32 p1)) (2 ^ min (Int.toNat 4) 32)) (rdD 0 glob0 (bits .and .u32 (bits .xor .u32 p0 (IntKind.wrap .u32 p1)) 15))) (2 ^ min (Int.toNat 4) 32)) (rdD 0 glob0 (bits .and .u32 (bits .xor .u32 (Int.fdiv (bits .xor .u32 p0 (IntKind.wrap .u32 p1)) (2 ^ min (Int.toNat 4) 32)) (rdD 0 glob0 (bits .and .u32 (bits .xor .u32 p0 (IntKind.wrap .u32 p1)) 15))) 15)))) else none) else none

/-! tidewrack/sum.Of -/
def sum_Of_j1 (x328 : Int) : Option Int :=
  some (bits .xor .u32 4294967295 x328)
def sum_Of_j3 (x441 : Int) (lp546 : Int → Int → Option Int) (x602 : Int) : Option Int :=
  lp546 x602 (IntKind.wrap .i64 (x441 + 1))
def sum_Of_l4 (p0 : List ByteArray) (x441 : Int) (lp546 : Int → Int → Option Int) : Nat → Int → Int → Option Int
  | 0, _, _ => none
  | k637 + 1, x624, x625 => bif (decide (x625 < (((rdD (⟨#[]⟩ : ByteArray) p0 x441)).size : Int))) then (if 0 ≤ x625 ∧ x625 < (((rdD (⟨#[]⟩ : ByteArray) p0 x441)).size : Int) then ((sum_step x624 (bt (rdD (⟨#[]⟩ : ByteArray) p0 x441) x625)).bind fun t645 => ((sum_Of_l4 p0 x441 lp546 k637) t645 (IntKind.wrap .i64 (x625 + 1)))) else none) else (sum_Of_j3 x441 lp546 x624)
def sum_Of_l2 (K : Nat) (p0 : List ByteArray) : Nat → Int → Int → Option Int
  | 0, _, _ => none
  | k545 + 1, x436, x441 => bif (decide (x441 < ((p0).length : Int))) then (if 0 ≤ x441 ∧ x441 < ((p0).length : Int) then (sum_Of_l4 p0 x441 (sum_Of_l2 K p0 k545) K x436 0) else none) else (sum_Of_j1 x436)
def sum_Of (K : Nat) (p0 : List ByteArray) : Option Int :=
  sum_Of_l2 K p0 K 4294967295 0

/-! tidewrack/sum.tail -/
def sum_tail (p0 : Int) : Option ByteArray :=
  some (strOfNums ([(IntKind.wrap .u8 p0), (IntKind.wrap .u8 (Int.fdiv p0 (2 ^ min (Int.toNat 8) 32))), (IntKind.wrap .u8 (Int.fdiv p0 (2 ^ min (Int.toNat 16) 32))), (IntKind.wrap .u8 (Int.fdiv p0 (2 ^ min (Int.toNat 24) 32)))] : List Int))

/-! tidewrack/sum.Seal -/
def sum_Seal (K : Nat) (p0 : ByteArray) : Option ByteArray :=
  (sum_Of K ([p0] : List ByteArray)).bind fun t10 => ((sum_tail t10).bind fun t18 => (if ((p0.size + t18.size : Nat) : Int) ≤ 9223372036854775807 then (some (p0 ++ t18)) else none))

/-! (tidewrack/gram.Gram).bytes -/
def gram_Gram_bytes_j1 (x798 : ByteArray) : Option ByteArray :=
  some x798
def gram_Gram_bytes (K : Nat) (p0 : T23) : Option ByteArray :=
  (num_Out_Num K (⟨([] : List Int)⟩ : T67) ([p0.Epoch, p0.Kind, ((p0.Nums).length : Int)] : List Int)).bind fun t881 => ((num_Out_Num K t881 p0.Nums).bind fun t894 => ((num_Out_Text K t894 ([p0.Data] : List ByteArray)).bind fun t913 => ((num_Out_Bytes t913).bind fun t926 => ((sum_Seal K t926.1).bind fun t939 => (gram_Gram_bytes_j1 t939)))))

/-! (tidewrack/gram.Gram).Check -/
def gram_Gram_Check (K : Nat) (p0 : T23) : Option Int :=
  (gram_Gram_right K p0).bind fun t9 => (bif (!t9) then (some 6) else ((gram_Gram_bytes K p0).bind fun t18 => (bif (decide (((t18).size : Int) > (8192 : Int))) then (some 3) else (some 0))))

/-! (tidewrack/gram.Gram).Pack -/
def gram_Gram_Pack (K : Nat) (p0 : T23) : Option ByteArray :=
  (gram_Gram_Check K p0).bind fun t9 => (bif (t9 != (0 : Int)) then (some (⟨#[]⟩ : ByteArray)) else ((gram_Gram_bytes K p0).bind fun t18 => (some t18)))

/-! tidewrack/sum.Open -/
def sum_Open_j1 (p0 : ByteArray) (x85 : Bool) : Option (ByteArray × Bool) :=
  bif x85 then (some ((⟨#[]⟩ : ByteArray), false)) else (if 0 ≤ (IntKind.wrap .i64 (((p0).size : Int) - 4)) then (if (IntKind.wrap .i64 (((p0).size : Int) - 4)) ≤ ((p0).size : Int) then (some ((ByteArray.extract p0 0 (Int.toNat (IntKind.wrap .i64 (((p0).size : Int) - 4)))), true)) else none) else none)
def sum_Open (K : Nat) (p0 : ByteArray) : Option (ByteArray × Bool) :=
  bif (decide ((IntKind.wrap .i64 (((p0).size : Int) - 4)) < (0 : Int))) then (sum_Open_j1 p0 true) else (if 0 ≤ (IntKind.wrap .i64 (((p0).size : Int) - 4)) then (if (IntKind.wrap .i64 (((p0).size : Int) - 4)) ≤ ((p0).size : Int) then ((sum_Of K ([(ByteArray.extract p0 0 (Int.toNat (IntKind.wrap .i64 (((p0).size : Int) - 4))))] : List ByteArray)).bind fun t154 => ((sum_tail t154).bind fun t162 => (sum_Open_j1 p0 (!(ByteArray.toList (ByteArray.extract p0 (Int.toNat (IntKind.wrap .i64 (((p0).size : Int) - 4))) (p0).size) == ByteArray.toList t162))))) else none) else none)

/-! tidewrack/num.Of -/
def num_Of (p0 : ByteArray) : Option T73 :=
  some (⟨p0, 0⟩ : T73)

/-! (*tidewrack/num.In).Fail -/
def num_In_Fail_j1 (p0 : T73) (p1 : Int) (x9 : Bool) : Option T73 :=
  bif x9 then (some (⟨(⟨#[]⟩ : ByteArray), p1⟩ : T73)) else (some p0)
def num_In_Fail (p0 : T73) (p1 : Int) : Option T73 :=
  bif (p0.e == (0 : Int)) then (num_In_Fail_j1 p0 p1 (p1 != (0 : Int))) else (num_In_Fail_j1 p0 p1 false)

/-! (*tidewrack/num.In).Num -/
def num_In_Num_j1 (p0 : T73) : Option (Int × T73) :=
  bif (decide (((p0.s).size : Int) ≥ (9 : Int))) then ((num_In_Fail p0 1).bind fun t209 => ((num_In_Fail t209 2).bind fun t218 => (some (0, t218)))) else ((num_In_Fail p0 2).bind fun t200 => (some (0, t200)))
def num_In_Num_j3 (p0 : T73) (x288 : Int) (x289 : Int) : Option (Int × T73) :=
  if 0 ≤ (IntKind.wrap .i64 (x289 + 1)) then (if (IntKind.wrap .i64 (x289 + 1)) ≤ ((p0.s).size : Int) then (some ((bits .or .i64 x288 (IntKind.wrap .i64 ((IntKind.wrap .i64 (bits .and .u8 (bt p0.s x289) 127)) * 2 ^ min (Int.toNat (IntKind.wrap .i64 (7 * x289))) 64))), (⟨(ByteArray.extract p0.s (Int.toNat (IntKind.wrap .i64 (x289 + 1))) (p0.s).size), p0.e⟩ : T73))) else none) else none
def num_In_Num_j4 (p0 : T73) (x288 : Int) (x289 : Int) (x400 : Bool) : Option (Int × T73) :=
  bif x400 then ((num_In_Fail p0 1).bind fun t406 => (some (0, t406))) else (num_In_Num_j3 p0 x288 x289)
def num_In_Num_l2 (p0 : T73) : Nat → Int → Int → Option (Int × T73)
  | 0, _, _ => none
  | k351 + 1, x288, x289 => bif (decide (x289 < (mnI ((p0.s).size : Int) 9))) then (if 0 ≤ x289 ∧ x289 < ((p0.s).size : Int) then (if 0 ≤ (IntKind.wrap .i64 (7 * x289)) then (bif (decide ((bt p0.s x289) ≥ (128 : Int))) then ((num_In_Num_l2 p0 k351) (bits .or .i64 x288 (IntKind.wrap .i64 ((IntKind.wrap .i64 (bits .and .u8 (bt p0.s x289) 127)) * 2 ^ min (Int.toNat (IntKind.wrap .i64 (7 * x289))) 64))) (IntKind.wrap .i64 (x289 + 1))) else (bif (decide (x289 > (0 : Int))) then (bif ((bt p0.s x289) == (0 : Int)) then (num_In_Num_j4 p0 x288 x289 true) else (num_In_Num_j4 p0 x288 x289 (decide ((bits .or .i64 x288 (IntKind.wrap .i64 ((IntKind.wrap .i64 (bits .and .u8 (bt p0.s x289) 127)) * 2 ^ min (Int.toNat (IntKind.wrap .i64 (7 * x289))) 64))) > (4611686018427387904 : Int))))) else (num_In_Num_j4 p0 x288 x289 (decide ((bits .or .i64 x288 (IntKind.wrap .i64 ((IntKind.wrap .i64 (bits .and .u8 (bt p0.s x289) 127)) * 2 ^ min (Int.toNat (IntKind.wrap .i64 (7 * x289))) 64))) > (4611686018427387904 : Int)))))) else none) else none) else (num_In_Num_j1 p0)
def num_In_Num (K : Nat) (p0 : T73) : Option (Int × T73) :=
  num_In_Num_l2 p0 K 0 0

/-! (*tidewrack/num.In).Raw -/
def num_In_Raw (p0 : T73) (p1 : Int) : Option (ByteArray × T73) :=
  bif (decide ((mxI 0 p1) > ((p0.s).size : Int))) then ((num_In_Fail p0 2).bind fun t10 => (some ((⟨#[]⟩ : ByteArray), t10))) else (if 0 ≤ (mxI 0 p1) then (if (mxI 0 p1) ≤ ((p0.s).size : Int) then (some ((ByteArray.extract p0.s 0 (Int.toNat (mxI 0 p1))), (⟨(ByteArray.extract p0.s (Int.toNat (mxI 0 p1)) (p0.s).size), p0.e⟩ : T73))) else none) else none)

/-! (*tidewrack/num.In).Text -/
def num_In_Text (K : Nat) (p0 : T73) : Option (ByteArray × T73) :=
  (num_In_Num K p0).bind fun t4 => ((num_In_Raw t4.2 t4.1).bind fun t13 => (some (t13.1, t13.2)))

/-! tidewrack/gram.read -/
def gram_read_j2 (K : Nat) (t9 : Int × T73) (t18 : Int × T73) (x321 : T73) (l324 : List Int) : Option (T23 × T73) :=
  (num_In_Text K x321).bind fun t331 => (some ((⟨t9.1, t18.1, l324, t331.1⟩ : T23), t331.2))
def gram_read_l3 (K : Nat) (t9 : Int × T73) (t18 : Int × T73) (t35 : Int × T73) : Nat → T73 → (List Int) → Int → Option (T23 × T73)
  | 0, _, _, _ => none
  | k511 + 1, x425, l428, x431 => bif (decide (x431 < (mnI t35.1 64))) then ((num_In_Num K x425).bind fun t569 => (if (l428).length + (([t569.1] : List Int)).length ≤ 1000000000 then ((gram_read_l3 K t9 t18 t35 k511) t569.2 (l428 ++ ([t569.1] : List Int)) (IntKind.wrap .i64 (x431 + 1))) else none)) else (gram_read_j2 K t9 t18 x425 l428)
def gram_read_j1 (K : Nat) (t9 : Int × T73) (t18 : Int × T73) (t35 : Int × T73) (x58 : T73) : Option (T23 × T73) :=
  gram_read_l3 K t9 t18 t35 K x58 ([] : List Int) 0
def gram_read (K : Nat) (p0 : T73) : Option (T23 × T73) :=
  (num_In_Num K p0).bind fun t9 => ((num_In_Num K t9.2).bind fun t18 => ((num_In_Num K t18.2).bind fun t35 => (bif (decide (t35.1 > (64 : Int))) then ((num_In_Fail t35.2 1).bind fun t596 => (gram_read_j1 K t9 t18 t35 t596)) else (gram_read_j1 K t9 t18 t35 t35.2))))

/-! (*tidewrack/num.In).End -/
def num_In_End (p0 : T73) : Option Int :=
  bif (!(ByteArray.toList p0.s == ByteArray.toList (⟨#[]⟩ : ByteArray))) then (some 1) else (some p0.e)

/-! tidewrack/gram.Parse -/
def gram_Parse_j1 (t29 : T23 × T73) (x71 : Int) : Option (T23 × Int) :=
  bif (x71 != (0 : Int)) then (some ((⟨0, 0, ([] : List Int), (⟨#[]⟩ : ByteArray)⟩ : T23), x71)) else (some (t29.1, 0))
def gram_Parse (K : Nat) (p0 : ByteArray) : Option (T23 × Int) :=
  bif (decide (((p0).size : Int) > (8192 : Int))) then (some ((⟨0, 0, ([] : List Int), (⟨#[]⟩ : ByteArray)⟩ : T23), 3)) else ((sum_Open K p0).bind fun t10 => (bif (!t10.2) then (some ((⟨0, 0, ([] : List Int), (⟨#[]⟩ : ByteArray)⟩ : T23), 4)) else ((num_Of t10.1).bind fun t19 => ((gram_read K t19).bind fun t29 => ((num_In_End t29.2).bind fun t50 => (bif (t50 == (0 : Int)) then ((gram_Gram_Check K t29.1).bind fun t84 => (gram_Parse_j1 t29 t84)) else (gram_Parse_j1 t29 t50)))))))

/-! (tidewrack/gram.Gram).Num -/
def gram_Gram_Num (p0 : T23) (p1 : Int) : Option Int :=
  (gram_within p1 0 (IntKind.wrap .i64 (((p0.Nums).length : Int) - 1))).bind fun t9 => (bif (!t9) then (some 0) else (if 0 ≤ p1 ∧ p1 < ((p0.Nums).length : Int) then (some (rdD 0 p0.Nums p1)) else none))

/-! tidewrack/tidewracklaw03.awake -/
def tidewracklaw03_awake (K : Nat)  : Option Bool :=
  (gram_Gram_Pack K (⟨1, 2, ([] : List Int), (⟨#[]⟩ : ByteArray)⟩ : T23)).bind fun t4 => ((gram_Parse K t4).bind fun t12 => (bif (((t4).size : Int) == (8 : Int)) then (if (4 : Int) ≤ ((t4).size : Int) then (bif (ByteArray.toList (ByteArray.extract t4 0 (Int.toNat 4)) == ByteArray.toList (⟨#[1, 2, 0, 0]⟩ : ByteArray)) then (bif (t12.2 == (0 : Int)) then (bif (t12.1.Kind == (2 : Int)) then ((gram_Gram_Num t12.1 0).bind fun t37 => (some (t37 == (0 : Int)))) else (some false)) else (some false)) else (some false)) else none) else (some false)))

/-! tidewrack/tidewracklaw01.Cut -/
def tidewracklaw01_Cut (p0 : ByteArray) (p1 : Int) : Option ByteArray :=
  bif (decide (((p0).size : Int) > p1)) then (if 0 ≤ p1 then (if p1 ≤ ((p0).size : Int) then (some (ByteArray.extract p0 0 (Int.toNat p1))) else none) else none) else (some p0)

/-! tidewrack/tidewracklaw03.Own -/
def tidewracklaw03_Own (p0 : T23) : Option (T23 × T23) :=
  if 0 ≤ (mnI ((p0.Nums).length : Int) 66) then (if (mnI ((p0.Nums).length : Int) 66) ≤ ((p0.Nums).length : Int) then (if (([] : List Int)).length + ((List.drop 0 (List.take (Int.toNat (mnI ((p0.Nums).length : Int) 66)) p0.Nums))).length ≤ 1000000000 then ((tidewracklaw01_Cut p0.Data 200).bind fun t103 => (if (([] : List Int)).length + ((([] : List Int) ++ (List.drop 0 (List.take (Int.toNat (mnI ((p0.Nums).length : Int) 66)) p0.Nums)))).length ≤ 1000000000 then (some ((⟨p0.Epoch, p0.Kind, (([] : List Int) ++ (([] : List Int) ++ (List.drop 0 (List.take (Int.toNat (mnI ((p0.Nums).length : Int) 66)) p0.Nums)))), t103⟩ : T23), (⟨p0.Epoch, p0.Kind, (([] : List Int) ++ (List.drop 0 (List.take (Int.toNat (mnI ((p0.Nums).length : Int) 66)) p0.Nums))), t103⟩ : T23))) else none)) else none) else none) else none

/-! tidewrack/tidewrackref01.Num -/
def tidewrackref01_Num_j1 (x78 : Int) (l81 : List Int) : Option ByteArray :=
  if (l81).length + (([(IntKind.wrap .u8 x78)] : List Int)).length ≤ 1000000000 then (some (strOfNums (l81 ++ ([(IntKind.wrap .u8 x78)] : List Int)))) else none
def tidewrackref01_Num_l2 : Nat → Int → (List Int) → Option ByteArray
  | 0, _, _ => none
  | k140 + 1, x118, l121 => bif (decide (x118 ≥ (128 : Int))) then (if (l121).length + (([(IntKind.wrap .u8 (IntKind.wrap .i64 (128 + (Int.tmod x118 128))))] : List Int)).length ≤ 1000000000 then ((tidewrackref01_Num_l2 k140) (IntKind.wrap .i64 (Int.tdiv x118 128)) (l121 ++ ([(IntKind.wrap .u8 (IntKind.wrap .i64 (128 + (Int.tmod x118 128))))] : List Int))) else none) else (tidewrackref01_Num_j1 x118 l121)
def tidewrackref01_Num (K : Nat) (p0 : Int) : Option ByteArray :=
  tidewrackref01_Num_l2 K (mxI 0 (mnI p0 4611686018427387904)) ([] : List Int)

/-! tidewrack/tidewrackref01.Text -/
def tidewrackref01_Text (K : Nat) (p0 : ByteArray) : Option ByteArray :=
  (tidewrackref01_Num K ((p0).size : Int)).bind fun t4 => (if ((t4.size + p0.size : Nat) : Int) ≤ 9223372036854775807 then (some (t4 ++ p0)) else none)

/-! tidewrack/tidewrackref02.Of -/
def tidewrackref02_Of_j1 (x150 : Int) : Option Int :=
  some (IntKind.wrap .i64 (4294967295 - x150))
def tidewrackref02_Of_j3 (x201 : Int) (lp248 : Int → Int → Option Int) (x275 : Int) : Option Int :=
  lp248 x275 (IntKind.wrap .i64 (x201 + 1))
def tidewrackref02_Of_l4 (x201 : Int) (lp248 : Int → Int → Option Int) : Nat → Int → Int → Option Int
  | 0, _, _ => none
  | k289 + 1, x284, x285 => bif (decide (x285 < (8 : Int))) then (bif ((Int.tmod x284 2) == (1 : Int)) then ((tidewrackref02_Of_l4 x201 lp248 k289) (bits .xor .i64 (IntKind.wrap .i64 (Int.tdiv x284 2)) 3988292384) (IntKind.wrap .i64 (x285 + 1))) else ((tidewrackref02_Of_l4 x201 lp248 k289) (IntKind.wrap .i64 (Int.tdiv x284 2)) (IntKind.wrap .i64 (x285 + 1)))) else (tidewrackref02_Of_j3 x201 lp248 x284)
def tidewrackref02_Of_l2 (K : Nat) (p0 : ByteArray) : Nat → Int → Int → Option Int
  | 0, _, _ => none
  | k247 + 1, x200, x201 => bif (decide (x201 < ((p0).size : Int))) then (if 0 ≤ x201 ∧ x201 < ((p0).size : Int) then (tidewrackref02_Of_l4 x201 (tidewrackref02_Of_l2 K p0 k247) K (bits .xor .i64 x200 (IntKind.wrap .i64 (bt p0 x201))) 0) else none) else (tidewrackref02_Of_j1 x200)
def tidewrackref02_Of (K : Nat) (p0 : ByteArray) : Option Int :=
  tidewrackref02_Of_l2 K p0 K 4294967295 0

/-! tidewrack/tidewrackref02.Seal -/
def tidewrackref02_Seal (K : Nat) (p0 : ByteArray) : Option ByteArray :=
  (tidewrackref02_Of K p0).bind fun t4 => (if ((p0.size + (strOfNums ([(IntKind.wrap .u8 (Int.tmod t4 256)), (IntKind.wrap .u8 (Int.tmod (IntKind.wrap .i64 (Int.tdiv t4 256)) 256)), (IntKind.wrap .u8 (Int.tmod (IntKind.wrap .i64 (Int.tdiv t4 65536)) 256)), (IntKind.wrap .u8 (IntKind.wrap .i64 (Int.tdiv t4 16777216)))] : List Int)).size : Nat) : Int) ≤ 9223372036854775807 then (some (p0 ++ (strOfNums ([(IntKind.wrap .u8 (Int.tmod t4 256)), (IntKind.wrap .u8 (Int.tmod (IntKind.wrap .i64 (Int.tdiv t4 256)) 256)), (IntKind.wrap .u8 (Int.tmod (IntKind.wrap .i64 (Int.tdiv t4 65536)) 256)), (IntKind.wrap .u8 (IntKind.wrap .i64 (Int.tdiv t4 16777216)))] : List Int)))) else none)

/-! tidewrack/tidewrackref03.bytes -/
def tidewrackref03_bytes_j1 (K : Nat) (p0 : T23) (x139 : ByteArray) : Option ByteArray :=
  (tidewrackref01_Text K p0.Data).bind fun t144 => (if ((x139.size + t144.size : Nat) : Int) ≤ 9223372036854775807 then ((tidewrackref02_Seal K (x139 ++ t144)).bind fun t153 => (some t153)) else none)
def tidewrackref03_bytes_l2 (K : Nat) (p0 : T23) : Nat → ByteArray → Int → Option ByteArray
  | 0, _, _ => none
  | k189 + 1, x174, x175 => bif (decide (x175 < ((p0.Nums).length : Int))) then (if 0 ≤ x175 ∧ x175 < ((p0.Nums).length : Int) then ((tidewrackref01_Num K (rdD 0 p0.Nums x175)).bind fun t198 => (if ((x174.size + t198.size : Nat) : Int) ≤ 9223372036854775807 then ((tidewrackref03_bytes_l2 K p0 k189) (x174 ++ t198) (IntKind.wrap .i64 (x175 + 1))) else none)) else none) else (tidewrackref03_bytes_j1 K p0 x174)
def tidewrackref03_bytes (K : Nat) (p0 : T23) : Option ByteArray :=
  (tidewrackref01_Num K p0.Epoch).bind fun t63 => ((tidewrackref01_Num K p0.Kind).bind fun t71 => (if ((t63.size + t71.size : Nat) : Int) ≤ 9223372036854775807 then ((tidewrackref01_Num K ((p0.Nums).length : Int)).bind fun t80 => (if (((t63 ++ t71).size + t80.size : Nat) : Int) ≤ 9223372036854775807 then (tidewrackref03_bytes_l2 K p0 K ((t63 ++ t71) ++ t80) 0) else none)) else none))

/-! tidewrack/tidewrackref03.Check -/
def tidewrackref03_Check_j2 (K : Nat) (p0 : T23) : Option Int :=
  (tidewrackref03_bytes K p0).bind fun t48 => (bif (decide (((t48).size : Int) > (8192 : Int))) then (some 3) else (some 0))
def tidewrackref03_Check_l3 (K : Nat) (p0 : T23) : Nat → Int → Option Int
  | 0, _ => none
  | k70 + 1, x63 => bif (decide (x63 < ((p0.Nums).length : Int))) then (if 0 ≤ x63 ∧ x63 < ((p0.Nums).length : Int) then (bif (decide ((rdD 0 p0.Nums x63) < (0 : Int))) then (some 6) else (bif (decide ((rdD 0 p0.Nums x63) > (4611686018427387904 : Int))) then (some 6) else ((tidewrackref03_Check_l3 K p0 k70) (IntKind.wrap .i64 (x63 + 1))))) else none) else (tidewrackref03_Check_j2 K p0)
def tidewrackref03_Check_j1 (K : Nat) (p0 : T23) : Option Int :=
  tidewrackref03_Check_l3 K p0 K 0
def tidewrackref03_Check (K : Nat) (p0 : T23) : Option Int :=
  bif (decide (p0.Epoch < (1 : Int))) then (some 6) else (bif (decide (p0.Epoch > (4294967296 : Int))) then (some 6) else (bif (decide (p0.Kind < (1 : Int))) then (some 6) else (bif (decide (p0.Kind > (4 : Int))) then (some 6) else (bif (decide (((p0.Nums).length : Int) > (64 : Int))) then (some 6) else (tidewrackref03_Check_j1 K p0)))))

/-! tidewrack/tidewrackref03.Pack -/
def tidewrackref03_Pack (K : Nat) (p0 : T23) : Option ByteArray :=
  (tidewrackref03_Check K p0).bind fun t9 => (bif (t9 != (0 : Int)) then (some (⟨#[]⟩ : ByteArray)) else ((tidewrackref03_bytes K p0).bind fun t18 => (some t18)))

/-! tidewrack/tidewracklaw01.Same -/
def tidewracklaw01_Same_j1 : Option Bool :=
  some true
def tidewracklaw01_Same_l2 (p0 : List Int) (p1 : List Int) : Nat → Int → Option Bool
  | 0, _ => none
  | k102 + 1, x84 => bif (decide (x84 < ((p0).length : Int))) then (if 0 ≤ x84 ∧ x84 < ((p0).length : Int) then (if 0 ≤ x84 ∧ x84 < ((p1).length : Int) then (bif ((rdD 0 p0 x84) != (rdD 0 p1 x84)) then (some false) else ((tidewracklaw01_Same_l2 p0 p1 k102) (IntKind.wrap .i64 (x84 + 1)))) else none) else none) else (tidewracklaw01_Same_j1)
def tidewracklaw01_Same (K : Nat) (p0 : List Int) (p1 : List Int) : Option Bool :=
  bif (((p0).length : Int) != ((p1).length : Int)) then (some false) else (tidewracklaw01_Same_l2 p0 p1 K 0)

/-! tidewrack/tidewracklaw03.Is -/
def tidewracklaw03_Is (K : Nat) (p0 : T23) (p1 : T23) : Option Bool :=
  bif (p0.Epoch == p1.Epoch) then (bif (p0.Kind == p1.Kind) then ((tidewracklaw01_Same K p0.Nums p1.Nums).bind fun t16 => (bif t16 then (some (ByteArray.toList p0.Data == ByteArray.toList p1.Data)) else (some false))) else (some false)) else (some false)

/-! tidewrack/tidewracklaw03.GramBack -/
def tidewracklaw03_GramBack_j2 (K : Nat) (t18 : T23 × T23) (t50 : ByteArray) : Option Bool :=
  (tidewrackref03_Check K t18.2).bind fun t191 => (bif (t191 != (0 : Int)) then (some (ByteArray.toList t50 == ByteArray.toList (⟨#[]⟩ : ByteArray))) else ((gram_Parse K t50).bind fun t200 => (bif (t200.2 == (0 : Int)) then ((tidewracklaw03_Is K t200.1 t18.2).bind fun t221 => (some t221)) else (some false))))
def tidewracklaw03_GramBack_j1 (K : Nat) (p1 : Int) (t18 : T23 × T23) (t50 : ByteArray) (x76 : Int) : Option Bool :=
  (gram_Gram_Check K t18.1).bind fun t299 => ((tidewrackref03_Check K t18.2).bind fun t307 => (bif (t299 != t307) then (some false) else ((tidewrackref03_Pack K t18.2).bind fun t316 => (bif (!(ByteArray.toList t50 == ByteArray.toList t316)) then (some false) else ((gram_Gram_Num t18.1 p1).bind fun t325 => (bif (t325 != x76) then (some false) else (tidewracklaw03_GramBack_j2 K t18 t50)))))))
def tidewracklaw03_GramBack_j3 (K : Nat) (p1 : Int) (t18 : T23 × T23) (t50 : ByteArray) (x339 : Bool) : Option Bool :=
  bif x339 then (if 0 ≤ p1 ∧ p1 < ((t18.2.Nums).length : Int) then (tidewracklaw03_GramBack_j1 K p1 t18 t50 (rdD 0 t18.2.Nums p1)) else none) else (tidewracklaw03_GramBack_j1 K p1 t18 t50 0)
def tidewracklaw03_GramBack (K : Nat) (p0 : T23) (p1 : Int) : Option Bool :=
  (tidewracklaw03_awake K).bind fun t9 => (bif (!t9) then (some false) else ((tidewracklaw03_Own p0).bind fun t18 => ((gram_Gram_Pack K t18.1).bind fun t50 => (bif (decide (p1 ≥ (0 : Int))) then (tidewracklaw03_GramBack_j3 K p1 t18 t50 (decide (p1 < ((t18.2.Nums).length : Int)))) else (tidewracklaw03_GramBack_j3 K p1 t18 t50 false)))))

/-! tidewrack/tidewrackref02.Open -/
def tidewrackref02_Open_j1 (p0 : ByteArray) (x19 : Bool) : Option (ByteArray × Bool) :=
  bif x19 then (some ((⟨#[]⟩ : ByteArray), false)) else (if 0 ≤ (IntKind.wrap .i64 (((p0).size : Int) - 4)) then (if (IntKind.wrap .i64 (((p0).size : Int) - 4)) ≤ ((p0).size : Int) then (some ((ByteArray.extract p0 0 (Int.toNat (IntKind.wrap .i64 (((p0).size : Int) - 4)))), true)) else none) else none)
def tidewrackref02_Open (K : Nat) (p0 : ByteArray) : Option (ByteArray × Bool) :=
  bif (decide (((p0).size : Int) < (4 : Int))) then (tidewrackref02_Open_j1 p0 true) else (if 0 ≤ (IntKind.wrap .i64 (((p0).size : Int) - 4)) then (if (IntKind.wrap .i64 (((p0).size : Int) - 4)) ≤ ((p0).size : Int) then ((tidewrackref02_Seal K (ByteArray.extract p0 0 (Int.toNat (IntKind.wrap .i64 (((p0).size : Int) - 4))))).bind fun t30 => (tidewrackref02_Open_j1 p0 (!(ByteArray.toList t30 == ByteArray.toList p0)))) else none) else none)

/-! tidewrack/tidewrackref01.Read -/
def tidewrackref01_Read_j1 : Option (T59 × Int) :=
  some ((⟨(⟨#[]⟩ : ByteArray), 1⟩ : T59), 0)
def tidewrackref01_Read_j3 (p0 : T59) (x243 : Int) (x244 : Int) (x245 : Int) : Option (T59 × Int) :=
  if 0 ≤ (IntKind.wrap .i64 (x245 + 1)) then (if (IntKind.wrap .i64 (x245 + 1)) ≤ ((p0.S).size : Int) then (some ((⟨(ByteArray.extract p0.S (Int.toNat (IntKind.wrap .i64 (x245 + 1))) (p0.S).size), 0⟩ : T59), (IntKind.wrap .i64 (x243 + (IntKind.wrap .i64 ((Int.tmod (IntKind.wrap .i64 (bt p0.S x245)) 128) * x244)))))) else none) else none
def tidewrackref01_Read_j4 (p0 : T59) (x243 : Int) (x244 : Int) (x245 : Int) (x343 : Bool) : Option (T59 × Int) :=
  bif x343 then (some ((⟨(⟨#[]⟩ : ByteArray), 1⟩ : T59), 0)) else (tidewrackref01_Read_j3 p0 x243 x244 x245)
def tidewrackref01_Read_l2 (p0 : T59) : Nat → Int → Int → Int → Option (T59 × Int)
  | 0, _, _, _ => none
  | k299 + 1, x243, x244, x245 => bif (decide (x245 < (9 : Int))) then (bif (x245 == ((p0.S).size : Int)) then (some ((⟨(⟨#[]⟩ : ByteArray), 2⟩ : T59), 0)) else (if 0 ≤ x245 ∧ x245 < ((p0.S).size : Int) then (bif (decide ((IntKind.wrap .i64 (bt p0.S x245)) < (128 : Int))) then (bif (decide (x245 > (0 : Int))) then (bif ((IntKind.wrap .i64 (bt p0.S x245)) == (0 : Int)) then (tidewrackref01_Read_j4 p0 x243 x244 x245 true) else (tidewrackref01_Read_j4 p0 x243 x244 x245 (decide ((IntKind.wrap .i64 (x243 + (IntKind.wrap .i64 ((Int.tmod (IntKind.wrap .i64 (bt p0.S x245)) 128) * x244)))) > (4611686018427387904 : Int))))) else (tidewrackref01_Read_j4 p0 x243 x244 x245 (decide ((IntKind.wrap .i64 (x243 + (IntKind.wrap .i64 ((Int.tmod (IntKind.wrap .i64 (bt p0.S x245)) 128) * x244)))) > (4611686018427387904 : Int))))) else (bif (decide (x245 < (8 : Int))) then ((tidewrackref01_Read_l2 p0 k299) (IntKind.wrap .i64 (x243 + (IntKind.wrap .i64 ((Int.tmod (IntKind.wrap .i64 (bt p0.S x245)) 128) * x244)))) (IntKind.wrap .i64 (x244 * 128)) (IntKind.wrap .i64 (x245 + 1))) else ((tidewrackref01_Read_l2 p0 k299) (IntKind.wrap .i64 (x243 + (IntKind.wrap .i64 ((Int.tmod (IntKind.wrap .i64 (bt p0.S x245)) 128) * x244)))) x244 (IntKind.wrap .i64 (x245 + 1))))) else none)) else (tidewrackref01_Read_j1)
def tidewrackref01_Read (K : Nat) (p0 : T59) : Option (T59 × Int) :=
  bif (p0.E != (0 : Int)) then (some (p0, 0)) else (tidewrackref01_Read_l2 p0 K 0 1 0)

/-! tidewrack/tidewrackref01.Raw -/
def tidewrackref01_Raw (p0 : T59) (p1 : Int) : Option (T59 × ByteArray) :=
  bif (p0.E != (0 : Int)) then (some (p0, (⟨#[]⟩ : ByteArray))) else (bif (decide ((mxI 0 p1) > ((p0.S).size : Int))) then (some ((⟨(⟨#[]⟩ : ByteArray), 2⟩ : T59), (⟨#[]⟩ : ByteArray))) else (if 0 ≤ (mxI 0 p1) then (if (mxI 0 p1) ≤ ((p0.S).size : Int) then (some ((⟨(ByteArray.extract p0.S (Int.toNat (mxI 0 p1)) (p0.S).size), 0⟩ : T59), (ByteArray.extract p0.S 0 (Int.toNat (mxI 0 p1))))) else none) else none))

/-! tidewrack/tidewrackref01.ReadText -/
def tidewrackref01_ReadText (K : Nat) (p0 : T59) : Option (T59 × ByteArray) :=
  (tidewrackref01_Read K p0).bind fun t14 => ((tidewrackref01_Raw t14.1 t14.2).bind fun t30 => (some (t30.1, t30.2)))

/-! tidewrack/tidewrackref01.End -/
def tidewrackref01_End (p0 : T59) : Option Int :=
  bif (p0.E == (0 : Int)) then (bif (!(ByteArray.toList p0.S == ByteArray.toList (⟨#[]⟩ : ByteArray))) then (some 1) else (some p0.E)) else (some p0.E)

/-! tidewrack/tidewrackref03.Parse -/
def tidewrackref03_Parse_j2 (K : Nat) (t35 : T59 × Int) (t49 : T59 × Int) (x229 : T59) (l232 : List Int) : Option (T23 × Int) :=
  (tidewrackref01_ReadText K x229).bind fun t239 => ((tidewrackref01_End t239.1).bind fun t253 => (bif (t253 != (0 : Int)) then (some ((⟨0, 0, ([] : List Int), (⟨#[]⟩ : ByteArray)⟩ : T23), t253)) else ((tidewrackref03_Check K (⟨t35.2, t49.2, l232, t239.2⟩ : T23)).bind fun t262 => (bif (t262 != (0 : Int)) then (some ((⟨0, 0, ([] : List Int), (⟨#[]⟩ : ByteArray)⟩ : T23), t262)) else (some ((⟨t35.2, t49.2, l232, t239.2⟩ : T23), 0))))))
def tidewrackref03_Parse_j4 (K : Nat) (x318 : T59) (l321 : List Int) (x324 : Int) (lp364 : T59 → (List Int) → Int → Option (T23 × Int)) : Option (T23 × Int) :=
  (tidewrackref01_Read K x318).bind fun t376 => (if (l321).length + (([t376.2] : List Int)).length ≤ 1000000000 then (lp364 t376.1 (l321 ++ ([t376.2] : List Int)) (IntKind.wrap .i64 (x324 + 1))) else none)
def tidewrackref03_Parse_l3 (K : Nat) (t35 : T59 × Int) (t49 : T59 × Int) (t63 : T59 × Int) : Nat → T59 → (List Int) → Int → Option (T23 × Int)
  | 0, _, _, _ => none
  | k363 + 1, x318, l321, x324 => bif (decide (x324 < t63.2)) then (bif (x318.E == (0 : Int)) then (tidewrackref03_Parse_j4 K x318 l321 x324 (tidewrackref03_Parse_l3 K t35 t49 t63 k363)) else (tidewrackref03_Parse_j2 K t35 t49 x318 l321)) else (tidewrackref03_Parse_j2 K t35 t49 x318 l321)
def tidewrackref03_Parse_j1 (K : Nat) (t35 : T59 × Int) (t49 : T59 × Int) (t63 : T59 × Int) : Option (T23 × Int) :=
  tidewrackref03_Parse_l3 K t35 t49 t63 K t63.1 ([] : List Int) 0
def tidewrackref03_Parse_j5 (K : Nat) (t35 : T59 × Int) (t49 : T59 × Int) (t63 : T59 × Int) (x411 : Bool) : Option (T23 × Int) :=
  bif x411 then (some ((⟨0, 0, ([] : List Int), (⟨#[]⟩ : ByteArray)⟩ : T23), 1)) else (tidewrackref03_Parse_j1 K t35 t49 t63)
def tidewrackref03_Parse (K : Nat) (p0 : ByteArray) : Option (T23 × Int) :=
  bif (decide (((p0).size : Int) > (8192 : Int))) then (some ((⟨0, 0, ([] : List Int), (⟨#[]⟩ : ByteArray)⟩ : T23), 3)) else ((tidewrackref02_Open K p0).bind fun t10 => (bif (!t10.2) then (some ((⟨0, 0, ([] : List Int), (⟨#[]⟩ : ByteArray)⟩ : T23), 4)) else ((tidewrackref01_Read K (⟨t10.1, 0⟩ : T59)).bind fun t35 => ((tidewrackref01_Read K t35.1).bind fun t49 => ((tidewrackref01_Read K t49.1).bind fun t63 => (bif (t63.1.E == (0 : Int)) then (tidewrackref03_Parse_j5 K t35 t49 t63 (decide (t63.2 > (64 : Int)))) else (tidewrackref03_Parse_j5 K t35 t49 t63 false)))))))

/-! tidewrack/tidewracklaw03.GramParses -/
def tidewracklaw03_GramParses_j1 (K : Nat) (x34 : ByteArray) : Option Bool :=
  (gram_Parse K x34).bind fun t39 => ((tidewrackref03_Parse K x34).bind fun t59 => (bif (t39.2 == t59.2) then ((tidewracklaw03_Is K t39.1 t59.1).bind fun t80 => (bif t80 then (bif (t39.2 != (0 : Int)) then (some true) else ((gram_Gram_Pack K t39.1).bind fun t90 => (some (ByteArray.toList t90 == ByteArray.toList x34)))) else (some false))) else (some false)))
def tidewracklaw03_GramParses (K : Nat) (p0 : ByteArray) (p1 : Bool) : Option Bool :=
  (tidewracklaw03_awake K).bind fun t4 => (bif (!t4) then (some false) else ((tidewracklaw01_Cut p0 300).bind fun t13 => (bif p1 then ((sum_Seal K t13).bind fun t99 => (tidewracklaw03_GramParses_j1 K t99)) else (tidewracklaw03_GramParses_j1 K t13))))

/-! tidewrack/tidewracklaw03.GramLongest -/
def tidewracklaw03_GramLongest (K : Nat) (p0 : Int) : Option Bool :=
  (tidewracklaw03_awake K).bind fun t4 => (bif (!t4) then (some false) else (if 0 ≤ (bits .and .i64 p0 16383) then (if (bits .and .i64 p0 16383) ≤ 1000000000 then ((gram_Gram_Pack K (⟨1, 4, ([] : List Int), (strOfNums (List.replicate (Int.toNat (bits .and .i64 p0 16383)) (0 : Int)))⟩ : T23)).bind fun t30 => ((gram_Parse K (strOfNums (List.replicate (Int.toNat 8193) (0 : Int)))).bind fun t45 => (bif ((ByteArray.toList t30 == ByteArray.toList (⟨#[]⟩ : ByteArray)) == (decide ((IntKind.wrap .i64 ((bits .and .i64 p0 16383) + 9)) > (8192 : Int)))) then ((gram_Gram_Check K (⟨1, 4, ([] : List Int), (strOfNums (List.replicate (Int.toNat (bits .and .i64 p0 16383)) (0 : Int)))⟩ : T23)).bind fun t66 => (bif ((t66 == (3 : Int)) == (ByteArray.toList t30 == ByteArray.toList (⟨#[]⟩ : ByteArray))) then (bif (t45.2 == (3 : Int)) then (bif (ByteArray.toList t30 == ByteArray.toList (⟨#[]⟩ : ByteArray)) then (some true) else (bif (decide ((bits .and .i64 p0 16383) < (128 : Int))) then (some true) else (some (((t30).size : Int) == (IntKind.wrap .i64 ((bits .and .i64 p0 16383) + 9)))))) else (some false)) else (some false))) else (some false)))) else none) else none))

/-! tidewrack/tidewracklaw03.GramApart -/
def tidewracklaw03_GramApart_j1 (K : Nat) (t23 : T23 × T23) (t55 : T23 × T23) (t121 : ByteArray) (t129 : ByteArray) : Option Bool :=
  (tidewracklaw03_Is K t23.1 t55.2).bind fun t203 => (some ((ByteArray.toList t121 == ByteArray.toList t129) == t203))
def tidewracklaw03_GramApart_j2 (K : Nat) (t23 : T23 × T23) (t55 : T23 × T23) (t121 : ByteArray) (t129 : ByteArray) (x232 : Bool) : Option Bool :=
  bif x232 then ((tidewrackref03_Check K t23.2).bind fun t238 => (bif ((ByteArray.toList t121 == ByteArray.toList (⟨#[]⟩ : ByteArray)) == (t238 != (0 : Int))) then ((tidewrackref03_Check K t55.2).bind fun t247 => (some ((ByteArray.toList t129 == ByteArray.toList (⟨#[]⟩ : ByteArray)) == (t247 != (0 : Int))))) else (some false))) else (tidewracklaw03_GramApart_j1 K t23 t55 t121 t129)
def tidewracklaw03_GramApart (K : Nat) (p0 : T23) (p1 : T23) : Option Bool :=
  (tidewracklaw03_awake K).bind fun t14 => (bif (!t14) then (some false) else ((tidewracklaw03_Own p0).bind fun t23 => ((tidewracklaw03_Own p1).bind fun t55 => ((gram_Gram_Pack K t23.1).bind fun t121 => ((gram_Gram_Pack K t55.1).bind fun t129 => ((tidewrackref03_Check K t23.2).bind fun t255 => (bif (t255 != (0 : Int)) then (tidewracklaw03_GramApart_j2 K t23 t55 t121 t129 true) else ((tidewrackref03_Check K t55.2).bind fun t264 => (tidewracklaw03_GramApart_j2 K t23 t55 t121 t129 (t264 != (0 : Int)))))))))))

/-! tidewrack/sum.Turn -/
def sum_Turn_j1 (l120 : List Int) : Option ByteArray :=
  some (strOfNums l120)
def sum_Turn_j3 (x156 : Int) (l159 : List Int) (x162 : Int) (lp193 : Int → (List Int) → Int → Option ByteArray) : Option ByteArray :=
  if 0 ≤ (IntKind.wrap .i64 (Int.tdiv x162 8)) ∧ (IntKind.wrap .i64 (Int.tdiv x162 8)) < ((l159).length : Int) then (if 0 ≤ (Int.tmod x162 8) then (lp193 (Int.fdiv x156 (2 ^ min (Int.toNat 1) 32)) (List.set l159 (Int.toNat (IntKind.wrap .i64 (Int.tdiv x162 8))) (bits .xor .u8 (rdD 0 l159 (IntKind.wrap .i64 (Int.tdiv x162 8))) (IntKind.wrap .u8 ((IntKind.wrap .u8 (bits .and .u32 x156 1)) * 2 ^ min (Int.toNat (Int.tmod x162 8)) 8)))) (IntKind.wrap .i64 (x162 + 1))) else none) else none
def sum_Turn_l2 : Nat → Int → (List Int) → Int → Option ByteArray
  | 0, _, _, _ => none
  | k192 + 1, x156, l159, x162 => bif (x156 != (0 : Int)) then (bif (decide (x162 < (IntKind.wrap .i64 (8 * ((l159).length : Int))))) then (sum_Turn_j3 x156 l159 x162 (sum_Turn_l2 k192)) else (sum_Turn_j1 l159)) else (sum_Turn_j1 l159)
def sum_Turn (K : Nat) (p0 : ByteArray) (p1 : Int) (p2 : Int) : Option ByteArray :=
  sum_Turn_l2 K p2 (numsOf p0) (mxI 0 (mnI p1 (IntKind.wrap .i64 (8 * (((numsOf p0)).length : Int)))))

/-! tidewrack/tidewracklaw03.GramTold -/
def tidewracklaw03_GramTold (K : Nat) (p0 : T23) (p1 : Int) (p2 : Int) : Option Bool :=
  (tidewracklaw03_awake K).bind fun t9 => (bif (!t9) then (some false) else ((tidewracklaw03_Own p0).bind fun t18 => ((gram_Gram_Pack K t18.1).bind fun t50 => ((tidewrackref03_Check K t18.2).bind fun t58 => (bif (t58 != (0 : Int)) then (some (ByteArray.toList t50 == ByteArray.toList (⟨#[]⟩ : ByteArray))) else ((sum_Turn K t50 p1 p2).bind fun t67 => ((gram_Parse K t67).bind fun t75 => (bif (ByteArray.toList t67 == ByteArray.toList t50) then (bif (t75.2 == (0 : Int)) then ((tidewracklaw03_Is K t75.1 t18.2).bind fun t106 => (some t106)) else (some false)) else (bif (t75.2 == (4 : Int)) then ((tidewracklaw03_Is K t75.1 (⟨0, 0, ([] : List Int), (⟨#[]⟩ : ByteArray)⟩ : T23)).bind fun t97 => (some t97)) else (some false))))))))))

end Go.Proofs.YticilepdpobheaaDoor
