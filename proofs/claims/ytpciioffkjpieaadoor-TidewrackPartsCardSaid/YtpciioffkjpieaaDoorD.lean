/- Plain functions, printed by an own program: what the walked code computes. -/
import Derived.Test.YtpciioffkjpieaaDoorZ4
set_option linter.unusedVariables false
set_option linter.unusedSimpArgs false
namespace Go.Proofs.YtpciioffkjpieaaDoor
open Go Go.Proofs.XC
structure T169 where
  s : ByteArray
  e : Int
abbrev zT169 : T169 := ⟨(⟨#[]⟩ : ByteArray), 0⟩
structure T76 where
  Epoch : Int
  Kind : Int
  Nums : List Int
  Data : ByteArray
structure T172 where
  b : List Int
structure T83 where
  key : Int
  count : Int
  parts : M ByteArray
  bytes : Int
structure T146 where
  buf : List Int
namespace WF
def wfBool (_ : Bool) : Prop := True
def wfStr (x : ByteArray) : Prop := x.size ≤ maxLen
def wfi64 (x : Int) : Prop := (Lit.int .i64 x).wf = true
def wfi32 (x : Int) : Prop := (Lit.int .i32 x).wf = true
def wfu8 (x : Int) : Prop := (Lit.int .u8 x).wf = true
def wfu32 (x : Int) : Prop := (Lit.int .u32 x).wf = true
def wfu64 (x : Int) : Prop := (Lit.int .u64 x).wf = true
def wfi8 (x : Int) : Prop := (Lit.int .i8 x).wf = true
def wfi16 (x : Int) : Prop := (Lit.int .i16 x).wf = true
def wfu16 (x : Int) : Prop := (Lit.int .u16 x).wf = true
def wfT169 (x : T169) : Prop := x.s.size ≤ maxLen ∧ (Lit.int .i64 x.e).wf = true
def wfT76 (x : T76) : Prop := (Lit.int .i64 x.Epoch).wf = true ∧ (Lit.int .i64 x.Kind).wf = true ∧ (∀ y ∈ x.Nums, wfi64 y) ∧ x.Nums.length ≤ maxLen ∧ x.Data.size ≤ maxLen
def wfT172 (x : T172) : Prop := (∀ y ∈ x.b, wfu8 y) ∧ x.b.length ≤ maxLen
def wfT146 (x : T146) : Prop := (∀ y ∈ x.buf, wfu8 y) ∧ x.buf.length ≤ maxLen
end WF
def glob2 : List Int := [0, 498536548, 997073096, 651767980, 1994146192, 1802195444, 1303535960, 1342533948, 3988292384, 4027552580, 3604390888, 3412177804, 2607071920, 2262029012, 2685067896, 3183342108]
/-! tidewrack/sum.step -/
def sum_step (p0 : Int) (p1 : Int) : Option Int :=
  if 0 ≤ (bits .and .u32 (bits .xor .u32 p0 (IntKind.wrap .u32 p1)) 15) ∧ (bits .and .u32 (bits .xor .u32 p0 (IntKind.wrap .u32 p1)) 15) < ((glob2).length : Int) then (if 0 ≤ (bits .and .u32 (bits .xor .u32 (Int.fdiv (bits .xor .u32 p0 (IntKind.wrap .u32 p1)) (2 ^ min (Int.toNat 4) 32)) (rdD 0 glob2 (bits .and .u32 (bits .xor .u32 p0 (IntKind.wrap .u32 p1)) 15))) 15) ∧ (bits .and .u32 (bits .xor .u32 (Int.fdiv (bits .xor .u32 p0 (IntKind.wrap .u32 p1)) (2 ^ min (Int.toNat 4) 32)) (rdD 0 glob2 (bits .and .u32 (bits .xor .u32 p0 (IntKind.wrap .u32 p1)) 15))) 15) < ((glob2).length : Int) then (some (bits .xor .u32 (Int.fdiv (bits .xor .u32 (Int.fdiv (bits .xor .u32 p0 (IntKind.wrap .u32 p1)) (2 ^ min (Int.toNat 4) 32)) (rdD 0 glob2 (bits .and .u32 (bits .xor .u32 p0 (IntKind.wrap .u32 p1)) 15))) (2 ^ min (Int.toNat 4) 32)) (rdD 0 glob2 (bits .and .u32 (bits .xor .u32 (Int.fdiv (bits .xor .u32 p0 (IntKind.wrap .u32 p1)) (2 ^ min (Int.toNat 4) 32)) (rdD 0 glob2 (bits .and .u32 (bits .xor .u32 p0 (IntKind.wrap .u32 p1)) 15))) 15)))) else none) else none

/-! tidewrack/sum.Of -/
def sum_Of_j1 (x328 : Int) : Option Int :=
  some (bits .xor .u32 4294967295 x328)
def sum_Of_j3 (x441 : Int) (lp546 : Int → Int → Option Int) (x602 : Int) : Option Int :=
  lp546 x602 (IntKind.wrap .i64 (x441 + 1))
def sum_Of_l4 (p0 : List ByteArray) (x441 : Int) (lp546 : Int → Int → Option Int) : Nat → Int → Int → Option Int
  | 0, _, _ => none
  | k637 + 1, x624, x625 => bif (decide (x625 < (((rdD (⟨#[]⟩ : ByteArray) p0 x441)).size : Int))) then (if 0 ≤ x625 ∧ x625 < (((rdD (⟨#[]⟩ : ByteArray) p0 x441)).size : Int) then ((sum_step x624 (bt (rdD (⟨#[]⟩ : ByteArray) p0 x441) x625)).bind fun t645 => ((sum_Of_l4 p0 x441 lp546 k637) t645 (IntKind.wrap .i64 (x625 + 1)))) else none) else (sum_Of_j3 x441 lp546 x624)
def sum_Of_l2 (K : Nat) (p0 : List ByteArray) : Nat → Int → Int → Option Int
  | 0, _, _ => none
  | k545 + 1, x436, x441 => bif (decide (x441 < ((p0).length : Int))) then (if 0 ≤ x441 ∧ x441 < ((p0).length : Int) then (sum_Of_l4 p0 x441 (sum_Of_l2 K p0 k545) K x436 0) else none) else (sum_Of_j1 x436)
def sum_Of (K : Nat) (p0 : List ByteArray) : Option Int :=
  sum_Of_l2 K p0 K 4294967295 0

/-! tidewrack/sum.tail -/
def sum_tail (p0 : Int) : Option ByteArray :=
  some (strOfNums ([(IntKind.wrap .u8 p0), (IntKind.wrap .u8 (Int.fdiv p0 (2 ^ min (Int.toNat 8) 32))), (IntKind.wrap .u8 (Int.fdiv p0 (2 ^ min (Int.toNat 16) 32))), (IntKind.wrap .u8 (Int.fdiv p0 (2 ^ min (Int.toNat 24) 32)))] : List Int))

/-! tidewrack/sum.Open -/
def sum_Open_j1 (p0 : ByteArray) (x85 : Bool) : Option (ByteArray × Bool) :=
  bif x85 then (some ((⟨#[]⟩ : ByteArray), false)) else (if 0 ≤ (IntKind.wrap .i64 (((p0).size : Int) - 4)) then (if (IntKind.wrap .i64 (((p0).size : Int) - 4)) ≤ ((p0).size : Int) then (some ((ByteArray.extract p0 0 (Int.toNat (IntKind.wrap .i64 (((p0).size : Int) - 4)))), true)) else none) else none)
def sum_Open (K : Nat) (p0 : ByteArray) : Option (ByteArray × Bool) :=
  bif (decide ((IntKind.wrap .i64 (((p0).size : Int) - 4)) < (0 : Int))) then (sum_Open_j1 p0 true) else (if 0 ≤ (IntKind.wrap .i64 (((p0).size : Int) - 4)) then (if (IntKind.wrap .i64 (((p0).size : Int) - 4)) ≤ ((p0).size : Int) then ((sum_Of K ([(ByteArray.extract p0 0 (Int.toNat (IntKind.wrap .i64 (((p0).size : Int) - 4))))] : List ByteArray)).bind fun t154 => ((sum_tail t154).bind fun t162 => (sum_Open_j1 p0 (!(ByteArray.toList (ByteArray.extract p0 (Int.toNat (IntKind.wrap .i64 (((p0).size : Int) - 4))) (p0).size) == ByteArray.toList t162))))) else none) else none)

/-! tidewrack/num.Of -/
def num_Of (p0 : ByteArray) : Option T169 :=
  some (⟨p0, 0⟩ : T169)

/-! (*tidewrack/num.In).Fail -/
def num_In_Fail_j1 (p0 : T169) (p1 : Int) (x9 : Bool) : Option T169 :=
  bif x9 then (some (⟨(⟨#[]⟩ : ByteArray), p1⟩ : T169)) else (some p0)
def num_In_Fail (p0 : T169) (p1 : Int) : Option T169 :=
  bif (p0.e == (0 : Int)) then (num_In_Fail_j1 p0 p1 (p1 != (0 : Int))) else (num_In_Fail_j1 p0 p1 false)

/-! (*tidewrack/num.In).Num -/
def num_In_Num_j1 (p0 : T169) : Option (Int × T169) :=
  bif (decide (((p0.s).size : Int) ≥ (9 : Int))) then ((num_In_Fail p0 1).bind fun t209 => ((num_In_Fail t209 2).bind fun t218 => (some (0, t218)))) else ((num_In_Fail p0 2).bind fun t200 => (some (0, t200)))
def num_In_Num_j3 (p0 : T169) (x288 : Int) (x289 : Int) : Option (Int × T169) :=
  if 0 ≤ (IntKind.wrap .i64 (x289 + 1)) then (if (IntKind.wrap .i64 (x289 + 1)) ≤ ((p0.s).size : Int) then (some ((bits .or .i64 x288 (IntKind.wrap .i64 ((IntKind.wrap .i64 (bits .and .u8 (bt p0.s x289) 127)) * 2 ^ min (Int.toNat (IntKind.wrap .i64 (7 * x289))) 64))), (⟨(ByteArray.extract p0.s (Int.toNat (IntKind.wrap .i64 (x289 + 1))) (p0.s).size), p0.e⟩ : T169))) else none) else none
def num_In_Num_j4 (p0 : T169) (x288 : Int) (x289 : Int) (x400 : Bool) : Option (Int × T169) :=
  bif x400 then ((num_In_Fail p0 1).bind fun t406 => (some (0, t406))) else (num_In_Num_j3 p0 x288 x289)
def num_In_Num_l2 (p0 : T169) : Nat → Int → Int → Option (Int × T169)
  | 0, _, _ => none
  | k351 + 1, x288, x289 => bif (decide (x289 < (mnI ((p0.s).size : Int) 9))) then (if 0 ≤ x289 ∧ x289 < ((p0.s).size : Int) then (if 0 ≤ (IntKind.wrap .i64 (7 * x289)) then (bif (decide ((bt p0.s x289) ≥ (128 : Int))) then ((num_In_Num_l2 p0 k351) (bits .or .i64 x288 (IntKind.wrap .i64 ((IntKind.wrap .i64 (bits .and .u8 (bt p0.s x289) 127)) * 2 ^ min (Int.toNat (IntKind.wrap .i64 (7 * x289))) 64))) (IntKind.wrap .i64 (x289 + 1))) else (bif (decide (x289 > (0 : Int))) then (bif ((bt p0.s x289) == (0 : Int)) then (num_In_Num_j4 p0 x288 x289 true) else (num_In_Num_j4 p0 x288 x289 (decide ((bits .or .i64 x288 (IntKind.wrap .i64 ((IntKind.wrap .i64 (bits .and .u8 (bt p0.s x289) 127)) * 2 ^ min (Int.toNat (IntKind.wrap .i64 (7 * x289))) 64))) > (4611686018427387904 : Int))))) else (num_In_Num_j4 p0 x288 x289 (decide ((bits .or .i64 x288 (IntKind.wrap .i64 ((IntKind.wrap .i64 (bits .and .u8 (bt p0.s x289) 127)) * 2 ^ min (Int.toNat (IntKind.wrap .i64 (7 * x289))) 64))) > (4611686018427387904 : Int)))))) else none) else none) else (num_In_Num_j1 p0)
def num_In_Num (K : Nat) (p0 : T169) : Option (Int × T169) :=
  num_In_Num_l2 p0 K 0 0

/-! (*tidewrack/num.In).Raw -/
def num_In_Raw (p0 : T169) (p1 : Int) : Option (ByteArray × T169) :=
  bif (decide ((mxI 0 p1) > ((p0.s).size : Int))) then ((num_In_Fail p0 2).bind fun t10 => (some ((⟨#[]⟩ : ByteArray), t10))) else (if 0 ≤ (mxI 0 p1) then (if (mxI 0 p1) ≤ ((p0.s).size : Int) then (some ((ByteArray.extract p0.s 0 (Int.toNat (mxI 0 p1))), (⟨(ByteArray.extract p0.s (Int.toNat (mxI 0 p1)) (p0.s).size), p0.e⟩ : T169))) else none) else none)

/-! (*tidewrack/num.In).Text -/
def num_In_Text (K : Nat) (p0 : T169) : Option (ByteArray × T169) :=
  (num_In_Num K p0).bind fun t4 => ((num_In_Raw t4.2 t4.1).bind fun t13 => (some (t13.1, t13.2)))

/-! tidewrack/gram.read -/
def gram_read_j2 (K : Nat) (t9 : Int × T169) (t18 : Int × T169) (x321 : T169) (l324 : List Int) : Option (T76 × T169) :=
  (num_In_Text K x321).bind fun t331 => (some ((⟨t9.1, t18.1, l324, t331.1⟩ : T76), t331.2))
def gram_read_l3 (K : Nat) (t9 : Int × T169) (t18 : Int × T169) (t35 : Int × T169) : Nat → T169 → (List Int) → Int → Option (T76 × T169)
  | 0, _, _, _ => none
  | k511 + 1, x425, l428, x431 => bif (decide (x431 < (mnI t35.1 64))) then ((num_In_Num K x425).bind fun t569 => (if (l428).length + (([t569.1] : List Int)).length ≤ 1000000000 then ((gram_read_l3 K t9 t18 t35 k511) t569.2 (l428 ++ ([t569.1] : List Int)) (IntKind.wrap .i64 (x431 + 1))) else none)) else (gram_read_j2 K t9 t18 x425 l428)
def gram_read_j1 (K : Nat) (t9 : Int × T169) (t18 : Int × T169) (t35 : Int × T169) (x58 : T169) : Option (T76 × T169) :=
  gram_read_l3 K t9 t18 t35 K x58 ([] : List Int) 0
def gram_read (K : Nat) (p0 : T169) : Option (T76 × T169) :=
  (num_In_Num K p0).bind fun t9 => ((num_In_Num K t9.2).bind fun t18 => ((num_In_Num K t18.2).bind fun t35 => (bif (decide (t35.1 > (64 : Int))) then ((num_In_Fail t35.2 1).bind fun t596 => (gram_read_j1 K t9 t18 t35 t596)) else (gram_read_j1 K t9 t18 t35 t35.2))))

/-! (*tidewrack/num.In).End -/
def num_In_End (p0 : T169) : Option Int :=
  bif (!(ByteArray.toList p0.s == ByteArray.toList (⟨#[]⟩ : ByteArray))) then (some 1) else (some p0.e)

/-! tidewrack/gram.within -/
def gram_within (p0 : Int) (p1 : Int) (p2 : Int) : Option Bool :=
  bif (decide (p0 ≥ p1)) then (some (decide (p0 ≤ p2))) else (some false)

/-! (tidewrack/gram.Gram).right -/
def gram_Gram_right_j2 : Option Bool :=
  some true
def gram_Gram_right_l3 (p0 : T76) : Nat → Int → Option Bool
  | 0, _ => none
  | k110 + 1, x96 => bif (decide (x96 < ((p0.Nums).length : Int))) then (if 0 ≤ x96 ∧ x96 < ((p0.Nums).length : Int) then ((gram_within (rdD 0 p0.Nums x96) 0 4611686018427387904).bind fun t119 => (bif (!t119) then (some false) else ((gram_Gram_right_l3 p0 k110) (IntKind.wrap .i64 (x96 + 1))))) else none) else (gram_Gram_right_j2)
def gram_Gram_right_j1 (K : Nat) (p0 : T76) : Option Bool :=
  gram_Gram_right_l3 p0 K 0
def gram_Gram_right (K : Nat) (p0 : T76) : Option Bool :=
  (gram_within p0.Epoch 1 4294967296).bind fun t128 => (bif (!t128) then (some false) else ((gram_within p0.Kind 1 4).bind fun t137 => (bif (!t137) then (some false) else (bif (decide (((p0.Nums).length : Int) > (64 : Int))) then (some false) else (gram_Gram_right_j1 K p0)))))

/-! tidewrack/num.clip -/
def num_clip (p0 : Int) : Option Int :=
  some (mxI 0 (mnI p0 4611686018427387904))

/-! tidewrack/num.digits$1 -/
def num_digits_1_j1 (x63 : Int) : Option (List Int) :=
  Option.map (List.cons (IntKind.wrap .u8 x63)) (some [])
def num_digits_1_l2 : Nat → Int → Option (List Int)
  | 0, _ => none
  | k110 + 1, x98 => bif (decide (x98 ≥ (128 : Int))) then (Option.map (List.cons (bits .or .u8 (bits .and .u8 (IntKind.wrap .u8 x98) 127) 128)) ((num_digits_1_l2 k110) (Int.fdiv x98 (2 ^ min (Int.toNat 7) 64)))) else (num_digits_1_j1 x98)
def num_digits_1 (K : Nat) (p1 : Int) : Option (List Int) :=
  (num_clip p1).bind fun t74 => (num_digits_1_l2 K t74)

/-! tidewrack/num.digits -/
def num_digits (p0 : Int) : Option Int :=
  some p0

/-! (*tidewrack/num.Out).Num -/
def num_Out_Num_j1 (l5361 : List Int) : Option T172 :=
  some (⟨l5361⟩ : T172)
def num_Out_Num_j3 (x7155 : Int) (lp8931 : (List Int) → Int → Option T172) (l9826 : List Int) : Option T172 :=
  lp8931 l9826 (IntKind.wrap .i64 (x7155 + 1))
def num_Out_Num_j5 (x9848 : Int) (l10143 : List Int) (lp9853 : (List Int) → Option T172) : Option T172 :=
  lp9853 (l10143 ++ ([x9848] : List Int))
def num_Out_Num_r4 (x7155 : Int) (lp8931 : (List Int) → Int → Option T172) : List Int → (List Int) → Option T172
  | [], l10143 => num_Out_Num_j3 x7155 lp8931 l10143
  | x9848 :: rest9849, l10143 => if (l10143).length + (([x9848] : List Int)).length ≤ 1000000000 then (num_Out_Num_j5 x9848 l10143 (num_Out_Num_r4 x7155 lp8931 rest9849)) else none
def num_Out_Num_l2 (K : Nat) (p1 : List Int) : Nat → (List Int) → Int → Option T172
  | 0, _, _ => none
  | k8930 + 1, l7148, x7155 => bif (decide (x7155 < ((p1).length : Int))) then (if 0 ≤ x7155 ∧ x7155 < ((p1).length : Int) then ((num_digits (rdD 0 p1 x7155)).bind fun t9839 => ((num_digits_1 K t9839).bind fun ys9846 => (num_Out_Num_r4 x7155 (num_Out_Num_l2 K p1 k8930) ys9846 l7148))) else none) else (num_Out_Num_j1 l7148)
def num_Out_Num (K : Nat) (p0 : T172) (p1 : List Int) : Option T172 :=
  num_Out_Num_l2 K p1 K p0.b 0

/-! (*tidewrack/num.Out).Raw -/
def num_Out_Raw_j1 (l70 : List Int) : Option T172 :=
  some (⟨l70⟩ : T172)
def num_Out_Raw_l2 (p1 : List ByteArray) : Nat → (List Int) → Int → Option T172
  | 0, _, _ => none
  | k113 + 1, l94, x97 => bif (decide (x97 < ((p1).length : Int))) then (if 0 ≤ x97 ∧ x97 < ((p1).length : Int) then (if (l94).length + ((rdD (⟨#[]⟩ : ByteArray) p1 x97)).size ≤ 1000000000 then ((num_Out_Raw_l2 p1 k113) (l94 ++ numsOf (rdD (⟨#[]⟩ : ByteArray) p1 x97)) (IntKind.wrap .i64 (x97 + 1))) else none) else none) else (num_Out_Raw_j1 l94)
def num_Out_Raw (K : Nat) (p0 : T172) (p1 : List ByteArray) : Option T172 :=
  num_Out_Raw_l2 p1 K p0.b 0

/-! (*tidewrack/num.Out).Text -/
def num_Out_Text_j1 (l151 : List Int) : Option T172 :=
  some (⟨l151⟩ : T172)
def num_Out_Text_l2 (K : Nat) (p1 : List ByteArray) : Nat → (List Int) → Int → Option T172
  | 0, _, _ => none
  | k248 + 1, l202, x205 => bif (decide (x205 < ((p1).length : Int))) then (if 0 ≤ x205 ∧ x205 < ((p1).length : Int) then ((num_Out_Num K (⟨l202⟩ : T172) ([(((rdD (⟨#[]⟩ : ByteArray) p1 x205)).size : Int)] : List Int)).bind fun t263 => ((num_Out_Raw K t263 ([(rdD (⟨#[]⟩ : ByteArray) p1 x205)] : List ByteArray)).bind fun t282 => ((num_Out_Text_l2 K p1 k248) t282.b (IntKind.wrap .i64 (x205 + 1))))) else none) else (num_Out_Text_j1 l202)
def num_Out_Text (K : Nat) (p0 : T172) (p1 : List ByteArray) : Option T172 :=
  num_Out_Text_l2 K p1 K p0.b 0

/-! (*tidewrack/num.Out).Bytes -/
def num_Out_Bytes (p0 : T172) : Option (ByteArray × T172) :=
  some ((strOfNums p0.b), p0)

/-! tidewrack/sum.Seal -/
def sum_Seal (K : Nat) (p0 : ByteArray) : Option ByteArray :=
  (sum_Of K ([p0] : List ByteArray)).bind fun t10 => ((sum_tail t10).bind fun t18 => (if ((p0.size + t18.size : Nat) : Int) ≤ 9223372036854775807 then (some (p0 ++ t18)) else none))

/-! (tidewrack/gram.Gram).bytes -/
def gram_Gram_bytes_j1 (x798 : ByteArray) : Option ByteArray :=
  some x798
def gram_Gram_bytes (K : Nat) (p0 : T76) : Option ByteArray :=
  (num_Out_Num K (⟨([] : List Int)⟩ : T172) ([p0.Epoch, p0.Kind, ((p0.Nums).length : Int)] : List Int)).bind fun t881 => ((num_Out_Num K t881 p0.Nums).bind fun t894 => ((num_Out_Text K t894 ([p0.Data] : List ByteArray)).bind fun t913 => ((num_Out_Bytes t913).bind fun t926 => ((sum_Seal K t926.1).bind fun t939 => (gram_Gram_bytes_j1 t939)))))

/-! (tidewrack/gram.Gram).Check -/
def gram_Gram_Check (K : Nat) (p0 : T76) : Option Int :=
  (gram_Gram_right K p0).bind fun t9 => (bif (!t9) then (some 6) else ((gram_Gram_bytes K p0).bind fun t18 => (bif (decide (((t18).size : Int) > (8192 : Int))) then (some 3) else (some 0))))

/-! tidewrack/gram.Parse -/
def gram_Parse_j1 (t29 : T76 × T169) (x71 : Int) : Option (T76 × Int) :=
  bif (x71 != (0 : Int)) then (some ((⟨0, 0, ([] : List Int), (⟨#[]⟩ : ByteArray)⟩ : T76), x71)) else (some (t29.1, 0))
def gram_Parse (K : Nat) (p0 : ByteArray) : Option (T76 × Int) :=
  bif (decide (((p0).size : Int) > (8192 : Int))) then (some ((⟨0, 0, ([] : List Int), (⟨#[]⟩ : ByteArray)⟩ : T76), 3)) else ((sum_Open K p0).bind fun t10 => (bif (!t10.2) then (some ((⟨0, 0, ([] : List Int), (⟨#[]⟩ : ByteArray)⟩ : T76), 4)) else ((num_Of t10.1).bind fun t19 => ((gram_read K t19).bind fun t29 => ((num_In_End t29.2).bind fun t50 => (bif (t50 == (0 : Int)) then ((gram_Gram_Check K t29.1).bind fun t84 => (gram_Parse_j1 t29 t84)) else (gram_Parse_j1 t29 t50)))))))

/-! tidewrack/tidewracklaw01.Cut -/
def tidewracklaw01_Cut (p0 : ByteArray) (p1 : Int) : Option ByteArray :=
  bif (decide (((p0).size : Int) > p1)) then (if 0 ≤ p1 then (if p1 ≤ ((p0).size : Int) then (some (ByteArray.extract p0 0 (Int.toNat p1))) else none) else none) else (some p0)

/-! tidewrack/parts.Split -/
def parts_Split_j1 (x78 : ByteArray) (l81 : List ByteArray) : Option (List ByteArray) :=
  if (l81).length + (([x78] : List ByteArray)).length ≤ 1000000000 then (some (l81 ++ ([x78] : List ByteArray))) else none
def parts_Split_l2 (p1 : Int) : Nat → ByteArray → (List ByteArray) → Option (List ByteArray)
  | 0, _, _ => none
  | k144 + 1, x120, l123 => bif (decide (((x120).size : Int) > (mxI 1 (mnI p1 8000)))) then (if 0 ≤ (mxI 1 (mnI p1 8000)) then (if (mxI 1 (mnI p1 8000)) ≤ ((x120).size : Int) then (if (l123).length + (([(ByteArray.extract x120 0 (Int.toNat (mxI 1 (mnI p1 8000))))] : List ByteArray)).length ≤ 1000000000 then ((parts_Split_l2 p1 k144) (ByteArray.extract x120 (Int.toNat (mxI 1 (mnI p1 8000))) (x120).size) (l123 ++ ([(ByteArray.extract x120 0 (Int.toNat (mxI 1 (mnI p1 8000))))] : List ByteArray))) else none) else none) else none) else (parts_Split_j1 x120 l123)
def parts_Split (K : Nat) (p0 : ByteArray) (p1 : Int) : Option (List ByteArray) :=
  parts_Split_l2 p1 K p0 ([] : List ByteArray)

/-! (tidewrack/gram.Gram).Pack -/
def gram_Gram_Pack (K : Nat) (p0 : T76) : Option ByteArray :=
  (gram_Gram_Check K p0).bind fun t9 => (bif (t9 != (0 : Int)) then (some (⟨#[]⟩ : ByteArray)) else ((gram_Gram_bytes K p0).bind fun t18 => (some t18)))

/-! tidewrack/sum.Turn -/
def sum_Turn_j1 (l120 : List Int) : Option ByteArray :=
  some (strOfNums l120)
def sum_Turn_j3 (x156 : Int) (l159 : List Int) (x162 : Int) (lp193 : Int → (List Int) → Int → Option ByteArray) : Option ByteArray :=
  if 0 ≤ (IntKind.wrap .i64 (Int.tdiv x162 8)) ∧ (IntKind.wrap .i64 (Int.tdiv x162 8)) < ((l159).length : Int) then (if 0 ≤ (Int.tmod x162 8) then (lp193 (Int.fdiv x156 (2 ^ min (Int.toNat 1) 32)) (List.set l159 (Int.toNat (IntKind.wrap .i64 (Int.tdiv x162 8))) (bits .xor .u8 (rdD 0 l159 (IntKind.wrap .i64 (Int.tdiv x162 8))) (IntKind.wrap .u8 ((IntKind.wrap .u8 (bits .and .u32 x156 1)) * 2 ^ min (Int.toNat (Int.tmod x162 8)) 8)))) (IntKind.wrap .i64 (x162 + 1))) else none) else none
def sum_Turn_l2 : Nat → Int → (List Int) → Int → Option ByteArray
  | 0, _, _, _ => none
  | k192 + 1, x156, l159, x162 => bif (x156 != (0 : Int)) then (bif (decide (x162 < (IntKind.wrap .i64 (8 * ((l159).length : Int))))) then (sum_Turn_j3 x156 l159 x162 (sum_Turn_l2 k192)) else (sum_Turn_j1 l159)) else (sum_Turn_j1 l159)
def sum_Turn (K : Nat) (p0 : ByteArray) (p1 : Int) (p2 : Int) : Option ByteArray :=
  sum_Turn_l2 K p2 (numsOf p0) (mxI 0 (mnI p1 (IntKind.wrap .i64 (8 * (((numsOf p0)).length : Int)))))

/-! (tidewrack/gram.Gram).Num -/
def gram_Gram_Num (p0 : T76) (p1 : Int) : Option Int :=
  (gram_within p1 0 (IntKind.wrap .i64 (((p0.Nums).length : Int) - 1))).bind fun t9 => (bif (!t9) then (some 0) else (if 0 ≤ p1 ∧ p1 < ((p0.Nums).length : Int) then (some (rdD 0 p0.Nums p1)) else none))

/-! (*tidewrack/parts.Slot).Put -/
def parts_Slot_Put_j1 (p2 : Int) (p4 : ByteArray) (x44 : Int) (x45 : Int) (l48 : M ByteArray) (x51 : Int) : Option (Int × T83) :=
  bif (!(M.has l48 p2)) then (if M.isNil l48 = false then (some (0, (⟨x44, x45, (M.put l48 p2 p4), (IntKind.wrap .i64 (x51 + ((p4).size : Int)))⟩ : T83))) else none) else (some (0, (⟨x44, x45, l48, x51⟩ : T83)))
def parts_Slot_Put_j2 (p0 : T83) (p1 : Int) (p2 : Int) (p3 : Int) (p4 : ByteArray) (x72 : Bool) : Option (Int × T83) :=
  bif x72 then (some (6, p0)) else (bif (decide (p1 < p0.key)) then (some (8, p0)) else (bif (decide (p1 > p0.key)) then (parts_Slot_Put_j1 p2 p4 p1 p3 (M.new : M ByteArray) 0) else (bif (p3 != p0.count) then (some (1, p0)) else (parts_Slot_Put_j1 p2 p4 p0.key p0.count p0.parts p0.bytes))))
def parts_Slot_Put (p0 : T83) (p1 : Int) (p2 : Int) (p3 : Int) (p4 : ByteArray) : Option (Int × T83) :=
  bif (decide (p3 < (1 : Int))) then (parts_Slot_Put_j2 p0 p1 p2 p3 p4 true) else (bif (decide (p3 > (4096 : Int))) then (parts_Slot_Put_j2 p0 p1 p2 p3 p4 true) else (bif (decide (p2 < (0 : Int))) then (parts_Slot_Put_j2 p0 p1 p2 p3 p4 true) else (bif (decide (p2 ≥ p3)) then (parts_Slot_Put_j2 p0 p1 p2 p3 p4 true) else (parts_Slot_Put_j2 p0 p1 p2 p3 p4 (decide (p1 < (1 : Int)))))))

/-! (*tidewrack/parts.Slot).each -/
def parts_Slot_each_l1 (p0 : T83) : Nat → Int → Option (List (Int × Bool))
  | 0, _ => none
  | k23 + 1, x14 => bif (decide (x14 < p0.count)) then (Option.map (List.cons (x14, (M.has p0.parts x14))) ((parts_Slot_each_l1 p0 k23) (IntKind.wrap .i64 (x14 + 1)))) else (some [])
def parts_Slot_each (K : Nat) (p0 : T83) : Option (List (Int × Bool)) :=
  parts_Slot_each_l1 p0 K 0

/-! (*strings.Builder).copyCheck -/
def strings_Builder_copyCheck (p0 : T146) : Option T146 :=
  some p0

/-! (*strings.Builder).WriteString -/
def strings_Builder_WriteString (p0 : T146) (p1 : ByteArray) : Option (Int × T146) :=
  (strings_Builder_copyCheck p0).bind fun t4 => (if (t4.buf).length + (p1).size ≤ 1000000000 then (some (((p1).size : Int), (⟨(t4.buf ++ numsOf p1)⟩ : T146))) else none)

/-! (*strings.Builder).String -/
def strings_Builder_String (p0 : T146) : Option ByteArray :=
  some (strOfNums p0.buf)

/-! (*tidewrack/parts.Slot).Whole -/
def parts_Slot_Whole_j2 (l130 : List Int) : Option (ByteArray × Bool) :=
  (strings_Builder_String (⟨l130⟩ : T146)).bind fun t137 => (some (t137, true))
def parts_Slot_Whole_r3 (p0 : T83) : List (Int × Bool) → (List Int) → Option (ByteArray × Bool)
  | [], l178 => parts_Slot_Whole_j2 l178
  | x146 :: rest147, l178 => (strings_Builder_WriteString (⟨l178⟩ : T146) (M.get (⟨#[]⟩ : ByteArray) p0.parts x146.1)).bind fun t204 => ((parts_Slot_Whole_r3 p0 rest147) t204.2.buf)
def parts_Slot_Whole_j1 (K : Nat) (p0 : T83) : Option (ByteArray × Bool) :=
  (parts_Slot_each K p0).bind fun ys144 => (parts_Slot_Whole_r3 p0 ys144 ([] : List Int))
def parts_Slot_Whole_j4 (K : Nat) (p0 : T83) (x230 : Bool) : Option (ByteArray × Bool) :=
  bif x230 then (some ((⟨#[]⟩ : ByteArray), false)) else (parts_Slot_Whole_j1 K p0)
def parts_Slot_Whole (K : Nat) (p0 : T83) : Option (ByteArray × Bool) :=
  bif (p0.key == (0 : Int)) then (parts_Slot_Whole_j4 K p0 true) else (parts_Slot_Whole_j4 K p0 (decide (((p0.parts).length : Int) < p0.count)))

/-! (*tidewrack/parts.Slot).which -/
def parts_Slot_which_j1 (l114 : List Int) : Option (List Int) :=
  some l114
def parts_Slot_which_r2 (p1 : Bool) : List (Int × Bool) → (List Int) → Option (List Int)
  | [], l159 => parts_Slot_which_j1 l159
  | x122 :: rest123, l159 => bif (x122.2 == p1) then (if (l159).length + (([x122.1] : List Int)).length ≤ 1000000000 then ((parts_Slot_which_r2 p1 rest123) (l159 ++ ([x122.1] : List Int))) else none) else ((parts_Slot_which_r2 p1 rest123) l159)
def parts_Slot_which (K : Nat) (p0 : T83) (p1 : Bool) : Option (List Int) :=
  (parts_Slot_each K p0).bind fun ys120 => (parts_Slot_which_r2 p1 ys120 ([] : List Int))

/-! (*tidewrack/parts.Slot).Lacks -/
def parts_Slot_Lacks (K : Nat) (p0 : T83) : Option (List Int) :=
  (parts_Slot_which K p0 false).bind fun t4 => (some t4)

/-! tidewrack/tidewracktop.bit -/
def tidewracktop_bit (p0 : Bool) : Option Int :=
  bif p0 then (some 1) else (some 0)

/-! tidewrack/tidewracktop.TidewrackParts -/
def tidewracktop_TidewrackParts_j2 (K : Nat) (t31 : ByteArray) (t39 : List ByteArray) (x762 : Int) (x763 : Int) (l766 : M ByteArray) (x769 : Int) (x770 : Int) : Option Bool :=
  (parts_Slot_Whole K (⟨x762, x763, l766, x769⟩ : T83)).bind fun t775 => (bif (t775.2 == (x770 == (0 : Int))) then (bif (decide (x770 > (0 : Int))) then ((parts_Slot_Lacks K (⟨x762, x763, l766, x769⟩ : T83)).bind fun t806 => ((tidewracktop_bit (decide (x770 < ((t39).length : Int)))).bind fun t818 => (some (((t806).length : Int) == (IntKind.wrap .i64 (x770 * t818)))))) else (bif (ByteArray.toList t775.1 == ByteArray.toList t31) then ((parts_Slot_Lacks K (⟨x762, x763, l766, x769⟩ : T83)).bind fun t786 => ((tidewracktop_bit (decide (x770 < ((t39).length : Int)))).bind fun t798 => (some (((t786).length : Int) == (IntKind.wrap .i64 (x770 * t798)))))) else (some false))) else (some false))
def tidewracktop_TidewrackParts_j4 (K : Nat) (x1053 : Int) (x1054 : Int) (l1057 : M ByteArray) (x1060 : Int) (x1061 : Int) (x1062 : Int) (lp1290 : Int → Int → (M ByteArray) → Int → Int → Int → Option Bool) (t1304 : ByteArray) : Option Bool :=
  (gram_Parse K t1304).bind fun t1350 => (bif (t1350.2 != (0 : Int)) then (some false) else ((gram_Gram_Num t1350.1 0).bind fun t1449 => ((gram_Gram_Num t1350.1 1).bind fun t1457 => ((gram_Gram_Num t1350.1 2).bind fun t1465 => ((parts_Slot_Put (⟨x1053, x1054, l1057, x1060⟩ : T83) t1449 t1457 t1465 t1350.1.Data).bind fun t1473 => (bif (t1473.1 != (0 : Int)) then (some false) else (lp1290 t1473.2.key t1473.2.count t1473.2.parts t1473.2.bytes x1061 (IntKind.wrap .i64 (x1062 + 1)))))))))
def tidewracktop_TidewrackParts_l3 (K : Nat) (p2 : List Int) (t31 : ByteArray) (t39 : List ByteArray) : Nat → Int → Int → (M ByteArray) → Int → Int → Int → Option Bool
  | 0, _, _, _, _, _, _ => none
  | k1289 + 1, x1053, x1054, l1057, x1060, x1061, x1062 => bif (decide (x1062 < ((t39).length : Int))) then (if 0 ≤ x1062 ∧ x1062 < ((t39).length : Int) then ((gram_Gram_Pack K (⟨1, 1, ([1, x1062, ((t39).length : Int)] : List Int), (rdD (⟨#[]⟩ : ByteArray) t39 x1062)⟩ : T76)).bind fun t1304 => (bif (decide (x1062 < ((p2).length : Int))) then (if 0 ≤ x1062 ∧ x1062 < ((p2).length : Int) then ((sum_Turn K t1304 (IntKind.wrap .i64 (7 * x1062)) (rdD 0 p2 x1062)).bind fun t1490 => (bif (!(ByteArray.toList t1490 == ByteArray.toList t1304)) then ((gram_Parse K t1490).bind fun t1499 => (bif (t1499.2 == (0 : Int)) then (some false) else ((tidewracktop_TidewrackParts_l3 K p2 t31 t39 k1289) x1053 x1054 l1057 x1060 (IntKind.wrap .i64 (x1061 + 1)) (IntKind.wrap .i64 (x1062 + 1))))) else (tidewracktop_TidewrackParts_j4 K x1053 x1054 l1057 x1060 x1061 x1062 (tidewracktop_TidewrackParts_l3 K p2 t31 t39 k1289) t1304))) else none) else (tidewracktop_TidewrackParts_j4 K x1053 x1054 l1057 x1060 x1061 x1062 (tidewracktop_TidewrackParts_l3 K p2 t31 t39 k1289) t1304))) else none) else (tidewracktop_TidewrackParts_j2 K t31 t39 x1053 x1054 l1057 x1060 x1061)
def tidewracktop_TidewrackParts_j1 (K : Nat) (p0 : ByteArray) (p1 : Int) (p2 : List Int) : Option Bool :=
  (tidewracklaw01_Cut p0 200).bind fun t31 => ((parts_Split K t31 (IntKind.wrap .i64 (3 + (bits .and .i64 p1 63)))).bind fun t39 => (tidewracktop_TidewrackParts_l3 K p2 t31 t39 K 0 0 (M.nil : M ByteArray) 0 0 0))
def tidewracktop_TidewrackParts (K : Nat) (p0 : ByteArray) (p1 : Int) (p2 : List Int) : Option Bool :=
  (gram_Parse K (⟨#[]⟩ : ByteArray)).bind fun t1520 => (bif (t1520.2 == (0 : Int)) then (some false) else (bif (((t1520.1.Nums).length : Int) != (0 : Int)) then (some false) else (tidewracktop_TidewrackParts_j1 K p0 p1 p2)))

end Go.Proofs.YtpciioffkjpieaaDoor
