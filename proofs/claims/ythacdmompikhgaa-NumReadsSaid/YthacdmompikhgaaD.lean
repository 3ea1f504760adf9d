/- Plain functions, printed by an own program: what the walked code computes. -/
import Derived.Test.YthacdmompikhgaaY20
set_option linter.unusedVariables false
set_option linter.unusedSimpArgs false
namespace Go.Proofs.Ythacdmompikhgaa
open Go Go.Proofs.XC
structure T62 where
  s : ByteArray
  e : Int
abbrev zT62 : T62 := ⟨(⟨#[]⟩ : ByteArray), 0⟩
structure T25 where
  b : List Int
structure T27 where
  Kind : Int
  N : Int
  Text : ByteArray
abbrev zT27 : T27 := ⟨0, 0, (⟨#[]⟩ : ByteArray)⟩
structure T50 where
  S : ByteArray
  E : Int
abbrev zT50 : T50 := ⟨(⟨#[]⟩ : ByteArray), 0⟩
namespace WF
def wfBool (_ : Bool) : Prop := True
def wfStr (x : ByteArray) : Prop := x.size ≤ maxLen
def wfi64 (x : Int) : Prop := (Lit.int .i64 x).wf = true
def wfi32 (x : Int) : Prop := (Lit.int .i32 x).wf = true
def wfu8 (x : Int) : Prop := (Lit.int .u8 x).wf = true
def wfu32 (x : Int) : Prop := (Lit.int .u32 x).wf = true
def wfu64 (x : Int) : Prop := (Lit.int .u64 x).wf = true
def wfi8 (x : Int) : Prop := (Lit.int .i8 x).wf = true
def wfi16 (x : Int) : Prop := (Lit.int .i16 x).wf = true
def wfu16 (x : Int) : Prop := (Lit.int .u16 x).wf = true
def wfT62 (x : T62) : Prop := x.s.size ≤ maxLen ∧ (Lit.int .i64 x.e).wf = true
def wfT27 (x : T27) : Prop := (Lit.int .i64 x.Kind).wf = true ∧ (Lit.int .i64 x.N).wf = true ∧ x.Text.size ≤ maxLen
def wfT50 (x : T50) : Prop := x.S.size ≤ maxLen ∧ (Lit.int .i64 x.E).wf = true
end WF
/-! tidewrack/num.Of -/
def num_Of (p0 : ByteArray) : Option T62 :=
  some (⟨p0, 0⟩ : T62)

/-! tidewrack/num.clip -/
def num_clip (p0 : Int) : Option Int :=
  some (mxI 0 (mnI p0 4611686018427387904))

/-! tidewrack/num.digits$1 -/
def num_digits_1_j1 (x63 : Int) : Option (List Int) :=
  Option.map (List.cons (IntKind.wrap .u8 x63)) (some [])
def num_digits_1_l2 : Nat → Int → Option (List Int)
  | 0, _ => none
  | k110 + 1, x98 => bif (decide (x98 ≥ (128 : Int))) then (Option.map (List.cons (bits .or .u8 (bits .and .u8 (IntKind.wrap .u8 x98) 127) 128)) ((num_digits_1_l2 k110) (Int.fdiv x98 (2 ^ min (Int.toNat 7) 64)))) else (num_digits_1_j1 x98)
def num_digits_1 (K : Nat) (p1 : Int) : Option (List Int) :=
  (num_clip p1).bind fun t74 => (num_digits_1_l2 K t74)

/-! tidewrack/num.digits -/
def num_digits (p0 : Int) : Option Int :=
  some p0

/-! (*tidewrack/num.Out).Num -/
def num_Out_Num_j1 (l5361 : List Int) : Option T25 :=
  some (⟨l5361⟩ : T25)
def num_Out_Num_j3 (x7155 : Int) (lp8931 : (List Int) → Int → Option T25) (l9826 : List Int) : Option T25 :=
  lp8931 l9826 (IntKind.wrap .i64 (x7155 + 1))
def num_Out_Num_j5 (x9848 : Int) (l10143 : List Int) (lp9853 : (List Int) → Option T25) : Option T25 :=
  lp9853 (l10143 ++ ([x9848] : List Int))
def num_Out_Num_r4 (x7155 : Int) (lp8931 : (List Int) → Int → Option T25) : List Int → (List Int) → Option T25
  | [], l10143 => num_Out_Num_j3 x7155 lp8931 l10143
  | x9848 :: rest9849, l10143 => if (l10143).length + (([x9848] : List Int)).length ≤ 1000000000 then (num_Out_Num_j5 x9848 l10143 (num_Out_Num_r4 x7155 lp8931 rest9849)) else none
def num_Out_Num_l2 (K : Nat) (p1 : List Int) : Nat → (List Int) → Int → Option T25
  | 0, _, _ => none
  | k8930 + 1, l7148, x7155 => bif (decide (x7155 < ((p1).length : Int))) then (if 0 ≤ x7155 ∧ x7155 < ((p1).length : Int) then ((num_digits (rdD 0 p1 x7155)).bind fun t9839 => ((num_digits_1 K t9839).bind fun ys9846 => (num_Out_Num_r4 x7155 (num_Out_Num_l2 K p1 k8930) ys9846 l7148))) else none) else (num_Out_Num_j1 l7148)
def num_Out_Num (K : Nat) (p0 : T25) (p1 : List Int) : Option T25 :=
  num_Out_Num_l2 K p1 K p0.b 0

/-! (*tidewrack/num.Out).Raw -/
def num_Out_Raw_j1 (l70 : List Int) : Option T25 :=
  some (⟨l70⟩ : T25)
def num_Out_Raw_l2 (p1 : List ByteArray) : Nat → (List Int) → Int → Option T25
  | 0, _, _ => none
  | k113 + 1, l94, x97 => bif (decide (x97 < ((p1).length : Int))) then (if 0 ≤ x97 ∧ x97 < ((p1).length : Int) then (if (l94).length + ((rdD (⟨#[]⟩ : ByteArray) p1 x97)).size ≤ 1000000000 then ((num_Out_Raw_l2 p1 k113) (l94 ++ numsOf (rdD (⟨#[]⟩ : ByteArray) p1 x97)) (IntKind.wrap .i64 (x97 + 1))) else none) else none) else (num_Out_Raw_j1 l94)
def num_Out_Raw (K : Nat) (p0 : T25) (p1 : List ByteArray) : Option T25 :=
  num_Out_Raw_l2 p1 K p0.b 0

/-! (*tidewrack/num.Out).Text -/
def num_Out_Text_j1 (l151 : List Int) : Option T25 :=
  some (⟨l151⟩ : T25)
def num_Out_Text_l2 (K : Nat) (p1 : List ByteArray) : Nat → (List Int) → Int → Option T25
  | 0, _, _ => none
  | k248 + 1, l202, x205 => bif (decide (x205 < ((p1).length : Int))) then (if 0 ≤ x205 ∧ x205 < ((p1).length : Int) then ((num_Out_Num K (⟨l202⟩ : T25) ([(((rdD (⟨#[]⟩ : ByteArray) p1 x205)).size : Int)] : List Int)).bind fun t263 => ((num_Out_Raw K t263 ([(rdD (⟨#[]⟩ : ByteArray) p1 x205)] : List ByteArray)).bind fun t282 => ((num_Out_Text_l2 K p1 k248) t282.b (IntKind.wrap .i64 (x205 + 1))))) else none) else (num_Out_Text_j1 l202)
def num_Out_Text (K : Nat) (p0 : T25) (p1 : List ByteArray) : Option T25 :=
  num_Out_Text_l2 K p1 K p0.b 0

/-! (*tidewrack/num.Out).Bytes -/
def num_Out_Bytes (p0 : T25) : Option (ByteArray × T25) :=
  some ((strOfNums p0.b), p0)

/-! (*tidewrack/num.In).Fail -/
def num_In_Fail_j1 (p0 : T62) (p1 : Int) (x9 : Bool) : Option T62 :=
  bif x9 then (some (⟨(⟨#[]⟩ : ByteArray), p1⟩ : T62)) else (some p0)
def num_In_Fail (p0 : T62) (p1 : Int) : Option T62 :=
  bif (p0.e == (0 : Int)) then (num_In_Fail_j1 p0 p1 (p1 != (0 : Int))) else (num_In_Fail_j1 p0 p1 false)

/-! (*tidewrack/num.In).Num -/
def num_In_Num_j1 (p0 : T62) : Option (Int × T62) :=
  bif (decide (((p0.s).size : Int) ≥ (9 : Int))) then ((num_In_Fail p0 1).bind fun t209 => ((num_In_Fail t209 2).bind fun t218 => (some (0, t218)))) else ((num_In_Fail p0 2).bind fun t200 => (some (0, t200)))
def num_In_Num_j3 (p0 : T62) (x288 : Int) (x289 : Int) : Option (Int × T62) :=
  if 0 ≤ (IntKind.wrap .i64 (x289 + 1)) then (if (IntKind.wrap .i64 (x289 + 1)) ≤ ((p0.s).size : Int) then (some ((bits .or .i64 x288 (IntKind.wrap .i64 ((IntKind.wrap .i64 (bits .and .u8 (bt p0.s x289) 127)) * 2 ^ min (Int.toNat (IntKind.wrap .i64 (7 * x289))) 64))), (⟨(ByteArray.extract p0.s (Int.toNat (IntKind.wrap .i64 (x289 + 1))) (p0.s).size), p0.e⟩ : T62))) else none) else none
def num_In_Num_j4 (p0 : T62) (x288 : Int) (x289 : Int) (x400 : Bool) : Option (Int × T62) :=
  bif x400 then ((num_In_Fail p0 1).bind fun t406 => (some (0, t406))) else (num_In_Num_j3 p0 x288 x289)
def num_In_Num_l2 (p0 : T62) : Nat → Int → Int → Option (Int × T62)
  | 0, _, _ => none
  | k351 + 1, x288, x289 => bif (decide (x289 < (mnI ((p0.s).size : Int) 9))) then (if 0 ≤ x289 ∧ x289 < ((p0.s).size : Int) then (if 0 ≤ (IntKind.wrap .i64 (7 * x289)) then (bif (decide ((bt p0.s x289) ≥ (128 : Int))) then ((num_In_Num_l2 p0 k351) (bits .or .i64 x288 (IntKind.wrap .i64 ((IntKind.wrap .i64 (bits .and .u8 (bt p0.s x289) 127)) * 2 ^ min (Int.toNat (IntKind.wrap .i64 (7 * x289))) 64))) (IntKind.wrap .i64 (x289 + 1))) else (bif (decide (x289 > (0 : Int))) then (bif ((bt p0.s x289) == (0 : Int)) then (num_In_Num_j4 p0 x288 x289 true) else (num_In_Num_j4 p0 x288 x289 (decide ((bits .or .i64 x288 (IntKind.wrap .i64 ((IntKind.wrap .i64 (bits .and .u8 (bt p0.s x289) 127)) * 2 ^ min (Int.toNat (IntKind.wrap .i64 (7 * x289))) 64))) > (4611686018427387904 : Int))))) else (num_In_Num_j4 p0 x288 x289 (decide ((bits .or .i64 x288 (IntKind.wrap .i64 ((IntKind.wrap .i64 (bits .and .u8 (bt p0.s x289) 127)) * 2 ^ min (Int.toNat (IntKind.wrap .i64 (7 * x289))) 64))) > (4611686018427387904 : Int)))))) else none) else none) else (num_In_Num_j1 p0)
def num_In_Num (K : Nat) (p0 : T62) : Option (Int × T62) :=
  num_In_Num_l2 p0 K 0 0

/-! (*tidewrack/num.In).End -/
def num_In_End (p0 : T62) : Option Int :=
  bif (!(ByteArray.toList p0.s == ByteArray.toList (⟨#[]⟩ : ByteArray))) then (some 1) else (some p0.e)

/-! tidewrack/num.Size -/
def num_Size_j1 (x66 : Int) : Option Int :=
  some x66
def num_Size_r2 : List Int → Int → Option Int
  | [], x102 => num_Size_j1 x102
  | x82 :: rest83, x102 => (num_Size_r2 rest83) (IntKind.wrap .i64 (x102 + 1))
def num_Size (K : Nat) (p0 : Int) : Option Int :=
  (num_digits p0).bind fun t73 => ((num_digits_1 K t73).bind fun ys80 => (num_Size_r2 ys80 0))

/-! tidewrack/tidewracklaw01.awake -/
def tidewracklaw01_awake (K : Nat)  : Option Bool :=
  (num_Of (⟨#[172, 2]⟩ : ByteArray)).bind fun t9 => ((num_Out_Num K (⟨([] : List Int)⟩ : T25) ([300] : List Int)).bind fun t25 => ((num_Out_Text K t25 ([(⟨#[97, 98]⟩ : ByteArray)] : List ByteArray)).bind fun t44 => ((num_Out_Bytes t44).bind fun t57 => (bif (ByteArray.toList t57.1 == ByteArray.toList (⟨#[172, 2, 2, 97, 98]⟩ : ByteArray)) then ((num_In_Num K t9).bind fun t71 => (bif (t71.1 == (300 : Int)) then ((num_In_End t71.2).bind fun t81 => (bif (t81 == (0 : Int)) then ((num_Size K 300).bind fun t90 => (some (t90 == (2 : Int)))) else (some false))) else (some false))) else (some false)))))

/-! tidewrack/tidewracklaw01.Cut -/
def tidewracklaw01_Cut (p0 : ByteArray) (p1 : Int) : Option ByteArray :=
  bif (decide (((p0).size : Int) > p1)) then (if 0 ≤ p1 then (if p1 ≤ ((p0).size : Int) then (some (ByteArray.extract p0 0 (Int.toNat p1))) else none) else none) else (some p0)

/-! tidewrack/tidewrackref01.Num -/
def tidewrackref01_Num_j1 (x78 : Int) (l81 : List Int) : Option ByteArray :=
  if (l81).length + (([(IntKind.wrap .u8 x78)] : List Int)).length ≤ 1000000000 then (some (strOfNums (l81 ++ ([(IntKind.wrap .u8 x78)] : List Int)))) else none
def tidewrackref01_Num_l2 : Nat → Int → (List Int) → Option ByteArray
  | 0, _, _ => none
  | k140 + 1, x118, l121 => bif (decide (x118 ≥ (128 : Int))) then (if (l121).length + (([(IntKind.wrap .u8 (IntKind.wrap .i64 (128 + (Int.tmod x118 128))))] : List Int)).length ≤ 1000000000 then ((tidewrackref01_Num_l2 k140) (IntKind.wrap .i64 (Int.tdiv x118 128)) (l121 ++ ([(IntKind.wrap .u8 (IntKind.wrap .i64 (128 + (Int.tmod x118 128))))] : List Int))) else none) else (tidewrackref01_Num_j1 x118 l121)
def tidewrackref01_Num (K : Nat) (p0 : Int) : Option ByteArray :=
  tidewrackref01_Num_l2 K (mxI 0 (mnI p0 4611686018427387904)) ([] : List Int)

/-! tidewrack/tidewrackref01.Text -/
def tidewrackref01_Text (K : Nat) (p0 : ByteArray) : Option ByteArray :=
  (tidewrackref01_Num K ((p0).size : Int)).bind fun t4 => (if ((t4.size + p0.size : Nat) : Int) ≤ 9223372036854775807 then (some (t4 ++ p0)) else none)

/-! tidewrack/tidewracklaw01.NumWrites -/
def tidewracklaw01_NumWrites_j1 : Option Bool :=
  some true
def tidewracklaw01_NumWrites_j4 (x1341 : Int) (lp1668 : (List Int) → ByteArray → Int → Option Bool) (l1841 : List Int) (x1844 : ByteArray) : Option Bool :=
  (num_Out_Bytes (⟨l1841⟩ : T25)).bind fun t1849 => (bif (!(ByteArray.toList t1849.1 == ByteArray.toList x1844)) then (some false) else (lp1668 t1849.2.b x1844 (IntKind.wrap .i64 (x1341 + 1))))
def tidewracklaw01_NumWrites_j3 (K : Nat) (p0 : List T27) (l1337 : List Int) (x1340 : ByteArray) (x1341 : Int) (lp1668 : (List Int) → ByteArray → Int → Option Bool) : Option Bool :=
  if 0 ≤ x1341 ∧ x1341 < ((p0).length : Int) then ((tidewracklaw01_Cut ((rdD zT27 p0 x1341).Text) 200).bind fun t1690 => (bif (((rdD zT27 p0 x1341).Kind) == (0 : Int)) then ((num_Out_Num K (⟨l1337⟩ : T25) ([(rdD zT27 p0 x1341).N, 7] : List Int)).bind fun t1921 => ((tidewrackref01_Num K ((rdD zT27 p0 x1341).N)).bind fun t1934 => (if ((t1934.size + (⟨#[7]⟩ : ByteArray).size : Nat) : Int) ≤ 9223372036854775807 then (if ((x1340.size + (t1934 ++ (⟨#[7]⟩ : ByteArray)).size : Nat) : Int) ≤ 9223372036854775807 then ((num_Size K ((rdD zT27 p0 x1341).N)).bind fun t1978 => ((tidewrackref01_Num K ((rdD zT27 p0 x1341).N)).bind fun t1986 => (bif (t1978 != ((t1986).size : Int)) then (some false) else (tidewracklaw01_NumWrites_j4 x1341 lp1668 t1921.b (x1340 ++ (t1934 ++ (⟨#[7]⟩ : ByteArray))))))) else none) else none))) else (bif (((rdD zT27 p0 x1341).Kind) == (1 : Int)) then ((num_Out_Text K (⟨l1337⟩ : T25) ([t1690, (⟨#[]⟩ : ByteArray)] : List ByteArray)).bind fun t1892 => ((tidewrackref01_Text K t1690).bind fun t1905 => (if ((t1905.size + (⟨#[0]⟩ : ByteArray).size : Nat) : Int) ≤ 9223372036854775807 then (if ((x1340.size + (t1905 ++ (⟨#[0]⟩ : ByteArray)).size : Nat) : Int) ≤ 9223372036854775807 then (tidewracklaw01_NumWrites_j4 x1341 lp1668 t1892.b (x1340 ++ (t1905 ++ (⟨#[0]⟩ : ByteArray)))) else none) else none))) else ((num_Out_Raw K (⟨l1337⟩ : T25) ([t1690, t1690] : List ByteArray)).bind fun t1871 => (if ((t1690.size + t1690.size : Nat) : Int) ≤ 9223372036854775807 then (if ((x1340.size + (t1690 ++ t1690).size : Nat) : Int) ≤ 9223372036854775807 then (tidewracklaw01_NumWrites_j4 x1341 lp1668 t1871.b (x1340 ++ (t1690 ++ t1690))) else none) else none))))) else none
def tidewracklaw01_NumWrites_l2 (K : Nat) (p0 : List T27) : Nat → (List Int) → ByteArray → Int → Option Bool
  | 0, _, _, _ => none
  | k1667 + 1, l1337, x1340, x1341 => bif (decide (x1341 < ((p0).length : Int))) then (bif (decide (x1341 < (20 : Int))) then (tidewracklaw01_NumWrites_j3 K p0 l1337 x1340 x1341 (tidewracklaw01_NumWrites_l2 K p0 k1667)) else (tidewracklaw01_NumWrites_j1)) else (tidewracklaw01_NumWrites_j1)
def tidewracklaw01_NumWrites (K : Nat) (p0 : List T27) : Option Bool :=
  (tidewracklaw01_awake K).bind fun t4 => (bif (!t4) then (some false) else (tidewracklaw01_NumWrites_l2 K p0 K ([] : List Int) (⟨#[]⟩ : ByteArray) 0))

/-! tidewrack/tidewracklaw01.NumSizes -/
def tidewracklaw01_NumSizes (K : Nat) (p0 : Int) (p1 : Int) : Option Bool :=
  (tidewracklaw01_awake K).bind fun t4 => (bif (!t4) then (some false) else ((num_Size K (mnI p0 p1)).bind fun t13 => ((num_Size K (mxI p0 p1)).bind fun t21 => (bif (decide (t13 ≥ (1 : Int))) then (bif (decide (t13 ≤ t21)) then (some (decide (t21 ≤ (9 : Int)))) else (some false)) else (some false)))))

/-! (*tidewrack/num.In).Err -/
def num_In_Err (p0 : T62) : Option Int :=
  some p0.e

/-! (*tidewrack/num.In).Left -/
def num_In_Left (p0 : T62) : Option Int :=
  some ((p0.s).size : Int)

/-! tidewrack/tidewracklaw01.NumOnly -/
def tidewracklaw01_NumOnly (K : Nat) (p0 : ByteArray) : Option Bool :=
  (tidewracklaw01_awake K).bind fun t4 => (bif (!t4) then (some false) else ((tidewracklaw01_Cut p0 20).bind fun t13 => ((num_Of t13).bind fun t21 => ((num_In_Num K t21).bind fun t31 => ((num_In_Err t31.2).bind fun t40 => (bif (t40 != (0 : Int)) then (bif (t31.1 == (0 : Int)) then ((num_In_Left t31.2).bind fun t114 => (some (t114 == (0 : Int)))) else (some false)) else ((num_Out_Num K (⟨([] : List Int)⟩ : T25) ([t31.1] : List Int)).bind fun t60 => ((num_Out_Bytes t60).bind fun t73 => ((num_In_Left t31.2).bind fun t86 => (if 0 ≤ (IntKind.wrap .i64 (((t13).size : Int) - t86)) then (if (IntKind.wrap .i64 (((t13).size : Int) - t86)) ≤ ((t13).size : Int) then (bif (ByteArray.toList t73.1 == ByteArray.toList (ByteArray.extract t13 0 (Int.toNat (IntKind.wrap .i64 (((t13).size : Int) - t86))))) then ((num_Size K t31.1).bind fun t97 => ((num_In_Left t31.2).bind fun t105 => (some (t97 == (IntKind.wrap .i64 (((t13).size : Int) - t105)))))) else (some false)) else none) else none))))))))))

/-! (*tidewrack/num.In).Raw -/
def num_In_Raw (p0 : T62) (p1 : Int) : Option (ByteArray × T62) :=
  bif (decide ((mxI 0 p1) > ((p0.s).size : Int))) then ((num_In_Fail p0 2).bind fun t10 => (some ((⟨#[]⟩ : ByteArray), t10))) else (if 0 ≤ (mxI 0 p1) then (if (mxI 0 p1) ≤ ((p0.s).size : Int) then (some ((ByteArray.extract p0.s 0 (Int.toNat (mxI 0 p1))), (⟨(ByteArray.extract p0.s (Int.toNat (mxI 0 p1)) (p0.s).size), p0.e⟩ : T62))) else none) else none)

/-! (*tidewrack/num.In).Text -/
def num_In_Text (K : Nat) (p0 : T62) : Option (ByteArray × T62) :=
  (num_In_Num K p0).bind fun t4 => ((num_In_Raw t4.2 t4.1).bind fun t13 => (some (t13.1, t13.2)))

/-! tidewrack/tidewracklaw01.NumBack -/
def tidewracklaw01_NumBack_j1 (K : Nat) (t25 : ByteArray) (x141 : T62) : Option Bool :=
  (num_In_Text K x141).bind fun t146 => (bif (ByteArray.toList t146.1 == ByteArray.toList t25) then ((num_In_End t146.2).bind fun t156 => (some (t156 == (0 : Int)))) else (some false))
def tidewracklaw01_NumBack_l2 (K : Nat) (p0 : List Int) (t25 : ByteArray) : Nat → T62 → Int → Option Bool
  | 0, _, _ => none
  | k194 + 1, x178, x179 => bif (decide (x179 < (((List.drop 0 (List.take (Int.toNat (mnI ((p0).length : Int) 30)) p0))).length : Int))) then (if 0 ≤ x179 ∧ x179 < (((List.drop 0 (List.take (Int.toNat (mnI ((p0).length : Int) 30)) p0))).length : Int) then ((num_In_Num K x178).bind fun t203 => (bif (t203.1 != (mxI 0 (mnI (rdD 0 (List.drop 0 (List.take (Int.toNat (mnI ((p0).length : Int) 30)) p0)) x179) 4611686018427387904))) then (some false) else ((tidewracklaw01_NumBack_l2 K p0 t25 k194) t203.2 (IntKind.wrap .i64 (x179 + 1))))) else none) else (tidewracklaw01_NumBack_j1 K t25 x178)
def tidewracklaw01_NumBack (K : Nat) (p0 : List Int) (p1 : ByteArray) : Option Bool :=
  (tidewracklaw01_awake K).bind fun t4 => (bif (!t4) then (some false) else (if 0 ≤ (mnI ((p0).length : Int) 30) then (if (mnI ((p0).length : Int) 30) ≤ ((p0).length : Int) then ((tidewracklaw01_Cut p1 100).bind fun t25 => ((num_Out_Num K (⟨([] : List Int)⟩ : T25) (List.drop 0 (List.take (Int.toNat (mnI ((p0).length : Int) 30)) p0))).bind fun t33 => ((num_Out_Text K t33 ([t25] : List ByteArray)).bind fun t52 => ((num_Out_Bytes t52).bind fun t65 => ((num_Of t65.1).bind fun t78 => (tidewracklaw01_NumBack_l2 K p0 t25 K t78 0)))))) else none) else none))

/-! tidewrack/tidewracklaw01.Few -/
def tidewracklaw01_Few_j1 (l127 : List ByteArray) : Option (List ByteArray) :=
  some l127
def tidewracklaw01_Few_j3 (p0 : List ByteArray) (p2 : Int) (l170 : List ByteArray) (x173 : Int) (lp209 : (List ByteArray) → Int → Option (List ByteArray)) : Option (List ByteArray) :=
  if 0 ≤ x173 ∧ x173 < ((p0).length : Int) then ((tidewracklaw01_Cut (rdD (⟨#[]⟩ : ByteArray) p0 x173) p2).bind fun t223 => (if (l170).length + (([t223] : List ByteArray)).length ≤ 1000000000 then (lp209 (l170 ++ ([t223] : List ByteArray)) (IntKind.wrap .i64 (x173 + 1))) else none)) else none
def tidewracklaw01_Few_l2 (p0 : List ByteArray) (p1 : Int) (p2 : Int) : Nat → (List ByteArray) → Int → Option (List ByteArray)
  | 0, _, _ => none
  | k208 + 1, l170, x173 => bif (decide (x173 < ((p0).length : Int))) then (bif (decide (x173 < p1)) then (tidewracklaw01_Few_j3 p0 p2 l170 x173 (tidewracklaw01_Few_l2 p0 p1 p2 k208)) else (tidewracklaw01_Few_j1 l170)) else (tidewracklaw01_Few_j1 l170)
def tidewracklaw01_Few (K : Nat) (p0 : List ByteArray) (p1 : Int) (p2 : Int) : Option (List ByteArray) :=
  tidewracklaw01_Few_l2 p0 p1 p2 K ([] : List ByteArray) 0

/-! tidewrack/tidewracklaw01.NumTexts -/
def tidewracklaw01_NumTexts_j1 (x119 : T62) : Option Bool :=
  (num_In_End x119).bind fun t124 => (some (t124 == (0 : Int)))
def tidewracklaw01_NumTexts_l2 (K : Nat) (t13 : List ByteArray) : Nat → T62 → Int → Option Bool
  | 0, _, _ => none
  | k162 + 1, x146, x147 => bif (decide (x147 < ((t13).length : Int))) then (if 0 ≤ x147 ∧ x147 < ((t13).length : Int) then ((num_In_Text K x146).bind fun t171 => (bif (!(ByteArray.toList t171.1 == ByteArray.toList (rdD (⟨#[]⟩ : ByteArray) t13 x147))) then (some false) else ((tidewracklaw01_NumTexts_l2 K t13 k162) t171.2 (IntKind.wrap .i64 (x147 + 1))))) else none) else (tidewracklaw01_NumTexts_j1 x146)
def tidewracklaw01_NumTexts (K : Nat) (p0 : List ByteArray) : Option Bool :=
  (tidewracklaw01_awake K).bind fun t4 => (bif (!t4) then (some false) else ((tidewracklaw01_Few K p0 12 150).bind fun t13 => ((num_Out_Text K (⟨([] : List Int)⟩ : T25) t13).bind fun t30 => ((num_Out_Bytes t30).bind fun t43 => ((num_Of t43.1).bind fun t56 => (tidewracklaw01_NumTexts_l2 K t13 K t56 0))))))

/-! tidewrack/tidewrackref01.Read -/
def tidewrackref01_Read_j1 : Option (T50 × Int) :=
  some ((⟨(⟨#[]⟩ : ByteArray), 1⟩ : T50), 0)
def tidewrackref01_Read_j3 (p0 : T50) (x243 : Int) (x244 : Int) (x245 : Int) : Option (T50 × Int) :=
  if 0 ≤ (IntKind.wrap .i64 (x245 + 1)) then (if (IntKind.wrap .i64 (x245 + 1)) ≤ ((p0.S).size : Int) then (some ((⟨(ByteArray.extract p0.S (Int.toNat (IntKind.wrap .i64 (x245 + 1))) (p0.S).size), 0⟩ : T50), (IntKind.wrap .i64 (x243 + (IntKind.wrap .i64 ((Int.tmod (IntKind.wrap .i64 (bt p0.S x245)) 128) * x244)))))) else none) else none
def tidewrackref01_Read_j4 (p0 : T50) (x243 : Int) (x244 : Int) (x245 : Int) (x343 : Bool) : Option (T50 × Int) :=
  bif x343 then (some ((⟨(⟨#[]⟩ : ByteArray), 1⟩ : T50), 0)) else (tidewrackref01_Read_j3 p0 x243 x244 x245)
def tidewrackref01_Read_l2 (p0 : T50) : Nat → Int → Int → Int → Option (T50 × Int)
  | 0, _, _, _ => none
  | k299 + 1, x243, x244, x245 => bif (decide (x245 < (9 : Int))) then (bif (x245 == ((p0.S).size : Int)) then (some ((⟨(⟨#[]⟩ : ByteArray), 2⟩ : T50), 0)) else (if 0 ≤ x245 ∧ x245 < ((p0.S).size : Int) then (bif (decide ((IntKind.wrap .i64 (bt p0.S x245)) < (128 : Int))) then (bif (decide (x245 > (0 : Int))) then (bif ((IntKind.wrap .i64 (bt p0.S x245)) == (0 : Int)) then (tidewrackref01_Read_j4 p0 x243 x244 x245 true) else (tidewrackref01_Read_j4 p0 x243 x244 x245 (decide ((IntKind.wrap .i64 (x243 + (IntKind.wrap .i64 ((Int.tmod (IntKind.wrap .i64 (bt p0.S x245)) 128) * x244)))) > (4611686018427387904 : Int))))) else (tidewrackref01_Read_j4 p0 x243 x244 x245 (decide ((IntKind.wrap .i64 (x243 + (IntKind.wrap .i64 ((Int.tmod (IntKind.wrap .i64 (bt p0.S x245)) 128) * x244)))) > (4611686018427387904 : Int))))) else (bif (decide (x245 < (8 : Int))) then ((tidewrackref01_Read_l2 p0 k299) (IntKind.wrap .i64 (x243 + (IntKind.wrap .i64 ((Int.tmod (IntKind.wrap .i64 (bt p0.S x245)) 128) * x244)))) (IntKind.wrap .i64 (x244 * 128)) (IntKind.wrap .i64 (x245 + 1))) else ((tidewrackref01_Read_l2 p0 k299) (IntKind.wrap .i64 (x243 + (IntKind.wrap .i64 ((Int.tmod (IntKind.wrap .i64 (bt p0.S x245)) 128) * x244)))) x244 (IntKind.wrap .i64 (x245 + 1))))) else none)) else (tidewrackref01_Read_j1)
def tidewrackref01_Read (K : Nat) (p0 : T50) : Option (T50 × Int) :=
  bif (p0.E != (0 : Int)) then (some (p0, 0)) else (tidewrackref01_Read_l2 p0 K 0 1 0)

/-! tidewrack/tidewrackref01.Raw -/
def tidewrackref01_Raw (p0 : T50) (p1 : Int) : Option (T50 × ByteArray) :=
  bif (p0.E != (0 : Int)) then (some (p0, (⟨#[]⟩ : ByteArray))) else (bif (decide ((mxI 0 p1) > ((p0.S).size : Int))) then (some ((⟨(⟨#[]⟩ : ByteArray), 2⟩ : T50), (⟨#[]⟩ : ByteArray))) else (if 0 ≤ (mxI 0 p1) then (if (mxI 0 p1) ≤ ((p0.S).size : Int) then (some ((⟨(ByteArray.extract p0.S (Int.toNat (mxI 0 p1)) (p0.S).size), 0⟩ : T50), (ByteArray.extract p0.S 0 (Int.toNat (mxI 0 p1))))) else none) else none))

/-! tidewrack/tidewrackref01.ReadText -/
def tidewrackref01_ReadText (K : Nat) (p0 : T50) : Option (T50 × ByteArray) :=
  (tidewrackref01_Read K p0).bind fun t14 => ((tidewrackref01_Raw t14.1 t14.2).bind fun t30 => (some (t30.1, t30.2)))

/-! tidewrack/tidewrackref01.End -/
def tidewrackref01_End (p0 : T50) : Option Int :=
  bif (p0.E == (0 : Int)) then (bif (!(ByteArray.toList p0.S == ByteArray.toList (⟨#[]⟩ : ByteArray))) then (some 1) else (some p0.E)) else (some p0.E)

/-! tidewrack/tidewracklaw01.NumReads -/
def tidewracklaw01_NumReads_j1 : Option Bool :=
  some true
def tidewracklaw01_NumReads_j4 (x1350 : Int) (lp1676 : T62 → T50 → Int → Option Bool) (x1794 : T62) (x1795 : T50) (x1796 : Int) (x1797 : Int) (x1798 : ByteArray) (x1799 : ByteArray) : Option Bool :=
  bif (x1796 != x1797) then (some false) else (bif (!(ByteArray.toList x1798 == ByteArray.toList x1799)) then (some false) else ((num_In_Left x1794).bind fun t1880 => (bif (t1880 != ((x1795.S).size : Int)) then (some false) else ((num_In_Err x1794).bind fun t1889 => (bif (t1889 != x1795.E) then (some false) else ((num_In_End x1794).bind fun t1898 => ((tidewrackref01_End x1795).bind fun t1906 => (bif (t1898 != t1906) then (some false) else (lp1676 x1794 x1795 (IntKind.wrap .i64 (x1350 + 1)))))))))))
def tidewracklaw01_NumReads_j5 (p1 : List T27) (x1349 : T50) (x1350 : Int) (lp1676 : T62 → T50 → Int → Option Bool) (t1918 : T62) (x1932 : Bool) : Option Bool :=
  bif x1932 then (tidewracklaw01_NumReads_j4 x1350 lp1676 t1918 (⟨(⟨#[]⟩ : ByteArray), (bits .and .i64 ((rdD zT27 p1 x1350).N) 7)⟩ : T50) 0 0 (⟨#[]⟩ : ByteArray) (⟨#[]⟩ : ByteArray)) else (tidewracklaw01_NumReads_j4 x1350 lp1676 t1918 x1349 0 0 (⟨#[]⟩ : ByteArray) (⟨#[]⟩ : ByteArray))
def tidewracklaw01_NumReads_j3 (K : Nat) (p1 : List T27) (x1348 : T62) (x1349 : T50) (x1350 : Int) (lp1676 : T62 → T50 → Int → Option Bool) : Option Bool :=
  if 0 ≤ x1350 ∧ x1350 < ((p1).length : Int) then (bif (((rdD zT27 p1 x1350).Kind) == (0 : Int)) then ((num_In_Num K x1348).bind fun t1982 => ((tidewrackref01_Read K x1349).bind fun t1991 => (tidewracklaw01_NumReads_j4 x1350 lp1676 t1982.2 t1991.1 t1982.1 t1991.2 (⟨#[]⟩ : ByteArray) (⟨#[]⟩ : ByteArray)))) else (bif (((rdD zT27 p1 x1350).Kind) == (1 : Int)) then ((num_In_Text K x1348).bind fun t1962 => ((tidewrackref01_ReadText K x1349).bind fun t1971 => (tidewracklaw01_NumReads_j4 x1350 lp1676 t1962.2 t1971.1 0 0 t1962.1 t1971.2))) else (bif (((rdD zT27 p1 x1350).Kind) == (2 : Int)) then ((num_In_Raw x1348 ((rdD zT27 p1 x1350).N)).bind fun t1942 => ((tidewrackref01_Raw x1349 ((rdD zT27 p1 x1350).N)).bind fun t1951 => (tidewracklaw01_NumReads_j4 x1350 lp1676 t1942.2 t1951.1 0 0 t1942.1 t1951.2))) else ((num_In_Fail x1348 (bits .and .i64 ((rdD zT27 p1 x1350).N) 7)).bind fun t1918 => (bif (x1349.E == (0 : Int)) then (tidewracklaw01_NumReads_j5 p1 x1349 x1350 lp1676 t1918 ((bits .and .i64 ((rdD zT27 p1 x1350).N) 7) != (0 : Int))) else (tidewracklaw01_NumReads_j5 p1 x1349 x1350 lp1676 t1918 false)))))) else none
def tidewracklaw01_NumReads_l2 (K : Nat) (p1 : List T27) : Nat → T62 → T50 → Int → Option Bool
  | 0, _, _, _ => none
  | k1675 + 1, x1348, x1349, x1350 => bif (decide (x1350 < ((p1).length : Int))) then (bif (decide (x1350 < (20 : Int))) then (tidewracklaw01_NumReads_j3 K p1 x1348 x1349 x1350 (tidewracklaw01_NumReads_l2 K p1 k1675)) else (tidewracklaw01_NumReads_j1)) else (tidewracklaw01_NumReads_j1)
def tidewracklaw01_NumReads (K : Nat) (p0 : ByteArray) (p1 : List T27) : Option Bool :=
  (tidewracklaw01_awake K).bind fun t4 => (bif (!t4) then (some false) else ((tidewracklaw01_Cut p0 80).bind fun t13 => ((num_Of t13).bind fun t21 => (tidewracklaw01_NumReads_l2 K p1 K t21 (⟨t13, 0⟩ : T50) 0))))

end Go.Proofs.Ythacdmompikhgaa
