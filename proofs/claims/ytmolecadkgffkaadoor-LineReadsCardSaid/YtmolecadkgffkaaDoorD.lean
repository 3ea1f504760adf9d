/- Plain functions, printed by an own program: what the walked code computes. -/
import Derived.Test.YtmolecadkgffkaaDoorZ4
set_option linter.unusedVariables false
set_option linter.unusedSimpArgs false
namespace Go.Proofs.YtmolecadkgffkaaDoor
open Go Go.Proofs.XC
structure T47 where
  word : ByteArray
  nums : Int
  text : Bool
abbrev zT47 : T47 := ⟨(⟨#[]⟩ : ByteArray), 0, false⟩
structure T71 where
  buf : List Int
structure T25 where
  Word : ByteArray
  Nums : List Int
  Text : ByteArray
namespace WF
def wfBool (_ : Bool) : Prop := True
def wfStr (x : ByteArray) : Prop := x.size ≤ maxLen
def wfi64 (x : Int) : Prop := (Lit.int .i64 x).wf = true
def wfi32 (x : Int) : Prop := (Lit.int .i32 x).wf = true
def wfu8 (x : Int) : Prop := (Lit.int .u8 x).wf = true
def wfu32 (x : Int) : Prop := (Lit.int .u32 x).wf = true
def wfu64 (x : Int) : Prop := (Lit.int .u64 x).wf = true
def wfi8 (x : Int) : Prop := (Lit.int .i8 x).wf = true
def wfi16 (x : Int) : Prop := (Lit.int .i16 x).wf = true
def wfu16 (x : Int) : Prop := (Lit.int .u16 x).wf = true
def wfT47 (x : T47) : Prop := x.word.size ≤ maxLen ∧ (Lit.int .i64 x.nums).wf = true
def wfT71 (x : T71) : Prop := (∀ y ∈ x.buf, wfu8 y) ∧ x.buf.length ≤ maxLen
def wfT25 (x : T25) : Prop := x.Word.size ≤ maxLen ∧ (∀ y ∈ x.Nums, wfi64 y) ∧ x.Nums.length ≤ maxLen ∧ x.Text.size ≤ maxLen
end WF
def glob0 : List T47 := [⟨(⟨#[97, 108, 108]⟩ : ByteArray), 0, false⟩, ⟨(⟨#[99, 108, 111, 99, 107]⟩ : ByteArray), 0, false⟩, ⟨(⟨#[100, 101, 108, 105, 118, 101, 114]⟩ : ByteArray), 1, false⟩, ⟨(⟨#[100, 111]⟩ : ByteArray), 0, true⟩, ⟨(⟨#[102, 111, 114, 103, 101]⟩ : ByteArray), 2, true⟩, ⟨(⟨#[104, 97, 110, 100]⟩ : ByteArray), 0, false⟩, ⟨(⟨#[108, 105, 110, 101]⟩ : ByteArray), 1, false⟩, ⟨(⟨#[108, 111, 115, 101]⟩ : ByteArray), 1, false⟩, ⟨(⟨#[109, 111, 118, 101]⟩ : ByteArray), 1, false⟩, ⟨(⟨#[110, 101, 116]⟩ : ByteArray), 0, false⟩, ⟨(⟨#[114, 101, 115, 116, 97, 114, 116]⟩ : ByteArray), 2, false⟩, ⟨(⟨#[115, 99, 114, 101, 101, 110]⟩ : ByteArray), 0, false⟩, ⟨(⟨#[115, 101, 101]⟩ : ByteArray), 3, false⟩, ⟨(⟨#[115, 101, 115, 115, 105, 111, 110]⟩ : ByteArray), 6, false⟩, ⟨(⟨#[115, 105, 122, 101]⟩ : ByteArray), 2, false⟩, ⟨(⟨#[115, 116, 97, 116, 101]⟩ : ByteArray), 0, false⟩, ⟨(⟨#[116, 105, 99, 107]⟩ : ByteArray), 1, false⟩, ⟨(⟨#[116, 117, 114, 110]⟩ : ByteArray), 3, false⟩, ⟨(⟨#[116, 119, 105, 110]⟩ : ByteArray), 1, false⟩, ⟨(⟨#[119, 97, 110, 116]⟩ : ByteArray), 2, false⟩]
/-! strings.Cut -/
def strings_Cut (p0 : ByteArray) (p1 : ByteArray) : Option (ByteArray × ByteArray × Bool) :=
  if p0.size < 4294967281 then some ((⟨(Lib.cut p0.data.toList p1.data.toList).1.toArray⟩ : ByteArray), (⟨(Lib.cut p0.data.toList p1.data.toList).2.1.toArray⟩ : ByteArray), (Lib.cut p0.data.toList p1.data.toList).2.2) else none

/-! internal/stringslite.HasSuffix -/
def stringslite_HasSuffix (p0 : ByteArray) (p1 : ByteArray) : Option Bool :=
  bif (decide (((p0).size : Int) ≥ ((p1).size : Int))) then (if 0 ≤ (IntKind.wrap .i64 (((p0).size : Int) - ((p1).size : Int))) then (if (IntKind.wrap .i64 (((p0).size : Int) - ((p1).size : Int))) ≤ ((p0).size : Int) then (some (ByteArray.toList (ByteArray.extract p0 (Int.toNat (IntKind.wrap .i64 (((p0).size : Int) - ((p1).size : Int)))) (p0).size) == ByteArray.toList p1)) else none) else none) else (some false)

/-! internal/stringslite.CutSuffix -/
def stringslite_CutSuffix (p0 : ByteArray) (p1 : ByteArray) : Option (ByteArray × Bool) :=
  (stringslite_HasSuffix p0 p1).bind fun t4 => (bif (!t4) then (some (p0, false)) else (if 0 ≤ (IntKind.wrap .i64 (((p0).size : Int) - ((p1).size : Int))) then (if (IntKind.wrap .i64 (((p0).size : Int) - ((p1).size : Int))) ≤ ((p0).size : Int) then (some ((ByteArray.extract p0 0 (Int.toNat (IntKind.wrap .i64 (((p0).size : Int) - ((p1).size : Int))))), true)) else none) else none))

/-! strings.CutSuffix -/
def strings_CutSuffix (p0 : ByteArray) (p1 : ByteArray) : Option (ByteArray × Bool) :=
  (stringslite_CutSuffix p0 p1).bind fun t4 => (some (t4.1, t4.2))

/-! strings.Split -/
def strings_Split (p0 : ByteArray) (p1 : ByteArray) : Option (List ByteArray) :=
  if p0.size < 4294967281 ∧ 1 ≤ p1.size then some (Lib.splitB p1 0 (Lib.countB p0 p1) p0) else none

/-! tidewrack/line.split -/
def line_split_j1 (t4 : ByteArray × ByteArray × Bool) (t12 : ByteArray × Bool) : Option (ByteArray × (List ByteArray) × Bool) :=
  bif (ByteArray.toList t12.1 == ByteArray.toList (⟨#[]⟩ : ByteArray)) then (some (t4.1, ([] : List ByteArray), true)) else ((strings_Split t12.1 (⟨#[44]⟩ : ByteArray)).bind fun t38 => (some (t4.1, t38, true)))
def line_split_j2 (t4 : ByteArray × ByteArray × Bool) (t12 : ByteArray × Bool) (x55 : Bool) : Option (ByteArray × (List ByteArray) × Bool) :=
  bif x55 then (some ((⟨#[]⟩ : ByteArray), ([] : List ByteArray), false)) else (line_split_j1 t4 t12)
def line_split (p0 : ByteArray) : Option (ByteArray × (List ByteArray) × Bool) :=
  (strings_Cut p0 (⟨#[40]⟩ : ByteArray)).bind fun t4 => ((strings_CutSuffix t4.2.1 (⟨#[41]⟩ : ByteArray)).bind fun t12 => (bif (!t4.2.2) then (line_split_j2 t4 t12 true) else (line_split_j2 t4 t12 (!t12.2))))

/-! tidewrack/line.find -/
def line_find_j1 : Option (T47 × Bool) :=
  some ((⟨(⟨#[]⟩ : ByteArray), 0, false⟩ : T47), false)
def line_find_l2 (p0 : ByteArray) : Nat → Int → Option (T47 × Bool)
  | 0, _ => none
  | k99 + 1, x83 => bif (decide (x83 < (20 : Int))) then (if 0 ≤ x83 ∧ x83 < ((glob0).length : Int) then (bif (ByteArray.toList ((rdD zT47 glob0 x83).word) == ByteArray.toList p0) then (some ((rdD zT47 glob0 x83), true)) else ((line_find_l2 p0 k99) (IntKind.wrap .i64 (x83 + 1)))) else none) else (line_find_j1)
def line_find (K : Nat) (p0 : ByteArray) : Option (T47 × Bool) :=
  line_find_l2 p0 K 0

/-! strconv.Atoi -/
def strconv_Atoi (p0 : ByteArray) : Option (Int × Bool) :=
  if p0.size ≤ 281474976710656 then some (atoiX p0) else none

/-! strconv.Itoa -/
def strconv_Itoa (p0 : Int) : Option ByteArray :=
  if -9223372036854775808 ≤ p0 ∧ p0 ≤ 9223372036854775807 then some (⟨(Lib.itoa p0).toArray⟩ : ByteArray) else none

/-! tidewrack/line.number -/
def line_number (p0 : ByteArray) : Option (Int × Bool) :=
  (strconv_Atoi p0).bind fun t4 => (bif t4.2 then (bif (decide (t4.1 ≥ (0 : Int))) then (bif (decide (t4.1 ≤ (4294967295 : Int))) then ((strconv_Itoa t4.1).bind fun t16 => (some (t4.1, (ByteArray.toList t16 == ByteArray.toList p0)))) else (some (t4.1, false))) else (some (t4.1, false))) else (some (t4.1, false)))

/-! strings.IndexByte -/
def strings_IndexByte (p0 : ByteArray) (p1 : Int) : Option Int :=
  some (Lib.indexByte p0.data.toList p1.toNat.toUInt8)

/-! strings.ContainsRune -/
def strings_ContainsRune (p0 : ByteArray) (p1 : Int) : Option Bool :=
  if 0 ≤ p1 ∧ p1 < 128 then some (decide (0 ≤ Lib.indexByte p0.data.toList p1.toNat.toUInt8)) else none

/-! tidewrack/line.plain -/
def line_plain (p0 : Int) : Option Bool :=
  bif (decide (p0 ≥ (33 : Int))) then (bif (decide (p0 ≤ (126 : Int))) then ((strings_ContainsRune (⟨#[37, 40, 41, 44]⟩ : ByteArray) (IntKind.wrap .i32 p0)).bind fun t6 => (some (!t6))) else (some false)) else (some false)

/-! (*strings.Builder).copyCheck -/
def strings_Builder_copyCheck (p0 : T71) : Option T71 :=
  some p0

/-! (*strings.Builder).WriteByte -/
def strings_Builder_WriteByte (p0 : T71) (p1 : Int) : Option T71 :=
  (strings_Builder_copyCheck p0).bind fun t4 => (if (t4.buf).length + (([p1] : List Int)).length ≤ 1000000000 then (some (⟨(t4.buf ++ ([p1] : List Int))⟩ : T71)) else none)

/-! (*strings.Builder).WriteString -/
def strings_Builder_WriteString (p0 : T71) (p1 : ByteArray) : Option (Int × T71) :=
  (strings_Builder_copyCheck p0).bind fun t4 => (if (t4.buf).length + (p1).size ≤ 1000000000 then (some (((p1).size : Int), (⟨(t4.buf ++ numsOf p1)⟩ : T71))) else none)

/-! (*strings.Builder).String -/
def strings_Builder_String (p0 : T71) : Option ByteArray :=
  some (strOfNums p0.buf)

/-! tidewrack/line.write -/
def line_write_j1 (l318 : List Int) : Option ByteArray :=
  (strings_Builder_String (⟨l318⟩ : T71)).bind fun t325 => (some t325)
def line_write_l2 (p0 : ByteArray) : Nat → (List Int) → Int → Option ByteArray
  | 0, _, _ => none
  | k531 + 1, l431, x434 => bif (decide (x434 < ((p0).size : Int))) then (if 0 ≤ x434 ∧ x434 < ((p0).size : Int) then ((line_plain (bt p0 x434)).bind fun t539 => (bif t539 then ((strings_Builder_WriteByte (⟨l431⟩ : T71) (bt p0 x434)).bind fun t619 => ((line_write_l2 p0 k531) t619.buf (IntKind.wrap .i64 (x434 + 1)))) else (if 0 ≤ (IntKind.wrap .u8 ((Int.fdiv (bt p0 x434) (2 ^ min (Int.toNat 4) 8)) + 1)) then (if (IntKind.wrap .u8 ((Int.fdiv (bt p0 x434) (2 ^ min (Int.toNat 4) 8)) + 1)) ≤ (((⟨#[48, 49, 50, 51, 52, 53, 54, 55, 56, 57, 65, 66, 67, 68, 69, 70]⟩ : ByteArray)).size : Int) then (if 0 ≤ (Int.fdiv (bt p0 x434) (2 ^ min (Int.toNat 4) 8)) then (if (Int.fdiv (bt p0 x434) (2 ^ min (Int.toNat 4) 8)) ≤ ((Int.toNat (IntKind.wrap .u8 ((Int.fdiv (bt p0 x434) (2 ^ min (Int.toNat 4) 8)) + 1)) : Nat) : Int) then (if (((⟨#[37]⟩ : ByteArray).size + (ByteArray.extract (⟨#[48, 49, 50, 51, 52, 53, 54, 55, 56, 57, 65, 66, 67, 68, 69, 70]⟩ : ByteArray) (Int.toNat (Int.fdiv (bt p0 x434) (2 ^ min (Int.toNat 4) 8))) (Int.toNat (IntKind.wrap .u8 ((Int.fdiv (bt p0 x434) (2 ^ min (Int.toNat 4) 8)) + 1)))).size : Nat) : Int) ≤ 9223372036854775807 then (if 0 ≤ (IntKind.wrap .u8 ((bits .and .u8 (bt p0 x434) 15) + 1)) then (if (IntKind.wrap .u8 ((bits .and .u8 (bt p0 x434) 15) + 1)) ≤ (((⟨#[48, 49, 50, 51, 52, 53, 54, 55, 56, 57, 65, 66, 67, 68, 69, 70]⟩ : ByteArray)).size : Int) then (if 0 ≤ (bits .and .u8 (bt p0 x434) 15) then (if (bits .and .u8 (bt p0 x434) 15) ≤ ((Int.toNat (IntKind.wrap .u8 ((bits .and .u8 (bt p0 x434) 15) + 1)) : Nat) : Int) then (if ((((⟨#[37]⟩ : ByteArray) ++ (ByteArray.extract (⟨#[48, 49, 50, 51, 52, 53, 54, 55, 56, 57, 65, 66, 67, 68, 69, 70]⟩ : ByteArray) (Int.toNat (Int.fdiv (bt p0 x434) (2 ^ min (Int.toNat 4) 8))) (Int.toNat (IntKind.wrap .u8 ((Int.fdiv (bt p0 x434) (2 ^ min (Int.toNat 4) 8)) + 1))))).size + (ByteArray.extract (⟨#[48, 49, 50, 51, 52, 53, 54, 55, 56, 57, 65, 66, 67, 68, 69, 70]⟩ : ByteArray) (Int.toNat (bits .and .u8 (bt p0 x434) 15)) (Int.toNat (IntKind.wrap .u8 ((bits .and .u8 (bt p0 x434) 15) + 1)))).size : Nat) : Int) ≤ 9223372036854775807 then ((strings_Builder_WriteString (⟨l431⟩ : T71) (((⟨#[37]⟩ : ByteArray) ++ (ByteArray.extract (⟨#[48, 49, 50, 51, 52, 53, 54, 55, 56, 57, 65, 66, 67, 68, 69, 70]⟩ : ByteArray) (Int.toNat (Int.fdiv (bt p0 x434) (2 ^ min (Int.toNat 4) 8))) (Int.toNat (IntKind.wrap .u8 ((Int.fdiv (bt p0 x434) (2 ^ min (Int.toNat 4) 8)) + 1))))) ++ (ByteArray.extract (⟨#[48, 49, 50, 51, 52, 53, 54, 55, 56, 57, 65, 66, 67, 68, 69, 70]⟩ : ByteArray) (Int.toNat (bits .and .u8 (bt p0 x434) 15)) (Int.toNat (IntKind.wrap .u8 ((bits .and .u8 (bt p0 x434) 15) + 1)))))).bind fun t606 => ((line_write_l2 p0 k531) t606.2.buf (IntKind.wrap .i64 (x434 + 1)))) else none) else none) else none) else none) else none) else none) else none) else none) else none) else none))) else none) else (line_write_j1 l431)
def line_write (K : Nat) (p0 : ByteArray) : Option ByteArray :=
  line_write_l2 p0 K ([] : List Int) 0

/-! tidewrack/line.read -/
def line_read_j1 (K : Nat) (p0 : ByteArray) (l379 : List Int) : Option (ByteArray × Bool) :=
  (line_write K (strOfNums l379)).bind fun t386 => (some ((strOfNums l379), (ByteArray.toList t386 == ByteArray.toList p0)))
def line_read_j3 (l514 : List Int) (x517 : Int) (lp637 : (List Int) → Int → Option (ByteArray × Bool)) (t686 : Int) (t694 : Int) : Option (ByteArray × Bool) :=
  if (l514).length + (([(IntKind.wrap .u8 (bits .or .i64 (IntKind.wrap .i64 (t686 * 2 ^ min (Int.toNat 4) 64)) t694))] : List Int)).length ≤ 1000000000 then (lp637 (l514 ++ ([(IntKind.wrap .u8 (bits .or .i64 (IntKind.wrap .i64 (t686 * 2 ^ min (Int.toNat 4) 64)) t694))] : List Int)) (IntKind.wrap .i64 ((IntKind.wrap .i64 (x517 + 2)) + 1))) else none
def line_read_j4 (l514 : List Int) (x517 : Int) (lp637 : (List Int) → Int → Option (ByteArray × Bool)) (t686 : Int) (t694 : Int) (x738 : Bool) : Option (ByteArray × Bool) :=
  bif x738 then (some ((⟨#[]⟩ : ByteArray), false)) else (line_read_j3 l514 x517 lp637 t686 t694)
def line_read_l2 (K : Nat) (p0 : ByteArray) : Nat → (List Int) → Int → Option (ByteArray × Bool)
  | 0, _, _ => none
  | k636 + 1, l514, x517 => bif (decide (x517 < ((p0).size : Int))) then (if 0 ≤ x517 ∧ x517 < ((p0).size : Int) then (bif ((bt p0 x517) != (37 : Int)) then (if (l514).length + (([(bt p0 x517)] : List Int)).length ≤ 1000000000 then ((line_read_l2 K p0 k636) (l514 ++ ([(bt p0 x517)] : List Int)) (IntKind.wrap .i64 (x517 + 1))) else none) else (bif (decide ((IntKind.wrap .i64 (x517 + 2)) ≥ ((p0).size : Int))) then (some ((⟨#[]⟩ : ByteArray), false)) else (if 0 ≤ (IntKind.wrap .i64 (x517 + 1)) ∧ (IntKind.wrap .i64 (x517 + 1)) < ((p0).size : Int) then (if 0 ≤ (IntKind.wrap .i64 (x517 + 2)) ∧ (IntKind.wrap .i64 (x517 + 2)) < ((p0).size : Int) then ((strings_IndexByte (⟨#[48, 49, 50, 51, 52, 53, 54, 55, 56, 57, 65, 66, 67, 68, 69, 70]⟩ : ByteArray) (bt p0 (IntKind.wrap .i64 (x517 + 1)))).bind fun t686 => ((strings_IndexByte (⟨#[48, 49, 50, 51, 52, 53, 54, 55, 56, 57, 65, 66, 67, 68, 69, 70]⟩ : ByteArray) (bt p0 (IntKind.wrap .i64 (x517 + 2)))).bind fun t694 => (bif (decide (t686 < (0 : Int))) then (line_read_j4 l514 x517 (line_read_l2 K p0 k636) t686 t694 true) else (line_read_j4 l514 x517 (line_read_l2 K p0 k636) t686 t694 (decide (t694 < (0 : Int))))))) else none) else none))) else none) else (line_read_j1 K p0 l514)
def line_read (K : Nat) (p0 : ByteArray) : Option (ByteArray × Bool) :=
  line_read_l2 K p0 K ([] : List Int) 0

/-! strings.Join -/
def strings_Join (p0 : List ByteArray) (p1 : ByteArray) : Option ByteArray :=
  if p0.length ≤ 140737488355328 ∧ (Lib.join (p0.map (·.data.toList)) p1.data.toList).length ≤ 140737488355328 then some (⟨(Lib.join (p0.map (·.data.toList)) p1.data.toList).toArray⟩ : ByteArray) else none

/-! (tidewrack/line.Step).Line -/
def line_Step_Line_j3 (p0 : T25) (l179 : List ByteArray) : Option ByteArray :=
  if ((p0.Word.size + (⟨#[40]⟩ : ByteArray).size : Nat) : Int) ≤ 9223372036854775807 then ((strings_Join l179 (⟨#[44]⟩ : ByteArray)).bind fun t211 => (if (((p0.Word ++ (⟨#[40]⟩ : ByteArray)).size + t211.size : Nat) : Int) ≤ 9223372036854775807 then (if ((((p0.Word ++ (⟨#[40]⟩ : ByteArray)) ++ t211).size + (⟨#[41]⟩ : ByteArray).size : Nat) : Int) ≤ 9223372036854775807 then (bif (decide ((((((p0.Word ++ (⟨#[40]⟩ : ByteArray)) ++ t211) ++ (⟨#[41]⟩ : ByteArray))).size : Int) > (4000 : Int))) then (some (⟨#[]⟩ : ByteArray)) else (some (((p0.Word ++ (⟨#[40]⟩ : ByteArray)) ++ t211) ++ (⟨#[41]⟩ : ByteArray)))) else none) else none)) else none
def line_Step_Line_j2 (K : Nat) (p0 : T25) (t9 : T47 × Bool) (l139 : List ByteArray) : Option ByteArray :=
  bif t9.1.text then ((line_write K p0.Text).bind fun t223 => (if (l139).length + (([t223] : List ByteArray)).length ≤ 1000000000 then (line_Step_Line_j3 p0 (l139 ++ ([t223] : List ByteArray))) else none)) else (line_Step_Line_j3 p0 l139)
def line_Step_Line_l4 (K : Nat) (p0 : T25) (t9 : T47 × Bool) : Nat → (List ByteArray) → Int → Option ByteArray
  | 0, _, _ => none
  | k307 + 1, l275, x278 => bif (decide (x278 < ((p0.Nums).length : Int))) then (if 0 ≤ x278 ∧ x278 < ((p0.Nums).length : Int) then (bif (decide ((rdD 0 p0.Nums x278) < (0 : Int))) then (some (⟨#[]⟩ : ByteArray)) else (bif (decide ((rdD 0 p0.Nums x278) > (4294967295 : Int))) then (some (⟨#[]⟩ : ByteArray)) else ((strconv_Itoa (rdD 0 p0.Nums x278)).bind fun t318 => (if (l275).length + (([t318] : List ByteArray)).length ≤ 1000000000 then ((line_Step_Line_l4 K p0 t9 k307) (l275 ++ ([t318] : List ByteArray)) (IntKind.wrap .i64 (x278 + 1))) else none)))) else none) else (line_Step_Line_j2 K p0 t9 l275)
def line_Step_Line_j1 (K : Nat) (p0 : T25) (t9 : T47 × Bool) : Option ByteArray :=
  line_Step_Line_l4 K p0 t9 K ([] : List ByteArray) 0
def line_Step_Line (K : Nat) (p0 : T25) : Option ByteArray :=
  (line_find K p0.Word).bind fun t9 => (bif (!t9.2) then (some (⟨#[]⟩ : ByteArray)) else (bif (((p0.Nums).length : Int) != t9.1.nums) then (some (⟨#[]⟩ : ByteArray)) else (bif (!t9.1.text) then (bif (!(ByteArray.toList p0.Text == ByteArray.toList (⟨#[]⟩ : ByteArray))) then (some (⟨#[]⟩ : ByteArray)) else (line_Step_Line_j1 K p0 t9)) else (line_Step_Line_j1 K p0 t9))))

/-! tidewrack/line.Parse -/
def line_Parse_j2 (K : Nat) (p0 : ByteArray) (t10 : ByteArray × (List ByteArray) × Bool) (l398 : List Int) (x401 : ByteArray) : Option (T25 × Int) :=
  (line_Step_Line K (⟨t10.1, l398, x401⟩ : T25)).bind fun t406 => (bif (!(ByteArray.toList t406 == ByteArray.toList p0)) then (some ((⟨(⟨#[]⟩ : ByteArray), ([] : List Int), (⟨#[]⟩ : ByteArray)⟩ : T25), 1)) else (some ((⟨t10.1, l398, x401⟩ : T25), 0)))
def line_Parse_j4 (x530 : Int) (lp635 : (List Int) → ByteArray → Int → Option (T25 × Int)) (l692 : List Int) (x695 : ByteArray) (x696 : Bool) : Option (T25 × Int) :=
  bif (!x696) then (some ((⟨(⟨#[]⟩ : ByteArray), ([] : List Int), (⟨#[]⟩ : ByteArray)⟩ : T25), 1)) else (lp635 l692 x695 (IntKind.wrap .i64 (x530 + 1)))
def line_Parse_l3 (K : Nat) (p0 : ByteArray) (t10 : ByteArray × (List ByteArray) × Bool) (t22 : T47 × Bool) : Nat → (List Int) → ByteArray → Int → Option (T25 × Int)
  | 0, _, _, _ => none
  | k634 + 1, l526, x529, x530 => bif (decide (x530 < ((t10.2.1).length : Int))) then (if 0 ≤ x530 ∧ x530 < ((t10.2.1).length : Int) then (bif (decide (x530 < t22.1.nums)) then ((line_number (rdD (⟨#[]⟩ : ByteArray) t10.2.1 x530)).bind fun t717 => (if (l526).length + (([t717.1] : List Int)).length ≤ 1000000000 then (line_Parse_j4 x530 (line_Parse_l3 K p0 t10 t22 k634) (l526 ++ ([t717.1] : List Int)) x529 t717.2) else none)) else ((line_read K (rdD (⟨#[]⟩ : ByteArray) t10.2.1 x530)).bind fun t706 => (line_Parse_j4 x530 (line_Parse_l3 K p0 t10 t22 k634) l526 t706.1 t706.2))) else none) else (line_Parse_j2 K p0 t10 l526 x529)
def line_Parse_j1 (K : Nat) (p0 : ByteArray) (t10 : ByteArray × (List ByteArray) × Bool) (t22 : T47 × Bool) : Option (T25 × Int) :=
  line_Parse_l3 K p0 t10 t22 K ([] : List Int) (⟨#[]⟩ : ByteArray) 0
def line_Parse_j5 (K : Nat) (p0 : ByteArray) (t10 : ByteArray × (List ByteArray) × Bool) (t22 : T47 × Bool) (x747 : Bool) : Option (T25 × Int) :=
  bif x747 then (some ((⟨(⟨#[]⟩ : ByteArray), ([] : List Int), (⟨#[]⟩ : ByteArray)⟩ : T25), 1)) else (line_Parse_j1 K p0 t10 t22)
def line_Parse (K : Nat) (p0 : ByteArray) : Option (T25 × Int) :=
  bif (decide (((p0).size : Int) > (4000 : Int))) then (some ((⟨(⟨#[]⟩ : ByteArray), ([] : List Int), (⟨#[]⟩ : ByteArray)⟩ : T25), 3)) else ((line_split p0).bind fun t10 => ((line_find K t10.1).bind fun t22 => (bif (!t10.2.2) then (line_Parse_j5 K p0 t10 t22 true) else (line_Parse_j5 K p0 t10 t22 (!t22.2)))))

/-! tidewrack/tidewracklaw27.awake -/
def tidewracklaw27_awake (K : Nat)  : Option Bool :=
  (line_Parse K (⟨#[100, 111, 40, 97, 37, 50, 48, 98, 37, 48, 65, 41]⟩ : ByteArray)).bind fun t4 => ((line_Parse K (⟨#[100, 111, 40, 97, 32, 98, 41]⟩ : ByteArray)).bind fun t24 => (bif (t4.2 == (0 : Int)) then (bif (t24.2 == (1 : Int)) then (bif (ByteArray.toList t4.1.Word == ByteArray.toList (⟨#[100, 111]⟩ : ByteArray)) then (bif (ByteArray.toList t4.1.Text == ByteArray.toList (⟨#[97, 32, 98, 10]⟩ : ByteArray)) then ((line_Step_Line K (⟨(⟨#[115, 101, 101]⟩ : ByteArray), ([1, 2, 3] : List Int), (⟨#[]⟩ : ByteArray)⟩ : T25)).bind fun t54 => (some (ByteArray.toList t54 == ByteArray.toList (⟨#[115, 101, 101, 40, 49, 44, 50, 44, 51, 41]⟩ : ByteArray)))) else (some false)) else (some false)) else (some false)) else (some false)))

/-! tidewrack/tidewracklaw01.Cut -/
def tidewracklaw01_Cut (p0 : ByteArray) (p1 : Int) : Option ByteArray :=
  bif (decide (((p0).size : Int) > p1)) then (if 0 ≤ p1 then (if p1 ≤ ((p0).size : Int) then (some (ByteArray.extract p0 0 (Int.toNat p1))) else none) else none) else (some p0)

/-! tidewrack/tidewrackref27.Form -/
def tidewrackref27_Form_j4 (p0 : ByteArray) (x52 : Bool) : Option (Int × Bool) :=
  bif x52 then (some (3, false)) else (bif (ByteArray.toList p0 == ByteArray.toList (⟨#[102, 111, 114, 103, 101]⟩ : ByteArray)) then (some (2, true)) else (bif (ByteArray.toList p0 == ByteArray.toList (⟨#[115, 101, 115, 115, 105, 111, 110]⟩ : ByteArray)) then (some (6, false)) else (some ((-1), false))))
def tidewrackref27_Form_j3 (p0 : ByteArray) (x41 : Bool) : Option (Int × Bool) :=
  bif x41 then (some (2, false)) else (bif (ByteArray.toList p0 == ByteArray.toList (⟨#[115, 101, 101]⟩ : ByteArray)) then (tidewrackref27_Form_j4 p0 true) else (tidewrackref27_Form_j4 p0 (ByteArray.toList p0 == ByteArray.toList (⟨#[116, 117, 114, 110]⟩ : ByteArray))))
def tidewrackref27_Form_j2 (p0 : ByteArray) (x29 : Bool) : Option (Int × Bool) :=
  bif x29 then (some (1, false)) else (bif (ByteArray.toList p0 == ByteArray.toList (⟨#[115, 105, 122, 101]⟩ : ByteArray)) then (tidewrackref27_Form_j3 p0 true) else (bif (ByteArray.toList p0 == ByteArray.toList (⟨#[119, 97, 110, 116]⟩ : ByteArray)) then (tidewrackref27_Form_j3 p0 true) else (tidewrackref27_Form_j3 p0 (ByteArray.toList p0 == ByteArray.toList (⟨#[114, 101, 115, 116, 97, 114, 116]⟩ : ByteArray)))))
def tidewrackref27_Form_j1 (p0 : ByteArray) (x13 : Bool) : Option (Int × Bool) :=
  bif x13 then (some (0, false)) else (bif (ByteArray.toList p0 == ByteArray.toList (⟨#[100, 111]⟩ : ByteArray)) then (some (0, true)) else (bif (ByteArray.toList p0 == ByteArray.toList (⟨#[116, 105, 99, 107]⟩ : ByteArray)) then (tidewrackref27_Form_j2 p0 true) else (bif (ByteArray.toList p0 == ByteArray.toList (⟨#[100, 101, 108, 105, 118, 101, 114]⟩ : ByteArray)) then (tidewrackref27_Form_j2 p0 true) else (bif (ByteArray.toList p0 == ByteArray.toList (⟨#[108, 111, 115, 101]⟩ : ByteArray)) then (tidewrackref27_Form_j2 p0 true) else (bif (ByteArray.toList p0 == ByteArray.toList (⟨#[116, 119, 105, 110]⟩ : ByteArray)) then (tidewrackref27_Form_j2 p0 true) else (bif (ByteArray.toList p0 == ByteArray.toList (⟨#[109, 111, 118, 101]⟩ : ByteArray)) then (tidewrackref27_Form_j2 p0 true) else (tidewrackref27_Form_j2 p0 (ByteArray.toList p0 == ByteArray.toList (⟨#[108, 105, 110, 101]⟩ : ByteArray)))))))))
def tidewrackref27_Form (p0 : ByteArray) : Option (Int × Bool) :=
  bif (ByteArray.toList p0 == ByteArray.toList (⟨#[97, 108, 108]⟩ : ByteArray)) then (tidewrackref27_Form_j1 p0 true) else (bif (ByteArray.toList p0 == ByteArray.toList (⟨#[99, 108, 111, 99, 107]⟩ : ByteArray)) then (tidewrackref27_Form_j1 p0 true) else (bif (ByteArray.toList p0 == ByteArray.toList (⟨#[115, 116, 97, 116, 101]⟩ : ByteArray)) then (tidewrackref27_Form_j1 p0 true) else (bif (ByteArray.toList p0 == ByteArray.toList (⟨#[104, 97, 110, 100]⟩ : ByteArray)) then (tidewrackref27_Form_j1 p0 true) else (bif (ByteArray.toList p0 == ByteArray.toList (⟨#[110, 101, 116]⟩ : ByteArray)) then (tidewrackref27_Form_j1 p0 true) else (tidewrackref27_Form_j1 p0 (ByteArray.toList p0 == ByteArray.toList (⟨#[115, 99, 114, 101, 101, 110]⟩ : ByteArray)))))))

/-! tidewrack/tidewrackref27.text -/
def tidewrackref27_text_j1 (x203 : ByteArray) : Option ByteArray :=
  some x203
def tidewrackref27_text_j3 (p0 : ByteArray) (x270 : ByteArray) (x271 : Int) (lp336 : ByteArray → Int → Option ByteArray) (x352 : Bool) : Option ByteArray :=
  bif x352 then (if 0 ≤ (IntKind.wrap .i64 (x271 + 1)) then (if (IntKind.wrap .i64 (x271 + 1)) ≤ ((p0).size : Int) then (if 0 ≤ x271 then (if x271 ≤ ((Int.toNat (IntKind.wrap .i64 (x271 + 1)) : Nat) : Int) then (if ((x270.size + (ByteArray.extract p0 (Int.toNat x271) (Int.toNat (IntKind.wrap .i64 (x271 + 1)))).size : Nat) : Int) ≤ 9223372036854775807 then (lp336 (x270 ++ (ByteArray.extract p0 (Int.toNat x271) (Int.toNat (IntKind.wrap .i64 (x271 + 1))))) (IntKind.wrap .i64 (x271 + 1))) else none) else none) else none) else none) else none) else (if 0 ≤ (IntKind.wrap .i64 ((IntKind.wrap .i64 (Int.tdiv (IntKind.wrap .i64 (bt p0 x271)) 16)) + 1)) then (if (IntKind.wrap .i64 ((IntKind.wrap .i64 (Int.tdiv (IntKind.wrap .i64 (bt p0 x271)) 16)) + 1)) ≤ (((⟨#[48, 49, 50, 51, 52, 53, 54, 55, 56, 57, 65, 66, 67, 68, 69, 70]⟩ : ByteArray)).size : Int) then (if 0 ≤ (IntKind.wrap .i64 (Int.tdiv (IntKind.wrap .i64 (bt p0 x271)) 16)) then (if (IntKind.wrap .i64 (Int.tdiv (IntKind.wrap .i64 (bt p0 x271)) 16)) ≤ ((Int.toNat (IntKind.wrap .i64 ((IntKind.wrap .i64 (Int.tdiv (IntKind.wrap .i64 (bt p0 x271)) 16)) + 1)) : Nat) : Int) then (if (((⟨#[37]⟩ : ByteArray).size + (ByteArray.extract (⟨#[48, 49, 50, 51, 52, 53, 54, 55, 56, 57, 65, 66, 67, 68, 69, 70]⟩ : ByteArray) (Int.toNat (IntKind.wrap .i64 (Int.tdiv (IntKind.wrap .i64 (bt p0 x271)) 16))) (Int.toNat (IntKind.wrap .i64 ((IntKind.wrap .i64 (Int.tdiv (IntKind.wrap .i64 (bt p0 x271)) 16)) + 1)))).size : Nat) : Int) ≤ 9223372036854775807 then (if 0 ≤ (IntKind.wrap .i64 ((Int.tmod (IntKind.wrap .i64 (bt p0 x271)) 16) + 1)) then (if (IntKind.wrap .i64 ((Int.tmod (IntKind.wrap .i64 (bt p0 x271)) 16) + 1)) ≤ (((⟨#[48, 49, 50, 51, 52, 53, 54, 55, 56, 57, 65, 66, 67, 68, 69, 70]⟩ : ByteArray)).size : Int) then (if 0 ≤ (Int.tmod (IntKind.wrap .i64 (bt p0 x271)) 16) then (if (Int.tmod (IntKind.wrap .i64 (bt p0 x271)) 16) ≤ ((Int.toNat (IntKind.wrap .i64 ((Int.tmod (IntKind.wrap .i64 (bt p0 x271)) 16) + 1)) : Nat) : Int) then (if ((((⟨#[37]⟩ : ByteArray) ++ (ByteArray.extract (⟨#[48, 49, 50, 51, 52, 53, 54, 55, 56, 57, 65, 66, 67, 68, 69, 70]⟩ : ByteArray) (Int.toNat (IntKind.wrap .i64 (Int.tdiv (IntKind.wrap .i64 (bt p0 x271)) 16))) (Int.toNat (IntKind.wrap .i64 ((IntKind.wrap .i64 (Int.tdiv (IntKind.wrap .i64 (bt p0 x271)) 16)) + 1))))).size + (ByteArray.extract (⟨#[48, 49, 50, 51, 52, 53, 54, 55, 56, 57, 65, 66, 67, 68, 69, 70]⟩ : ByteArray) (Int.toNat (Int.tmod (IntKind.wrap .i64 (bt p0 x271)) 16)) (Int.toNat (IntKind.wrap .i64 ((Int.tmod (IntKind.wrap .i64 (bt p0 x271)) 16) + 1)))).size : Nat) : Int) ≤ 9223372036854775807 then (if ((x270.size + (((⟨#[37]⟩ : ByteArray) ++ (ByteArray.extract (⟨#[48, 49, 50, 51, 52, 53, 54, 55, 56, 57, 65, 66, 67, 68, 69, 70]⟩ : ByteArray) (Int.toNat (IntKind.wrap .i64 (Int.tdiv (IntKind.wrap .i64 (bt p0 x271)) 16))) (Int.toNat (IntKind.wrap .i64 ((IntKind.wrap .i64 (Int.tdiv (IntKind.wrap .i64 (bt p0 x271)) 16)) + 1))))) ++ (ByteArray.extract (⟨#[48, 49, 50, 51, 52, 53, 54, 55, 56, 57, 65, 66, 67, 68, 69, 70]⟩ : ByteArray) (Int.toNat (Int.tmod (IntKind.wrap .i64 (bt p0 x271)) 16)) (Int.toNat (IntKind.wrap .i64 ((Int.tmod (IntKind.wrap .i64 (bt p0 x271)) 16) + 1))))).size : Nat) : Int) ≤ 9223372036854775807 then (lp336 (x270 ++ (((⟨#[37]⟩ : ByteArray) ++ (ByteArray.extract (⟨#[48, 49, 50, 51, 52, 53, 54, 55, 56, 57, 65, 66, 67, 68, 69, 70]⟩ : ByteArray) (Int.toNat (IntKind.wrap .i64 (Int.tdiv (IntKind.wrap .i64 (bt p0 x271)) 16))) (Int.toNat (IntKind.wrap .i64 ((IntKind.wrap .i64 (Int.tdiv (IntKind.wrap .i64 (bt p0 x271)) 16)) + 1))))) ++ (ByteArray.extract (⟨#[48, 49, 50, 51, 52, 53, 54, 55, 56, 57, 65, 66, 67, 68, 69, 70]⟩ : ByteArray) (Int.toNat (Int.tmod (IntKind.wrap .i64 (bt p0 x271)) 16)) (Int.toNat (IntKind.wrap .i64 ((Int.tmod (IntKind.wrap .i64 (bt p0 x271)) 16) + 1)))))) (IntKind.wrap .i64 (x271 + 1))) else none) else none) else none) else none) else none) else none) else none) else none) else none) else none) else none)
def tidewrackref27_text_l2 (p0 : ByteArray) : Nat → ByteArray → Int → Option ByteArray
  | 0, _, _ => none
  | k335 + 1, x270, x271 => bif (decide (x271 < ((p0).size : Int))) then (if 0 ≤ x271 ∧ x271 < ((p0).size : Int) then (bif (decide ((IntKind.wrap .i64 (bt p0 x271)) > (32 : Int))) then (bif (decide ((IntKind.wrap .i64 (bt p0 x271)) < (127 : Int))) then (bif ((IntKind.wrap .i64 (bt p0 x271)) != (37 : Int)) then (bif ((IntKind.wrap .i64 (bt p0 x271)) != (40 : Int)) then (bif ((IntKind.wrap .i64 (bt p0 x271)) != (41 : Int)) then (tidewrackref27_text_j3 p0 x270 x271 (tidewrackref27_text_l2 p0 k335) ((IntKind.wrap .i64 (bt p0 x271)) != (44 : Int))) else (tidewrackref27_text_j3 p0 x270 x271 (tidewrackref27_text_l2 p0 k335) false)) else (tidewrackref27_text_j3 p0 x270 x271 (tidewrackref27_text_l2 p0 k335) false)) else (tidewrackref27_text_j3 p0 x270 x271 (tidewrackref27_text_l2 p0 k335) false)) else (tidewrackref27_text_j3 p0 x270 x271 (tidewrackref27_text_l2 p0 k335) false)) else (tidewrackref27_text_j3 p0 x270 x271 (tidewrackref27_text_l2 p0 k335) false)) else none) else (tidewrackref27_text_j1 x270)
def tidewrackref27_text (K : Nat) (p0 : ByteArray) : Option ByteArray :=
  tidewrackref27_text_l2 p0 K (⟨#[]⟩ : ByteArray) 0

/-! tidewrack/tidewrackref27.Line -/
def tidewrackref27_Line_j3 (K : Nat) (p0 : T25) (x159 : ByteArray) : Option ByteArray :=
  (tidewrackref27_text K p0.Text).bind fun t164 => (if ((t164.size + (⟨#[41]⟩ : ByteArray).size : Nat) : Int) ≤ 9223372036854775807 then (if ((x159.size + (t164 ++ (⟨#[41]⟩ : ByteArray)).size : Nat) : Int) ≤ 9223372036854775807 then (bif (decide ((((x159 ++ (t164 ++ (⟨#[41]⟩ : ByteArray)))).size : Int) > (4000 : Int))) then (some (⟨#[]⟩ : ByteArray)) else (some (x159 ++ (t164 ++ (⟨#[41]⟩ : ByteArray))))) else none) else none)
def tidewrackref27_Line_j4 (K : Nat) (p0 : T25) (x137 : ByteArray) (x180 : Bool) : Option ByteArray :=
  bif x180 then (if ((x137.size + (⟨#[44]⟩ : ByteArray).size : Nat) : Int) ≤ 9223372036854775807 then (tidewrackref27_Line_j3 K p0 (x137 ++ (⟨#[44]⟩ : ByteArray))) else none) else (tidewrackref27_Line_j3 K p0 x137)
def tidewrackref27_Line_j2 (K : Nat) (p0 : T25) (t9 : Int × Bool) (x137 : ByteArray) : Option ByteArray :=
  bif t9.2 then (tidewrackref27_Line_j4 K p0 x137 (decide (t9.1 > (0 : Int)))) else (tidewrackref27_Line_j4 K p0 x137 false)
def tidewrackref27_Line_j6 (p0 : T25) (x221 : ByteArray) (x222 : Int) (lp257 : ByteArray → Int → Option ByteArray) : Option ByteArray :=
  bif (decide (x222 > (0 : Int))) then (if ((x221.size + (⟨#[44]⟩ : ByteArray).size : Nat) : Int) ≤ 9223372036854775807 then ((strconv_Itoa (rdD 0 p0.Nums x222)).bind fun t283 => (if (((x221 ++ (⟨#[44]⟩ : ByteArray)).size + t283.size : Nat) : Int) ≤ 9223372036854775807 then (lp257 ((x221 ++ (⟨#[44]⟩ : ByteArray)) ++ t283) (IntKind.wrap .i64 (x222 + 1))) else none)) else none) else ((strconv_Itoa (rdD 0 p0.Nums x222)).bind fun t273 => (if ((x221.size + t273.size : Nat) : Int) ≤ 9223372036854775807 then (lp257 (x221 ++ t273) (IntKind.wrap .i64 (x222 + 1))) else none))
def tidewrackref27_Line_l5 (K : Nat) (p0 : T25) (t9 : Int × Bool) : Nat → ByteArray → Int → Option ByteArray
  | 0, _, _ => none
  | k256 + 1, x221, x222 => bif (decide (x222 < ((p0.Nums).length : Int))) then (if 0 ≤ x222 ∧ x222 < ((p0.Nums).length : Int) then (bif (decide ((rdD 0 p0.Nums x222) < (0 : Int))) then (some (⟨#[]⟩ : ByteArray)) else (bif (decide ((rdD 0 p0.Nums x222) > (4294967295 : Int))) then (some (⟨#[]⟩ : ByteArray)) else (tidewrackref27_Line_j6 p0 x221 x222 (tidewrackref27_Line_l5 K p0 t9 k256)))) else none) else (tidewrackref27_Line_j2 K p0 t9 x221)
def tidewrackref27_Line_j1 (K : Nat) (p0 : T25) (t9 : Int × Bool) : Option ByteArray :=
  if ((p0.Word.size + (⟨#[40]⟩ : ByteArray).size : Nat) : Int) ≤ 9223372036854775807 then (tidewrackref27_Line_l5 K p0 t9 K (p0.Word ++ (⟨#[40]⟩ : ByteArray)) 0) else none
def tidewrackref27_Line (K : Nat) (p0 : T25) : Option ByteArray :=
  (tidewrackref27_Form p0.Word).bind fun t9 => (bif (decide (t9.1 < (0 : Int))) then (some (⟨#[]⟩ : ByteArray)) else (bif (((p0.Nums).length : Int) != t9.1) then (some (⟨#[]⟩ : ByteArray)) else (bif (!t9.2) then (bif (!(ByteArray.toList p0.Text == ByteArray.toList (⟨#[]⟩ : ByteArray))) then (some (⟨#[]⟩ : ByteArray)) else (tidewrackref27_Line_j1 K p0 t9)) else (tidewrackref27_Line_j1 K p0 t9))))

/-! tidewrack/tidewrackref27.Parse -/
def tidewrackref27_Parse_j4 (K : Nat) (p0 : ByteArray) (x32 : Int) (l1110 : List Int) (l2800 : List Int) : Option (T25 × Int) :=
  (tidewrackref27_Line K (⟨(ByteArray.extract p0 0 (Int.toNat x32)), l1110, (strOfNums l2800)⟩ : T25)).bind fun t2810 => (bif (!(ByteArray.toList t2810 == ByteArray.toList p0)) then (some ((⟨(⟨#[]⟩ : ByteArray), ([] : List Int), (⟨#[]⟩ : ByteArray)⟩ : T25), 1)) else (some ((⟨(ByteArray.extract p0 0 (Int.toNat x32)), l1110, (strOfNums l2800)⟩ : T25), 0)))
def tidewrackref27_Parse_j6 (p0 : ByteArray) (x3377 : Int) (l3380 : List Int) (lp3936 : Int → (List Int) → Option (T25 × Int)) : Option (T25 × Int) :=
  if 0 ≤ x3377 ∧ x3377 < ((p0).size : Int) then (if (l3380).length + (([(bt p0 x3377)] : List Int)).length ≤ 1000000000 then (lp3936 (IntKind.wrap .i64 (x3377 + 1)) (l3380 ++ ([(bt p0 x3377)] : List Int))) else none) else none
def tidewrackref27_Parse_j8 (x3377 : Int) (l3380 : List Int) (lp3936 : Int → (List Int) → Option (T25 × Int)) (x4357 : Int) : Option (T25 × Int) :=
  if (l3380).length + (([(IntKind.wrap .u8 x4357)] : List Int)).length ≤ 1000000000 then (lp3936 (IntKind.wrap .i64 (x3377 + 3)) (l3380 ++ ([(IntKind.wrap .u8 x4357)] : List Int))) else none
def tidewrackref27_Parse_j11 (p0 : ByteArray) (x3377 : Int) (x4429 : Int) (x4430 : Int) (lp4459 : Int → Int → Option (T25 × Int)) (x4482 : Bool) : Option (T25 × Int) :=
  bif x4482 then (lp4459 (IntKind.wrap .i64 ((IntKind.wrap .i64 (16 * x4429)) + (IntKind.wrap .i64 ((IntKind.wrap .i64 (rdD 0 ([(bt p0 (IntKind.wrap .i64 (x3377 + 1))), (bt p0 (IntKind.wrap .i64 (x3377 + 2)))] : List Int) x4430)) - 55)))) (IntKind.wrap .i64 (x4430 + 1))) else (lp4459 (IntKind.wrap .i64 (16 * x4429)) (IntKind.wrap .i64 (x4430 + 1)))
def tidewrackref27_Parse_j10 (p0 : ByteArray) (x3377 : Int) (x4429 : Int) (x4430 : Int) (lp4459 : Int → Int → Option (T25 × Int)) (x4471 : Bool) : Option (T25 × Int) :=
  bif x4471 then (lp4459 (IntKind.wrap .i64 ((IntKind.wrap .i64 (16 * x4429)) + (IntKind.wrap .i64 ((IntKind.wrap .i64 (rdD 0 ([(bt p0 (IntKind.wrap .i64 (x3377 + 1))), (bt p0 (IntKind.wrap .i64 (x3377 + 2)))] : List Int) x4430)) - 48)))) (IntKind.wrap .i64 (x4430 + 1))) else (bif (decide ((rdD 0 ([(bt p0 (IntKind.wrap .i64 (x3377 + 1))), (bt p0 (IntKind.wrap .i64 (x3377 + 2)))] : List Int) x4430) ≥ (65 : Int))) then (tidewrackref27_Parse_j11 p0 x3377 x4429 x4430 lp4459 (decide ((rdD 0 ([(bt p0 (IntKind.wrap .i64 (x3377 + 1))), (bt p0 (IntKind.wrap .i64 (x3377 + 2)))] : List Int) x4430) ≤ (70 : Int)))) else (tidewrackref27_Parse_j11 p0 x3377 x4429 x4430 lp4459 false))
def tidewrackref27_Parse_l9 (p0 : ByteArray) (x3377 : Int) (l3380 : List Int) (lp3936 : Int → (List Int) → Option (T25 × Int)) : Nat → Int → Int → Option (T25 × Int)
  | 0, _, _ => none
  | k4458 + 1, x4429, x4430 => bif (decide (x4430 < ((([(bt p0 (IntKind.wrap .i64 (x3377 + 1))), (bt p0 (IntKind.wrap .i64 (x3377 + 2)))] : List Int)).length : Int))) then (if 0 ≤ x4430 ∧ x4430 < ((([(bt p0 (IntKind.wrap .i64 (x3377 + 1))), (bt p0 (IntKind.wrap .i64 (x3377 + 2)))] : List Int)).length : Int) then (bif (decide ((rdD 0 ([(bt p0 (IntKind.wrap .i64 (x3377 + 1))), (bt p0 (IntKind.wrap .i64 (x3377 + 2)))] : List Int) x4430) ≥ (48 : Int))) then (tidewrackref27_Parse_j10 p0 x3377 x4429 x4430 (tidewrackref27_Parse_l9 p0 x3377 l3380 lp3936 k4458) (decide ((rdD 0 ([(bt p0 (IntKind.wrap .i64 (x3377 + 1))), (bt p0 (IntKind.wrap .i64 (x3377 + 2)))] : List Int) x4430) ≤ (57 : Int)))) else (tidewrackref27_Parse_j10 p0 x3377 x4429 x4430 (tidewrackref27_Parse_l9 p0 x3377 l3380 lp3936 k4458) false)) else none) else (tidewrackref27_Parse_j8 x3377 l3380 lp3936 x4429)
def tidewrackref27_Parse_j7 (K : Nat) (p0 : ByteArray) (x3377 : Int) (l3380 : List Int) (lp3936 : Int → (List Int) → Option (T25 × Int)) (x4233 : Bool) : Option (T25 × Int) :=
  bif x4233 then (if 0 ≤ (IntKind.wrap .i64 (x3377 + 1)) ∧ (IntKind.wrap .i64 (x3377 + 1)) < ((p0).size : Int) then (if 0 ≤ (IntKind.wrap .i64 (x3377 + 2)) ∧ (IntKind.wrap .i64 (x3377 + 2)) < ((p0).size : Int) then (tidewrackref27_Parse_l9 p0 x3377 l3380 lp3936 K 0 0) else none) else none) else (tidewrackref27_Parse_j6 p0 x3377 l3380 lp3936)
def tidewrackref27_Parse_l5 (K : Nat) (p0 : ByteArray) (x32 : Int) (l1110 : List Int) : Nat → Int → (List Int) → Option (T25 × Int)
  | 0, _, _ => none
  | k3935 + 1, x3377, l3380 => bif (decide (x3377 < (IntKind.wrap .i64 (((p0).size : Int) - 1)))) then (if 0 ≤ x3377 ∧ x3377 < ((p0).size : Int) then (bif ((bt p0 x3377) == (37 : Int)) then (tidewrackref27_Parse_j7 K p0 x3377 l3380 (tidewrackref27_Parse_l5 K p0 x32 l1110 k3935) (decide ((IntKind.wrap .i64 (x3377 + 2)) < ((p0).size : Int)))) else (tidewrackref27_Parse_j7 K p0 x3377 l3380 (tidewrackref27_Parse_l5 K p0 x32 l1110 k3935) false)) else none) else (tidewrackref27_Parse_j4 K p0 x32 l1110 l3380)
def tidewrackref27_Parse_j3 (K : Nat) (p0 : ByteArray) (x32 : Int) (x1107 : Int) (l1110 : List Int) : Option (T25 × Int) :=
  tidewrackref27_Parse_l5 K p0 x32 l1110 K x1107 ([] : List Int)
def tidewrackref27_Parse_j13 (x4835 : Int) (lp5174 : Int → (List Int) → Int → Option (T25 × Int)) (x5347 : Int) (l5350 : List Int) : Option (T25 × Int) :=
  lp5174 x5347 l5350 (IntKind.wrap .i64 (x4835 + 1))
def tidewrackref27_Parse_j15 (l4832 : List Int) (x4835 : Int) (lp5174 : Int → (List Int) → Int → Option (T25 × Int)) (x5421 : Int) (x5422 : Int) (x5449 : Bool) : Option (T25 × Int) :=
  bif x5449 then (tidewrackref27_Parse_j13 x4835 lp5174 (IntKind.wrap .i64 (x5421 + 1)) (l4832 ++ ([x5422] : List Int))) else (tidewrackref27_Parse_j13 x4835 lp5174 x5421 (l4832 ++ ([x5422] : List Int)))
def tidewrackref27_Parse_j14 (t47 : Int × Bool) (l4832 : List Int) (x4835 : Int) (lp5174 : Int → (List Int) → Int → Option (T25 × Int)) (x5421 : Int) (x5422 : Int) : Option (T25 × Int) :=
  if (l4832).length + (([x5422] : List Int)).length ≤ 1000000000 then (bif (decide (x4835 < (IntKind.wrap .i64 (t47.1 - 1)))) then (tidewrackref27_Parse_j15 l4832 x4835 lp5174 x5421 x5422 true) else (tidewrackref27_Parse_j15 l4832 x4835 lp5174 x5421 x5422 t47.2)) else none
def tidewrackref27_Parse_j17 (p0 : ByteArray) (x5473 : Int) (x5474 : Int) (x5475 : Int) (lp5494 : Int → Int → Int → Option (T25 × Int)) : Option (T25 × Int) :=
  if 0 ≤ x5473 ∧ x5473 < ((p0).size : Int) then (lp5494 (IntKind.wrap .i64 (x5473 + 1)) (IntKind.wrap .i64 ((IntKind.wrap .i64 ((IntKind.wrap .i64 (10 * x5474)) + (IntKind.wrap .i64 (bt p0 x5473)))) - 48)) (IntKind.wrap .i64 (x5475 + 1))) else none
def tidewrackref27_Parse_l16 (p0 : ByteArray) (t47 : Int × Bool) (l4832 : List Int) (x4835 : Int) (lp5174 : Int → (List Int) → Int → Option (T25 × Int)) : Nat → Int → Int → Int → Option (T25 × Int)
  | 0, _, _, _ => none
  | k5493 + 1, x5473, x5474, x5475 => bif (decide (x5473 < ((p0).size : Int))) then (if 0 ≤ x5473 ∧ x5473 < ((p0).size : Int) then (bif (decide ((bt p0 x5473) ≥ (48 : Int))) then (bif (decide ((bt p0 x5473) ≤ (57 : Int))) then (bif (decide (x5475 < (11 : Int))) then (tidewrackref27_Parse_j17 p0 x5473 x5474 x5475 (tidewrackref27_Parse_l16 p0 t47 l4832 x4835 lp5174 k5493)) else (tidewrackref27_Parse_j14 t47 l4832 x4835 lp5174 x5473 x5474)) else (tidewrackref27_Parse_j14 t47 l4832 x4835 lp5174 x5473 x5474)) else (tidewrackref27_Parse_j14 t47 l4832 x4835 lp5174 x5473 x5474)) else none) else (tidewrackref27_Parse_j14 t47 l4832 x4835 lp5174 x5473 x5474)
def tidewrackref27_Parse_l12 (K : Nat) (p0 : ByteArray) (x32 : Int) (t47 : Int × Bool) : Nat → Int → (List Int) → Int → Option (T25 × Int)
  | 0, _, _, _ => none
  | k5173 + 1, x4829, l4832, x4835 => bif (decide (x4835 < t47.1)) then (tidewrackref27_Parse_l16 p0 t47 l4832 x4835 (tidewrackref27_Parse_l12 K p0 x32 t47 k5173) K x4829 0 0) else (tidewrackref27_Parse_j3 K p0 x32 x4829 l4832)
def tidewrackref27_Parse_j2 (K : Nat) (p0 : ByteArray) (x32 : Int) (t47 : Int × Bool) : Option (T25 × Int) :=
  tidewrackref27_Parse_l12 K p0 x32 t47 K (IntKind.wrap .i64 (x32 + 1)) ([] : List Int) 0
def tidewrackref27_Parse_j18 (K : Nat) (p0 : ByteArray) (x32 : Int) (t47 : Int × Bool) (x5520 : Bool) : Option (T25 × Int) :=
  bif x5520 then (some ((⟨(⟨#[]⟩ : ByteArray), ([] : List Int), (⟨#[]⟩ : ByteArray)⟩ : T25), 1)) else (tidewrackref27_Parse_j2 K p0 x32 t47)
def tidewrackref27_Parse_j1 (K : Nat) (p0 : ByteArray) (x32 : Int) : Option (T25 × Int) :=
  if 0 ≤ x32 then (if x32 ≤ ((p0).size : Int) then ((tidewrackref27_Form (ByteArray.extract p0 0 (Int.toNat x32))).bind fun t47 => (bif (decide (t47.1 < (0 : Int))) then (tidewrackref27_Parse_j18 K p0 x32 t47 true) else (tidewrackref27_Parse_j18 K p0 x32 t47 (x32 == ((p0).size : Int))))) else none) else none
def tidewrackref27_Parse_l19 (K : Nat) (p0 : ByteArray) : Nat → Int → Option (T25 × Int)
  | 0, _ => none
  | k5539 + 1, x5534 => bif (decide (x5534 < ((p0).size : Int))) then (if 0 ≤ x5534 ∧ x5534 < ((p0).size : Int) then (bif ((bt p0 x5534) != (40 : Int)) then ((tidewrackref27_Parse_l19 K p0 k5539) (IntKind.wrap .i64 (x5534 + 1))) else (tidewrackref27_Parse_j1 K p0 x5534)) else none) else (tidewrackref27_Parse_j1 K p0 x5534)
def tidewrackref27_Parse (K : Nat) (p0 : ByteArray) : Option (T25 × Int) :=
  bif (decide (((p0).size : Int) > (4000 : Int))) then (some ((⟨(⟨#[]⟩ : ByteArray), ([] : List Int), (⟨#[]⟩ : ByteArray)⟩ : T25), 3)) else (tidewrackref27_Parse_l19 K p0 K 0)

/-! tidewrack/tidewracklaw01.Same -/
def tidewracklaw01_Same_j1 : Option Bool :=
  some true
def tidewracklaw01_Same_l2 (p0 : List Int) (p1 : List Int) : Nat → Int → Option Bool
  | 0, _ => none
  | k102 + 1, x84 => bif (decide (x84 < ((p0).length : Int))) then (if 0 ≤ x84 ∧ x84 < ((p0).length : Int) then (if 0 ≤ x84 ∧ x84 < ((p1).length : Int) then (bif ((rdD 0 p0 x84) != (rdD 0 p1 x84)) then (some false) else ((tidewracklaw01_Same_l2 p0 p1 k102) (IntKind.wrap .i64 (x84 + 1)))) else none) else none) else (tidewracklaw01_Same_j1)
def tidewracklaw01_Same (K : Nat) (p0 : List Int) (p1 : List Int) : Option Bool :=
  bif (((p0).length : Int) != ((p1).length : Int)) then (some false) else (tidewracklaw01_Same_l2 p0 p1 K 0)

/-! tidewrack/tidewracklaw27.Is -/
def tidewracklaw27_Is (K : Nat) (p0 : T25) (p1 : T25) : Option Bool :=
  bif (ByteArray.toList p0.Word == ByteArray.toList p1.Word) then ((tidewracklaw01_Same K p0.Nums p1.Nums).bind fun t15 => (bif t15 then (some (ByteArray.toList p0.Text == ByteArray.toList p1.Text)) else (some false))) else (some false)

/-! tidewrack/tidewracklaw27.LineReads -/
def tidewracklaw27_LineReads (K : Nat) (p0 : ByteArray) : Option Bool :=
  (tidewracklaw27_awake K).bind fun t4 => (bif (!t4) then (some false) else ((tidewracklaw01_Cut p0 4010).bind fun t13 => ((line_Parse K t13).bind fun t21 => ((tidewrackref27_Parse K t13).bind fun t41 => (bif (t21.2 == t41.2) then ((tidewracklaw27_Is K t21.1 t41.1).bind fun t62 => (bif t62 then (bif (t21.2 != (0 : Int)) then (some true) else ((line_Step_Line K t21.1).bind fun t72 => (some (ByteArray.toList t72 == ByteArray.toList t13)))) else (some false))) else (some false))))))

end Go.Proofs.YtmolecadkgffkaaDoor
