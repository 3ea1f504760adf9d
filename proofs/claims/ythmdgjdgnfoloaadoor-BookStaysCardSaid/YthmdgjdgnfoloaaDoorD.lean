/- Plain functions, printed by an own program: what the walked code computes. -/
import Derived.Test.YthmdgjdgnfoloaaDoorY33
set_option linter.unusedVariables false
set_option linter.unusedSimpArgs false
namespace Go.Proofs.YthmdgjdgnfoloaaDoor
open Go Go.Proofs.XC
structure T49 where
  Rune : Int
  Style : Int
abbrev zT49 : T49 := ⟨0, 0⟩
structure T75 where
  l : List (List T49)
  chains : List Int
  begun : List T49
structure T82 where
  Rune : Int
  Style : Int
  Part : Int
abbrev zT82 : T82 := ⟨0, 0, 0⟩
structure T26 where
  Cells : List T82
  Wrapped : Bool
abbrev zT26 : T26 := ⟨[], false⟩
structure T111 where
  from_ : Int
  to : Int
abbrev zT111 : T111 := ⟨0, 0⟩
structure T94 where
  b : List Int
def eqT49 (x y : T49) : Bool := ((x.Rune == y.Rune) && ((x.Style == y.Style) && true))
def eqT82 (x y : T82) : Bool := ((x.Rune == y.Rune) && ((x.Style == y.Style) && ((x.Part == y.Part) && true)))
namespace WF
def wfBool (_ : Bool) : Prop := True
def wfStr (x : ByteArray) : Prop := x.size ≤ maxLen
def wfi64 (x : Int) : Prop := (Lit.int .i64 x).wf = true
def wfi32 (x : Int) : Prop := (Lit.int .i32 x).wf = true
def wfu8 (x : Int) : Prop := (Lit.int .u8 x).wf = true
def wfu32 (x : Int) : Prop := (Lit.int .u32 x).wf = true
def wfu64 (x : Int) : Prop := (Lit.int .u64 x).wf = true
def wfi8 (x : Int) : Prop := (Lit.int .i8 x).wf = true
def wfi16 (x : Int) : Prop := (Lit.int .i16 x).wf = true
def wfu16 (x : Int) : Prop := (Lit.int .u16 x).wf = true
def wfT49 (x : T49) : Prop := (Lit.int .i32 x.Rune).wf = true ∧ (Lit.int .i64 x.Style).wf = true
def wfT82 (x : T82) : Prop := (Lit.int .i32 x.Rune).wf = true ∧ (Lit.int .i64 x.Style).wf = true ∧ (Lit.int .i64 x.Part).wf = true
def wfT26 (x : T26) : Prop := (∀ y ∈ x.Cells, wfT82 y) ∧ x.Cells.length ≤ maxLen
def wfT111 (x : T111) : Prop := (Lit.int .i32 x.from_).wf = true ∧ (Lit.int .i32 x.to).wf = true
def wfT94 (x : T94) : Prop := (∀ y ∈ x.b, wfu8 y) ∧ x.b.length ≤ maxLen
end WF
def glob0 : List T111 := [⟨(-2147483648), 31⟩, ⟨127, 159⟩, ⟨768, 879⟩, ⟨6832, 6911⟩, ⟨7616, 7679⟩, ⟨8203, 8207⟩, ⟨8400, 8447⟩, ⟨55296, 57343⟩, ⟨65024, 65039⟩, ⟨65056, 65071⟩, ⟨65279, 65279⟩, ⟨917760, 917999⟩, ⟨1114112, 2147483647⟩]
def glob1 : List T111 := [⟨4352, 4447⟩, ⟨11904, 12350⟩, ⟨12353, 13311⟩, ⟨13312, 19903⟩, ⟨19968, 40959⟩, ⟨40960, 42191⟩, ⟨44032, 55203⟩, ⟨63744, 64255⟩, ⟨65072, 65135⟩, ⟨65280, 65376⟩, ⟨65504, 65510⟩, ⟨127744, 128591⟩, ⟨129280, 129535⟩, ⟨131072, 262141⟩]
def glob2 : List Int := [0, 498536548, 997073096, 651767980, 1994146192, 1802195444, 1303535960, 1342533948, 3988292384, 4027552580, 3604390888, 3412177804, 2607071920, 2262029012, 2685067896, 3183342108]
/-! tidewrack/book.New -/
def book_New  : Option T75 :=
  some (⟨([] : List (List T49)), ([0] : List Int), ([] : List T49)⟩ : T75)

/-! tidewrack/row.clip -/
def row_clip (p0 : Int) (p1 : Int) (p2 : Int) : Option Int :=
  some (mxI p1 (mnI p0 p2))

/-! tidewrack/row.blank -/
def row_blank (p0 : Int) : Option T82 :=
  some (⟨32, p0, 0⟩ : T82)

/-! math/bits.Mul32 -/
def bits_Mul32 (p0 : Int) (p1 : Int) : Option (Int × Int) :=
  some ((IntKind.wrap .u32 (Int.fdiv (IntKind.wrap .u64 ((IntKind.wrap .u64 p0) * (IntKind.wrap .u64 p1))) (2 ^ min (Int.toNat 32) 64))), (IntKind.wrap .u32 (IntKind.wrap .u64 ((IntKind.wrap .u64 p0) * (IntKind.wrap .u64 p1)))))

/-! math/bits.Mul64 -/
def bits_Mul64 (p0 : Int) (p1 : Int) : Option (Int × Int) :=
  some ((IntKind.wrap .u64 ((IntKind.wrap .u64 ((IntKind.wrap .u64 ((Int.fdiv p0 (2 ^ min (Int.toNat 32) 64)) * (Int.fdiv p1 (2 ^ min (Int.toNat 32) 64)))) + (Int.fdiv (IntKind.wrap .u64 ((IntKind.wrap .u64 ((Int.fdiv p0 (2 ^ min (Int.toNat 32) 64)) * (bits .and .u64 p1 4294967295))) + (Int.fdiv (IntKind.wrap .u64 ((bits .and .u64 p0 4294967295) * (bits .and .u64 p1 4294967295))) (2 ^ min (Int.toNat 32) 64)))) (2 ^ min (Int.toNat 32) 64)))) + (Int.fdiv (IntKind.wrap .u64 ((bits .and .u64 (IntKind.wrap .u64 ((IntKind.wrap .u64 ((Int.fdiv p0 (2 ^ min (Int.toNat 32) 64)) * (bits .and .u64 p1 4294967295))) + (Int.fdiv (IntKind.wrap .u64 ((bits .and .u64 p0 4294967295) * (bits .and .u64 p1 4294967295))) (2 ^ min (Int.toNat 32) 64)))) 4294967295) + (IntKind.wrap .u64 ((bits .and .u64 p0 4294967295) * (Int.fdiv p1 (2 ^ min (Int.toNat 32) 64)))))) (2 ^ min (Int.toNat 32) 64)))), (IntKind.wrap .u64 (p0 * p1)))

/-! math/bits.Mul -/
def bits_Mul (p0 : Int) (p1 : Int) : Option (Int × Int) :=
  (bits_Mul64 p0 p1).bind fun t4 => (some (t4.1, t4.2))

/-! slices.Repeat[[]tidewrack/row.Cell,tidewrack/row.Cell] -/
def slices_Repeat_j3 (l180 : List T82) : Option (List T82) :=
  some l180
def slices_Repeat_l4 : Nat → (List T82) → Int → Option (List T82)
  | 0, _, _ => none
  | k267 + 1, l226, x229 => bif (decide (x229 < ((l226).length : Int))) then (if 0 ≤ x229 then (if x229 ≤ ((l226).length : Int) then ((slices_Repeat_l4 k267) (cpy (Int.toNat x229) l226 (List.take (Int.toNat x229) l226)) (IntKind.wrap .i64 (x229 + ((min ((List.take (Int.toNat x229) l226)).length ((l226).length - (Int.toNat x229)) : Nat) : Int)))) else none) else none) else (slices_Repeat_j3 l226)
def slices_Repeat_j2 (K : Nat) (p0 : List T82) (t10 : Int × Int) : Option (List T82) :=
  if 0 ≤ (IntKind.wrap .i64 t10.2) then (if (IntKind.wrap .i64 t10.2) ≤ 1000000000 then (slices_Repeat_l4 K (cpy 0 (List.replicate (Int.toNat (IntKind.wrap .i64 t10.2)) (zT82 : T82)) p0) ((min (p0).length (((List.replicate (Int.toNat (IntKind.wrap .i64 t10.2)) (zT82 : T82))).length - 0) : Nat) : Int)) else none) else none
def slices_Repeat_j5 (K : Nat) (p0 : List T82) (t10 : Int × Int) (x314 : Bool) : Option (List T82) :=
  bif x314 then (none) else (slices_Repeat_j2 K p0 t10)
def slices_Repeat_j1 (K : Nat) (p0 : List T82) (p1 : Int) : Option (List T82) :=
  (bits_Mul (IntKind.wrap .u64 ((p0).length : Int)) (IntKind.wrap .u64 p1)).bind fun t10 => (bif (decide (t10.1 > (0 : Int))) then (slices_Repeat_j5 K p0 t10 true) else (slices_Repeat_j5 K p0 t10 (decide (t10.2 > (9223372036854775807 : Int)))))
def slices_Repeat (K : Nat) (p0 : List T82) (p1 : Int) : Option (List T82) :=
  bif (decide (p1 < (0 : Int))) then (none) else (slices_Repeat_j1 K p0 p1)

/-! tidewrack/row.blanks -/
def row_blanks (K : Nat) (p0 : Int) (p1 : Int) : Option (List T82) :=
  (row_blank p1).bind fun t4 => ((slices_Repeat K ([t4] : List T82) (mxI 0 p0)).bind fun t18 => (some t18))

/-! tidewrack/row.Blank -/
def row_Blank (K : Nat) (p0 : Int) (p1 : Int) : Option T26 :=
  (row_clip p0 0 1000).bind fun t9 => ((row_blanks K t9 p1).bind fun t17 => (some (⟨t17, false⟩ : T26)))

/-! slices.Clone[[]tidewrack/row.Cell,tidewrack/row.Cell] -/
def slices_Clone (p0 : List T82) : Option (List T82) :=
  if (([] : List T82)).length + (p0).length ≤ 1000000000 then (some (([] : List T82) ++ p0)) else none

/-! (tidewrack/row.Row).cells -/
def row_Row_cells (p0 : T26) : Option (List T82) :=
  (slices_Clone p0.Cells).bind fun t9 => (some t9)

/-! tidewrack/wide.in -/
def wide_in_j1 (p0 : List T111) (p1 : Int) (x30 : Int) : Option Bool :=
  bif (decide (x30 < ((p0).length : Int))) then (if 0 ≤ x30 ∧ x30 < ((p0).length : Int) then (some (decide (((rdD zT111 p0 x30).from_) ≤ p1))) else none) else (some false)
def wide_in_l2 (p0 : List T111) (p1 : Int) : Nat → Int → Int → Option Bool
  | 0, _, _ => none
  | k50 + 1, x43, x44 => bif (decide (x43 < x44)) then (if 0 ≤ (IntKind.wrap .i64 (Int.tdiv (IntKind.wrap .i64 (x43 + x44)) 2)) ∧ (IntKind.wrap .i64 (Int.tdiv (IntKind.wrap .i64 (x43 + x44)) 2)) < ((p0).length : Int) then (bif (decide (((rdD zT111 p0 (IntKind.wrap .i64 (Int.tdiv (IntKind.wrap .i64 (x43 + x44)) 2))).to) < p1)) then ((wide_in_l2 p0 p1 k50) (IntKind.wrap .i64 ((IntKind.wrap .i64 (Int.tdiv (IntKind.wrap .i64 (x43 + x44)) 2)) + 1)) x44) else ((wide_in_l2 p0 p1 k50) x43 (IntKind.wrap .i64 (Int.tdiv (IntKind.wrap .i64 (x43 + x44)) 2)))) else none) else (wide_in_j1 p0 p1 x43)
def wide_in (K : Nat) (p0 : List T111) (p1 : Int) : Option Bool :=
  wide_in_l2 p0 p1 K 0 ((p0).length : Int)

/-! tidewrack/wide.Of -/
def wide_Of (K : Nat) (p0 : Int) : Option Int :=
  (wide_in K glob0 p0).bind fun t4 => (bif t4 then (some 0) else ((wide_in K glob1 p0).bind fun t13 => (bif t13 then (some 2) else (some 1))))

/-! tidewrack/row.broken -/
def row_broken (p0 : List T82) (p1 : Int) : Option Bool :=
  if 0 ≤ p1 ∧ p1 < ((p0).length : Int) then (bif (((rdD zT82 p0 p1).Part) == (1 : Int)) then (bif (decide ((IntKind.wrap .i64 (p1 + 1)) ≥ ((p0).length : Int))) then (some true) else (if 0 ≤ (IntKind.wrap .i64 (p1 + 1)) ∧ (IntKind.wrap .i64 (p1 + 1)) < ((p0).length : Int) then (some (((rdD zT82 p0 (IntKind.wrap .i64 (p1 + 1))).Part) != (2 : Int))) else none)) else (bif (((rdD zT82 p0 p1).Part) == (2 : Int)) then (bif (p1 == (0 : Int)) then (some true) else (if 0 ≤ (IntKind.wrap .i64 (p1 - 1)) ∧ (IntKind.wrap .i64 (p1 - 1)) < ((p0).length : Int) then (some (((rdD zT82 p0 (IntKind.wrap .i64 (p1 - 1))).Part) != (1 : Int))) else none)) else (bif (((rdD zT82 p0 p1).Part) == (3 : Int)) then (some (p1 != (IntKind.wrap .i64 (((p0).length : Int) - 1)))) else (some false)))) else none

/-! tidewrack/row.mend -/
def row_mend_j1 (l105 : List T82) : Option T26 :=
  some (⟨l105, false⟩ : T26)
def row_mend_l2 (p0 : List T82) : Nat → (List T82) → Int → Option T26
  | 0, _, _ => none
  | k171 + 1, l142, x145 => bif (decide (x145 < ((p0).length : Int))) then ((row_broken l142 x145).bind fun t178 => (bif t178 then (if 0 ≤ x145 ∧ x145 < ((l142).length : Int) then ((row_blank ((rdD zT82 l142 x145).Style)).bind fun t189 => ((row_mend_l2 p0 k171) (List.set l142 (Int.toNat x145) t189) (IntKind.wrap .i64 (x145 + 1)))) else none) else ((row_mend_l2 p0 k171) l142 (IntKind.wrap .i64 (x145 + 1))))) else (row_mend_j1 l142)
def row_mend (K : Nat) (p0 : List T82) : Option T26 :=
  row_mend_l2 p0 K p0 0

/-! (tidewrack/row.Row).Put -/
def row_Row_Put_j2 (K : Nat) (p1 : Int) (p2 : Int) (p3 : Int) (t14 : List T82) (x64 : Bool) : Option T26 :=
  bif x64 then (if 0 ≤ (IntKind.wrap .i64 (p1 - 1)) ∧ (IntKind.wrap .i64 (p1 - 1)) < (((List.set (List.set t14 (Int.toNat p1) (⟨p2, p3, 1⟩ : T82)) (Int.toNat (IntKind.wrap .i64 (p1 + 1))) (⟨p2, p3, 2⟩ : T82))).length : Int) then ((row_blank ((rdD zT82 (List.set (List.set t14 (Int.toNat p1) (⟨p2, p3, 1⟩ : T82)) (Int.toNat (IntKind.wrap .i64 (p1 + 1))) (⟨p2, p3, 2⟩ : T82)) (IntKind.wrap .i64 (p1 - 1))).Style)).bind fun t86 => ((row_mend K (List.set (List.set (List.set t14 (Int.toNat p1) (⟨p2, p3, 1⟩ : T82)) (Int.toNat (IntKind.wrap .i64 (p1 + 1))) (⟨p2, p3, 2⟩ : T82)) (Int.toNat (IntKind.wrap .i64 (p1 - 1))) t86)).bind fun t98 => (some t98))) else none) else ((row_mend K (List.set (List.set t14 (Int.toNat p1) (⟨p2, p3, 1⟩ : T82)) (Int.toNat (IntKind.wrap .i64 (p1 + 1))) (⟨p2, p3, 2⟩ : T82))).bind fun t70 => (some t70))
def row_Row_Put_j1 (K : Nat) (p1 : Int) (p2 : Int) (p3 : Int) (t14 : List T82) (t26 : Int) (x40 : Bool) : Option T26 :=
  bif x40 then ((row_mend K t14).bind fun t136 => (some t136)) else (bif (t26 == (1 : Int)) then (if 0 ≤ p1 ∧ p1 < ((t14).length : Int) then ((row_mend K (List.set t14 (Int.toNat p1) (⟨p2, p3, 0⟩ : T82))).bind fun t121 => (some t121)) else none) else (if 0 ≤ p1 ∧ p1 < ((t14).length : Int) then (if 0 ≤ (IntKind.wrap .i64 (p1 + 1)) ∧ (IntKind.wrap .i64 (p1 + 1)) < (((List.set t14 (Int.toNat p1) (⟨p2, p3, 1⟩ : T82))).length : Int) then (bif (decide (p1 > (0 : Int))) then (if 0 ≤ (IntKind.wrap .i64 (p1 - 1)) ∧ (IntKind.wrap .i64 (p1 - 1)) < (((List.set (List.set t14 (Int.toNat p1) (⟨p2, p3, 1⟩ : T82)) (Int.toNat (IntKind.wrap .i64 (p1 + 1))) (⟨p2, p3, 2⟩ : T82))).length : Int) then (row_Row_Put_j2 K p1 p2 p3 t14 (((rdD zT82 (List.set (List.set t14 (Int.toNat p1) (⟨p2, p3, 1⟩ : T82)) (Int.toNat (IntKind.wrap .i64 (p1 + 1))) (⟨p2, p3, 2⟩ : T82)) (IntKind.wrap .i64 (p1 - 1))).Part) == (1 : Int))) else none) else (row_Row_Put_j2 K p1 p2 p3 t14 false)) else none) else none))
def row_Row_Put (K : Nat) (p0 : T26) (p1 : Int) (p2 : Int) (p3 : Int) : Option T26 :=
  (row_Row_cells p0).bind fun t14 => ((wide_Of K p2).bind fun t26 => (bif (t26 == (0 : Int)) then (row_Row_Put_j1 K p1 p2 p3 t14 t26 true) else (bif (decide (p1 < (0 : Int))) then (row_Row_Put_j1 K p1 p2 p3 t14 t26 true) else (row_Row_Put_j1 K p1 p2 p3 t14 t26 (decide (p1 > (IntKind.wrap .i64 (((t14).length : Int) - t26))))))))

/-! (tidewrack/row.Row).Glyphs -/
def row_Row_Glyphs_j2 (l312 : List T49) : Option (List T49) :=
  some l312
def row_Row_Glyphs_j4 (l170 : List T82) (l359 : List T49) (x362 : Int) (lp402 : (List T49) → Int → Option (List T49)) (x423 : Bool) : Option (List T49) :=
  bif x423 then (if (l359).length + (([(⟨(rdD zT82 l170 x362).Rune, (rdD zT82 l170 x362).Style⟩ : T49)] : List T49)).length ≤ 1000000000 then (lp402 (l359 ++ ([(⟨(rdD zT82 l170 x362).Rune, (rdD zT82 l170 x362).Style⟩ : T49)] : List T49)) (IntKind.wrap .i64 (x362 + 1))) else none) else (lp402 l359 (IntKind.wrap .i64 (x362 + 1)))
def row_Row_Glyphs_l3 (l170 : List T82) : Nat → (List T49) → Int → Option (List T49)
  | 0, _, _ => none
  | k401 + 1, l359, x362 => bif (decide (x362 < ((l170).length : Int))) then (if 0 ≤ x362 ∧ x362 < ((l170).length : Int) then (bif (((rdD zT82 l170 x362).Part) == (0 : Int)) then (row_Row_Glyphs_j4 l170 l359 x362 (row_Row_Glyphs_l3 l170 k401) true) else (row_Row_Glyphs_j4 l170 l359 x362 (row_Row_Glyphs_l3 l170 k401) (((rdD zT82 l170 x362).Part) == (1 : Int)))) else none) else (row_Row_Glyphs_j2 l359)
def row_Row_Glyphs_j1 (K : Nat) (l170 : List T82) : Option (List T49) :=
  row_Row_Glyphs_l3 l170 K ([] : List T49) 0
def row_Row_Glyphs_l5 (K : Nat) (p0 : T26) : Nat → (List T82) → Option (List T49)
  | 0, _ => none
  | k543 + 1, l493 => bif (!p0.Wrapped) then (bif (decide (((l493).length : Int) > (0 : Int))) then (if 0 ≤ (IntKind.wrap .i64 (((l493).length : Int) - 1)) ∧ (IntKind.wrap .i64 (((l493).length : Int) - 1)) < ((l493).length : Int) then ((row_blank 0).bind fun t579 => (bif (eqT82 (rdD zT82 l493 (IntKind.wrap .i64 (((l493).length : Int) - 1))) t579) then (if 0 ≤ (IntKind.wrap .i64 (((l493).length : Int) - 1)) then (if (IntKind.wrap .i64 (((l493).length : Int) - 1)) ≤ ((l493).length : Int) then ((row_Row_Glyphs_l5 K p0 k543) (List.drop 0 (List.take (Int.toNat (IntKind.wrap .i64 (((l493).length : Int) - 1))) l493))) else none) else none) else (row_Row_Glyphs_j1 K l493))) else none) else (row_Row_Glyphs_j1 K l493)) else (row_Row_Glyphs_j1 K l493)
def row_Row_Glyphs (K : Nat) (p0 : T26) : Option (List T49) :=
  row_Row_Glyphs_l5 K p0 K p0.Cells

/-! slices.Clone[[]tidewrack/row.Glyph,tidewrack/row.Glyph] -/
def slices_Clone' (p0 : List T49) : Option (List T49) :=
  if (([] : List T49)).length + (p0).length ≤ 1000000000 then (some (([] : List T49) ++ p0)) else none

/-! tidewrack/num.clip -/
def num_clip (p0 : Int) : Option Int :=
  some (mxI 0 (mnI p0 4611686018427387904))

/-! tidewrack/num.digits$1 -/
def num_digits_1_j1 (x63 : Int) : Option (List Int) :=
  Option.map (List.cons (IntKind.wrap .u8 x63)) (some [])
def num_digits_1_l2 : Nat → Int → Option (List Int)
  | 0, _ => none
  | k110 + 1, x98 => bif (decide (x98 ≥ (128 : Int))) then (Option.map (List.cons (bits .or .u8 (bits .and .u8 (IntKind.wrap .u8 x98) 127) 128)) ((num_digits_1_l2 k110) (Int.fdiv x98 (2 ^ min (Int.toNat 7) 64)))) else (num_digits_1_j1 x98)
def num_digits_1 (K : Nat) (p1 : Int) : Option (List Int) :=
  (num_clip p1).bind fun t74 => (num_digits_1_l2 K t74)

/-! tidewrack/num.digits -/
def num_digits (p0 : Int) : Option Int :=
  some p0

/-! (*tidewrack/num.Out).Num -/
def num_Out_Num_j1 (l5361 : List Int) : Option T94 :=
  some (⟨l5361⟩ : T94)
def num_Out_Num_j3 (x7155 : Int) (lp8931 : (List Int) → Int → Option T94) (l9826 : List Int) : Option T94 :=
  lp8931 l9826 (IntKind.wrap .i64 (x7155 + 1))
def num_Out_Num_j5 (x9848 : Int) (l10143 : List Int) (lp9853 : (List Int) → Option T94) : Option T94 :=
  lp9853 (l10143 ++ ([x9848] : List Int))
def num_Out_Num_r4 (x7155 : Int) (lp8931 : (List Int) → Int → Option T94) : List Int → (List Int) → Option T94
  | [], l10143 => num_Out_Num_j3 x7155 lp8931 l10143
  | x9848 :: rest9849, l10143 => if (l10143).length + (([x9848] : List Int)).length ≤ 1000000000 then (num_Out_Num_j5 x9848 l10143 (num_Out_Num_r4 x7155 lp8931 rest9849)) else none
def num_Out_Num_l2 (K : Nat) (p1 : List Int) : Nat → (List Int) → Int → Option T94
  | 0, _, _ => none
  | k8930 + 1, l7148, x7155 => bif (decide (x7155 < ((p1).length : Int))) then (if 0 ≤ x7155 ∧ x7155 < ((p1).length : Int) then ((num_digits (rdD 0 p1 x7155)).bind fun t9839 => ((num_digits_1 K t9839).bind fun ys9846 => (num_Out_Num_r4 x7155 (num_Out_Num_l2 K p1 k8930) ys9846 l7148))) else none) else (num_Out_Num_j1 l7148)
def num_Out_Num (K : Nat) (p0 : T94) (p1 : List Int) : Option T94 :=
  num_Out_Num_l2 K p1 K p0.b 0

/-! (*tidewrack/num.Out).Bytes -/
def num_Out_Bytes (p0 : T94) : Option (ByteArray × T94) :=
  some ((strOfNums p0.b), p0)

/-! tidewrack/book.Pack -/
def book_Pack_j1 (l142 : List Int) : Option ByteArray :=
  (num_Out_Bytes (⟨l142⟩ : T94)).bind fun t149 => (some t149.1)
def book_Pack_l2 (K : Nat) (p0 : List T49) : Nat → (List Int) → Int → Option ByteArray
  | 0, _, _ => none
  | k230 + 1, l195, x198 => bif (decide (x198 < ((p0).length : Int))) then (if 0 ≤ x198 ∧ x198 < ((p0).length : Int) then ((num_Out_Num K (⟨l195⟩ : T94) ([(IntKind.wrap .i64 ((rdD zT49 p0 x198).Rune)), (rdD zT49 p0 x198).Style] : List Int)).bind fun t253 => ((book_Pack_l2 K p0 k230) t253.b (IntKind.wrap .i64 (x198 + 1)))) else none) else (book_Pack_j1 l195)
def book_Pack (K : Nat) (p0 : List T49) : Option ByteArray :=
  (num_Out_Num K (⟨([] : List Int)⟩ : T94) ([((p0).length : Int)] : List Int)).bind fun t15 => (book_Pack_l2 K p0 K t15.b 0)

/-! tidewrack/sum.step -/
def sum_step (p0 : Int) (p1 : Int) : Option Int :=
  if 0 ≤ (bits .and .u32 (bits .xor .u32 p0 (IntKind.wrap .u32 p1)) 15) ∧ (bits .and .u32 (bits .xor .u32 p0 (IntKind.wrap .u32 p1)) 15) < ((glob2).length : Int) then (if 0 ≤ (bits .and .u32 (bits .xor .u32 (Int.fdiv (bits .xor .u32 p0 (IntKind.wrap .u32 p1)) (2 ^ min (Int.toNat 4) 32)) (rdD 0 glob2 (bits .and .u32 (bits .xor .u32 p0 (IntKind.wrap .u32 p1)) 15))) 15) ∧ (bits .and .u32 (bits .xor .u32 (Int.fdiv (bits .xor .u32 p0 (IntKind.wrap .u32 p1)) (2 ^ min (Int.toNat 4) 32)) (rdD 0 glob2 (bits .and .u32 (bits .xor .u32 p0 (IntKind.wrap .u32 p1)) 15))) 15) < ((glob2).length : Int) then (some (bits .xor .u32 (Int.fdiv (bits .xor .u32 (Int.fdiv (bits .xor .u32 p0 (IntKind.wrap .u32 p1)) (2 ^ min (Int.toNat 4) 32)) (rdD 0 glob2 (bits .and .u32 (bits .xor .u32 p0 (IntKind.wrap .u32 p1)) 15))) (2 ^ min (Int.toNat 4) 32)) (rdD 0 glob2 (bits .and .u32 (bits .xor .u32 (Int.fdiv (bits .xor .u32 p0 (IntKind.wrap .u32 p1)) (2 ^ min (Int.toNat 4) 32)) (rdD 0 glob2 (bits .and .u32 (bits .xor .u32 p0 (IntKind.wrap .u32 p1)) 15))) 15)))) else none) else none

/-! tidewrack/sum.Of -/
def sum_Of_j1 (x328 : Int) : Option Int :=
  some (bits .xor .u32 4294967295 x328)
def sum_Of_j3 (x441 : Int) (lp546 : Int → Int → Option Int) (x602 : Int) : Option Int :=
  lp546 x602 (IntKind.wrap .i64 (x441 + 1))
def sum_Of_l4 (p0 : List ByteArray) (x441 : Int) (lp546 : Int → Int → Option Int) : Nat → Int → Int → Option Int
  | 0, _, _ => none
  | k637 + 1, x624, x625 => bif (decide (x625 < (((rdD (⟨#[]⟩ : ByteArray) p0 x441)).size : Int))) then (if 0 ≤ x625 ∧ x625 < (((rdD (⟨#[]⟩ : ByteArray) p0 x441)).size : Int) then ((sum_step x624 (bt (rdD (⟨#[]⟩ : ByteArray) p0 x441) x625)).bind fun t645 => ((sum_Of_l4 p0 x441 lp546 k637) t645 (IntKind.wrap .i64 (x625 + 1)))) else none) else (sum_Of_j3 x441 lp546 x624)
def sum_Of_l2 (K : Nat) (p0 : List ByteArray) : Nat → Int → Int → Option Int
  | 0, _, _ => none
  | k545 + 1, x436, x441 => bif (decide (x441 < ((p0).length : Int))) then (if 0 ≤ x441 ∧ x441 < ((p0).length : Int) then (sum_Of_l4 p0 x441 (sum_Of_l2 K p0 k545) K x436 0) else none) else (sum_Of_j1 x436)
def sum_Of (K : Nat) (p0 : List ByteArray) : Option Int :=
  sum_Of_l2 K p0 K 4294967295 0

/-! tidewrack/book.next -/
def book_next (K : Nat) (p0 : Int) (p1 : List T49) : Option Int :=
  (book_Pack K p1).bind fun t4 => ((sum_Of K ([t4] : List ByteArray)).bind fun t18 => (some (Int.tmod (IntKind.wrap .i64 ((Int.tmod (IntKind.wrap .i64 ((Int.tmod (IntKind.wrap .i64 (p0 * 256)) 281474976710597) * 256)) 281474976710597) + (IntKind.wrap .i64 t18))) 281474976710597)))

/-! (*tidewrack/book.Book).close -/
def book_Book_close_j2 (p0 : T75) (l311 : List (List T49)) (l801 : List Int) : Option T75 :=
  some (⟨l311, l801, p0.begun⟩ : T75)
def book_Book_close_j1 (K : Nat) (p0 : T75) (p1 : List T49) (l311 : List (List T49)) : Option T75 :=
  if 0 ≤ (IntKind.wrap .i64 (((p0.chains).length : Int) - 1)) ∧ (IntKind.wrap .i64 (((p0.chains).length : Int) - 1)) < ((p0.chains).length : Int) then ((book_next K (rdD 0 p0.chains (IntKind.wrap .i64 (((p0.chains).length : Int) - 1))) p1).bind fun t837 => (if (p0.chains).length + (([t837] : List Int)).length ≤ 1000000000 then (book_Book_close_j2 p0 l311 (p0.chains ++ ([t837] : List Int))) else none)) else none
def book_Book_close (K : Nat) (p0 : T75) (p1 : List T49) : Option T75 :=
  (slices_Clone' p1).bind fun t1285 => (if (p0.l).length + (([t1285] : List (List T49))).length ≤ 1000000000 then (book_Book_close_j1 K p0 p1 (p0.l ++ ([t1285] : List (List T49)))) else none)

/-! (*tidewrack/book.Book).Add -/
def book_Book_Add_j1 (p0 : T75) (l4732 : List (List T49)) (l4737 : List Int) (l4742 : List T49) : Option (Int × T75) :=
  some ((IntKind.wrap .i64 (((l4732).length : Int) - ((p0.l).length : Int))), (⟨l4732, l4737, l4742⟩ : T75))
def book_Book_Add_j3 (x6329 : Int) (lp7892 : (List (List T49)) → (List Int) → (List T49) → Int → Option (Int × T75)) (l8679 : List (List T49)) (l8684 : List Int) (l8689 : List T49) : Option (Int × T75) :=
  lp7892 l8679 l8684 l8689 (IntKind.wrap .i64 (x6329 + 1))
def book_Book_Add_j5 (K : Nat) (p1 : List T26) (x6329 : Int) (lp7892 : (List (List T49)) → (List Int) → (List T49) → Int → Option (Int × T75)) (l9095 : List (List T49)) (l9100 : List Int) (l9105 : List T49) : Option (Int × T75) :=
  bif (!((rdD zT26 p1 x6329).Wrapped)) then ((book_Book_close K (⟨l9095, l9100, l9105⟩ : T75) l9105).bind fun t9113 => (book_Book_Add_j3 x6329 lp7892 t9113.l t9113.chains ([] : List T49))) else (book_Book_Add_j3 x6329 lp7892 l9095 l9100 l9105)
def book_Book_Add_l6 (K : Nat) (p1 : List T26) (x6329 : Int) (lp7892 : (List (List T49)) → (List Int) → (List T49) → Int → Option (Int × T75)) : Nat → (List (List T49)) → (List Int) → (List T49) → Option (Int × T75)
  | 0, _, _, _ => none
  | k9252 + 1, l9189, l9194, l9199 => bif (decide (((l9199).length : Int) ≥ (1024 : Int))) then (if (1024 : Int) ≤ ((l9199).length : Int) then ((book_Book_close K (⟨l9189, l9194, l9199⟩ : T75) (List.take (Int.toNat 1024) l9199)).bind fun t9265 => (if (1024 : Int) ≤ ((t9265.begun).length : Int) then ((slices_Clone' (List.drop (Int.toNat 1024) (List.take (t9265.begun).length t9265.begun))).bind fun t9292 => ((book_Book_Add_l6 K p1 x6329 lp7892 k9252) t9265.l t9265.chains t9292)) else none)) else none) else (book_Book_Add_j5 K p1 x6329 lp7892 l9189 l9194 l9199)
def book_Book_Add_j4 (K : Nat) (p1 : List T26) (l6312 : List (List T49)) (l6317 : List Int) (x6329 : Int) (lp7892 : (List (List T49)) → (List Int) → (List T49) → Int → Option (Int × T75)) (l8898 : List T49) : Option (Int × T75) :=
  book_Book_Add_l6 K p1 x6329 lp7892 K l6312 l6317 l8898
def book_Book_Add_l2 (K : Nat) (p0 : T75) (p1 : List T26) : Nat → (List (List T49)) → (List Int) → (List T49) → Int → Option (Int × T75)
  | 0, _, _, _, _ => none
  | k7891 + 1, l6312, l6317, l6322, x6329 => bif (decide (x6329 < ((p1).length : Int))) then (if 0 ≤ x6329 ∧ x6329 < ((p1).length : Int) then ((row_Row_Glyphs K (rdD zT26 p1 x6329)).bind fun t9330 => (if (l6322).length + (t9330).length ≤ 1000000000 then (book_Book_Add_j4 K p1 l6312 l6317 x6329 (book_Book_Add_l2 K p0 p1 k7891) (l6322 ++ t9330)) else none)) else none) else (book_Book_Add_j1 p0 l6312 l6317 l6322)
def book_Book_Add (K : Nat) (p0 : T75) (p1 : List T26) : Option (Int × T75) :=
  book_Book_Add_l2 K p0 p1 K p0.l p0.chains p0.begun 0

/-! (*tidewrack/book.Book).Line -/
def book_Book_Line_j1 (p0 : T75) (p1 : Int) : Option ((List T49) × Bool) :=
  if 0 ≤ p1 ∧ p1 < ((p0.l).length : Int) then ((slices_Clone' (rdD [] p0.l p1)).bind fun t28 => (some (t28, true))) else none
def book_Book_Line_j2 (p0 : T75) (p1 : Int) (x45 : Bool) : Option ((List T49) × Bool) :=
  bif x45 then (some (([] : List T49), false)) else (book_Book_Line_j1 p0 p1)
def book_Book_Line (p0 : T75) (p1 : Int) : Option ((List T49) × Bool) :=
  bif (decide (p1 < (0 : Int))) then (book_Book_Line_j2 p0 p1 true) else (book_Book_Line_j2 p0 p1 (decide (p1 ≥ ((p0.l).length : Int))))

/-! (*tidewrack/book.Book).Len -/
def book_Book_Len (p0 : T75) : Option Int :=
  some ((p0.l).length : Int)

/-! (*tidewrack/book.Book).Begun -/
def book_Book_Begun (p0 : T75) : Option (List T49) :=
  (slices_Clone' p0.begun).bind fun t4 => (some t4)

/-! tidewrack/tidewracklaw12.awake -/
def tidewracklaw12_awake (K : Nat)  : Option Bool :=
  (book_New).bind fun t4 => ((row_Blank K 2 0).bind fun t26 => ((row_Row_Put K t26 0 97 0).bind fun t38 => ((row_Row_Put K t38 1 98 0).bind fun t50 => ((row_Blank K 2 0).bind fun t181 => ((row_Row_Put K t181 0 99 0).bind fun t193 => ((book_Book_Add K t4 ([(⟨t50.Cells, true⟩ : T26), t193, (⟨t50.Cells, true⟩ : T26)] : List T26)).bind fun t213 => ((book_Book_Line t213.2 0).bind fun t234 => (bif (t213.1 == (1 : Int)) then ((book_Book_Len t213.2).bind fun t247 => (bif (t247 == (1 : Int)) then (bif t234.2 then (bif (((t234.1).length : Int) == (3 : Int)) then (if 0 ≤ (2 : Int) ∧ (2 : Int) < ((t234.1).length : Int) then (bif (((rdD zT49 t234.1 2).Rune) == (99 : Int)) then ((book_Book_Begun t213.2).bind fun t261 => (bif (((t261).length : Int) == (2 : Int)) then ((book_Pack K ([(⟨97, 5⟩ : T49)] : List T49)).bind fun t280 => (some (ByteArray.toList t280 == ByteArray.toList (⟨#[1, 97, 5]⟩ : ByteArray)))) else (some false))) else (some false)) else none) else (some false)) else (some false)) else (some false))) else (some false)))))))))

/-! tidewrack/tidewracklaw09.Any -/
def tidewracklaw09_Any (p0 : List T82) (p1 : Bool) : Option T26 :=
  if 0 ≤ (mnI ((p0).length : Int) 40) then (if (mnI ((p0).length : Int) 40) ≤ ((p0).length : Int) then (if (([] : List T82)).length + ((List.drop 0 (List.take (Int.toNat (mnI ((p0).length : Int) 40)) p0))).length ≤ 1000000000 then (some (⟨(([] : List T82) ++ (List.drop 0 (List.take (Int.toNat (mnI ((p0).length : Int) 40)) p0))), p1⟩ : T26)) else none) else none) else none

/-! tidewrack/tidewracklaw12.Rows -/
def tidewracklaw12_Rows_j1 (l426 : List T26) : Option (List T26) :=
  some l426
def tidewracklaw12_Rows_j3 (p0 : List T26) (l567 : List T26) (x570 : Int) (lp704 : (List T26) → Int → Option (List T26)) : Option (List T26) :=
  if 0 ≤ x570 ∧ x570 < ((p0).length : Int) then ((tidewracklaw09_Any ((rdD zT26 p0 x570).Cells) ((rdD zT26 p0 x570).Wrapped)).bind fun t758 => (if (l567).length + (([t758] : List T26)).length ≤ 1000000000 then (lp704 (l567 ++ ([t758] : List T26)) (IntKind.wrap .i64 (x570 + 1))) else none)) else none
def tidewracklaw12_Rows_l2 (p0 : List T26) (p1 : Int) : Nat → (List T26) → Int → Option (List T26)
  | 0, _, _ => none
  | k703 + 1, l567, x570 => bif (decide (x570 < ((p0).length : Int))) then (bif (decide (x570 < p1)) then (tidewracklaw12_Rows_j3 p0 l567 x570 (tidewracklaw12_Rows_l2 p0 p1 k703)) else (tidewracklaw12_Rows_j1 l567)) else (tidewracklaw12_Rows_j1 l567)
def tidewracklaw12_Rows (K : Nat) (p0 : List T26) (p1 : Int) : Option (List T26) :=
  tidewracklaw12_Rows_l2 p0 p1 K ([] : List T26) 0

/-! tidewrack/tidewracklaw12.BookJoins -/
def tidewracklaw12_BookJoins_j3 : Option Bool :=
  some true
def tidewracklaw12_BookJoins_l4 (l305 : List T49) (l407 : List T49) (t414 : List T49) : Nat → Int → Option Bool
  | 0, _ => none
  | k532 + 1, x514 => bif (decide (x514 < ((l305).length : Int))) then (if 0 ≤ x514 ∧ x514 < (((l407 ++ t414)).length : Int) then (if 0 ≤ x514 ∧ x514 < ((l305).length : Int) then (bif (!(eqT49 (rdD zT49 (l407 ++ t414) x514) (rdD zT49 l305 x514))) then (some false) else ((tidewracklaw12_BookJoins_l4 l305 l407 t414 k532) (IntKind.wrap .i64 (x514 + 1)))) else none) else none) else (tidewracklaw12_BookJoins_j3)
def tidewracklaw12_BookJoins_j2 (K : Nat) (l290 : List (List T49)) (l295 : List Int) (l300 : List T49) (l305 : List T49) (l407 : List T49) : Option Bool :=
  (book_Book_Begun (⟨l290, l295, l300⟩ : T75)).bind fun t414 => (if (l407).length + (t414).length ≤ 1000000000 then (bif ((((l407 ++ t414)).length : Int) != ((l305).length : Int)) then (some false) else (tidewracklaw12_BookJoins_l4 l305 l407 t414 K 0)) else none)
def tidewracklaw12_BookJoins_l5 (K : Nat) (l290 : List (List T49)) (l295 : List Int) (l300 : List T49) (l305 : List T49) (t554 : Int) : Nat → (List T49) → Int → Option Bool
  | 0, _, _ => none
  | k612 + 1, l586, x589 => bif (decide (x589 < t554)) then ((book_Book_Line (⟨l290, l295, l300⟩ : T75) x589).bind fun t619 => (if (l586).length + (t619.1).length ≤ 1000000000 then ((tidewracklaw12_BookJoins_l5 K l290 l295 l300 l305 t554 k612) (l586 ++ t619.1) (IntKind.wrap .i64 (x589 + 1))) else none)) else (tidewracklaw12_BookJoins_j2 K l290 l295 l300 l305 l586)
def tidewracklaw12_BookJoins_j1 (K : Nat) (l290 : List (List T49)) (l295 : List Int) (l300 : List T49) (l305 : List T49) : Option Bool :=
  (book_Book_Len (⟨l290, l295, l300⟩ : T75)).bind fun t554 => (tidewracklaw12_BookJoins_l5 K l290 l295 l300 l305 t554 K ([] : List T49) 0)
def tidewracklaw12_BookJoins_l6 (K : Nat) (t13 : List T26) : Nat → (List (List T49)) → (List Int) → (List T49) → (List T49) → Int → Option Bool
  | 0, _, _, _, _, _ => none
  | k788 + 1, l705, l710, l715, l720, x723 => bif (decide (x723 < ((t13).length : Int))) then (if 0 ≤ x723 ∧ x723 < ((t13).length : Int) then ((row_Row_Glyphs K (rdD zT26 t13 x723)).bind fun t810 => (if (l720).length + (t810).length ≤ 1000000000 then ((book_Book_Add K (⟨l705, l710, l715⟩ : T75) ([(rdD zT26 t13 x723)] : List T26)).bind fun t836 => ((tidewracklaw12_BookJoins_l6 K t13 k788) t836.2.l t836.2.chains t836.2.begun (l720 ++ t810) (IntKind.wrap .i64 (x723 + 1)))) else none)) else none) else (tidewracklaw12_BookJoins_j1 K l705 l710 l715 l720)
def tidewracklaw12_BookJoins (K : Nat) (p0 : List T26) : Option Bool :=
  (tidewracklaw12_awake K).bind fun t4 => (bif (!t4) then (some false) else ((tidewracklaw12_Rows K p0 20).bind fun t13 => ((book_New).bind fun t25 => (tidewracklaw12_BookJoins_l6 K t13 K t25.l t25.chains t25.begun ([] : List T49) 0))))

/-! (*tidewrack/book.Book).Chain -/
def book_Book_Chain (p0 : T75) (p1 : Int) : Option Int :=
  if 0 ≤ (mxI 0 (mnI p1 ((p0.l).length : Int))) ∧ (mxI 0 (mnI p1 ((p0.l).length : Int))) < ((p0.chains).length : Int) then (some (rdD 0 p0.chains (mxI 0 (mnI p1 ((p0.l).length : Int))))) else none

/-! tidewrack/tidewracklaw12.BookStays -/
def tidewracklaw12_BookStays_j4 : Option Bool :=
  some true
def tidewracklaw12_BookStays_l5 (t68 : Int) (l251 : List Int) (t270 : Int × T75) : Nat → Int → Option Bool
  | 0, _ => none
  | k518 + 1, x499 => bif (decide (x499 < t68)) then ((book_Book_Line t270.2 x499).bind fun t525 => (bif (!t525.2) then (some false) else (if 0 ≤ x499 ∧ x499 < ((l251).length : Int) then (bif (((t525.1).length : Int) != (rdD 0 l251 x499)) then (some false) else ((tidewracklaw12_BookStays_l5 t68 l251 t270 k518) (IntKind.wrap .i64 (x499 + 1)))) else none))) else (tidewracklaw12_BookStays_j4)
def tidewracklaw12_BookStays_j3 (K : Nat) (t68 : Int) (l251 : List Int) (t270 : Int × T75) : Option Bool :=
  tidewracklaw12_BookStays_l5 t68 l251 t270 K 0
def tidewracklaw12_BookStays_l6 (K : Nat) (t68 : Int) (l163 : List Int) (l251 : List Int) (t270 : Int × T75) : Nat → Int → Option Bool
  | 0, _ => none
  | k612 + 1, x576 => bif (decide (x576 < (IntKind.wrap .i64 (t68 + 1)))) then (if 0 ≤ x576 ∧ x576 < ((l163).length : Int) then ((book_Book_Chain t270.2 x576).bind fun t643 => (bif (t643 != (rdD 0 l163 x576)) then (some false) else ((tidewracklaw12_BookStays_l6 K t68 l163 l251 t270 k612) (IntKind.wrap .i64 (x576 + 1))))) else none) else (tidewracklaw12_BookStays_j3 K t68 l251 t270)
def tidewracklaw12_BookStays_j2 (K : Nat) (p1 : List T26) (t47 : Int × T75) (t68 : Int) (l163 : List Int) (l251 : List Int) : Option Bool :=
  (tidewracklaw12_Rows K p1 12).bind fun t258 => ((book_Book_Add K t47.2 t258).bind fun t270 => ((book_Book_Len t270.2).bind fun t291 => (bif (decide (t291 < t68)) then (some false) else (tidewracklaw12_BookStays_l6 K t68 l163 l251 t270 K 0))))
def tidewracklaw12_BookStays_l7 (K : Nat) (p1 : List T26) (t47 : Int × T75) (t68 : Int) (l163 : List Int) : Nat → (List Int) → Int → Option Bool
  | 0, _, _ => none
  | k698 + 1, l674, x677 => bif (decide (x677 < t68)) then ((book_Book_Line t47.2 x677).bind fun t705 => (if 0 ≤ x677 ∧ x677 < ((l674).length : Int) then ((tidewracklaw12_BookStays_l7 K p1 t47 t68 l163 k698) (List.set l674 (Int.toNat x677) ((t705.1).length : Int)) (IntKind.wrap .i64 (x677 + 1))) else none)) else (tidewracklaw12_BookStays_j2 K p1 t47 t68 l163 l674)
def tidewracklaw12_BookStays_j1 (K : Nat) (p1 : List T26) (t47 : Int × T75) (t68 : Int) (l163 : List Int) : Option Bool :=
  tidewracklaw12_BookStays_l7 K p1 t47 t68 l163 K (List.replicate (Int.toNat t68) (0 : Int)) 0
def tidewracklaw12_BookStays_l8 (K : Nat) (p1 : List T26) (t47 : Int × T75) (t68 : Int) : Nat → (List Int) → Int → Option Bool
  | 0, _, _ => none
  | k761 + 1, l741, x744 => bif (decide (x744 < (IntKind.wrap .i64 (t68 + 1)))) then ((book_Book_Chain t47.2 x744).bind fun t768 => (if 0 ≤ x744 ∧ x744 < ((l741).length : Int) then ((tidewracklaw12_BookStays_l8 K p1 t47 t68 k761) (List.set l741 (Int.toNat x744) t768) (IntKind.wrap .i64 (x744 + 1))) else none)) else (tidewracklaw12_BookStays_j1 K p1 t47 t68 l741)
def tidewracklaw12_BookStays (K : Nat) (p0 : List T26) (p1 : List T26) : Option Bool :=
  (tidewracklaw12_awake K).bind fun t4 => (bif (!t4) then (some false) else ((book_New).bind fun t13 => ((tidewracklaw12_Rows K p0 12).bind fun t35 => ((book_Book_Add K t13 t35).bind fun t47 => ((book_Book_Len t47.2).bind fun t68 => (if 0 ≤ (IntKind.wrap .i64 (t68 + 1)) then (if (IntKind.wrap .i64 (t68 + 1)) ≤ 1000000000 then (if 0 ≤ t68 then (if t68 ≤ 1000000000 then (tidewracklaw12_BookStays_l8 K p1 t47 t68 K (List.replicate (Int.toNat (IntKind.wrap .i64 (t68 + 1))) (0 : Int)) 0) else none) else none) else none) else none))))))

end Go.Proofs.YthmdgjdgnfoloaaDoor
