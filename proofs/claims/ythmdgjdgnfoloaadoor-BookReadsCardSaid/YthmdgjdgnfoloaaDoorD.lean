/- Plain functions, printed by an own program: what the walked code computes. -/
import Derived.Test.YthmdgjdgnfoloaaDoorY32
set_option linter.unusedVariables false
set_option linter.unusedSimpArgs false
namespace Go.Proofs.YthmdgjdgnfoloaaDoor
open Go Go.Proofs.XC
structure T49 where
  Rune : Int
  Style : Int
abbrev zT49 : T49 := ⟨0, 0⟩
structure T75 where
  l : List (List T49)
  chains : List Int
  begun : List T49
structure T82 where
  Rune : Int
  Style : Int
  Part : Int
abbrev zT82 : T82 := ⟨0, 0, 0⟩
structure T26 where
  Cells : List T82
  Wrapped : Bool
abbrev zT26 : T26 := ⟨[], false⟩
structure T111 where
  from_ : Int
  to : Int
abbrev zT111 : T111 := ⟨0, 0⟩
structure T94 where
  b : List Int
structure T84 where
  Rune : Int
  Style : Int
  Part : Int
abbrev zT84 : T84 := ⟨0, 0, 0⟩
structure T37 where
  L : List T84
  Wrapped : Bool
structure T69 where
  Rune : Int
  Style : Int
abbrev zT69 : T69 := ⟨0, 0⟩
structure T32 where
  L : List (List T69)
  Begun : List T69
structure T88 where
  s : ByteArray
  e : Int
abbrev zT88 : T88 := ⟨(⟨#[]⟩ : ByteArray), 0⟩
structure T60 where
  S : ByteArray
  E : Int
abbrev zT60 : T60 := ⟨(⟨#[]⟩ : ByteArray), 0⟩
def eqT82 (x y : T82) : Bool := ((x.Rune == y.Rune) && ((x.Style == y.Style) && ((x.Part == y.Part) && true)))
def eqT84 (x y : T84) : Bool := ((x.Rune == y.Rune) && ((x.Style == y.Style) && ((x.Part == y.Part) && true)))
namespace WF
def wfBool (_ : Bool) : Prop := True
def wfStr (x : ByteArray) : Prop := x.size ≤ maxLen
def wfi64 (x : Int) : Prop := (Lit.int .i64 x).wf = true
def wfi32 (x : Int) : Prop := (Lit.int .i32 x).wf = true
def wfu8 (x : Int) : Prop := (Lit.int .u8 x).wf = true
def wfu32 (x : Int) : Prop := (Lit.int .u32 x).wf = true
def wfu64 (x : Int) : Prop := (Lit.int .u64 x).wf = true
def wfi8 (x : Int) : Prop := (Lit.int .i8 x).wf = true
def wfi16 (x : Int) : Prop := (Lit.int .i16 x).wf = true
def wfu16 (x : Int) : Prop := (Lit.int .u16 x).wf = true
def wfT49 (x : T49) : Prop := (Lit.int .i32 x.Rune).wf = true ∧ (Lit.int .i64 x.Style).wf = true
def wfT82 (x : T82) : Prop := (Lit.int .i32 x.Rune).wf = true ∧ (Lit.int .i64 x.Style).wf = true ∧ (Lit.int .i64 x.Part).wf = true
def wfT26 (x : T26) : Prop := (∀ y ∈ x.Cells, wfT82 y) ∧ x.Cells.length ≤ maxLen
def wfT111 (x : T111) : Prop := (Lit.int .i32 x.from_).wf = true ∧ (Lit.int .i32 x.to).wf = true
def wfT94 (x : T94) : Prop := (∀ y ∈ x.b, wfu8 y) ∧ x.b.length ≤ maxLen
def wfT84 (x : T84) : Prop := (Lit.int .i64 x.Rune).wf = true ∧ (Lit.int .i64 x.Style).wf = true ∧ (Lit.int .i64 x.Part).wf = true
def wfT37 (x : T37) : Prop := (∀ y ∈ x.L, wfT84 y) ∧ x.L.length ≤ maxLen
def wfT69 (x : T69) : Prop := (Lit.int .i64 x.Rune).wf = true ∧ (Lit.int .i64 x.Style).wf = true
def wfT88 (x : T88) : Prop := x.s.size ≤ maxLen ∧ (Lit.int .i64 x.e).wf = true
def wfT60 (x : T60) : Prop := x.S.size ≤ maxLen ∧ (Lit.int .i64 x.E).wf = true
end WF
def glob0 : List T111 := [⟨(-2147483648), 31⟩, ⟨127, 159⟩, ⟨768, 879⟩, ⟨6832, 6911⟩, ⟨7616, 7679⟩, ⟨8203, 8207⟩, ⟨8400, 8447⟩, ⟨55296, 57343⟩, ⟨65024, 65039⟩, ⟨65056, 65071⟩, ⟨65279, 65279⟩, ⟨917760, 917999⟩, ⟨1114112, 2147483647⟩]
def glob1 : List T111 := [⟨4352, 4447⟩, ⟨11904, 12350⟩, ⟨12353, 13311⟩, ⟨13312, 19903⟩, ⟨19968, 40959⟩, ⟨40960, 42191⟩, ⟨44032, 55203⟩, ⟨63744, 64255⟩, ⟨65072, 65135⟩, ⟨65280, 65376⟩, ⟨65504, 65510⟩, ⟨127744, 128591⟩, ⟨129280, 129535⟩, ⟨131072, 262141⟩]
def glob2 : List Int := [0, 498536548, 997073096, 651767980, 1994146192, 1802195444, 1303535960, 1342533948, 3988292384, 4027552580, 3604390888, 3412177804, 2607071920, 2262029012, 2685067896, 3183342108]
/-! tidewrack/book.New -/
def book_New  : Option T75 :=
  some (⟨([] : List (List T49)), ([0] : List Int), ([] : List T49)⟩ : T75)

/-! tidewrack/row.clip -/
def row_clip (p0 : Int) (p1 : Int) (p2 : Int) : Option Int :=
  some (mxI p1 (mnI p0 p2))

/-! tidewrack/row.blank -/
def row_blank (p0 : Int) : Option T82 :=
  some (⟨32, p0, 0⟩ : T82)

/-! math/bits.Mul32 -/
def bits_Mul32 (p0 : Int) (p1 : Int) : Option (Int × Int) :=
  some ((IntKind.wrap .u32 (Int.fdiv (IntKind.wrap .u64 ((IntKind.wrap .u64 p0) * (IntKind.wrap .u64 p1))) (2 ^ min (Int.toNat 32) 64))), (IntKind.wrap .u32 (IntKind.wrap .u64 ((IntKind.wrap .u64 p0) * (IntKind.wrap .u64 p1)))))

/-! math/bits.Mul64 -/
def bits_Mul64 (p0 : Int) (p1 : Int) : Option (Int × Int) :=
  some ((IntKind.wrap .u64 ((IntKind.wrap .u64 ((IntKind.wrap .u64 ((Int.fdiv p0 (2 ^ min (Int.toNat 32) 64)) * (Int.fdiv p1 (2 ^ min (Int.toNat 32) 64)))) + (Int.fdiv (IntKind.wrap .u64 ((IntKind.wrap .u64 ((Int.fdiv p0 (2 ^ min (Int.toNat 32) 64)) * (bits .and .u64 p1 4294967295))) + (Int.fdiv (IntKind.wrap .u64 ((bits .and .u64 p0 4294967295) * (bits .and .u64 p1 4294967295))) (2 ^ min (Int.toNat 32) 64)))) (2 ^ min (Int.toNat 32) 64)))) + (Int.fdiv (IntKind.wrap .u64 ((bits .and .u64 (IntKind.wrap .u64 ((IntKind.wrap .u64 ((Int.fdiv p0 (2 ^ min (Int.toNat 32) 64)) * (bits .and .u64 p1 4294967295))) + (Int.fdiv (IntKind.wrap .u64 ((bits .and .u64 p0 4294967295) * (bits .and .u64 p1 4294967295))) (2 ^ min (Int.toNat 32) 64)))) 4294967295) + (IntKind.wrap .u64 ((bits .and .u64 p0 4294967295) * (Int.fdiv p1 (2 ^ min (Int.toNat 32) 64)))))) (2 ^ min (Int.toNat 32) 64)))), (IntKind.wrap .u64 (p0 * p1)))

/-! math/bits.Mul -/
def bits_Mul (p0 : Int) (p1 : Int) : Option (Int × Int) :=
  (bits_Mul64 p0 p1).bind fun t4 => (some (t4.1, t4.2))

/-! slices.Repeat[[]tidewrack/row.Cell,tidewrack/row.Cell] -/
def slices_Repeat_j3 (l180 : List T82) : Option (List T82) :=
  some l180
def slices_Repeat_l4 : Nat → (List T82) → Int → Option (List T82)
  | 0, _, _ => none
  | k267 + 1, l226, x229 => bif (decide (x229 < ((l226).length : Int))) then (if 0 ≤ x229 then (if x229 ≤ ((l226).length : Int) then ((slices_Repeat_l4 k267) (cpy (Int.toNat x229) l226 (List.take (Int.toNat x229) l226)) (IntKind.wrap .i64 (x229 + ((min ((List.take (Int.toNat x229) l226)).length ((l226).length - (Int.toNat x229)) : Nat) : Int)))) else none) else none) else (slices_Repeat_j3 l226)
def slices_Repeat_j2 (K : Nat) (p0 : List T82) (t10 : Int × Int) : Option (List T82) :=
  if 0 ≤ (IntKind.wrap .i64 t10.2) then (if (IntKind.wrap .i64 t10.2) ≤ 1000000000 then (slices_Repeat_l4 K (cpy 0 (List.replicate (Int.toNat (IntKind.wrap .i64 t10.2)) (zT82 : T82)) p0) ((min (p0).length (((List.replicate (Int.toNat (IntKind.wrap .i64 t10.2)) (zT82 : T82))).length - 0) : Nat) : Int)) else none) else none
def slices_Repeat_j5 (K : Nat) (p0 : List T82) (t10 : Int × Int) (x314 : Bool) : Option (List T82) :=
  bif x314 then (none) else (slices_Repeat_j2 K p0 t10)
def slices_Repeat_j1 (K : Nat) (p0 : List T82) (p1 : Int) : Option (List T82) :=
  (bits_Mul (IntKind.wrap .u64 ((p0).length : Int)) (IntKind.wrap .u64 p1)).bind fun t10 => (bif (decide (t10.1 > (0 : Int))) then (slices_Repeat_j5 K p0 t10 true) else (slices_Repeat_j5 K p0 t10 (decide (t10.2 > (9223372036854775807 : Int)))))
def slices_Repeat (K : Nat) (p0 : List T82) (p1 : Int) : Option (List T82) :=
  bif (decide (p1 < (0 : Int))) then (none) else (slices_Repeat_j1 K p0 p1)

/-! tidewrack/row.blanks -/
def row_blanks (K : Nat) (p0 : Int) (p1 : Int) : Option (List T82) :=
  (row_blank p1).bind fun t4 => ((slices_Repeat K ([t4] : List T82) (mxI 0 p0)).bind fun t18 => (some t18))

/-! tidewrack/row.Blank -/
def row_Blank (K : Nat) (p0 : Int) (p1 : Int) : Option T26 :=
  (row_clip p0 0 1000).bind fun t9 => ((row_blanks K t9 p1).bind fun t17 => (some (⟨t17, false⟩ : T26)))

/-! slices.Clone[[]tidewrack/row.Cell,tidewrack/row.Cell] -/
def slices_Clone (p0 : List T82) : Option (List T82) :=
  if (([] : List T82)).length + (p0).length ≤ 1000000000 then (some (([] : List T82) ++ p0)) else none

/-! (tidewrack/row.Row).cells -/
def row_Row_cells (p0 : T26) : Option (List T82) :=
  (slices_Clone p0.Cells).bind fun t9 => (some t9)

/-! tidewrack/wide.in -/
def wide_in_j1 (p0 : List T111) (p1 : Int) (x30 : Int) : Option Bool :=
  bif (decide (x30 < ((p0).length : Int))) then (if 0 ≤ x30 ∧ x30 < ((p0).length : Int) then (some (decide (((rdD zT111 p0 x30).from_) ≤ p1))) else none) else (some false)
def wide_in_l2 (p0 : List T111) (p1 : Int) : Nat → Int → Int → Option Bool
  | 0, _, _ => none
  | k50 + 1, x43, x44 => bif (decide (x43 < x44)) then (if 0 ≤ (IntKind.wrap .i64 (Int.tdiv (IntKind.wrap .i64 (x43 + x44)) 2)) ∧ (IntKind.wrap .i64 (Int.tdiv (IntKind.wrap .i64 (x43 + x44)) 2)) < ((p0).length : Int) then (bif (decide (((rdD zT111 p0 (IntKind.wrap .i64 (Int.tdiv (IntKind.wrap .i64 (x43 + x44)) 2))).to) < p1)) then ((wide_in_l2 p0 p1 k50) (IntKind.wrap .i64 ((IntKind.wrap .i64 (Int.tdiv (IntKind.wrap .i64 (x43 + x44)) 2)) + 1)) x44) else ((wide_in_l2 p0 p1 k50) x43 (IntKind.wrap .i64 (Int.tdiv (IntKind.wrap .i64 (x43 + x44)) 2)))) else none) else (wide_in_j1 p0 p1 x43)
def wide_in (K : Nat) (p0 : List T111) (p1 : Int) : Option Bool :=
  wide_in_l2 p0 p1 K 0 ((p0).length : Int)

/-! tidewrack/wide.Of -/
def wide_Of (K : Nat) (p0 : Int) : Option Int :=
  (wide_in K glob0 p0).bind fun t4 => (bif t4 then (some 0) else ((wide_in K glob1 p0).bind fun t13 => (bif t13 then (some 2) else (some 1))))

/-! tidewrack/row.broken -/
def row_broken (p0 : List T82) (p1 : Int) : Option Bool :=
  if 0 ≤ p1 ∧ p1 < ((p0).length : Int) then (bif (((rdD zT82 p0 p1).Part) == (1 : Int)) then (bif (decide ((IntKind.wrap .i64 (p1 + 1)) ≥ ((p0).length : Int))) then (some true) else (if 0 ≤ (IntKind.wrap .i64 (p1 + 1)) ∧ (IntKind.wrap .i64 (p1 + 1)) < ((p0).length : Int) then (some (((rdD zT82 p0 (IntKind.wrap .i64 (p1 + 1))).Part) != (2 : Int))) else none)) else (bif (((rdD zT82 p0 p1).Part) == (2 : Int)) then (bif (p1 == (0 : Int)) then (some true) else (if 0 ≤ (IntKind.wrap .i64 (p1 - 1)) ∧ (IntKind.wrap .i64 (p1 - 1)) < ((p0).length : Int) then (some (((rdD zT82 p0 (IntKind.wrap .i64 (p1 - 1))).Part) != (1 : Int))) else none)) else (bif (((rdD zT82 p0 p1).Part) == (3 : Int)) then (some (p1 != (IntKind.wrap .i64 (((p0).length : Int) - 1)))) else (some false)))) else none

/-! tidewrack/row.mend -/
def row_mend_j1 (l105 : List T82) : Option T26 :=
  some (⟨l105, false⟩ : T26)
def row_mend_l2 (p0 : List T82) : Nat → (List T82) → Int → Option T26
  | 0, _, _ => none
  | k171 + 1, l142, x145 => bif (decide (x145 < ((p0).length : Int))) then ((row_broken l142 x145).bind fun t178 => (bif t178 then (if 0 ≤ x145 ∧ x145 < ((l142).length : Int) then ((row_blank ((rdD zT82 l142 x145).Style)).bind fun t189 => ((row_mend_l2 p0 k171) (List.set l142 (Int.toNat x145) t189) (IntKind.wrap .i64 (x145 + 1)))) else none) else ((row_mend_l2 p0 k171) l142 (IntKind.wrap .i64 (x145 + 1))))) else (row_mend_j1 l142)
def row_mend (K : Nat) (p0 : List T82) : Option T26 :=
  row_mend_l2 p0 K p0 0

/-! (tidewrack/row.Row).Put -/
def row_Row_Put_j2 (K : Nat) (p1 : Int) (p2 : Int) (p3 : Int) (t14 : List T82) (x64 : Bool) : Option T26 :=
  bif x64 then (if 0 ≤ (IntKind.wrap .i64 (p1 - 1)) ∧ (IntKind.wrap .i64 (p1 - 1)) < (((List.set (List.set t14 (Int.toNat p1) (⟨p2, p3, 1⟩ : T82)) (Int.toNat (IntKind.wrap .i64 (p1 + 1))) (⟨p2, p3, 2⟩ : T82))).length : Int) then ((row_blank ((rdD zT82 (List.set (List.set t14 (Int.toNat p1) (⟨p2, p3, 1⟩ : T82)) (Int.toNat (IntKind.wrap .i64 (p1 + 1))) (⟨p2, p3, 2⟩ : T82)) (IntKind.wrap .i64 (p1 - 1))).Style)).bind fun t86 => ((row_mend K (List.set (List.set (List.set t14 (Int.toNat p1) (⟨p2, p3, 1⟩ : T82)) (Int.toNat (IntKind.wrap .i64 (p1 + 1))) (⟨p2, p3, 2⟩ : T82)) (Int.toNat (IntKind.wrap .i64 (p1 - 1))) t86)).bind fun t98 => (some t98))) else none) else ((row_mend K (List.set (List.set t14 (Int.toNat p1) (⟨p2, p3, 1⟩ : T82)) (Int.toNat (IntKind.wrap .i64 (p1 + 1))) (⟨p2, p3, 2⟩ : T82))).bind fun t70 => (some t70))
def row_Row_Put_j1 (K : Nat) (p1 : Int) (p2 : Int) (p3 : Int) (t14 : List T82) (t26 : Int) (x40 : Bool) : Option T26 :=
  bif x40 then ((row_mend K t14).bind fun t136 => (some t136)) else (bif (t26 == (1 : Int)) then (if 0 ≤ p1 ∧ p1 < ((t14).length : Int) then ((row_mend K (List.set t14 (Int.toNat p1) (⟨p2, p3, 0⟩ : T82))).bind fun t121 => (some t121)) else none) else (if 0 ≤ p1 ∧ p1 < ((t14).length : Int) then (if 0 ≤ (IntKind.wrap .i64 (p1 + 1)) ∧ (IntKind.wrap .i64 (p1 + 1)) < (((List.set t14 (Int.toNat p1) (⟨p2, p3, 1⟩ : T82))).length : Int) then (bif (decide (p1 > (0 : Int))) then (if 0 ≤ (IntKind.wrap .i64 (p1 - 1)) ∧ (IntKind.wrap .i64 (p1 - 1)) < (((List.set (List.set t14 (Int.toNat p1) (⟨p2, p3, 1⟩ : T82)) (Int.toNat (IntKind.wrap .i64 (p1 + 1))) (⟨p2, p3, 2⟩ : T82))).length : Int) then (row_Row_Put_j2 K p1 p2 p3 t14 (((rdD zT82 (List.set (List.set t14 (Int.toNat p1) (⟨p2, p3, 1⟩ : T82)) (Int.toNat (IntKind.wrap .i64 (p1 + 1))) (⟨p2, p3, 2⟩ : T82)) (IntKind.wrap .i64 (p1 - 1))).Part) == (1 : Int))) else none) else (row_Row_Put_j2 K p1 p2 p3 t14 false)) else none) else none))
def row_Row_Put (K : Nat) (p0 : T26) (p1 : Int) (p2 : Int) (p3 : Int) : Option T26 :=
  (row_Row_cells p0).bind fun t14 => ((wide_Of K p2).bind fun t26 => (bif (t26 == (0 : Int)) then (row_Row_Put_j1 K p1 p2 p3 t14 t26 true) else (bif (decide (p1 < (0 : Int))) then (row_Row_Put_j1 K p1 p2 p3 t14 t26 true) else (row_Row_Put_j1 K p1 p2 p3 t14 t26 (decide (p1 > (IntKind.wrap .i64 (((t14).length : Int) - t26))))))))

/-! (tidewrack/row.Row).Glyphs -/
def row_Row_Glyphs_j2 (l312 : List T49) : Option (List T49) :=
  some l312
def row_Row_Glyphs_j4 (l170 : List T82) (l359 : List T49) (x362 : Int) (lp402 : (List T49) → Int → Option (List T49)) (x423 : Bool) : Option (List T49) :=
  bif x423 then (if (l359).length + (([(⟨(rdD zT82 l170 x362).Rune, (rdD zT82 l170 x362).Style⟩ : T49)] : List T49)).length ≤ 1000000000 then (lp402 (l359 ++ ([(⟨(rdD zT82 l170 x362).Rune, (rdD zT82 l170 x362).Style⟩ : T49)] : List T49)) (IntKind.wrap .i64 (x362 + 1))) else none) else (lp402 l359 (IntKind.wrap .i64 (x362 + 1)))
def row_Row_Glyphs_l3 (l170 : List T82) : Nat → (List T49) → Int → Option (List T49)
  | 0, _, _ => none
  | k401 + 1, l359, x362 => bif (decide (x362 < ((l170).length : Int))) then (if 0 ≤ x362 ∧ x362 < ((l170).length : Int) then (bif (((rdD zT82 l170 x362).Part) == (0 : Int)) then (row_Row_Glyphs_j4 l170 l359 x362 (row_Row_Glyphs_l3 l170 k401) true) else (row_Row_Glyphs_j4 l170 l359 x362 (row_Row_Glyphs_l3 l170 k401) (((rdD zT82 l170 x362).Part) == (1 : Int)))) else none) else (row_Row_Glyphs_j2 l359)
def row_Row_Glyphs_j1 (K : Nat) (l170 : List T82) : Option (List T49) :=
  row_Row_Glyphs_l3 l170 K ([] : List T49) 0
def row_Row_Glyphs_l5 (K : Nat) (p0 : T26) : Nat → (List T82) → Option (List T49)
  | 0, _ => none
  | k543 + 1, l493 => bif (!p0.Wrapped) then (bif (decide (((l493).length : Int) > (0 : Int))) then (if 0 ≤ (IntKind.wrap .i64 (((l493).length : Int) - 1)) ∧ (IntKind.wrap .i64 (((l493).length : Int) - 1)) < ((l493).length : Int) then ((row_blank 0).bind fun t579 => (bif (eqT82 (rdD zT82 l493 (IntKind.wrap .i64 (((l493).length : Int) - 1))) t579) then (if 0 ≤ (IntKind.wrap .i64 (((l493).length : Int) - 1)) then (if (IntKind.wrap .i64 (((l493).length : Int) - 1)) ≤ ((l493).length : Int) then ((row_Row_Glyphs_l5 K p0 k543) (List.drop 0 (List.take (Int.toNat (IntKind.wrap .i64 (((l493).length : Int) - 1))) l493))) else none) else none) else (row_Row_Glyphs_j1 K l493))) else none) else (row_Row_Glyphs_j1 K l493)) else (row_Row_Glyphs_j1 K l493)
def row_Row_Glyphs (K : Nat) (p0 : T26) : Option (List T49) :=
  row_Row_Glyphs_l5 K p0 K p0.Cells

/-! slices.Clone[[]tidewrack/row.Glyph,tidewrack/row.Glyph] -/
def slices_Clone' (p0 : List T49) : Option (List T49) :=
  if (([] : List T49)).length + (p0).length ≤ 1000000000 then (some (([] : List T49) ++ p0)) else none

/-! tidewrack/num.clip -/
def num_clip (p0 : Int) : Option Int :=
  some (mxI 0 (mnI p0 4611686018427387904))

/-! tidewrack/num.digits$1 -/
def num_digits_1_j1 (x63 : Int) : Option (List Int) :=
  Option.map (List.cons (IntKind.wrap .u8 x63)) (some [])
def num_digits_1_l2 : Nat → Int → Option (List Int)
  | 0, _ => none
  | k110 + 1, x98 => bif (decide (x98 ≥ (128 : Int))) then (Option.map (List.cons (bits .or .u8 (bits .and .u8 (IntKind.wrap .u8 x98) 127) 128)) ((num_digits_1_l2 k110) (Int.fdiv x98 (2 ^ min (Int.toNat 7) 64)))) else (num_digits_1_j1 x98)
def num_digits_1 (K : Nat) (p1 : Int) : Option (List Int) :=
  (num_clip p1).bind fun t74 => (num_digits_1_l2 K t74)

/-! tidewrack/num.digits -/
def num_digits (p0 : Int) : Option Int :=
  some p0

/-! (*tidewrack/num.Out).Num -/
def num_Out_Num_j1 (l5361 : List Int) : Option T94 :=
  some (⟨l5361⟩ : T94)
def num_Out_Num_j3 (x7155 : Int) (lp8931 : (List Int) → Int → Option T94) (l9826 : List Int) : Option T94 :=
  lp8931 l9826 (IntKind.wrap .i64 (x7155 + 1))
def num_Out_Num_j5 (x9848 : Int) (l10143 : List Int) (lp9853 : (List Int) → Option T94) : Option T94 :=
  lp9853 (l10143 ++ ([x9848] : List Int))
def num_Out_Num_r4 (x7155 : Int) (lp8931 : (List Int) → Int → Option T94) : List Int → (List Int) → Option T94
  | [], l10143 => num_Out_Num_j3 x7155 lp8931 l10143
  | x9848 :: rest9849, l10143 => if (l10143).length + (([x9848] : List Int)).length ≤ 1000000000 then (num_Out_Num_j5 x9848 l10143 (num_Out_Num_r4 x7155 lp8931 rest9849)) else none
def num_Out_Num_l2 (K : Nat) (p1 : List Int) : Nat → (List Int) → Int → Option T94
  | 0, _, _ => none
  | k8930 + 1, l7148, x7155 => bif (decide (x7155 < ((p1).length : Int))) then (if 0 ≤ x7155 ∧ x7155 < ((p1).length : Int) then ((num_digits (rdD 0 p1 x7155)).bind fun t9839 => ((num_digits_1 K t9839).bind fun ys9846 => (num_Out_Num_r4 x7155 (num_Out_Num_l2 K p1 k8930) ys9846 l7148))) else none) else (num_Out_Num_j1 l7148)
def num_Out_Num (K : Nat) (p0 : T94) (p1 : List Int) : Option T94 :=
  num_Out_Num_l2 K p1 K p0.b 0

/-! (*tidewrack/num.Out).Bytes -/
def num_Out_Bytes (p0 : T94) : Option (ByteArray × T94) :=
  some ((strOfNums p0.b), p0)

/-! tidewrack/book.Pack -/
def book_Pack_j1 (l142 : List Int) : Option ByteArray :=
  (num_Out_Bytes (⟨l142⟩ : T94)).bind fun t149 => (some t149.1)
def book_Pack_l2 (K : Nat) (p0 : List T49) : Nat → (List Int) → Int → Option ByteArray
  | 0, _, _ => none
  | k230 + 1, l195, x198 => bif (decide (x198 < ((p0).length : Int))) then (if 0 ≤ x198 ∧ x198 < ((p0).length : Int) then ((num_Out_Num K (⟨l195⟩ : T94) ([(IntKind.wrap .i64 ((rdD zT49 p0 x198).Rune)), (rdD zT49 p0 x198).Style] : List Int)).bind fun t253 => ((book_Pack_l2 K p0 k230) t253.b (IntKind.wrap .i64 (x198 + 1)))) else none) else (book_Pack_j1 l195)
def book_Pack (K : Nat) (p0 : List T49) : Option ByteArray :=
  (num_Out_Num K (⟨([] : List Int)⟩ : T94) ([((p0).length : Int)] : List Int)).bind fun t15 => (book_Pack_l2 K p0 K t15.b 0)

/-! tidewrack/sum.step -/
def sum_step (p0 : Int) (p1 : Int) : Option Int :=
  if 0 ≤ (bits .and .u32 (bits .xor .u32 p0 (IntKind.wrap .u32 p1)) 15) ∧ (bits .and .u32 (bits .xor .u32 p0 (IntKind.wrap .u32 p1)) 15) < ((glob2).length : Int) then (if 0 ≤ (bits .and .u32 (bits .xor .u32 (Int.fdiv (bits .xor .u32 p0 (IntKind.wrap .u32 p1)) (2 ^ min (Int.toNat 4) 32)) (rdD 0 glob2 (bits .and .u32 (bits .xor .u32 p0 (IntKind.wrap .u32 p1)) 15))) 15) ∧ (bits .and .u32 (bits .xor .u32 (Int.fdiv (bits .xor .u32 p0 (IntKind.wrap .u32 p1)) (2 ^ min (Int.toNat 4) 32)) (rdD 0 glob2 (bits .and .u32 (bits .xor .u32 p0 (IntKind.wrap .u32 p1)) 15))) 15) < ((glob2).length : Int) then (some (bits .xor .u32 (Int.fdiv (bits .xor .u32 (Int.fdiv (bits .xor .u32 p0 (IntKind.wrap .u32 p1)) (2 ^ min (Int.toNat 4) 32)) (rdD 0 glob2 (bits .and .u32 (bits .xor .u32 p0 (IntKind.wrap .u32 p1)) 15))) (2 ^ min (Int.toNat 4) 32)) (rdD 0 glob2 (bits .and .u32 (bits .xor .u32 (Int.fdiv (bits .xor .u32 p0 (IntKind.wrap .u32 p1)) (2 ^ min (Int.toNat 4) 32)) (rdD 0 glob2 (bits .and .u32 (bits .xor .u32 p0 (IntKind.wrap .u32 p1)) 15))) 15)))) else none) else none

/-! tidewrack/sum.Of -/
def sum_Of_j1 (x328 : Int) : Option Int :=
  some (bits .xor .u32 4294967295 x328)
def sum_Of_j3 (x441 : Int) (lp546 : Int → Int → Option Int) (x602 : Int) : Option Int :=
  lp546 x602 (IntKind.wrap .i64 (x441 + 1))
def sum_Of_l4 (p0 : List ByteArray) (x441 : Int) (lp546 : Int → Int → Option Int) : Nat → Int → Int → Option Int
  | 0, _, _ => none
  | k637 + 1, x624, x625 => bif (decide (x625 < (((rdD (⟨#[]⟩ : ByteArray) p0 x441)).size : Int))) then (if 0 ≤ x625 ∧ x625 < (((rdD (⟨#[]⟩ : ByteArray) p0 x441)).size : Int) then ((sum_step x624 (bt (rdD (⟨#[]⟩ : ByteArray) p0 x441) x625)).bind fun t645 => ((sum_Of_l4 p0 x441 lp546 k637) t645 (IntKind.wrap .i64 (x625 + 1)))) else none) else (sum_Of_j3 x441 lp546 x624)
def sum_Of_l2 (K : Nat) (p0 : List ByteArray) : Nat → Int → Int → Option Int
  | 0, _, _ => none
  | k545 + 1, x436, x441 => bif (decide (x441 < ((p0).length : Int))) then (if 0 ≤ x441 ∧ x441 < ((p0).length : Int) then (sum_Of_l4 p0 x441 (sum_Of_l2 K p0 k545) K x436 0) else none) else (sum_Of_j1 x436)
def sum_Of (K : Nat) (p0 : List ByteArray) : Option Int :=
  sum_Of_l2 K p0 K 4294967295 0

/-! tidewrack/book.next -/
def book_next (K : Nat) (p0 : Int) (p1 : List T49) : Option Int :=
  (book_Pack K p1).bind fun t4 => ((sum_Of K ([t4] : List ByteArray)).bind fun t18 => (some (Int.tmod (IntKind.wrap .i64 ((Int.tmod (IntKind.wrap .i64 ((Int.tmod (IntKind.wrap .i64 (p0 * 256)) 281474976710597) * 256)) 281474976710597) + (IntKind.wrap .i64 t18))) 281474976710597)))

/-! (*tidewrack/book.Book).close -/
def book_Book_close_j2 (p0 : T75) (l311 : List (List T49)) (l801 : List Int) : Option T75 :=
  some (⟨l311, l801, p0.begun⟩ : T75)
def book_Book_close_j1 (K : Nat) (p0 : T75) (p1 : List T49) (l311 : List (List T49)) : Option T75 :=
  if 0 ≤ (IntKind.wrap .i64 (((p0.chains).length : Int) - 1)) ∧ (IntKind.wrap .i64 (((p0.chains).length : Int) - 1)) < ((p0.chains).length : Int) then ((book_next K (rdD 0 p0.chains (IntKind.wrap .i64 (((p0.chains).length : Int) - 1))) p1).bind fun t837 => (if (p0.chains).length + (([t837] : List Int)).length ≤ 1000000000 then (book_Book_close_j2 p0 l311 (p0.chains ++ ([t837] : List Int))) else none)) else none
def book_Book_close (K : Nat) (p0 : T75) (p1 : List T49) : Option T75 :=
  (slices_Clone' p1).bind fun t1285 => (if (p0.l).length + (([t1285] : List (List T49))).length ≤ 1000000000 then (book_Book_close_j1 K p0 p1 (p0.l ++ ([t1285] : List (List T49)))) else none)

/-! (*tidewrack/book.Book).Add -/
def book_Book_Add_j1 (p0 : T75) (l4732 : List (List T49)) (l4737 : List Int) (l4742 : List T49) : Option (Int × T75) :=
  some ((IntKind.wrap .i64 (((l4732).length : Int) - ((p0.l).length : Int))), (⟨l4732, l4737, l4742⟩ : T75))
def book_Book_Add_j3 (x6329 : Int) (lp7892 : (List (List T49)) → (List Int) → (List T49) → Int → Option (Int × T75)) (l8679 : List (List T49)) (l8684 : List Int) (l8689 : List T49) : Option (Int × T75) :=
  lp7892 l8679 l8684 l8689 (IntKind.wrap .i64 (x6329 + 1))
def book_Book_Add_j5 (K : Nat) (p1 : List T26) (x6329 : Int) (lp7892 : (List (List T49)) → (List Int) → (List T49) → Int → Option (Int × T75)) (l9095 : List (List T49)) (l9100 : List Int) (l9105 : List T49) : Option (Int × T75) :=
  bif (!((rdD zT26 p1 x6329).Wrapped)) then ((book_Book_close K (⟨l9095, l9100, l9105⟩ : T75) l9105).bind fun t9113 => (book_Book_Add_j3 x6329 lp7892 t9113.l t9113.chains ([] : List T49))) else (book_Book_Add_j3 x6329 lp7892 l9095 l9100 l9105)
def book_Book_Add_l6 (K : Nat) (p1 : List T26) (x6329 : Int) (lp7892 : (List (List T49)) → (List Int) → (List T49) → Int → Option (Int × T75)) : Nat → (List (List T49)) → (List Int) → (List T49) → Option (Int × T75)
  | 0, _, _, _ => none
  | k9252 + 1, l9189, l9194, l9199 => bif (decide (((l9199).length : Int) ≥ (1024 : Int))) then (if (1024 : Int) ≤ ((l9199).length : Int) then ((book_Book_close K (⟨l9189, l9194, l9199⟩ : T75) (List.take (Int.toNat 1024) l9199)).bind fun t9265 => (if (1024 : Int) ≤ ((t9265.begun).length : Int) then ((slices_Clone' (List.drop (Int.toNat 1024) (List.take (t9265.begun).length t9265.begun))).bind fun t9292 => ((book_Book_Add_l6 K p1 x6329 lp7892 k9252) t9265.l t9265.chains t9292)) else none)) else none) else (book_Book_Add_j5 K p1 x6329 lp7892 l9189 l9194 l9199)
def book_Book_Add_j4 (K : Nat) (p1 : List T26) (l6312 : List (List T49)) (l6317 : List Int) (x6329 : Int) (lp7892 : (List (List T49)) → (List Int) → (List T49) → Int → Option (Int × T75)) (l8898 : List T49) : Option (Int × T75) :=
  book_Book_Add_l6 K p1 x6329 lp7892 K l6312 l6317 l8898
def book_Book_Add_l2 (K : Nat) (p0 : T75) (p1 : List T26) : Nat → (List (List T49)) → (List Int) → (List T49) → Int → Option (Int × T75)
  | 0, _, _, _, _ => none
  | k7891 + 1, l6312, l6317, l6322, x6329 => bif (decide (x6329 < ((p1).length : Int))) then (if 0 ≤ x6329 ∧ x6329 < ((p1).length : Int) then ((row_Row_Glyphs K (rdD zT26 p1 x6329)).bind fun t9330 => (if (l6322).length + (t9330).length ≤ 1000000000 then (book_Book_Add_j4 K p1 l6312 l6317 x6329 (book_Book_Add_l2 K p0 p1 k7891) (l6322 ++ t9330)) else none)) else none) else (book_Book_Add_j1 p0 l6312 l6317 l6322)
def book_Book_Add (K : Nat) (p0 : T75) (p1 : List T26) : Option (Int × T75) :=
  book_Book_Add_l2 K p0 p1 K p0.l p0.chains p0.begun 0

/-! (*tidewrack/book.Book).Line -/
def book_Book_Line_j1 (p0 : T75) (p1 : Int) : Option ((List T49) × Bool) :=
  if 0 ≤ p1 ∧ p1 < ((p0.l).length : Int) then ((slices_Clone' (rdD [] p0.l p1)).bind fun t28 => (some (t28, true))) else none
def book_Book_Line_j2 (p0 : T75) (p1 : Int) (x45 : Bool) : Option ((List T49) × Bool) :=
  bif x45 then (some (([] : List T49), false)) else (book_Book_Line_j1 p0 p1)
def book_Book_Line (p0 : T75) (p1 : Int) : Option ((List T49) × Bool) :=
  bif (decide (p1 < (0 : Int))) then (book_Book_Line_j2 p0 p1 true) else (book_Book_Line_j2 p0 p1 (decide (p1 ≥ ((p0.l).length : Int))))

/-! (*tidewrack/book.Book).Len -/
def book_Book_Len (p0 : T75) : Option Int :=
  some ((p0.l).length : Int)

/-! (*tidewrack/book.Book).Begun -/
def book_Book_Begun (p0 : T75) : Option (List T49) :=
  (slices_Clone' p0.begun).bind fun t4 => (some t4)

/-! tidewrack/tidewracklaw12.awake -/
def tidewracklaw12_awake (K : Nat)  : Option Bool :=
  (book_New).bind fun t4 => ((row_Blank K 2 0).bind fun t26 => ((row_Row_Put K t26 0 97 0).bind fun t38 => ((row_Row_Put K t38 1 98 0).bind fun t50 => ((row_Blank K 2 0).bind fun t181 => ((row_Row_Put K t181 0 99 0).bind fun t193 => ((book_Book_Add K t4 ([(⟨t50.Cells, true⟩ : T26), t193, (⟨t50.Cells, true⟩ : T26)] : List T26)).bind fun t213 => ((book_Book_Line t213.2 0).bind fun t234 => (bif (t213.1 == (1 : Int)) then ((book_Book_Len t213.2).bind fun t247 => (bif (t247 == (1 : Int)) then (bif t234.2 then (bif (((t234.1).length : Int) == (3 : Int)) then (if 0 ≤ (2 : Int) ∧ (2 : Int) < ((t234.1).length : Int) then (bif (((rdD zT49 t234.1 2).Rune) == (99 : Int)) then ((book_Book_Begun t213.2).bind fun t261 => (bif (((t261).length : Int) == (2 : Int)) then ((book_Pack K ([(⟨97, 5⟩ : T49)] : List T49)).bind fun t280 => (some (ByteArray.toList t280 == ByteArray.toList (⟨#[1, 97, 5]⟩ : ByteArray)))) else (some false))) else (some false)) else none) else (some false)) else (some false)) else (some false))) else (some false)))))))))

/-! tidewrack/tidewracklaw09.Told -/
def tidewracklaw09_Told_j1 (p0 : T26) (l130 : List T84) : Option T37 :=
  some (⟨l130, p0.Wrapped⟩ : T37)
def tidewracklaw09_Told_l2 (p0 : T26) : Nat → (List T84) → Int → Option T37
  | 0, _, _ => none
  | k204 + 1, l171, x174 => bif (decide (x174 < ((p0.Cells).length : Int))) then (if 0 ≤ x174 ∧ x174 < ((p0.Cells).length : Int) then (if (l171).length + (([(⟨(IntKind.wrap .i64 ((rdD zT82 p0.Cells x174).Rune)), (rdD zT82 p0.Cells x174).Style, (rdD zT82 p0.Cells x174).Part⟩ : T84)] : List T84)).length ≤ 1000000000 then ((tidewracklaw09_Told_l2 p0 k204) (l171 ++ ([(⟨(IntKind.wrap .i64 ((rdD zT82 p0.Cells x174).Rune)), (rdD zT82 p0.Cells x174).Style, (rdD zT82 p0.Cells x174).Part⟩ : T84)] : List T84)) (IntKind.wrap .i64 (x174 + 1))) else none) else none) else (tidewracklaw09_Told_j1 p0 l171)
def tidewracklaw09_Told (K : Nat) (p0 : T26) : Option T37 :=
  tidewracklaw09_Told_l2 p0 K ([] : List T84) 0

/-! tidewrack/tidewrackref09.Glyphs -/
def tidewrackref09_Glyphs_j2 (l190 : List T69) : Option (List T69) :=
  some l190
def tidewrackref09_Glyphs_j4 (p0 : T37) (x37 : Int) (l244 : List T69) (x247 : Int) (lp287 : (List T69) → Int → Option (List T69)) (x308 : Bool) : Option (List T69) :=
  bif x308 then (if (l244).length + (([(⟨(rdD zT84 (List.drop 0 (List.take (Int.toNat x37) p0.L)) x247).Rune, (rdD zT84 (List.drop 0 (List.take (Int.toNat x37) p0.L)) x247).Style⟩ : T69)] : List T69)).length ≤ 1000000000 then (lp287 (l244 ++ ([(⟨(rdD zT84 (List.drop 0 (List.take (Int.toNat x37) p0.L)) x247).Rune, (rdD zT84 (List.drop 0 (List.take (Int.toNat x37) p0.L)) x247).Style⟩ : T69)] : List T69)) (IntKind.wrap .i64 (x247 + 1))) else none) else (lp287 l244 (IntKind.wrap .i64 (x247 + 1)))
def tidewrackref09_Glyphs_l3 (p0 : T37) (x37 : Int) : Nat → (List T69) → Int → Option (List T69)
  | 0, _, _ => none
  | k286 + 1, l244, x247 => bif (decide (x247 < (((List.drop 0 (List.take (Int.toNat x37) p0.L))).length : Int))) then (if 0 ≤ x247 ∧ x247 < (((List.drop 0 (List.take (Int.toNat x37) p0.L))).length : Int) then (bif (((rdD zT84 (List.drop 0 (List.take (Int.toNat x37) p0.L)) x247).Part) == (0 : Int)) then (tidewrackref09_Glyphs_j4 p0 x37 l244 x247 (tidewrackref09_Glyphs_l3 p0 x37 k286) true) else (tidewrackref09_Glyphs_j4 p0 x37 l244 x247 (tidewrackref09_Glyphs_l3 p0 x37 k286) (((rdD zT84 (List.drop 0 (List.take (Int.toNat x37) p0.L)) x247).Part) == (1 : Int)))) else none) else (tidewrackref09_Glyphs_j2 l244)
def tidewrackref09_Glyphs_j1 (K : Nat) (p0 : T37) (x37 : Int) : Option (List T69) :=
  if 0 ≤ x37 then (if x37 ≤ ((p0.L).length : Int) then (tidewrackref09_Glyphs_l3 p0 x37 K ([] : List T69) 0) else none) else none
def tidewrackref09_Glyphs_l5 (K : Nat) (p0 : T37) : Nat → Int → Option (List T69)
  | 0, _ => none
  | k342 + 1, x335 => bif (decide (x335 > (0 : Int))) then (bif (!p0.Wrapped) then (if 0 ≤ (IntKind.wrap .i64 (x335 - 1)) ∧ (IntKind.wrap .i64 (x335 - 1)) < ((p0.L).length : Int) then (bif (eqT84 (rdD zT84 p0.L (IntKind.wrap .i64 (x335 - 1))) (⟨32, 0, 0⟩ : T84)) then ((tidewrackref09_Glyphs_l5 K p0 k342) (IntKind.wrap .i64 (x335 - 1))) else (tidewrackref09_Glyphs_j1 K p0 x335)) else none) else (tidewrackref09_Glyphs_j1 K p0 x335)) else (tidewrackref09_Glyphs_j1 K p0 x335)
def tidewrackref09_Glyphs (K : Nat) (p0 : T37) : Option (List T69) :=
  tidewrackref09_Glyphs_l5 K p0 K ((p0.L).length : Int)

/-! tidewrack/tidewrackref12.Add -/
def tidewrackref12_Add_j1 (p1 : T37) (l316 : List T69) (l321 : List (List T69)) : Option T32 :=
  bif (!p1.Wrapped) then (if (l321).length + (([l316] : List (List T69))).length ≤ 1000000000 then (some (⟨(l321 ++ ([l316] : List (List T69))), ([] : List T69)⟩ : T32)) else none) else (some (⟨l321, l316⟩ : T32))
def tidewrackref12_Add_l2 (p1 : T37) : Nat → (List T69) → (List (List T69)) → Option T32
  | 0, _, _ => none
  | k455 + 1, l420, l425 => bif (decide (((l420).length : Int) ≥ (1024 : Int))) then (if (1024 : Int) ≤ ((l420).length : Int) then (if (l425).length + (([(List.drop 0 (List.take (Int.toNat 1024) l420))] : List (List T69))).length ≤ 1000000000 then ((tidewrackref12_Add_l2 p1 k455) (List.drop (Int.toNat 1024) (List.take (l420).length l420)) (l425 ++ ([(List.drop 0 (List.take (Int.toNat 1024) l420))] : List (List T69)))) else none) else none) else (tidewrackref12_Add_j1 p1 l420 l425)
def tidewrackref12_Add (K : Nat) (p0 : T32) (p1 : T37) : Option T32 :=
  if (([] : List T69)).length + (p0.Begun).length ≤ 1000000000 then ((tidewrackref09_Glyphs K p1).bind fun t67 => (if ((([] : List T69) ++ p0.Begun)).length + (t67).length ≤ 1000000000 then (if (([] : List (List T69))).length + (p0.L).length ≤ 1000000000 then (tidewrackref12_Add_l2 p1 K ((([] : List T69) ++ p0.Begun) ++ t67) (([] : List (List T69)) ++ p0.L)) else none) else none)) else none

/-! tidewrack/tidewracklaw09.Glyphs -/
def tidewracklaw09_Glyphs_j1 : Option Bool :=
  some true
def tidewracklaw09_Glyphs_l2 (p0 : List T49) (p1 : List T69) : Nat → Int → Option Bool
  | 0, _ => none
  | k137 + 1, x112 => bif (decide (x112 < ((p0).length : Int))) then (if 0 ≤ x112 ∧ x112 < ((p0).length : Int) then (if 0 ≤ x112 ∧ x112 < ((p1).length : Int) then (bif ((IntKind.wrap .i64 ((rdD zT49 p0 x112).Rune)) != ((rdD zT69 p1 x112).Rune)) then (some false) else (bif (((rdD zT49 p0 x112).Style) != ((rdD zT69 p1 x112).Style)) then (some false) else ((tidewracklaw09_Glyphs_l2 p0 p1 k137) (IntKind.wrap .i64 (x112 + 1))))) else none) else none) else (tidewracklaw09_Glyphs_j1)
def tidewracklaw09_Glyphs (K : Nat) (p0 : List T49) (p1 : List T69) : Option Bool :=
  bif (((p0).length : Int) != ((p1).length : Int)) then (some false) else (tidewracklaw09_Glyphs_l2 p0 p1 K 0)

/-! tidewrack/tidewracklaw12.Is -/
def tidewracklaw12_Is_j2 (p0 : T75) : Option Bool :=
  (book_Book_Line p0 (-1)).bind fun t237 => ((book_Book_Len p0).bind fun t249 => ((book_Book_Line p0 t249).bind fun t257 => (bif (!t237.2) then (bif (!t257.2) then (some ((IntKind.wrap .i64 (((t237.1).length : Int) + ((t257.1).length : Int))) == (0 : Int))) else (some false)) else (some false))))
def tidewracklaw12_Is_l3 (K : Nat) (p0 : T75) (p1 : T32) : Nat → Int → Option Bool
  | 0, _ => none
  | k334 + 1, x302 => bif (decide (x302 < ((p1.L).length : Int))) then (if 0 ≤ x302 ∧ x302 < ((p1.L).length : Int) then ((book_Book_Line p0 x302).bind fun t348 => (bif (!t348.2) then (some false) else ((tidewracklaw09_Glyphs K t348.1 (rdD [] p1.L x302)).bind fun t361 => (bif (!t361) then (some false) else ((tidewracklaw12_Is_l3 K p0 p1 k334) (IntKind.wrap .i64 (x302 + 1))))))) else none) else (tidewracklaw12_Is_j2 p0)
def tidewracklaw12_Is_j1 (K : Nat) (p0 : T75) (p1 : T32) : Option Bool :=
  tidewracklaw12_Is_l3 K p0 p1 K 0
def tidewracklaw12_Is (K : Nat) (p0 : T75) (p1 : T32) : Option Bool :=
  (book_Book_Len p0).bind fun t399 => (bif (t399 != ((p1.L).length : Int)) then (some false) else ((book_Book_Begun p0).bind fun t408 => ((tidewracklaw09_Glyphs K t408 p1.Begun).bind fun t420 => (bif (!t420) then (some false) else (tidewracklaw12_Is_j1 K p0 p1)))))

/-! tidewrack/tidewracklaw12.BookLong -/
def tidewracklaw12_BookLong_j2 (K : Nat) (p0 : Int) (p1 : Int) (l646 : List (List T49)) (l651 : List Int) (l656 : List T49) (l661 : List (List T69)) (l666 : List T69) (x749 : Int) : Option Bool :=
  bif (x749 == (IntKind.wrap .i64 ((mnI (bits .and .i64 p0 1023) 1000) * (bits .and .i64 p1 7)))) then ((tidewracklaw12_Is K (⟨l646, l651, l656⟩ : T75) (⟨l661, l666⟩ : T32)).bind fun t755 => (bif t755 then ((book_Book_Begun (⟨l646, l651, l656⟩ : T75)).bind fun t764 => (some (decide (((t764).length : Int) < (1024 : Int))))) else (some false))) else (some false)
def tidewracklaw12_BookLong_l3 (K : Nat) (p0 : Int) (p1 : Int) (l646 : List (List T49)) (l651 : List Int) (l656 : List T49) (l661 : List (List T69)) (l666 : List T69) (t776 : Int) : Nat → Int → Int → Option Bool
  | 0, _, _ => none
  | k816 + 1, x799, x800 => bif (decide (x800 < t776)) then ((book_Book_Line (⟨l646, l651, l656⟩ : T75) x800).bind fun t823 => (bif (((t823.1).length : Int) != (1024 : Int)) then (some false) else ((tidewracklaw12_BookLong_l3 K p0 p1 l646 l651 l656 l661 l666 t776 k816) (IntKind.wrap .i64 (x799 + ((t823.1).length : Int))) (IntKind.wrap .i64 (x800 + 1))))) else (tidewracklaw12_BookLong_j2 K p0 p1 l646 l651 l656 l661 l666 x799)
def tidewracklaw12_BookLong_j1 (K : Nat) (p0 : Int) (p1 : Int) (l646 : List (List T49)) (l651 : List Int) (l656 : List T49) (l661 : List (List T69)) (l666 : List T69) : Option Bool :=
  (book_Book_Begun (⟨l646, l651, l656⟩ : T75)).bind fun t673 => ((book_Book_Len (⟨l646, l651, l656⟩ : T75)).bind fun t776 => (tidewracklaw12_BookLong_l3 K p0 p1 l646 l651 l656 l661 l666 t776 K ((t673).length : Int) 0))
def tidewracklaw12_BookLong_l4 (K : Nat) (p0 : Int) (p1 : Int) (t35 : T26) : Nat → (List (List T49)) → (List Int) → (List T49) → (List (List T69)) → (List T69) → Int → Option Bool
  | 0, _, _, _, _, _, _ => none
  | k1260 + 1, l1115, l1120, l1125, l1130, l1135, x1138 => bif (decide (x1138 < (bits .and .i64 p1 7))) then ((book_Book_Add K (⟨l1115, l1120, l1125⟩ : T75) ([(⟨t35.Cells, true⟩ : T26)] : List T26)).bind fun t1273 => ((tidewracklaw09_Told K (⟨t35.Cells, true⟩ : T26)).bind fun t1355 => ((tidewrackref12_Add K (⟨l1130, l1135⟩ : T32) t1355).bind fun t1367 => ((tidewracklaw12_BookLong_l4 K p0 p1 t35 k1260) t1273.2.l t1273.2.chains t1273.2.begun t1367.L t1367.Begun (IntKind.wrap .i64 (x1138 + 1)))))) else (tidewracklaw12_BookLong_j1 K p0 p1 l1115 l1120 l1125 l1130 l1135)
def tidewracklaw12_BookLong (K : Nat) (p0 : Int) (p1 : Int) : Option Bool :=
  (tidewracklaw12_awake K).bind fun t4 => (bif (!t4) then (some false) else ((book_New).bind fun t13 => ((row_Blank K (bits .and .i64 p0 1023) 3).bind fun t35 => (tidewracklaw12_BookLong_l4 K p0 p1 t35 K t13.l t13.chains t13.begun ([] : List (List T69)) ([] : List T69) 0))))

/-! tidewrack/tidewracklaw12.BookBlanks -/
def tidewracklaw12_BookBlanks_j2 (p0 : Int) (l235 : List (List T49)) (l240 : List Int) (l245 : List T49) : Option Bool :=
  (book_Book_Begun (⟨l235, l240, l245⟩ : T75)).bind fun t326 => (bif (((t326).length : Int) == (0 : Int)) then ((book_Book_Len (⟨l235, l240, l245⟩ : T75)).bind fun t339 => (some (((bits .and .i64 p0 31) == (0 : Int)) == (t339 == (0 : Int))))) else (some false))
def tidewracklaw12_BookBlanks_l3 (p0 : Int) (p1 : Int) (p2 : Int) (l235 : List (List T49)) (l240 : List Int) (l245 : List T49) : Nat → Int → Option Bool
  | 0, _ => none
  | k390 + 1, x368 => bif (decide (x368 < (bits .and .i64 p0 31))) then ((book_Book_Line (⟨l235, l240, l245⟩ : T75) x368).bind fun t397 => (bif (!t397.2) then (some false) else (bif ((bits .and .i64 p2 3) == (0 : Int)) then (bif (((t397.1).length : Int) != (0 : Int)) then (some false) else (bif ((bits .and .i64 p2 3) != (0 : Int)) then (bif (((t397.1).length : Int) != (bits .and .i64 p1 63)) then (some false) else ((tidewracklaw12_BookBlanks_l3 p0 p1 p2 l235 l240 l245 k390) (IntKind.wrap .i64 (x368 + 1)))) else ((tidewracklaw12_BookBlanks_l3 p0 p1 p2 l235 l240 l245 k390) (IntKind.wrap .i64 (x368 + 1))))) else (bif ((bits .and .i64 p2 3) != (0 : Int)) then (bif (((t397.1).length : Int) != (bits .and .i64 p1 63)) then (some false) else ((tidewracklaw12_BookBlanks_l3 p0 p1 p2 l235 l240 l245 k390) (IntKind.wrap .i64 (x368 + 1)))) else ((tidewracklaw12_BookBlanks_l3 p0 p1 p2 l235 l240 l245 k390) (IntKind.wrap .i64 (x368 + 1))))))) else (tidewracklaw12_BookBlanks_j2 p0 l235 l240 l245)
def tidewracklaw12_BookBlanks_j1 (K : Nat) (p0 : Int) (p1 : Int) (p2 : Int) (l235 : List (List T49)) (l240 : List Int) (l245 : List T49) : Option Bool :=
  tidewracklaw12_BookBlanks_l3 p0 p1 p2 l235 l240 l245 K 0
def tidewracklaw12_BookBlanks_l4 (K : Nat) (p0 : Int) (p1 : Int) (p2 : Int) : Nat → (List (List T49)) → (List Int) → (List T49) → Int → Option Bool
  | 0, _, _, _, _ => none
  | k538 + 1, l471, l476, l481, x484 => bif (decide (x484 < (bits .and .i64 p0 31))) then ((row_Blank K (bits .and .i64 p1 63) (bits .and .i64 p2 3)).bind fun t545 => ((book_Book_Add K (⟨l471, l476, l481⟩ : T75) ([t545] : List T26)).bind fun t565 => (bif (t565.1 != (1 : Int)) then (some false) else ((book_Book_Len t565.2).bind fun t587 => (bif (t587 != (IntKind.wrap .i64 (x484 + 1))) then (some false) else ((tidewracklaw12_BookBlanks_l4 K p0 p1 p2 k538) t565.2.l t565.2.chains t565.2.begun (IntKind.wrap .i64 (x484 + 1)))))))) else (tidewracklaw12_BookBlanks_j1 K p0 p1 p2 l471 l476 l481)
def tidewracklaw12_BookBlanks (K : Nat) (p0 : Int) (p1 : Int) (p2 : Int) : Option Bool :=
  (tidewracklaw12_awake K).bind fun t4 => (bif (!t4) then (some false) else ((book_New).bind fun t13 => (tidewracklaw12_BookBlanks_l4 K p0 p1 p2 K t13.l t13.chains t13.begun 0)))

/-! tidewrack/tidewracklaw01.Cut -/
def tidewracklaw01_Cut (p0 : ByteArray) (p1 : Int) : Option ByteArray :=
  bif (decide (((p0).size : Int) > p1)) then (if 0 ≤ p1 then (if p1 ≤ ((p0).size : Int) then (some (ByteArray.extract p0 0 (Int.toNat p1))) else none) else none) else (some p0)

/-! tidewrack/num.Of -/
def num_Of (p0 : ByteArray) : Option T88 :=
  some (⟨p0, 0⟩ : T88)

/-! (*tidewrack/num.In).Fail -/
def num_In_Fail_j1 (p0 : T88) (p1 : Int) (x9 : Bool) : Option T88 :=
  bif x9 then (some (⟨(⟨#[]⟩ : ByteArray), p1⟩ : T88)) else (some p0)
def num_In_Fail (p0 : T88) (p1 : Int) : Option T88 :=
  bif (p0.e == (0 : Int)) then (num_In_Fail_j1 p0 p1 (p1 != (0 : Int))) else (num_In_Fail_j1 p0 p1 false)

/-! (*tidewrack/num.In).Num -/
def num_In_Num_j1 (p0 : T88) : Option (Int × T88) :=
  bif (decide (((p0.s).size : Int) ≥ (9 : Int))) then ((num_In_Fail p0 1).bind fun t209 => ((num_In_Fail t209 2).bind fun t218 => (some (0, t218)))) else ((num_In_Fail p0 2).bind fun t200 => (some (0, t200)))
def num_In_Num_j3 (p0 : T88) (x288 : Int) (x289 : Int) : Option (Int × T88) :=
  if 0 ≤ (IntKind.wrap .i64 (x289 + 1)) then (if (IntKind.wrap .i64 (x289 + 1)) ≤ ((p0.s).size : Int) then (some ((bits .or .i64 x288 (IntKind.wrap .i64 ((IntKind.wrap .i64 (bits .and .u8 (bt p0.s x289) 127)) * 2 ^ min (Int.toNat (IntKind.wrap .i64 (7 * x289))) 64))), (⟨(ByteArray.extract p0.s (Int.toNat (IntKind.wrap .i64 (x289 + 1))) (p0.s).size), p0.e⟩ : T88))) else none) else none
def num_In_Num_j4 (p0 : T88) (x288 : Int) (x289 : Int) (x400 : Bool) : Option (Int × T88) :=
  bif x400 then ((num_In_Fail p0 1).bind fun t406 => (some (0, t406))) else (num_In_Num_j3 p0 x288 x289)
def num_In_Num_l2 (p0 : T88) : Nat → Int → Int → Option (Int × T88)
  | 0, _, _ => none
  | k351 + 1, x288, x289 => bif (decide (x289 < (mnI ((p0.s).size : Int) 9))) then (if 0 ≤ x289 ∧ x289 < ((p0.s).size : Int) then (if 0 ≤ (IntKind.wrap .i64 (7 * x289)) then (bif (decide ((bt p0.s x289) ≥ (128 : Int))) then ((num_In_Num_l2 p0 k351) (bits .or .i64 x288 (IntKind.wrap .i64 ((IntKind.wrap .i64 (bits .and .u8 (bt p0.s x289) 127)) * 2 ^ min (Int.toNat (IntKind.wrap .i64 (7 * x289))) 64))) (IntKind.wrap .i64 (x289 + 1))) else (bif (decide (x289 > (0 : Int))) then (bif ((bt p0.s x289) == (0 : Int)) then (num_In_Num_j4 p0 x288 x289 true) else (num_In_Num_j4 p0 x288 x289 (decide ((bits .or .i64 x288 (IntKind.wrap .i64 ((IntKind.wrap .i64 (bits .and .u8 (bt p0.s x289) 127)) * 2 ^ min (Int.toNat (IntKind.wrap .i64 (7 * x289))) 64))) > (4611686018427387904 : Int))))) else (num_In_Num_j4 p0 x288 x289 (decide ((bits .or .i64 x288 (IntKind.wrap .i64 ((IntKind.wrap .i64 (bits .and .u8 (bt p0.s x289) 127)) * 2 ^ min (Int.toNat (IntKind.wrap .i64 (7 * x289))) 64))) > (4611686018427387904 : Int)))))) else none) else none) else (num_In_Num_j1 p0)
def num_In_Num (K : Nat) (p0 : T88) : Option (Int × T88) :=
  num_In_Num_l2 p0 K 0 0

/-! tidewrack/book.limited -/
def book_limited (K : Nat) (p0 : T88) (p1 : Int) : Option (Int × T88) :=
  (num_In_Num K p0).bind fun t4 => (bif (decide (t4.1 > p1)) then ((num_In_Fail t4.2 1).bind fun t14 => (some (0, t14))) else (some (t4.1, t4.2)))

/-! (*tidewrack/num.In).Err -/
def num_In_Err (p0 : T88) : Option Int :=
  some p0.e

/-! tidewrack/book.Read -/
def book_Read_j1 (x136 : T88) (l139 : List T49) : Option ((List T49) × T88) :=
  (num_In_Err x136).bind fun t146 => (bif (t146 != (0 : Int)) then (some (([] : List T49), x136)) else (some (l139, x136)))
def book_Read_l2 (K : Nat) (t155 : Int × T88) : Nat → T88 → (List T49) → Int → Option ((List T49) × T88)
  | 0, _, _, _ => none
  | k239 + 1, x198, l201, x204 => bif (decide (x204 < t155.1)) then ((book_limited K x198 1114111).bind fun t246 => ((book_limited K t246.2 647).bind fun t255 => (if (l201).length + (([(⟨(IntKind.wrap .i32 t246.1), t255.1⟩ : T49)] : List T49)).length ≤ 1000000000 then ((book_Read_l2 K t155 k239) t255.2 (l201 ++ ([(⟨(IntKind.wrap .i32 t246.1), t255.1⟩ : T49)] : List T49)) (IntKind.wrap .i64 (x204 + 1))) else none))) else (book_Read_j1 x198 l201)
def book_Read (K : Nat) (p0 : T88) : Option ((List T49) × T88) :=
  (book_limited K p0 1024).bind fun t155 => (book_Read_l2 K t155 K t155.2 ([] : List T49) 0)

/-! tidewrack/tidewrackref01.Read -/
def tidewrackref01_Read_j1 : Option (T60 × Int) :=
  some ((⟨(⟨#[]⟩ : ByteArray), 1⟩ : T60), 0)
def tidewrackref01_Read_j3 (p0 : T60) (x243 : Int) (x244 : Int) (x245 : Int) : Option (T60 × Int) :=
  if 0 ≤ (IntKind.wrap .i64 (x245 + 1)) then (if (IntKind.wrap .i64 (x245 + 1)) ≤ ((p0.S).size : Int) then (some ((⟨(ByteArray.extract p0.S (Int.toNat (IntKind.wrap .i64 (x245 + 1))) (p0.S).size), 0⟩ : T60), (IntKind.wrap .i64 (x243 + (IntKind.wrap .i64 ((Int.tmod (IntKind.wrap .i64 (bt p0.S x245)) 128) * x244)))))) else none) else none
def tidewrackref01_Read_j4 (p0 : T60) (x243 : Int) (x244 : Int) (x245 : Int) (x343 : Bool) : Option (T60 × Int) :=
  bif x343 then (some ((⟨(⟨#[]⟩ : ByteArray), 1⟩ : T60), 0)) else (tidewrackref01_Read_j3 p0 x243 x244 x245)
def tidewrackref01_Read_l2 (p0 : T60) : Nat → Int → Int → Int → Option (T60 × Int)
  | 0, _, _, _ => none
  | k299 + 1, x243, x244, x245 => bif (decide (x245 < (9 : Int))) then (bif (x245 == ((p0.S).size : Int)) then (some ((⟨(⟨#[]⟩ : ByteArray), 2⟩ : T60), 0)) else (if 0 ≤ x245 ∧ x245 < ((p0.S).size : Int) then (bif (decide ((IntKind.wrap .i64 (bt p0.S x245)) < (128 : Int))) then (bif (decide (x245 > (0 : Int))) then (bif ((IntKind.wrap .i64 (bt p0.S x245)) == (0 : Int)) then (tidewrackref01_Read_j4 p0 x243 x244 x245 true) else (tidewrackref01_Read_j4 p0 x243 x244 x245 (decide ((IntKind.wrap .i64 (x243 + (IntKind.wrap .i64 ((Int.tmod (IntKind.wrap .i64 (bt p0.S x245)) 128) * x244)))) > (4611686018427387904 : Int))))) else (tidewrackref01_Read_j4 p0 x243 x244 x245 (decide ((IntKind.wrap .i64 (x243 + (IntKind.wrap .i64 ((Int.tmod (IntKind.wrap .i64 (bt p0.S x245)) 128) * x244)))) > (4611686018427387904 : Int))))) else (bif (decide (x245 < (8 : Int))) then ((tidewrackref01_Read_l2 p0 k299) (IntKind.wrap .i64 (x243 + (IntKind.wrap .i64 ((Int.tmod (IntKind.wrap .i64 (bt p0.S x245)) 128) * x244)))) (IntKind.wrap .i64 (x244 * 128)) (IntKind.wrap .i64 (x245 + 1))) else ((tidewrackref01_Read_l2 p0 k299) (IntKind.wrap .i64 (x243 + (IntKind.wrap .i64 ((Int.tmod (IntKind.wrap .i64 (bt p0.S x245)) 128) * x244)))) x244 (IntKind.wrap .i64 (x245 + 1))))) else none)) else (tidewrackref01_Read_j1)
def tidewrackref01_Read (K : Nat) (p0 : T60) : Option (T60 × Int) :=
  bif (p0.E != (0 : Int)) then (some (p0, 0)) else (tidewrackref01_Read_l2 p0 K 0 1 0)

/-! tidewrack/tidewrackref12.Read -/
def tidewrackref12_Read_j2 (x360 : T60) (l363 : List T69) : Option (T60 × (List T69)) :=
  bif (x360.E != (0 : Int)) then (some (x360, ([] : List T69))) else (some (x360, l363))
def tidewrackref12_Read_j6 (l476 : List T69) (x479 : Int) (lp577 : T60 → (List T69) → Int → Option (T60 × (List T69))) (t589 : T60 × Int) (t620 : T60 × Int) (x636 : Bool) : Option (T60 × (List T69)) :=
  bif x636 then (some ((⟨(⟨#[]⟩ : ByteArray), 1⟩ : T60), ([] : List T69))) else (if (l476).length + (([(⟨t589.2, t620.2⟩ : T69)] : List T69)).length ≤ 1000000000 then (lp577 t620.1 (l476 ++ ([(⟨t589.2, t620.2⟩ : T69)] : List T69)) (IntKind.wrap .i64 (x479 + 1))) else none)
def tidewrackref12_Read_j5 (K : Nat) (l476 : List T69) (x479 : Int) (lp577 : T60 → (List T69) → Int → Option (T60 × (List T69))) (t589 : T60 × Int) : Option (T60 × (List T69)) :=
  (tidewrackref01_Read K t589.1).bind fun t620 => (bif (t620.1.E == (0 : Int)) then (tidewrackref12_Read_j6 l476 x479 lp577 t589 t620 (decide (t620.2 > (647 : Int)))) else (tidewrackref12_Read_j6 l476 x479 lp577 t589 t620 false))
def tidewrackref12_Read_j7 (K : Nat) (l476 : List T69) (x479 : Int) (lp577 : T60 → (List T69) → Int → Option (T60 × (List T69))) (t589 : T60 × Int) (x665 : Bool) : Option (T60 × (List T69)) :=
  bif x665 then (some ((⟨(⟨#[]⟩ : ByteArray), 1⟩ : T60), ([] : List T69))) else (tidewrackref12_Read_j5 K l476 x479 lp577 t589)
def tidewrackref12_Read_j4 (K : Nat) (x473 : T60) (l476 : List T69) (x479 : Int) (lp577 : T60 → (List T69) → Int → Option (T60 × (List T69))) : Option (T60 × (List T69)) :=
  (tidewrackref01_Read K x473).bind fun t589 => (bif (t589.1.E == (0 : Int)) then (tidewrackref12_Read_j7 K l476 x479 lp577 t589 (decide (t589.2 > (1114111 : Int)))) else (tidewrackref12_Read_j7 K l476 x479 lp577 t589 false))
def tidewrackref12_Read_l3 (K : Nat) (t14 : T60 × Int) : Nat → T60 → (List T69) → Int → Option (T60 × (List T69))
  | 0, _, _, _ => none
  | k576 + 1, x473, l476, x479 => bif (decide (x479 < t14.2)) then (bif (x473.E == (0 : Int)) then (tidewrackref12_Read_j4 K x473 l476 x479 (tidewrackref12_Read_l3 K t14 k576)) else (tidewrackref12_Read_j2 x473 l476)) else (tidewrackref12_Read_j2 x473 l476)
def tidewrackref12_Read_j1 (K : Nat) (t14 : T60 × Int) : Option (T60 × (List T69)) :=
  tidewrackref12_Read_l3 K t14 K t14.1 ([] : List T69) 0
def tidewrackref12_Read_j8 (K : Nat) (t14 : T60 × Int) (x682 : Bool) : Option (T60 × (List T69)) :=
  bif x682 then (some ((⟨(⟨#[]⟩ : ByteArray), 1⟩ : T60), ([] : List T69))) else (tidewrackref12_Read_j1 K t14)
def tidewrackref12_Read (K : Nat) (p0 : T60) : Option (T60 × (List T69)) :=
  (tidewrackref01_Read K p0).bind fun t14 => (bif (t14.1.E == (0 : Int)) then (tidewrackref12_Read_j8 K t14 (decide (t14.2 > (1024 : Int)))) else (tidewrackref12_Read_j8 K t14 false))

/-! (*tidewrack/num.In).Left -/
def num_In_Left (p0 : T88) : Option Int :=
  some ((p0.s).size : Int)

/-! tidewrack/tidewracklaw12.BookReads -/
def tidewracklaw12_BookReads_j1 (K : Nat) (t13 : ByteArray) (t31 : (List T49) × T88) (t44 : T60 × (List T69)) : Option Bool :=
  bif (t44.1.E != (0 : Int)) then (some true) else (if 0 ≤ (IntKind.wrap .i64 (((t13).size : Int) - ((t44.1.S).size : Int))) then (if (IntKind.wrap .i64 (((t13).size : Int) - ((t44.1.S).size : Int))) ≤ ((t13).size : Int) then ((book_Pack K t31.1).bind fun t177 => (some (ByteArray.toList t177 == ByteArray.toList (ByteArray.extract t13 0 (Int.toNat (IntKind.wrap .i64 (((t13).size : Int) - ((t44.1.S).size : Int)))))))) else none) else none)
def tidewracklaw12_BookReads (K : Nat) (p0 : ByteArray) : Option Bool :=
  (tidewracklaw12_awake K).bind fun t4 => (bif (!t4) then (some false) else ((tidewracklaw01_Cut p0 120).bind fun t13 => ((num_Of t13).bind fun t21 => ((book_Read K t21).bind fun t31 => ((tidewrackref12_Read K (⟨t13, 0⟩ : T60)).bind fun t44 => ((tidewracklaw09_Glyphs K t31.1 t44.2).bind fun t239 => (bif (!t239) then (some false) else ((num_In_Left t31.2).bind fun t248 => (bif (t248 != ((t44.1.S).size : Int)) then (some false) else ((num_In_Err t31.2).bind fun t257 => (bif (t257 != t44.1.E) then (some false) else (tidewracklaw12_BookReads_j1 K t13 t31 t44))))))))))))

/-! tidewrack/tidewrackref01.Num -/
def tidewrackref01_Num_j1 (x78 : Int) (l81 : List Int) : Option ByteArray :=
  if (l81).length + (([(IntKind.wrap .u8 x78)] : List Int)).length ≤ 1000000000 then (some (strOfNums (l81 ++ ([(IntKind.wrap .u8 x78)] : List Int)))) else none
def tidewrackref01_Num_l2 : Nat → Int → (List Int) → Option ByteArray
  | 0, _, _ => none
  | k140 + 1, x118, l121 => bif (decide (x118 ≥ (128 : Int))) then (if (l121).length + (([(IntKind.wrap .u8 (IntKind.wrap .i64 (128 + (Int.tmod x118 128))))] : List Int)).length ≤ 1000000000 then ((tidewrackref01_Num_l2 k140) (IntKind.wrap .i64 (Int.tdiv x118 128)) (l121 ++ ([(IntKind.wrap .u8 (IntKind.wrap .i64 (128 + (Int.tmod x118 128))))] : List Int))) else none) else (tidewrackref01_Num_j1 x118 l121)
def tidewrackref01_Num (K : Nat) (p0 : Int) : Option ByteArray :=
  tidewrackref01_Num_l2 K (mxI 0 (mnI p0 4611686018427387904)) ([] : List Int)

/-! tidewrack/tidewrackref12.Pack -/
def tidewrackref12_Pack_j1 (x227 : ByteArray) : Option ByteArray :=
  some x227
def tidewrackref12_Pack_l2 (K : Nat) (p0 : List T69) : Nat → ByteArray → Int → Option ByteArray
  | 0, _, _ => none
  | k370 + 1, x300, x301 => bif (decide (x301 < ((p0).length : Int))) then (if 0 ≤ x301 ∧ x301 < ((p0).length : Int) then ((tidewrackref01_Num K ((rdD zT69 p0 x301).Rune)).bind fun t425 => ((tidewrackref01_Num K ((rdD zT69 p0 x301).Style)).bind fun t433 => (if ((t425.size + t433.size : Nat) : Int) ≤ 9223372036854775807 then (if ((x300.size + (t425 ++ t433).size : Nat) : Int) ≤ 9223372036854775807 then ((tidewrackref12_Pack_l2 K p0 k370) (x300 ++ (t425 ++ t433)) (IntKind.wrap .i64 (x301 + 1))) else none) else none))) else none) else (tidewrackref12_Pack_j1 x300)
def tidewrackref12_Pack (K : Nat) (p0 : List T69) : Option ByteArray :=
  (tidewrackref01_Num K ((p0).length : Int)).bind fun t4 => (tidewrackref12_Pack_l2 K p0 K t4 0)

/-! (*tidewrack/num.In).End -/
def num_In_End (p0 : T88) : Option Int :=
  bif (!(ByteArray.toList p0.s == ByteArray.toList (⟨#[]⟩ : ByteArray))) then (some 1) else (some p0.e)

/-! tidewrack/tidewracklaw12.BookBack -/
def tidewracklaw12_BookBack_j1 (K : Nat) (p0 : List T49) (l132 : List T69) (x135 : Bool) : Option Bool :=
  (book_Pack K (List.drop 0 (List.take (Int.toNat (mnI ((p0).length : Int) 60)) p0))).bind fun t140 => ((tidewrackref12_Pack K l132).bind fun t148 => (bif (!(ByteArray.toList t140 == ByteArray.toList t148)) then (some false) else ((num_Of t140).bind fun t157 => ((book_Read K t157).bind fun t167 => (bif (!x135) then (some true) else ((num_In_End t167.2).bind fun t181 => (bif (t181 == (0 : Int)) then ((tidewracklaw09_Glyphs K t167.1 l132).bind fun t190 => (some t190)) else (some false))))))))
def tidewracklaw12_BookBack_l2 (K : Nat) (p0 : List T49) : Nat → (List T69) → Bool → Int → Option Bool
  | 0, _, _, _ => none
  | k264 + 1, l229, x232, x233 => bif (decide (x233 < (((List.drop 0 (List.take (Int.toNat (mnI ((p0).length : Int) 60)) p0))).length : Int))) then (if 0 ≤ x233 ∧ x233 < (((List.drop 0 (List.take (Int.toNat (mnI ((p0).length : Int) 60)) p0))).length : Int) then (if (l229).length + (([(⟨(IntKind.wrap .i64 ((rdD zT49 (List.drop 0 (List.take (Int.toNat (mnI ((p0).length : Int) 60)) p0)) x233).Rune)), (rdD zT49 (List.drop 0 (List.take (Int.toNat (mnI ((p0).length : Int) 60)) p0)) x233).Style⟩ : T69)] : List T69)).length ≤ 1000000000 then (bif x232 then (bif (decide (((rdD zT49 (List.drop 0 (List.take (Int.toNat (mnI ((p0).length : Int) 60)) p0)) x233).Rune) ≥ (0 : Int))) then (bif (decide (((rdD zT49 (List.drop 0 (List.take (Int.toNat (mnI ((p0).length : Int) 60)) p0)) x233).Rune) ≤ (1114111 : Int))) then (bif (decide (((rdD zT49 (List.drop 0 (List.take (Int.toNat (mnI ((p0).length : Int) 60)) p0)) x233).Style) ≥ (0 : Int))) then ((tidewracklaw12_BookBack_l2 K p0 k264) (l229 ++ ([(⟨(IntKind.wrap .i64 ((rdD zT49 (List.drop 0 (List.take (Int.toNat (mnI ((p0).length : Int) 60)) p0)) x233).Rune)), (rdD zT49 (List.drop 0 (List.take (Int.toNat (mnI ((p0).length : Int) 60)) p0)) x233).Style⟩ : T69)] : List T69)) (decide (((rdD zT49 (List.drop 0 (List.take (Int.toNat (mnI ((p0).length : Int) 60)) p0)) x233).Style) ≤ (647 : Int))) (IntKind.wrap .i64 (x233 + 1))) else ((tidewracklaw12_BookBack_l2 K p0 k264) (l229 ++ ([(⟨(IntKind.wrap .i64 ((rdD zT49 (List.drop 0 (List.take (Int.toNat (mnI ((p0).length : Int) 60)) p0)) x233).Rune)), (rdD zT49 (List.drop 0 (List.take (Int.toNat (mnI ((p0).length : Int) 60)) p0)) x233).Style⟩ : T69)] : List T69)) false (IntKind.wrap .i64 (x233 + 1)))) else ((tidewracklaw12_BookBack_l2 K p0 k264) (l229 ++ ([(⟨(IntKind.wrap .i64 ((rdD zT49 (List.drop 0 (List.take (Int.toNat (mnI ((p0).length : Int) 60)) p0)) x233).Rune)), (rdD zT49 (List.drop 0 (List.take (Int.toNat (mnI ((p0).length : Int) 60)) p0)) x233).Style⟩ : T69)] : List T69)) false (IntKind.wrap .i64 (x233 + 1)))) else ((tidewracklaw12_BookBack_l2 K p0 k264) (l229 ++ ([(⟨(IntKind.wrap .i64 ((rdD zT49 (List.drop 0 (List.take (Int.toNat (mnI ((p0).length : Int) 60)) p0)) x233).Rune)), (rdD zT49 (List.drop 0 (List.take (Int.toNat (mnI ((p0).length : Int) 60)) p0)) x233).Style⟩ : T69)] : List T69)) false (IntKind.wrap .i64 (x233 + 1)))) else ((tidewracklaw12_BookBack_l2 K p0 k264) (l229 ++ ([(⟨(IntKind.wrap .i64 ((rdD zT49 (List.drop 0 (List.take (Int.toNat (mnI ((p0).length : Int) 60)) p0)) x233).Rune)), (rdD zT49 (List.drop 0 (List.take (Int.toNat (mnI ((p0).length : Int) 60)) p0)) x233).Style⟩ : T69)] : List T69)) false (IntKind.wrap .i64 (x233 + 1)))) else none) else none) else (tidewracklaw12_BookBack_j1 K p0 l229 x232)
def tidewracklaw12_BookBack (K : Nat) (p0 : List T49) : Option Bool :=
  (tidewracklaw12_awake K).bind fun t4 => (bif (!t4) then (some false) else (if 0 ≤ (mnI ((p0).length : Int) 60) then (if (mnI ((p0).length : Int) 60) ≤ ((p0).length : Int) then (tidewracklaw12_BookBack_l2 K p0 K ([] : List T69) true 0) else none) else none))

end Go.Proofs.YthmdgjdgnfoloaaDoor
