/- Plain functions, printed by an own program: what the walked code computes. -/
import Derived.Test.YtpciioffkjpieaaDoorY31
set_option linter.unusedVariables false
set_option linter.unusedSimpArgs false
namespace Go.Proofs.YtpciioffkjpieaaDoor
open Go Go.Proofs.XC
structure T111 where
  Rune : Int
  Style : Int
  Part : Int
abbrev zT111 : T111 := ⟨0, 0, 0⟩
structure T31 where
  Cells : List T111
  Wrapped : Bool
structure T97 where
  from_ : Int
  to : Int
abbrev zT97 : T97 := ⟨0, 0⟩
structure T36 where
  Rune : Int
  Style : Int
abbrev zT36 : T36 := ⟨0, 0⟩
def eqT36 (x y : T36) : Bool := ((x.Rune == y.Rune) && ((x.Style == y.Style) && true))
def eqT111 (x y : T111) : Bool := ((x.Rune == y.Rune) && ((x.Style == y.Style) && ((x.Part == y.Part) && true)))
namespace WF
def wfBool (_ : Bool) : Prop := True
def wfStr (x : ByteArray) : Prop := x.size ≤ maxLen
def wfi64 (x : Int) : Prop := (Lit.int .i64 x).wf = true
def wfi32 (x : Int) : Prop := (Lit.int .i32 x).wf = true
def wfu8 (x : Int) : Prop := (Lit.int .u8 x).wf = true
def wfu32 (x : Int) : Prop := (Lit.int .u32 x).wf = true
def wfu64 (x : Int) : Prop := (Lit.int .u64 x).wf = true
def wfi8 (x : Int) : Prop := (Lit.int .i8 x).wf = true
def wfi16 (x : Int) : Prop := (Lit.int .i16 x).wf = true
def wfu16 (x : Int) : Prop := (Lit.int .u16 x).wf = true
def wfT111 (x : T111) : Prop := (Lit.int .i32 x.Rune).wf = true ∧ (Lit.int .i64 x.Style).wf = true ∧ (Lit.int .i64 x.Part).wf = true
def wfT31 (x : T31) : Prop := (∀ y ∈ x.Cells, wfT111 y) ∧ x.Cells.length ≤ maxLen
def wfT97 (x : T97) : Prop := (Lit.int .i32 x.from_).wf = true ∧ (Lit.int .i32 x.to).wf = true
def wfT36 (x : T36) : Prop := (Lit.int .i32 x.Rune).wf = true ∧ (Lit.int .i64 x.Style).wf = true
end WF
def glob0 : List T97 := [⟨(-2147483648), 31⟩, ⟨127, 159⟩, ⟨768, 879⟩, ⟨6832, 6911⟩, ⟨7616, 7679⟩, ⟨8203, 8207⟩, ⟨8400, 8447⟩, ⟨55296, 57343⟩, ⟨65024, 65039⟩, ⟨65056, 65071⟩, ⟨65279, 65279⟩, ⟨917760, 917999⟩, ⟨1114112, 2147483647⟩]
def glob1 : List T97 := [⟨4352, 4447⟩, ⟨11904, 12350⟩, ⟨12353, 13311⟩, ⟨13312, 19903⟩, ⟨19968, 40959⟩, ⟨40960, 42191⟩, ⟨44032, 55203⟩, ⟨63744, 64255⟩, ⟨65072, 65135⟩, ⟨65280, 65376⟩, ⟨65504, 65510⟩, ⟨127744, 128591⟩, ⟨129280, 129535⟩, ⟨131072, 262141⟩]
/-! tidewrack/row.clip -/
def row_clip (p0 : Int) (p1 : Int) (p2 : Int) : Option Int :=
  some (mxI p1 (mnI p0 p2))

/-! tidewrack/row.blank -/
def row_blank (p0 : Int) : Option T111 :=
  some (⟨32, p0, 0⟩ : T111)

/-! math/bits.Mul32 -/
def bits_Mul32 (p0 : Int) (p1 : Int) : Option (Int × Int) :=
  some ((IntKind.wrap .u32 (Int.fdiv (IntKind.wrap .u64 ((IntKind.wrap .u64 p0) * (IntKind.wrap .u64 p1))) (2 ^ min (Int.toNat 32) 64))), (IntKind.wrap .u32 (IntKind.wrap .u64 ((IntKind.wrap .u64 p0) * (IntKind.wrap .u64 p1)))))

/-! math/bits.Mul64 -/
def bits_Mul64 (p0 : Int) (p1 : Int) : Option (Int × Int) :=
  some ((IntKind.wrap .u64 ((IntKind.wrap .u64 ((IntKind.wrap .u64 ((Int.fdiv p0 (2 ^ min (Int.toNat 32) 64)) * (Int.fdiv p1 (2 ^ min (Int.toNat 32) 64)))) + (Int.fdiv (IntKind.wrap .u64 ((IntKind.wrap .u64 ((Int.fdiv p0 (2 ^ min (Int.toNat 32) 64)) * (bits .and .u64 p1 4294967295))) + (Int.fdiv (IntKind.wrap .u64 ((bits .and .u64 p0 4294967295) * (bits .and .u64 p1 4294967295))) (2 ^ min (Int.toNat 32) 64)))) (2 ^ min (Int.toNat 32) 64)))) + (Int.fdiv (IntKind.wrap .u64 ((bits .and .u64 (IntKind.wrap .u64 ((IntKind.wrap .u64 ((Int.fdiv p0 (2 ^ min (Int.toNat 32) 64)) * (bits .and .u64 p1 4294967295))) + (Int.fdiv (IntKind.wrap .u64 ((bits .and .u64 p0 4294967295) * (bits .and .u64 p1 4294967295))) (2 ^ min (Int.toNat 32) 64)))) 4294967295) + (IntKind.wrap .u64 ((bits .and .u64 p0 4294967295) * (Int.fdiv p1 (2 ^ min (Int.toNat 32) 64)))))) (2 ^ min (Int.toNat 32) 64)))), (IntKind.wrap .u64 (p0 * p1)))

/-! math/bits.Mul -/
def bits_Mul (p0 : Int) (p1 : Int) : Option (Int × Int) :=
  (bits_Mul64 p0 p1).bind fun t4 => (some (t4.1, t4.2))

/-! slices.Repeat[[]tidewrack/row.Cell,tidewrack/row.Cell] -/
def slices_Repeat_j3 (l180 : List T111) : Option (List T111) :=
  some l180
def slices_Repeat_l4 : Nat → (List T111) → Int → Option (List T111)
  | 0, _, _ => none
  | k267 + 1, l226, x229 => bif (decide (x229 < ((l226).length : Int))) then (if 0 ≤ x229 then (if x229 ≤ ((l226).length : Int) then ((slices_Repeat_l4 k267) (cpy (Int.toNat x229) l226 (List.take (Int.toNat x229) l226)) (IntKind.wrap .i64 (x229 + ((min ((List.take (Int.toNat x229) l226)).length ((l226).length - (Int.toNat x229)) : Nat) : Int)))) else none) else none) else (slices_Repeat_j3 l226)
def slices_Repeat_j2 (K : Nat) (p0 : List T111) (t10 : Int × Int) : Option (List T111) :=
  if 0 ≤ (IntKind.wrap .i64 t10.2) then (if (IntKind.wrap .i64 t10.2) ≤ 1000000000 then (slices_Repeat_l4 K (cpy 0 (List.replicate (Int.toNat (IntKind.wrap .i64 t10.2)) (zT111 : T111)) p0) ((min (p0).length (((List.replicate (Int.toNat (IntKind.wrap .i64 t10.2)) (zT111 : T111))).length - 0) : Nat) : Int)) else none) else none
def slices_Repeat_j5 (K : Nat) (p0 : List T111) (t10 : Int × Int) (x314 : Bool) : Option (List T111) :=
  bif x314 then (none) else (slices_Repeat_j2 K p0 t10)
def slices_Repeat_j1 (K : Nat) (p0 : List T111) (p1 : Int) : Option (List T111) :=
  (bits_Mul (IntKind.wrap .u64 ((p0).length : Int)) (IntKind.wrap .u64 p1)).bind fun t10 => (bif (decide (t10.1 > (0 : Int))) then (slices_Repeat_j5 K p0 t10 true) else (slices_Repeat_j5 K p0 t10 (decide (t10.2 > (9223372036854775807 : Int)))))
def slices_Repeat (K : Nat) (p0 : List T111) (p1 : Int) : Option (List T111) :=
  bif (decide (p1 < (0 : Int))) then (none) else (slices_Repeat_j1 K p0 p1)

/-! tidewrack/row.blanks -/
def row_blanks (K : Nat) (p0 : Int) (p1 : Int) : Option (List T111) :=
  (row_blank p1).bind fun t4 => ((slices_Repeat K ([t4] : List T111) (mxI 0 p0)).bind fun t18 => (some t18))

/-! tidewrack/row.Blank -/
def row_Blank (K : Nat) (p0 : Int) (p1 : Int) : Option T31 :=
  (row_clip p0 0 1000).bind fun t9 => ((row_blanks K t9 p1).bind fun t17 => (some (⟨t17, false⟩ : T31)))

/-! tidewrack/wide.in -/
def wide_in_j1 (p0 : List T97) (p1 : Int) (x30 : Int) : Option Bool :=
  bif (decide (x30 < ((p0).length : Int))) then (if 0 ≤ x30 ∧ x30 < ((p0).length : Int) then (some (decide (((rdD zT97 p0 x30).from_) ≤ p1))) else none) else (some false)
def wide_in_l2 (p0 : List T97) (p1 : Int) : Nat → Int → Int → Option Bool
  | 0, _, _ => none
  | k50 + 1, x43, x44 => bif (decide (x43 < x44)) then (if 0 ≤ (IntKind.wrap .i64 (Int.tdiv (IntKind.wrap .i64 (x43 + x44)) 2)) ∧ (IntKind.wrap .i64 (Int.tdiv (IntKind.wrap .i64 (x43 + x44)) 2)) < ((p0).length : Int) then (bif (decide (((rdD zT97 p0 (IntKind.wrap .i64 (Int.tdiv (IntKind.wrap .i64 (x43 + x44)) 2))).to) < p1)) then ((wide_in_l2 p0 p1 k50) (IntKind.wrap .i64 ((IntKind.wrap .i64 (Int.tdiv (IntKind.wrap .i64 (x43 + x44)) 2)) + 1)) x44) else ((wide_in_l2 p0 p1 k50) x43 (IntKind.wrap .i64 (Int.tdiv (IntKind.wrap .i64 (x43 + x44)) 2)))) else none) else (wide_in_j1 p0 p1 x43)
def wide_in (K : Nat) (p0 : List T97) (p1 : Int) : Option Bool :=
  wide_in_l2 p0 p1 K 0 ((p0).length : Int)

/-! tidewrack/wide.Of -/
def wide_Of (K : Nat) (p0 : Int) : Option Int :=
  (wide_in K glob0 p0).bind fun t4 => (bif t4 then (some 0) else ((wide_in K glob1 p0).bind fun t13 => (bif t13 then (some 2) else (some 1))))

/-! slices.Clone[[]tidewrack/row.Cell,tidewrack/row.Cell] -/
def slices_Clone (p0 : List T111) : Option (List T111) :=
  if (([] : List T111)).length + (p0).length ≤ 1000000000 then (some (([] : List T111) ++ p0)) else none

/-! (tidewrack/row.Row).cells -/
def row_Row_cells (p0 : T31) : Option (List T111) :=
  (slices_Clone p0.Cells).bind fun t9 => (some t9)

/-! tidewrack/row.broken -/
def row_broken (p0 : List T111) (p1 : Int) : Option Bool :=
  if 0 ≤ p1 ∧ p1 < ((p0).length : Int) then (bif (((rdD zT111 p0 p1).Part) == (1 : Int)) then (bif (decide ((IntKind.wrap .i64 (p1 + 1)) ≥ ((p0).length : Int))) then (some true) else (if 0 ≤ (IntKind.wrap .i64 (p1 + 1)) ∧ (IntKind.wrap .i64 (p1 + 1)) < ((p0).length : Int) then (some (((rdD zT111 p0 (IntKind.wrap .i64 (p1 + 1))).Part) != (2 : Int))) else none)) else (bif (((rdD zT111 p0 p1).Part) == (2 : Int)) then (bif (p1 == (0 : Int)) then (some true) else (if 0 ≤ (IntKind.wrap .i64 (p1 - 1)) ∧ (IntKind.wrap .i64 (p1 - 1)) < ((p0).length : Int) then (some (((rdD zT111 p0 (IntKind.wrap .i64 (p1 - 1))).Part) != (1 : Int))) else none)) else (bif (((rdD zT111 p0 p1).Part) == (3 : Int)) then (some (p1 != (IntKind.wrap .i64 (((p0).length : Int) - 1)))) else (some false)))) else none

/-! tidewrack/row.mend -/
def row_mend_j1 (l105 : List T111) : Option T31 :=
  some (⟨l105, false⟩ : T31)
def row_mend_l2 (p0 : List T111) : Nat → (List T111) → Int → Option T31
  | 0, _, _ => none
  | k171 + 1, l142, x145 => bif (decide (x145 < ((p0).length : Int))) then ((row_broken l142 x145).bind fun t178 => (bif t178 then (if 0 ≤ x145 ∧ x145 < ((l142).length : Int) then ((row_blank ((rdD zT111 l142 x145).Style)).bind fun t189 => ((row_mend_l2 p0 k171) (List.set l142 (Int.toNat x145) t189) (IntKind.wrap .i64 (x145 + 1)))) else none) else ((row_mend_l2 p0 k171) l142 (IntKind.wrap .i64 (x145 + 1))))) else (row_mend_j1 l142)
def row_mend (K : Nat) (p0 : List T111) : Option T31 :=
  row_mend_l2 p0 K p0 0

/-! (tidewrack/row.Row).Put -/
def row_Row_Put_j2 (K : Nat) (p1 : Int) (p2 : Int) (p3 : Int) (t14 : List T111) (x64 : Bool) : Option T31 :=
  bif x64 then (if 0 ≤ (IntKind.wrap .i64 (p1 - 1)) ∧ (IntKind.wrap .i64 (p1 - 1)) < (((List.set (List.set t14 (Int.toNat p1) (⟨p2, p3, 1⟩ : T111)) (Int.toNat (IntKind.wrap .i64 (p1 + 1))) (⟨p2, p3, 2⟩ : T111))).length : Int) then ((row_blank ((rdD zT111 (List.set (List.set t14 (Int.toNat p1) (⟨p2, p3, 1⟩ : T111)) (Int.toNat (IntKind.wrap .i64 (p1 + 1))) (⟨p2, p3, 2⟩ : T111)) (IntKind.wrap .i64 (p1 - 1))).Style)).bind fun t86 => ((row_mend K (List.set (List.set (List.set t14 (Int.toNat p1) (⟨p2, p3, 1⟩ : T111)) (Int.toNat (IntKind.wrap .i64 (p1 + 1))) (⟨p2, p3, 2⟩ : T111)) (Int.toNat (IntKind.wrap .i64 (p1 - 1))) t86)).bind fun t98 => (some t98))) else none) else ((row_mend K (List.set (List.set t14 (Int.toNat p1) (⟨p2, p3, 1⟩ : T111)) (Int.toNat (IntKind.wrap .i64 (p1 + 1))) (⟨p2, p3, 2⟩ : T111))).bind fun t70 => (some t70))
def row_Row_Put_j1 (K : Nat) (p1 : Int) (p2 : Int) (p3 : Int) (t14 : List T111) (t26 : Int) (x40 : Bool) : Option T31 :=
  bif x40 then ((row_mend K t14).bind fun t136 => (some t136)) else (bif (t26 == (1 : Int)) then (if 0 ≤ p1 ∧ p1 < ((t14).length : Int) then ((row_mend K (List.set t14 (Int.toNat p1) (⟨p2, p3, 0⟩ : T111))).bind fun t121 => (some t121)) else none) else (if 0 ≤ p1 ∧ p1 < ((t14).length : Int) then (if 0 ≤ (IntKind.wrap .i64 (p1 + 1)) ∧ (IntKind.wrap .i64 (p1 + 1)) < (((List.set t14 (Int.toNat p1) (⟨p2, p3, 1⟩ : T111))).length : Int) then (bif (decide (p1 > (0 : Int))) then (if 0 ≤ (IntKind.wrap .i64 (p1 - 1)) ∧ (IntKind.wrap .i64 (p1 - 1)) < (((List.set (List.set t14 (Int.toNat p1) (⟨p2, p3, 1⟩ : T111)) (Int.toNat (IntKind.wrap .i64 (p1 + 1))) (⟨p2, p3, 2⟩ : T111))).length : Int) then (row_Row_Put_j2 K p1 p2 p3 t14 (((rdD zT111 (List.set (List.set t14 (Int.toNat p1) (⟨p2, p3, 1⟩ : T111)) (Int.toNat (IntKind.wrap .i64 (p1 + 1))) (⟨p2, p3, 2⟩ : T111)) (IntKind.wrap .i64 (p1 - 1))).Part) == (1 : Int))) else none) else (row_Row_Put_j2 K p1 p2 p3 t14 false)) else none) else none))
def row_Row_Put (K : Nat) (p0 : T31) (p1 : Int) (p2 : Int) (p3 : Int) : Option T31 :=
  (row_Row_cells p0).bind fun t14 => ((wide_Of K p2).bind fun t26 => (bif (t26 == (0 : Int)) then (row_Row_Put_j1 K p1 p2 p3 t14 t26 true) else (bif (decide (p1 < (0 : Int))) then (row_Row_Put_j1 K p1 p2 p3 t14 t26 true) else (row_Row_Put_j1 K p1 p2 p3 t14 t26 (decide (p1 > (IntKind.wrap .i64 (((t14).length : Int) - t26))))))))

/-! (tidewrack/row.Row).Glyphs -/
def row_Row_Glyphs_j2 (l312 : List T36) : Option (List T36) :=
  some l312
def row_Row_Glyphs_j4 (l170 : List T111) (l359 : List T36) (x362 : Int) (lp402 : (List T36) → Int → Option (List T36)) (x423 : Bool) : Option (List T36) :=
  bif x423 then (if (l359).length + (([(⟨(rdD zT111 l170 x362).Rune, (rdD zT111 l170 x362).Style⟩ : T36)] : List T36)).length ≤ 1000000000 then (lp402 (l359 ++ ([(⟨(rdD zT111 l170 x362).Rune, (rdD zT111 l170 x362).Style⟩ : T36)] : List T36)) (IntKind.wrap .i64 (x362 + 1))) else none) else (lp402 l359 (IntKind.wrap .i64 (x362 + 1)))
def row_Row_Glyphs_l3 (l170 : List T111) : Nat → (List T36) → Int → Option (List T36)
  | 0, _, _ => none
  | k401 + 1, l359, x362 => bif (decide (x362 < ((l170).length : Int))) then (if 0 ≤ x362 ∧ x362 < ((l170).length : Int) then (bif (((rdD zT111 l170 x362).Part) == (0 : Int)) then (row_Row_Glyphs_j4 l170 l359 x362 (row_Row_Glyphs_l3 l170 k401) true) else (row_Row_Glyphs_j4 l170 l359 x362 (row_Row_Glyphs_l3 l170 k401) (((rdD zT111 l170 x362).Part) == (1 : Int)))) else none) else (row_Row_Glyphs_j2 l359)
def row_Row_Glyphs_j1 (K : Nat) (l170 : List T111) : Option (List T36) :=
  row_Row_Glyphs_l3 l170 K ([] : List T36) 0
def row_Row_Glyphs_l5 (K : Nat) (p0 : T31) : Nat → (List T111) → Option (List T36)
  | 0, _ => none
  | k543 + 1, l493 => bif (!p0.Wrapped) then (bif (decide (((l493).length : Int) > (0 : Int))) then (if 0 ≤ (IntKind.wrap .i64 (((l493).length : Int) - 1)) ∧ (IntKind.wrap .i64 (((l493).length : Int) - 1)) < ((l493).length : Int) then ((row_blank 0).bind fun t579 => (bif (eqT111 (rdD zT111 l493 (IntKind.wrap .i64 (((l493).length : Int) - 1))) t579) then (if 0 ≤ (IntKind.wrap .i64 (((l493).length : Int) - 1)) then (if (IntKind.wrap .i64 (((l493).length : Int) - 1)) ≤ ((l493).length : Int) then ((row_Row_Glyphs_l5 K p0 k543) (List.drop 0 (List.take (Int.toNat (IntKind.wrap .i64 (((l493).length : Int) - 1))) l493))) else none) else none) else (row_Row_Glyphs_j1 K l493))) else none) else (row_Row_Glyphs_j1 K l493)) else (row_Row_Glyphs_j1 K l493)
def row_Row_Glyphs (K : Nat) (p0 : T31) : Option (List T36) :=
  row_Row_Glyphs_l5 K p0 K p0.Cells

/-! tidewrack/tidewracktop.TidewrackShown -/
def tidewracktop_TidewrackShown_j3 : Option Bool :=
  some true
def tidewracktop_TidewrackShown_l4 (l340 : List T36) (t347 : List T36) : Nat → Int → Option Bool
  | 0, _ => none
  | k457 + 1, x439 => bif (decide (x439 < ((l340).length : Int))) then (if 0 ≤ x439 ∧ x439 < ((t347).length : Int) then (if 0 ≤ x439 ∧ x439 < ((l340).length : Int) then (bif (!(eqT36 (rdD zT36 t347 x439) (rdD zT36 l340 x439))) then (some false) else ((tidewracktop_TidewrackShown_l4 l340 t347 k457) (IntKind.wrap .i64 (x439 + 1)))) else none) else none) else (tidewracktop_TidewrackShown_j3)
def tidewracktop_TidewrackShown_j2 (K : Nat) (l334 : List T111) (x337 : Bool) (l340 : List T36) : Option Bool :=
  (row_Row_Glyphs K (⟨l334, x337⟩ : T31)).bind fun t347 => (bif (((t347).length : Int) != ((l340).length : Int)) then (some false) else (tidewracktop_TidewrackShown_l4 l340 t347 K 0))
def tidewracktop_TidewrackShown_j7 (K : Nat) (p0 : List Int) (p2 : Int) (l568 : List T111) (x571 : Bool) (x572 : Int) (l575 : List T36) (x578 : Int) (lp667 : (List T111) → Bool → Int → (List T36) → Int → Option Bool) (t681 : Int) : Option Bool :=
  (row_Row_Put K (⟨l568, x571⟩ : T31) x572 (rdD 0 p0 x578) (IntKind.wrap .i64 (1 + (bits .and .i64 p2 7)))).bind fun t725 => (if (l575).length + (([(⟨(rdD 0 p0 x578), (IntKind.wrap .i64 (1 + (bits .and .i64 p2 7)))⟩ : T36)] : List T36)).length ≤ 1000000000 then (lp667 t725.Cells t725.Wrapped (IntKind.wrap .i64 (x572 + t681)) (l575 ++ ([(⟨(rdD 0 p0 x578), (IntKind.wrap .i64 (1 + (bits .and .i64 p2 7)))⟩ : T36)] : List T36)) (IntKind.wrap .i64 (x578 + 1))) else none)
def tidewracktop_TidewrackShown_j6 (K : Nat) (p0 : List Int) (p1 : Int) (p2 : Int) (l568 : List T111) (x571 : Bool) (x572 : Int) (l575 : List T36) (x578 : Int) (lp667 : (List T111) → Bool → Int → (List T36) → Int → Option Bool) : Option Bool :=
  if 0 ≤ x578 ∧ x578 < ((p0).length : Int) then ((wide_Of K (rdD 0 p0 x578)).bind fun t681 => (bif (t681 == (0 : Int)) then (lp667 l568 x571 x572 l575 (IntKind.wrap .i64 (x578 + 1))) else (bif (decide ((IntKind.wrap .i64 (x572 + t681)) > (bits .and .i64 p1 31))) then (lp667 l568 x571 x572 l575 (IntKind.wrap .i64 (x578 + 1))) else (tidewracktop_TidewrackShown_j7 K p0 p2 l568 x571 x572 l575 x578 lp667 t681)))) else none
def tidewracktop_TidewrackShown_l5 (K : Nat) (p0 : List Int) (p1 : Int) (p2 : Int) : Nat → (List T111) → Bool → Int → (List T36) → Int → Option Bool
  | 0, _, _, _, _, _ => none
  | k666 + 1, l568, x571, x572, l575, x578 => bif (decide (x578 < ((p0).length : Int))) then (bif (decide (x578 < (40 : Int))) then (tidewracktop_TidewrackShown_j6 K p0 p1 p2 l568 x571 x572 l575 x578 (tidewracktop_TidewrackShown_l5 K p0 p1 p2 k666)) else (tidewracktop_TidewrackShown_j2 K l568 x571 l575)) else (tidewracktop_TidewrackShown_j2 K l568 x571 l575)
def tidewracktop_TidewrackShown_j1 (K : Nat) (p0 : List Int) (p1 : Int) (p2 : Int) (t4 : T31) : Option Bool :=
  tidewracktop_TidewrackShown_l5 K p0 p1 p2 K t4.Cells t4.Wrapped 0 ([] : List T36) 0
def tidewracktop_TidewrackShown (K : Nat) (p0 : List Int) (p1 : Int) (p2 : Int) : Option Bool :=
  (row_Blank K (bits .and .i64 p1 31) 0).bind fun t4 => (bif (((t4.Cells).length : Int) != (bits .and .i64 p1 31)) then (some false) else ((wide_Of K 97).bind fun t759 => (bif (t759 != (1 : Int)) then (some false) else (tidewracktop_TidewrackShown_j1 K p0 p1 p2 t4))))

end Go.Proofs.YtpciioffkjpieaaDoor
