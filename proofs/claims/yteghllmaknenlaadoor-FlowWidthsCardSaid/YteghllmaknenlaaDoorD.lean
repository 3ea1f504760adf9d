/- Plain functions, printed by an own program: what the walked code computes. -/
import Derived.Test.YteghllmaknenlaaDoorY35
set_option linter.unusedVariables false
set_option linter.unusedSimpArgs false
namespace Go.Proofs.YteghllmaknenlaaDoor
open Go Go.Proofs.XC
structure T24 where
  Rune : Int
  Style : Int
abbrev zT24 : T24 := ⟨0, 0⟩
structure T68 where
  from_ : Int
  to : Int
abbrev zT68 : T68 := ⟨0, 0⟩
structure T45 where
  a0 : Int
  a1 : Int
abbrev zT45 : T45 := ⟨0, 0⟩
structure T49 where
  Rune : Int
  Style : Int
abbrev zT49 : T49 := ⟨0, 0⟩
namespace WF
def wfBool (_ : Bool) : Prop := True
def wfStr (x : ByteArray) : Prop := x.size ≤ maxLen
def wfi64 (x : Int) : Prop := (Lit.int .i64 x).wf = true
def wfi32 (x : Int) : Prop := (Lit.int .i32 x).wf = true
def wfu8 (x : Int) : Prop := (Lit.int .u8 x).wf = true
def wfu32 (x : Int) : Prop := (Lit.int .u32 x).wf = true
def wfu64 (x : Int) : Prop := (Lit.int .u64 x).wf = true
def wfi8 (x : Int) : Prop := (Lit.int .i8 x).wf = true
def wfi16 (x : Int) : Prop := (Lit.int .i16 x).wf = true
def wfu16 (x : Int) : Prop := (Lit.int .u16 x).wf = true
def wfT24 (x : T24) : Prop := (Lit.int .i32 x.Rune).wf = true ∧ (Lit.int .i64 x.Style).wf = true
def wfT68 (x : T68) : Prop := (Lit.int .i32 x.from_).wf = true ∧ (Lit.int .i32 x.to).wf = true
def wfT45 (x : T45) : Prop := (Lit.int .i64 x.a0).wf = true ∧ (Lit.int .i64 x.a1).wf = true
def wfT49 (x : T49) : Prop := (Lit.int .i64 x.Rune).wf = true ∧ (Lit.int .i64 x.Style).wf = true
end WF
def glob0 : List T68 := [⟨(-2147483648), 31⟩, ⟨127, 159⟩, ⟨768, 879⟩, ⟨6832, 6911⟩, ⟨7616, 7679⟩, ⟨8203, 8207⟩, ⟨8400, 8447⟩, ⟨55296, 57343⟩, ⟨65024, 65039⟩, ⟨65056, 65071⟩, ⟨65279, 65279⟩, ⟨917760, 917999⟩, ⟨1114112, 2147483647⟩]
def glob1 : List T68 := [⟨4352, 4447⟩, ⟨11904, 12350⟩, ⟨12353, 13311⟩, ⟨13312, 19903⟩, ⟨19968, 40959⟩, ⟨40960, 42191⟩, ⟨44032, 55203⟩, ⟨63744, 64255⟩, ⟨65072, 65135⟩, ⟨65280, 65376⟩, ⟨65504, 65510⟩, ⟨127744, 128591⟩, ⟨129280, 129535⟩, ⟨131072, 262141⟩]
/-! tidewrack/flow.runes -/
def flow_runes_j1 (l103 : List Int) : Option (List Int) :=
  some l103
def flow_runes_l2 (p0 : List T24) : Nat → (List Int) → Int → Option (List Int)
  | 0, _, _ => none
  | k168 + 1, l138, x141 => bif (decide (x141 < ((p0).length : Int))) then (if 0 ≤ x141 ∧ x141 < ((p0).length : Int) then (if (l138).length + (([(rdD zT24 p0 x141).Rune] : List Int)).length ≤ 1000000000 then ((flow_runes_l2 p0 k168) (l138 ++ ([(rdD zT24 p0 x141).Rune] : List Int)) (IntKind.wrap .i64 (x141 + 1))) else none) else none) else (flow_runes_j1 l138)
def flow_runes (K : Nat) (p0 : List T24) : Option (List Int) :=
  flow_runes_l2 p0 K ([] : List Int) 0

/-! tidewrack/wide.in -/
def wide_in_j1 (p0 : List T68) (p1 : Int) (x30 : Int) : Option Bool :=
  bif (decide (x30 < ((p0).length : Int))) then (if 0 ≤ x30 ∧ x30 < ((p0).length : Int) then (some (decide (((rdD zT68 p0 x30).from_) ≤ p1))) else none) else (some false)
def wide_in_l2 (p0 : List T68) (p1 : Int) : Nat → Int → Int → Option Bool
  | 0, _, _ => none
  | k50 + 1, x43, x44 => bif (decide (x43 < x44)) then (if 0 ≤ (IntKind.wrap .i64 (Int.tdiv (IntKind.wrap .i64 (x43 + x44)) 2)) ∧ (IntKind.wrap .i64 (Int.tdiv (IntKind.wrap .i64 (x43 + x44)) 2)) < ((p0).length : Int) then (bif (decide (((rdD zT68 p0 (IntKind.wrap .i64 (Int.tdiv (IntKind.wrap .i64 (x43 + x44)) 2))).to) < p1)) then ((wide_in_l2 p0 p1 k50) (IntKind.wrap .i64 ((IntKind.wrap .i64 (Int.tdiv (IntKind.wrap .i64 (x43 + x44)) 2)) + 1)) x44) else ((wide_in_l2 p0 p1 k50) x43 (IntKind.wrap .i64 (Int.tdiv (IntKind.wrap .i64 (x43 + x44)) 2)))) else none) else (wide_in_j1 p0 p1 x43)
def wide_in (K : Nat) (p0 : List T68) (p1 : Int) : Option Bool :=
  wide_in_l2 p0 p1 K 0 ((p0).length : Int)

/-! tidewrack/wide.Of -/
def wide_Of (K : Nat) (p0 : Int) : Option Int :=
  (wide_in K glob0 p0).bind fun t4 => (bif t4 then (some 0) else ((wide_in K glob1 p0).bind fun t13 => (bif t13 then (some 2) else (some 1))))

/-! tidewrack/wide.columns$1 -/
def wide_columns_1_l1 (K : Nat) (p1 : List Int) : Nat → Int → Int → Option (List (Int × Int))
  | 0, _, _ => none
  | k44 + 1, x24, x25 => bif (decide (x25 < ((p1).length : Int))) then (if 0 ≤ x25 ∧ x25 < ((p1).length : Int) then ((wide_Of K (rdD 0 p1 x25)).bind fun t53 => (Option.map (List.cons (x25, (IntKind.wrap .i64 (x24 + t53)))) ((wide_columns_1_l1 K p1 k44) (IntKind.wrap .i64 (x24 + t53)) (IntKind.wrap .i64 (x25 + 1))))) else none) else (some [])
def wide_columns_1 (K : Nat) (p1 : List Int) : Option (List (Int × Int)) :=
  wide_columns_1_l1 K p1 K 0 0

/-! tidewrack/wide.columns -/
def wide_columns (p0 : List Int) : Option Unit :=
  some ()

/-! tidewrack/wide.Fit -/
def wide_Fit_j1 (x83 : Int) : Option Int :=
  some x83
def wide_Fit_x3 (x137 : Int) : Option Int :=
  wide_Fit_j1 x137
def wide_Fit_r2 (p0 : Int) : List (Int × Int) → Int → Option Int
  | [], x120 => wide_Fit_j1 x120
  | x99 :: rest100, x120 => bif (decide (x99.2 > p0)) then (wide_Fit_x3 x120) else ((wide_Fit_r2 p0 rest100) (IntKind.wrap .i64 (x99.1 + 1)))
def wide_Fit (K : Nat) (p0 : Int) (p1 : List Int) : Option Int :=
  (wide_columns p1).bind fun t90 => ((wide_columns_1 K p1).bind fun ys97 => (wide_Fit_r2 p0 ys97 0))

/-! tidewrack/flow.rows$1 -/
def flow_rows_1_l1 (K : Nat) (p1 : Int) : Nat → (List T24) → Option (List (List T24))
  | 0, _ => none
  | k193 + 1, l99 => (flow_runes K l99).bind fun t241 => ((wide_Fit K p1 t241).bind fun t253 => (bif (decide ((mxI 1 t253) ≥ ((l99).length : Int))) then (Option.map (List.cons l99) (some [])) else (if 0 ≤ (mxI 1 t253) then (if (mxI 1 t253) ≤ ((l99).length : Int) then (Option.map (List.cons (List.drop 0 (List.take (Int.toNat (mxI 1 t253)) l99))) ((flow_rows_1_l1 K p1 k193) (List.drop (Int.toNat (mxI 1 t253)) (List.take (l99).length l99)))) else none) else none)))
def flow_rows_1 (K : Nat) (p1 : Int) (p2 : List T24) : Option (List (List T24)) :=
  flow_rows_1_l1 K p1 K p2

/-! tidewrack/flow.rows -/
def flow_rows (p0 : List T24) (p1 : Int) : Option Int :=
  some (mxI 2 (mnI p1 1000))

/-! slices.Clone[[]tidewrack/row.Glyph,tidewrack/row.Glyph] -/
def slices_Clone (p0 : List T24) : Option (List T24) :=
  if (([] : List T24)).length + (p0).length ≤ 1000000000 then (some (([] : List T24) ++ p0)) else none

/-! tidewrack/flow.Cut -/
def flow_Cut_j1 (l417 : List (List T24)) : Option (List (List T24)) :=
  some l417
def flow_Cut_r2 : List (List T24) → (List (List T24)) → Option (List (List T24))
  | [], l573 => flow_Cut_j1 l573
  | x437 :: rest438, l573 => (slices_Clone x437).bind fun t731 => (if (l573).length + (([t731] : List (List T24))).length ≤ 1000000000 then ((flow_Cut_r2 rest438) (l573 ++ ([t731] : List (List T24)))) else none)
def flow_Cut (K : Nat) (p0 : List T24) (p1 : Int) : Option (List (List T24)) :=
  (flow_rows p0 p1).bind fun t426 => ((flow_rows_1 K t426 p0).bind fun ys435 => (flow_Cut_r2 ys435 ([] : List (List T24))))

/-! tidewrack/glyph.Encode -/
def glyph_Encode_j1 (l265 : List Int) : Option ByteArray :=
  some (strOfNums l265)
def glyph_Encode_j3 (l354 : List Int) (x357 : Int) (lp439 : (List Int) → Int → Option ByteArray) (x455 : Int) : Option ByteArray :=
  bif (decide (x455 < (128 : Int))) then (if (l354).length + (([(IntKind.wrap .u8 x455)] : List Int)).length ≤ 1000000000 then (lp439 (l354 ++ ([(IntKind.wrap .u8 x455)] : List Int)) (IntKind.wrap .i64 (x357 + 1))) else none) else (bif (decide (x455 < (2048 : Int))) then (if (l354).length + (([(IntKind.wrap .u8 (bits .or .i32 192 (Int.fdiv x455 (2 ^ min (Int.toNat 6) 32)))), (IntKind.wrap .u8 (bits .or .i32 128 (bits .and .i32 x455 63)))] : List Int)).length ≤ 1000000000 then (lp439 (l354 ++ ([(IntKind.wrap .u8 (bits .or .i32 192 (Int.fdiv x455 (2 ^ min (Int.toNat 6) 32)))), (IntKind.wrap .u8 (bits .or .i32 128 (bits .and .i32 x455 63)))] : List Int)) (IntKind.wrap .i64 (x357 + 1))) else none) else (bif (decide (x455 < (65536 : Int))) then (if (l354).length + (([(IntKind.wrap .u8 (bits .or .i32 224 (Int.fdiv x455 (2 ^ min (Int.toNat 12) 32)))), (IntKind.wrap .u8 (bits .or .i32 128 (bits .and .i32 (Int.fdiv x455 (2 ^ min (Int.toNat 6) 32)) 63))), (IntKind.wrap .u8 (bits .or .i32 128 (bits .and .i32 x455 63)))] : List Int)).length ≤ 1000000000 then (lp439 (l354 ++ ([(IntKind.wrap .u8 (bits .or .i32 224 (Int.fdiv x455 (2 ^ min (Int.toNat 12) 32)))), (IntKind.wrap .u8 (bits .or .i32 128 (bits .and .i32 (Int.fdiv x455 (2 ^ min (Int.toNat 6) 32)) 63))), (IntKind.wrap .u8 (bits .or .i32 128 (bits .and .i32 x455 63)))] : List Int)) (IntKind.wrap .i64 (x357 + 1))) else none) else (if (l354).length + (([(IntKind.wrap .u8 (bits .or .i32 240 (Int.fdiv x455 (2 ^ min (Int.toNat 18) 32)))), (IntKind.wrap .u8 (bits .or .i32 128 (bits .and .i32 (Int.fdiv x455 (2 ^ min (Int.toNat 12) 32)) 63))), (IntKind.wrap .u8 (bits .or .i32 128 (bits .and .i32 (Int.fdiv x455 (2 ^ min (Int.toNat 6) 32)) 63))), (IntKind.wrap .u8 (bits .or .i32 128 (bits .and .i32 x455 63)))] : List Int)).length ≤ 1000000000 then (lp439 (l354 ++ ([(IntKind.wrap .u8 (bits .or .i32 240 (Int.fdiv x455 (2 ^ min (Int.toNat 18) 32)))), (IntKind.wrap .u8 (bits .or .i32 128 (bits .and .i32 (Int.fdiv x455 (2 ^ min (Int.toNat 12) 32)) 63))), (IntKind.wrap .u8 (bits .or .i32 128 (bits .and .i32 (Int.fdiv x455 (2 ^ min (Int.toNat 6) 32)) 63))), (IntKind.wrap .u8 (bits .or .i32 128 (bits .and .i32 x455 63)))] : List Int)) (IntKind.wrap .i64 (x357 + 1))) else none)))
def glyph_Encode_l2 (p0 : List Int) : Nat → (List Int) → Int → Option ByteArray
  | 0, _, _ => none
  | k438 + 1, l354, x357 => bif (decide (x357 < ((p0).length : Int))) then (if 0 ≤ x357 ∧ x357 < ((p0).length : Int) then (bif (decide ((rdD 0 p0 x357) < (0 : Int))) then (glyph_Encode_j3 l354 x357 (glyph_Encode_l2 p0 k438) 65533) else (bif (decide ((rdD 0 p0 x357) > (1114111 : Int))) then (glyph_Encode_j3 l354 x357 (glyph_Encode_l2 p0 k438) 65533) else (bif (decide ((rdD 0 p0 x357) ≥ (55296 : Int))) then (bif (decide ((rdD 0 p0 x357) ≤ (57343 : Int))) then (glyph_Encode_j3 l354 x357 (glyph_Encode_l2 p0 k438) 65533) else (glyph_Encode_j3 l354 x357 (glyph_Encode_l2 p0 k438) (rdD 0 p0 x357))) else (glyph_Encode_j3 l354 x357 (glyph_Encode_l2 p0 k438) (rdD 0 p0 x357))))) else none) else (glyph_Encode_j1 l354)
def glyph_Encode (K : Nat) (p0 : List Int) : Option ByteArray :=
  glyph_Encode_l2 p0 K ([] : List Int) 0

/-! tidewrack/flow.Text -/
def flow_Text (K : Nat) (p0 : List T24) : Option ByteArray :=
  (flow_runes K p0).bind fun t4 => ((glyph_Encode K t4).bind fun t16 => (some t16))

/-! tidewrack/tidewracklaw15.awake -/
def tidewracklaw15_awake (K : Nat)  : Option Bool :=
  (flow_Cut K ([(⟨97, 0⟩ : T24), (⟨98, 0⟩ : T24), (⟨20013, 0⟩ : T24)] : List T24) 3).bind fun t10 => (bif (((t10).length : Int) == (2 : Int)) then (if 0 ≤ (0 : Int) ∧ (0 : Int) < ((t10).length : Int) then (bif ((((rdD [] t10 0)).length : Int) == (2 : Int)) then (if 0 ≤ (1 : Int) ∧ (1 : Int) < ((t10).length : Int) then (bif ((((rdD [] t10 1)).length : Int) == (1 : Int)) then ((flow_Text K ([(⟨97, 0⟩ : T24), (⟨98, 0⟩ : T24), (⟨20013, 0⟩ : T24)] : List T24)).bind fun t38 => (bif (ByteArray.toList t38 == ByteArray.toList (⟨#[97, 98, 228, 184, 173]⟩ : ByteArray)) then ((flow_Cut K ([] : List T24) 5).bind fun t47 => (some (((t47).length : Int) == (1 : Int)))) else (some false))) else (some false)) else none) else (some false)) else none) else (some false))

/-! tidewrack/tidewrackref06.Of -/
def tidewrackref06_Of_j3 : Option Int :=
  some 1
def tidewrackref06_Of_l4 (p0 : Int) : Nat → Int → Option Int
  | 0, _ => none
  | k150 + 1, x136 => bif (decide (x136 < ((([(⟨4352, 4447⟩ : T45), (⟨11904, 12350⟩ : T45), (⟨12353, 13311⟩ : T45), (⟨13312, 19903⟩ : T45), (⟨19968, 40959⟩ : T45), (⟨40960, 42191⟩ : T45), (⟨44032, 55203⟩ : T45), (⟨63744, 64255⟩ : T45), (⟨65072, 65135⟩ : T45), (⟨65280, 65376⟩ : T45), (⟨65504, 65510⟩ : T45), (⟨127744, 128591⟩ : T45), (⟨129280, 129535⟩ : T45), (⟨131072, 262141⟩ : T45)] : List T45)).length : Int))) then (if 0 ≤ x136 ∧ x136 < ((([(⟨4352, 4447⟩ : T45), (⟨11904, 12350⟩ : T45), (⟨12353, 13311⟩ : T45), (⟨13312, 19903⟩ : T45), (⟨19968, 40959⟩ : T45), (⟨40960, 42191⟩ : T45), (⟨44032, 55203⟩ : T45), (⟨63744, 64255⟩ : T45), (⟨65072, 65135⟩ : T45), (⟨65280, 65376⟩ : T45), (⟨65504, 65510⟩ : T45), (⟨127744, 128591⟩ : T45), (⟨129280, 129535⟩ : T45), (⟨131072, 262141⟩ : T45)] : List T45)).length : Int) then (bif (decide (p0 ≥ ((rdD zT45 ([(⟨4352, 4447⟩ : T45), (⟨11904, 12350⟩ : T45), (⟨12353, 13311⟩ : T45), (⟨13312, 19903⟩ : T45), (⟨19968, 40959⟩ : T45), (⟨40960, 42191⟩ : T45), (⟨44032, 55203⟩ : T45), (⟨63744, 64255⟩ : T45), (⟨65072, 65135⟩ : T45), (⟨65280, 65376⟩ : T45), (⟨65504, 65510⟩ : T45), (⟨127744, 128591⟩ : T45), (⟨129280, 129535⟩ : T45), (⟨131072, 262141⟩ : T45)] : List T45) x136).a0))) then (bif (decide (p0 ≤ ((rdD zT45 ([(⟨4352, 4447⟩ : T45), (⟨11904, 12350⟩ : T45), (⟨12353, 13311⟩ : T45), (⟨13312, 19903⟩ : T45), (⟨19968, 40959⟩ : T45), (⟨40960, 42191⟩ : T45), (⟨44032, 55203⟩ : T45), (⟨63744, 64255⟩ : T45), (⟨65072, 65135⟩ : T45), (⟨65280, 65376⟩ : T45), (⟨65504, 65510⟩ : T45), (⟨127744, 128591⟩ : T45), (⟨129280, 129535⟩ : T45), (⟨131072, 262141⟩ : T45)] : List T45) x136).a1))) then (some 2) else ((tidewrackref06_Of_l4 p0 k150) (IntKind.wrap .i64 (x136 + 1)))) else ((tidewrackref06_Of_l4 p0 k150) (IntKind.wrap .i64 (x136 + 1)))) else none) else (tidewrackref06_Of_j3)
def tidewrackref06_Of_j2 (K : Nat) (p0 : Int) : Option Int :=
  tidewrackref06_Of_l4 p0 K 0
def tidewrackref06_Of_l5 (K : Nat) (p0 : Int) : Nat → Int → Option Int
  | 0, _ => none
  | k195 + 1, x181 => bif (decide (x181 < ((([(⟨127, 159⟩ : T45), (⟨768, 879⟩ : T45), (⟨6832, 6911⟩ : T45), (⟨7616, 7679⟩ : T45), (⟨8203, 8207⟩ : T45), (⟨8400, 8447⟩ : T45), (⟨55296, 57343⟩ : T45), (⟨65024, 65039⟩ : T45), (⟨65056, 65071⟩ : T45), (⟨65279, 65279⟩ : T45), (⟨917760, 917999⟩ : T45)] : List T45)).length : Int))) then (if 0 ≤ x181 ∧ x181 < ((([(⟨127, 159⟩ : T45), (⟨768, 879⟩ : T45), (⟨6832, 6911⟩ : T45), (⟨7616, 7679⟩ : T45), (⟨8203, 8207⟩ : T45), (⟨8400, 8447⟩ : T45), (⟨55296, 57343⟩ : T45), (⟨65024, 65039⟩ : T45), (⟨65056, 65071⟩ : T45), (⟨65279, 65279⟩ : T45), (⟨917760, 917999⟩ : T45)] : List T45)).length : Int) then (bif (decide (p0 ≥ ((rdD zT45 ([(⟨127, 159⟩ : T45), (⟨768, 879⟩ : T45), (⟨6832, 6911⟩ : T45), (⟨7616, 7679⟩ : T45), (⟨8203, 8207⟩ : T45), (⟨8400, 8447⟩ : T45), (⟨55296, 57343⟩ : T45), (⟨65024, 65039⟩ : T45), (⟨65056, 65071⟩ : T45), (⟨65279, 65279⟩ : T45), (⟨917760, 917999⟩ : T45)] : List T45) x181).a0))) then (bif (decide (p0 ≤ ((rdD zT45 ([(⟨127, 159⟩ : T45), (⟨768, 879⟩ : T45), (⟨6832, 6911⟩ : T45), (⟨7616, 7679⟩ : T45), (⟨8203, 8207⟩ : T45), (⟨8400, 8447⟩ : T45), (⟨55296, 57343⟩ : T45), (⟨65024, 65039⟩ : T45), (⟨65056, 65071⟩ : T45), (⟨65279, 65279⟩ : T45), (⟨917760, 917999⟩ : T45)] : List T45) x181).a1))) then (some 0) else ((tidewrackref06_Of_l5 K p0 k195) (IntKind.wrap .i64 (x181 + 1)))) else ((tidewrackref06_Of_l5 K p0 k195) (IntKind.wrap .i64 (x181 + 1)))) else none) else (tidewrackref06_Of_j2 K p0)
def tidewrackref06_Of_j1 (K : Nat) (p0 : Int) : Option Int :=
  tidewrackref06_Of_l5 K p0 K 0
def tidewrackref06_Of (K : Nat) (p0 : Int) : Option Int :=
  bif (decide (p0 < (32 : Int))) then (some 0) else (bif (decide (p0 > (1114111 : Int))) then (some 0) else (tidewrackref06_Of_j1 K p0))

/-! tidewrack/flow.Count -/
def flow_Count_j1 (x68 : Int) : Option Int :=
  some x68
def flow_Count_r2 : List (List T24) → Int → Option Int
  | [], x106 => flow_Count_j1 x106
  | x86 :: rest87, x106 => (flow_Count_r2 rest87) (IntKind.wrap .i64 (x106 + 1))
def flow_Count (K : Nat) (p0 : List T24) (p1 : Int) : Option Int :=
  (flow_rows p0 p1).bind fun t75 => ((flow_rows_1 K t75 p0).bind fun ys84 => (flow_Count_r2 ys84 0))

/-! tidewrack/tidewracklaw15.FlowCounts -/
def tidewracklaw15_FlowCounts_j1 (K : Nat) (p0 : List T24) (p1 : Int) (x106 : Int) : Option Bool :=
  (flow_Count K (([] : List T24) ++ (List.drop 0 (List.take (Int.toNat (mnI ((p0).length : Int) 60)) p0))) p1).bind fun t111 => (if (mxI 2 (mnI p1 1000)) ≠ 0 then (bif (decide (t111 ≥ (IntKind.wrap .i64 (Int.tdiv (IntKind.wrap .i64 ((IntKind.wrap .i64 (x106 + (mxI 2 (mnI p1 1000)))) - 1)) (mxI 2 (mnI p1 1000)))))) then (bif (decide (t111 ≤ (mxI 1 (((([] : List T24) ++ (List.drop 0 (List.take (Int.toNat (mnI ((p0).length : Int) 60)) p0)))).length : Int)))) then (bif (decide (t111 ≥ (1 : Int))) then (some ((decide (x106 > (mxI 2 (mnI p1 1000)))) == (decide (t111 > (1 : Int))))) else (some false)) else (some false)) else (some false)) else none)
def tidewracklaw15_FlowCounts_l2 (K : Nat) (p0 : List T24) (p1 : Int) : Nat → Int → Int → Option Bool
  | 0, _, _ => none
  | k166 + 1, x144, x145 => bif (decide (x145 < (((([] : List T24) ++ (List.drop 0 (List.take (Int.toNat (mnI ((p0).length : Int) 60)) p0)))).length : Int))) then (if 0 ≤ x145 ∧ x145 < (((([] : List T24) ++ (List.drop 0 (List.take (Int.toNat (mnI ((p0).length : Int) 60)) p0)))).length : Int) then ((tidewrackref06_Of K (IntKind.wrap .i64 ((rdD zT24 (([] : List T24) ++ (List.drop 0 (List.take (Int.toNat (mnI ((p0).length : Int) 60)) p0))) x145).Rune))).bind fun t183 => ((tidewracklaw15_FlowCounts_l2 K p0 p1 k166) (IntKind.wrap .i64 (x144 + t183)) (IntKind.wrap .i64 (x145 + 1)))) else none) else (tidewracklaw15_FlowCounts_j1 K p0 p1 x144)
def tidewracklaw15_FlowCounts (K : Nat) (p0 : List T24) (p1 : Int) : Option Bool :=
  (tidewracklaw15_awake K).bind fun t4 => (bif (!t4) then (some false) else (if 0 ≤ (mnI ((p0).length : Int) 60) then (if (mnI ((p0).length : Int) 60) ≤ ((p0).length : Int) then (if (([] : List T24)).length + ((List.drop 0 (List.take (Int.toNat (mnI ((p0).length : Int) 60)) p0))).length ≤ 1000000000 then (tidewracklaw15_FlowCounts_l2 K p0 p1 K 0 0) else none) else none) else none))

/-! tidewrack/tidewracklaw14.Told -/
def tidewracklaw14_Told_j1 (l103 : List T49) : Option (List T49) :=
  some l103
def tidewracklaw14_Told_l2 (p0 : List T24) : Nat → (List T49) → Int → Option (List T49)
  | 0, _, _ => none
  | k168 + 1, l138, x141 => bif (decide (x141 < ((p0).length : Int))) then (if 0 ≤ x141 ∧ x141 < ((p0).length : Int) then (if (l138).length + (([(⟨(IntKind.wrap .i64 ((rdD zT24 p0 x141).Rune)), (rdD zT24 p0 x141).Style⟩ : T49)] : List T49)).length ≤ 1000000000 then ((tidewracklaw14_Told_l2 p0 k168) (l138 ++ ([(⟨(IntKind.wrap .i64 ((rdD zT24 p0 x141).Rune)), (rdD zT24 p0 x141).Style⟩ : T49)] : List T49)) (IntKind.wrap .i64 (x141 + 1))) else none) else none) else (tidewracklaw14_Told_j1 l138)
def tidewracklaw14_Told (K : Nat) (p0 : List T24) : Option (List T49) :=
  tidewracklaw14_Told_l2 p0 K ([] : List T49) 0

/-! tidewrack/wide.Sum -/
def wide_Sum_j1 (x66 : Int) : Option Int :=
  some x66
def wide_Sum_r2 : List (Int × Int) → Int → Option Int
  | [], x102 => wide_Sum_j1 x102
  | x82 :: rest83, x102 => (wide_Sum_r2 rest83) x82.2
def wide_Sum (K : Nat) (p0 : List Int) : Option Int :=
  (wide_columns p0).bind fun t73 => ((wide_columns_1 K p0).bind fun ys80 => (wide_Sum_r2 ys80 0))

/-! tidewrack/flow.At -/
def flow_At_j2 : Option (Int × Int) :=
  some (0, 0)
def flow_At_x4 (x694 : Int) (x695 : Int) : Option (Int × Int) :=
  some (x694, x695)
def flow_At_r3 (K : Nat) : List (List T24) → Int → Int → Option (Int × Int)
  | [], x574, x575 => flow_At_j2
  | x452 :: rest453, x574, x575 => bif (decide (x574 < ((x452).length : Int))) then (if 0 ≤ x574 then (if x574 ≤ ((x452).length : Int) then ((flow_runes K (List.drop 0 (List.take (Int.toNat x574) x452))).bind fun t783 => ((wide_Sum K t783).bind fun t795 => (flow_At_x4 x575 t795))) else none) else none) else ((flow_At_r3 K rest453) (IntKind.wrap .i64 (x574 - ((x452).length : Int))) (IntKind.wrap .i64 (x575 + 1)))
def flow_At_j1 (K : Nat) (p0 : List T24) (p1 : Int) (p2 : Int) : Option (Int × Int) :=
  (flow_rows p0 p1).bind fun t441 => ((flow_rows_1 K t441 p0).bind fun ys450 => (flow_At_r3 K ys450 p2 0))
def flow_At_j5 (K : Nat) (p0 : List T24) (p1 : Int) (p2 : Int) (x818 : Bool) : Option (Int × Int) :=
  bif x818 then (some (0, 0)) else (flow_At_j1 K p0 p1 p2)
def flow_At (K : Nat) (p0 : List T24) (p1 : Int) (p2 : Int) : Option (Int × Int) :=
  bif (decide (p2 < (0 : Int))) then (flow_At_j5 K p0 p1 p2 true) else (flow_At_j5 K p0 p1 p2 (decide (p2 ≥ ((p0).length : Int))))

/-! tidewrack/tidewrackref15.Cut -/
def tidewrackref15_Cut_j1 (l545 : List (List T49)) : Option (List (List T49)) :=
  some l545
def tidewrackref15_Cut_j3 (p0 : List T49) (x727 : Int) (lp898 : (List (List T49)) → Int → Int → Option (List (List T49))) (t914 : Int) (l956 : List (List T49)) (x959 : Int) : Option (List (List T49)) :=
  if 0 ≤ (IntKind.wrap .i64 (((l956).length : Int) - 1)) ∧ (IntKind.wrap .i64 (((l956).length : Int) - 1)) < ((l956).length : Int) then (if ((rdD [] l956 (IntKind.wrap .i64 (((l956).length : Int) - 1)))).length + (([(rdD zT49 p0 x727)] : List T49)).length ≤ 1000000000 then (lp898 (List.set l956 (Int.toNat (IntKind.wrap .i64 (((l956).length : Int) - 1))) ((rdD [] l956 (IntKind.wrap .i64 (((l956).length : Int) - 1))) ++ ([(rdD zT49 p0 x727)] : List T49))) (IntKind.wrap .i64 (x959 + t914)) (IntKind.wrap .i64 (x727 + 1))) else none) else none
def tidewrackref15_Cut_l2 (K : Nat) (p0 : List T49) (p1 : Int) : Nat → (List (List T49)) → Int → Int → Option (List (List T49))
  | 0, _, _, _ => none
  | k897 + 1, l723, x726, x727 => bif (decide (x727 < ((p0).length : Int))) then (if 0 ≤ x727 ∧ x727 < ((p0).length : Int) then ((tidewrackref06_Of K ((rdD zT49 p0 x727).Rune)).bind fun t914 => (bif (decide ((IntKind.wrap .i64 (x726 + t914)) > (mxI 2 (mnI p1 1000)))) then (if (l723).length + (([([] : List T49)] : List (List T49))).length ≤ 1000000000 then (tidewrackref15_Cut_j3 p0 x727 (tidewrackref15_Cut_l2 K p0 p1 k897) t914 (l723 ++ ([([] : List T49)] : List (List T49))) 0) else none) else (tidewrackref15_Cut_j3 p0 x727 (tidewrackref15_Cut_l2 K p0 p1 k897) t914 l723 x726))) else none) else (tidewrackref15_Cut_j1 l723)
def tidewrackref15_Cut (K : Nat) (p0 : List T49) (p1 : Int) : Option (List (List T49)) :=
  tidewrackref15_Cut_l2 K p0 p1 K ([([] : List T49)] : List (List T49)) 0 0

/-! tidewrack/tidewrackref15.At -/
def tidewrackref15_At_j2 : Option (Int × Int) :=
  some (0, 0)
def tidewrackref15_At_j4 (t2068 : List (List T49)) (x2753 : Int) (x2758 : Int) (lp3433 : Int → Int → Option (Int × Int)) : Option (Int × Int) :=
  lp3433 (IntKind.wrap .i64 (x2753 - (((rdD [] t2068 x2758)).length : Int))) (IntKind.wrap .i64 (x2758 + 1))
def tidewrackref15_At_j5 (t2068 : List (List T49)) (x2753 : Int) (x2758 : Int) (lp3433 : Int → Int → Option (Int × Int)) : Option (Int × Int) :=
  tidewrackref15_At_j4 t2068 x2753 x2758 lp3433
def tidewrackref15_At_j6 (x2758 : Int) (x4031 : Int) : Option (Int × Int) :=
  some (x2758, x4031)
def tidewrackref15_At_l7 (K : Nat) (t2068 : List (List T49)) (x2753 : Int) (x2758 : Int) : Nat → Int → Int → Option (Int × Int)
  | 0, _, _ => none
  | k4085 + 1, x4063, x4064 => bif (decide (x4064 < (((List.drop 0 (List.take (Int.toNat x2753) (rdD [] t2068 x2758)))).length : Int))) then (if 0 ≤ x4064 ∧ x4064 < (((List.drop 0 (List.take (Int.toNat x2753) (rdD [] t2068 x2758)))).length : Int) then ((tidewrackref06_Of K ((rdD zT49 (List.drop 0 (List.take (Int.toNat x2753) (rdD [] t2068 x2758))) x4064).Rune)).bind fun t4102 => ((tidewrackref15_At_l7 K t2068 x2753 x2758 k4085) (IntKind.wrap .i64 (x4063 + t4102)) (IntKind.wrap .i64 (x4064 + 1)))) else none) else (tidewrackref15_At_j6 x2758 x4063)
def tidewrackref15_At_l3 (K : Nat) (t2068 : List (List T49)) : Nat → Int → Int → Option (Int × Int)
  | 0, _, _ => none
  | k3432 + 1, x2753, x2758 => bif (decide (x2758 < ((t2068).length : Int))) then (if 0 ≤ x2758 ∧ x2758 < ((t2068).length : Int) then (bif (decide (x2753 < (((rdD [] t2068 x2758)).length : Int))) then (if 0 ≤ x2753 then (if x2753 ≤ (((rdD [] t2068 x2758)).length : Int) then (tidewrackref15_At_l7 K t2068 x2753 x2758 K 0 0) else none) else none) else (tidewrackref15_At_j5 t2068 x2753 x2758 (tidewrackref15_At_l3 K t2068 k3432))) else none) else (tidewrackref15_At_j2)
def tidewrackref15_At_j1 (K : Nat) (p0 : List T49) (p1 : Int) (p2 : Int) : Option (Int × Int) :=
  (tidewrackref15_Cut K p0 p1).bind fun t2068 => (tidewrackref15_At_l3 K t2068 K p2 0)
def tidewrackref15_At_j8 (K : Nat) (p0 : List T49) (p1 : Int) (p2 : Int) (x4115 : Bool) : Option (Int × Int) :=
  bif x4115 then (some (0, 0)) else (tidewrackref15_At_j1 K p0 p1 p2)
def tidewrackref15_At (K : Nat) (p0 : List T49) (p1 : Int) (p2 : Int) : Option (Int × Int) :=
  bif (decide (p2 < (0 : Int))) then (tidewrackref15_At_j8 K p0 p1 p2 true) else (tidewrackref15_At_j8 K p0 p1 p2 (decide (p2 ≥ ((p0).length : Int))))

/-! tidewrack/tidewracklaw09.Glyphs -/
def tidewracklaw09_Glyphs_j1 : Option Bool :=
  some true
def tidewracklaw09_Glyphs_l2 (p0 : List T24) (p1 : List T49) : Nat → Int → Option Bool
  | 0, _ => none
  | k137 + 1, x112 => bif (decide (x112 < ((p0).length : Int))) then (if 0 ≤ x112 ∧ x112 < ((p0).length : Int) then (if 0 ≤ x112 ∧ x112 < ((p1).length : Int) then (bif ((IntKind.wrap .i64 ((rdD zT24 p0 x112).Rune)) != ((rdD zT49 p1 x112).Rune)) then (some false) else (bif (((rdD zT24 p0 x112).Style) != ((rdD zT49 p1 x112).Style)) then (some false) else ((tidewracklaw09_Glyphs_l2 p0 p1 k137) (IntKind.wrap .i64 (x112 + 1))))) else none) else none) else (tidewracklaw09_Glyphs_j1)
def tidewracklaw09_Glyphs (K : Nat) (p0 : List T24) (p1 : List T49) : Option Bool :=
  bif (((p0).length : Int) != ((p1).length : Int)) then (some false) else (tidewracklaw09_Glyphs_l2 p0 p1 K 0)

/-! tidewrack/tidewracklaw15.Rows -/
def tidewracklaw15_Rows_j1 : Option Bool :=
  some true
def tidewracklaw15_Rows_l2 (K : Nat) (p0 : List (List T24)) (p1 : List (List T49)) : Nat → Int → Option Bool
  | 0, _ => none
  | k322 + 1, x260 => bif (decide (x260 < ((p1).length : Int))) then (if 0 ≤ x260 ∧ x260 < ((p0).length : Int) then (if 0 ≤ x260 ∧ x260 < ((p1).length : Int) then ((tidewracklaw09_Glyphs K (rdD [] p0 x260) (rdD [] p1 x260)).bind fun t365 => (bif (!t365) then (some false) else ((tidewracklaw15_Rows_l2 K p0 p1 k322) (IntKind.wrap .i64 (x260 + 1))))) else none) else none) else (tidewracklaw15_Rows_j1)
def tidewracklaw15_Rows (K : Nat) (p0 : List (List T24)) (p1 : List (List T49)) : Option Bool :=
  bif (((p0).length : Int) != ((p1).length : Int)) then (some false) else (tidewracklaw15_Rows_l2 K p0 p1 K 0)

/-! tidewrack/tidewrackref05.Encode -/
def tidewrackref05_Encode_j1 (x12 : Int) : Option ByteArray :=
  bif (decide (x12 < (128 : Int))) then (some (strOfNums ([(IntKind.wrap .u8 x12)] : List Int))) else (bif (decide (x12 < (2048 : Int))) then (some (strOfNums ([(IntKind.wrap .u8 (IntKind.wrap .i64 (192 + (IntKind.wrap .i64 (Int.tdiv x12 64))))), (IntKind.wrap .u8 (IntKind.wrap .i64 (128 + (Int.tmod x12 64))))] : List Int))) else (bif (decide (x12 < (65536 : Int))) then (some (strOfNums ([(IntKind.wrap .u8 (IntKind.wrap .i64 (224 + (IntKind.wrap .i64 (Int.tdiv x12 4096))))), (IntKind.wrap .u8 (IntKind.wrap .i64 (128 + (Int.tmod (IntKind.wrap .i64 (Int.tdiv x12 64)) 64)))), (IntKind.wrap .u8 (IntKind.wrap .i64 (128 + (Int.tmod x12 64))))] : List Int))) else (some (strOfNums ([(IntKind.wrap .u8 (IntKind.wrap .i64 (240 + (IntKind.wrap .i64 (Int.tdiv x12 262144))))), (IntKind.wrap .u8 (IntKind.wrap .i64 (128 + (Int.tmod (IntKind.wrap .i64 (Int.tdiv x12 4096)) 64)))), (IntKind.wrap .u8 (IntKind.wrap .i64 (128 + (Int.tmod (IntKind.wrap .i64 (Int.tdiv x12 64)) 64)))), (IntKind.wrap .u8 (IntKind.wrap .i64 (128 + (Int.tmod x12 64))))] : List Int)))))
def tidewrackref05_Encode (p0 : Int) : Option ByteArray :=
  bif (decide (p0 < (0 : Int))) then (tidewrackref05_Encode_j1 65533) else (bif (decide (p0 > (1114111 : Int))) then (tidewrackref05_Encode_j1 65533) else (bif (decide (p0 ≥ (55296 : Int))) then (bif (decide (p0 ≤ (57343 : Int))) then (tidewrackref05_Encode_j1 65533) else (tidewrackref05_Encode_j1 p0)) else (tidewrackref05_Encode_j1 p0)))

/-! tidewrack/tidewrackref15.Text -/
def tidewrackref15_Text_j1 (x78 : ByteArray) : Option ByteArray :=
  some x78
def tidewrackref15_Text_l2 (p0 : List T49) : Nat → ByteArray → Int → Option ByteArray
  | 0, _, _ => none
  | k127 + 1, x104, x105 => bif (decide (x105 < ((p0).length : Int))) then (if 0 ≤ x105 ∧ x105 < ((p0).length : Int) then ((tidewrackref05_Encode ((rdD zT49 p0 x105).Rune)).bind fun t144 => (if ((x104.size + t144.size : Nat) : Int) ≤ 9223372036854775807 then ((tidewrackref15_Text_l2 p0 k127) (x104 ++ t144) (IntKind.wrap .i64 (x105 + 1))) else none)) else none) else (tidewrackref15_Text_j1 x104)
def tidewrackref15_Text (K : Nat) (p0 : List T49) : Option ByteArray :=
  tidewrackref15_Text_l2 p0 K (⟨#[]⟩ : ByteArray) 0

/-! tidewrack/tidewracklaw15.FlowCuts -/
def tidewracklaw15_FlowCuts (K : Nat) (p0 : List T24) (p1 : Int) (p2 : Int) : Option Bool :=
  (tidewracklaw15_awake K).bind fun t4 => (bif (!t4) then (some false) else (if 0 ≤ (mnI ((p0).length : Int) 60) then (if (mnI ((p0).length : Int) 60) ≤ ((p0).length : Int) then (if (([] : List T24)).length + ((List.drop 0 (List.take (Int.toNat (mnI ((p0).length : Int) 60)) p0))).length ≤ 1000000000 then ((tidewracklaw14_Told K (([] : List T24) ++ (List.drop 0 (List.take (Int.toNat (mnI ((p0).length : Int) 60)) p0)))).bind fun t34 => ((flow_Cut K (([] : List T24) ++ (List.drop 0 (List.take (Int.toNat (mnI ((p0).length : Int) 60)) p0))) p1).bind fun t46 => ((flow_At K (([] : List T24) ++ (List.drop 0 (List.take (Int.toNat (mnI ((p0).length : Int) 60)) p0))) p1 p2).bind fun t58 => ((tidewrackref15_At K t34 p1 p2).bind fun t66 => ((tidewrackref15_Cut K t34 p1).bind fun t74 => ((tidewracklaw15_Rows K t46 t74).bind fun t86 => (bif t86 then ((flow_Count K (([] : List T24) ++ (List.drop 0 (List.take (Int.toNat (mnI ((p0).length : Int) 60)) p0))) p1).bind fun t95 => (bif (t95 == ((t46).length : Int)) then (bif (t58.1 == t66.1) then (bif (t58.2 == t66.2) then ((flow_Text K (([] : List T24) ++ (List.drop 0 (List.take (Int.toNat (mnI ((p0).length : Int) 60)) p0)))).bind fun t106 => ((tidewrackref15_Text K t34).bind fun t114 => (some (ByteArray.toList t106 == ByteArray.toList t114)))) else (some false)) else (some false)) else (some false))) else (some false)))))))) else none) else none) else none))

/-! slices.Grow[[]tidewrack/row.Glyph,tidewrack/row.Glyph] -/
def slices_Grow_j1 (p1 : Int) : Option (List T24) :=
  bif (decide ((IntKind.wrap .i64 (p1 - (IntKind.wrap .i64 (0 - ((([] : List T24)).length : Int))))) > (0 : Int))) then (if 0 < (IntKind.wrap .i64 (p1 - (IntKind.wrap .i64 (0 - ((([] : List T24)).length : Int))))) then (if (IntKind.wrap .i64 (p1 - (IntKind.wrap .i64 (0 - ((([] : List T24)).length : Int))))) ≤ 1000000000 then (some ([] : List T24)) else none) else none) else (some ([] : List T24))
def slices_Grow (p1 : Int) : Option (List T24) :=
  bif (decide (p1 < (0 : Int))) then (none) else (slices_Grow_j1 p1)

/-! slices.Concat[[]tidewrack/row.Glyph,tidewrack/row.Glyph] -/
def slices_Concat_j2 (l134 : List T24) : Option (List T24) :=
  some l134
def slices_Concat_l3 (p0 : List (List T24)) : Nat → (List T24) → Int → Option (List T24)
  | 0, _, _ => none
  | k181 + 1, l160, x163 => bif (decide (x163 < ((p0).length : Int))) then (if 0 ≤ x163 ∧ x163 < ((p0).length : Int) then (if (l160).length + ((rdD [] p0 x163)).length ≤ 1000000000 then ((slices_Concat_l3 p0 k181) (l160 ++ (rdD [] p0 x163)) (IntKind.wrap .i64 (x163 + 1))) else none) else none) else (slices_Concat_j2 l160)
def slices_Concat_j1 (K : Nat) (p0 : List (List T24)) (x45 : Int) : Option (List T24) :=
  (slices_Grow x45).bind fun t50 => (slices_Concat_l3 p0 K t50 0)
def slices_Concat_l4 (K : Nat) (p0 : List (List T24)) : Nat → Int → Int → Option (List T24)
  | 0, _, _ => none
  | k225 + 1, x213, x214 => bif (decide (x214 < ((p0).length : Int))) then (if 0 ≤ x214 ∧ x214 < ((p0).length : Int) then (bif (decide ((IntKind.wrap .i64 (x213 + (((rdD [] p0 x214)).length : Int))) < (0 : Int))) then (none) else ((slices_Concat_l4 K p0 k225) (IntKind.wrap .i64 (x213 + (((rdD [] p0 x214)).length : Int))) (IntKind.wrap .i64 (x214 + 1)))) else none) else (slices_Concat_j1 K p0 x213)
def slices_Concat (K : Nat) (p0 : List (List T24)) : Option (List T24) :=
  slices_Concat_l4 K p0 K 0 0

/-! tidewrack/flow.Join -/
def flow_Join (K : Nat) (p0 : List (List T24)) : Option (List T24) :=
  (slices_Concat K p0).bind fun t4 => (some t4)

/-! tidewrack/tidewracklaw15.FlowJoins -/
def tidewracklaw15_FlowJoins_j1 : Option Bool :=
  some true
def tidewracklaw15_FlowJoins_j3 (x1628 : Int) (lp2007 : Int → Option Bool) : Option Bool :=
  lp2007 (IntKind.wrap .i64 (x1628 + 1))
def tidewracklaw15_FlowJoins_j5 (K : Nat) (p1 : Int) (t46 : List (List T24)) (x1628 : Int) (lp2007 : Int → Option Bool) (x2286 : Int) : Option Bool :=
  bif (decide ((IntKind.wrap .i64 (x1628 + 1)) < ((t46).length : Int))) then (if 0 ≤ (IntKind.wrap .i64 (x1628 + 1)) ∧ (IntKind.wrap .i64 (x1628 + 1)) < ((t46).length : Int) then (if 0 ≤ (0 : Int) ∧ (0 : Int) < (((rdD [] t46 (IntKind.wrap .i64 (x1628 + 1)))).length : Int) then ((tidewrackref06_Of K (IntKind.wrap .i64 ((rdD zT24 (rdD [] t46 (IntKind.wrap .i64 (x1628 + 1))) 0).Rune))).bind fun t2309 => (bif (decide ((IntKind.wrap .i64 (x2286 + t2309)) ≤ (mxI 2 (mnI p1 1000)))) then (some false) else (tidewracklaw15_FlowJoins_j3 x1628 lp2007))) else none) else none) else (tidewracklaw15_FlowJoins_j3 x1628 lp2007)
def tidewracklaw15_FlowJoins_j4 (K : Nat) (p0 : List T24) (p1 : Int) (t46 : List (List T24)) (x1628 : Int) (lp2007 : Int → Option Bool) (x2286 : Int) : Option Bool :=
  bif (decide (x2286 > (mxI 2 (mnI p1 1000)))) then (some false) else (bif ((((rdD [] t46 x1628)).length : Int) == (0 : Int)) then (bif (decide ((((([] : List T24) ++ (List.drop 0 (List.take (Int.toNat (mnI ((p0).length : Int) 60)) p0)))).length : Int) > (0 : Int))) then (some false) else (tidewracklaw15_FlowJoins_j5 K p1 t46 x1628 lp2007 x2286)) else (tidewracklaw15_FlowJoins_j5 K p1 t46 x1628 lp2007 x2286))
def tidewracklaw15_FlowJoins_l6 (K : Nat) (p0 : List T24) (p1 : Int) (t46 : List (List T24)) (x1628 : Int) (lp2007 : Int → Option Bool) : Nat → Int → Int → Option Bool
  | 0, _, _ => none
  | k2363 + 1, x2341, x2342 => bif (decide (x2342 < (((rdD [] t46 x1628)).length : Int))) then (if 0 ≤ x2342 ∧ x2342 < (((rdD [] t46 x1628)).length : Int) then ((tidewrackref06_Of K (IntKind.wrap .i64 ((rdD zT24 (rdD [] t46 x1628) x2342).Rune))).bind fun t2380 => ((tidewracklaw15_FlowJoins_l6 K p0 p1 t46 x1628 lp2007 k2363) (IntKind.wrap .i64 (x2341 + t2380)) (IntKind.wrap .i64 (x2342 + 1)))) else none) else (tidewracklaw15_FlowJoins_j4 K p0 p1 t46 x1628 lp2007 x2341)
def tidewracklaw15_FlowJoins_l2 (K : Nat) (p0 : List T24) (p1 : Int) (t46 : List (List T24)) : Nat → Int → Option Bool
  | 0, _ => none
  | k2006 + 1, x1628 => bif (decide (x1628 < ((t46).length : Int))) then (if 0 ≤ x1628 ∧ x1628 < ((t46).length : Int) then (tidewracklaw15_FlowJoins_l6 K p0 p1 t46 x1628 (tidewracklaw15_FlowJoins_l2 K p0 p1 t46 k2006) K 0 0) else none) else (tidewracklaw15_FlowJoins_j1)
def tidewracklaw15_FlowJoins (K : Nat) (p0 : List T24) (p1 : Int) : Option Bool :=
  (tidewracklaw15_awake K).bind fun t4 => (bif (!t4) then (some false) else (if 0 ≤ (mnI ((p0).length : Int) 60) then (if (mnI ((p0).length : Int) 60) ≤ ((p0).length : Int) then (if (([] : List T24)).length + ((List.drop 0 (List.take (Int.toNat (mnI ((p0).length : Int) 60)) p0))).length ≤ 1000000000 then ((tidewracklaw14_Told K (([] : List T24) ++ (List.drop 0 (List.take (Int.toNat (mnI ((p0).length : Int) 60)) p0)))).bind fun t34 => ((flow_Cut K (([] : List T24) ++ (List.drop 0 (List.take (Int.toNat (mnI ((p0).length : Int) 60)) p0))) p1).bind fun t46 => ((flow_Join K t46).bind fun t58 => ((tidewracklaw09_Glyphs K t58 t34).bind fun t70 => (bif (!t70) then (some false) else (tidewracklaw15_FlowJoins_l2 K p0 p1 t46 K 0)))))) else none) else none) else none))

/-! tidewrack/tidewracklaw15.FlowPlaces -/
def tidewracklaw15_FlowPlaces_j1 (K : Nat) (p0 : List T24) (p1 : Int) (x166 : Int) : Option Bool :=
  (flow_Count K (([] : List T24) ++ (List.drop 0 (List.take (Int.toNat (mnI ((p0).length : Int) 40)) p0))) p1).bind fun t171 => (some (t171 == (IntKind.wrap .i64 (x166 + 1))))
def tidewracklaw15_FlowPlaces_l2 (K : Nat) (p0 : List T24) (p1 : Int) : Nat → Int → Int → Int → Option Bool
  | 0, _, _, _ => none
  | k262 + 1, x219, x220, x221 => bif (decide (x221 < (((([] : List T24) ++ (List.drop 0 (List.take (Int.toNat (mnI ((p0).length : Int) 40)) p0)))).length : Int))) then (if 0 ≤ x221 ∧ x221 < (((([] : List T24) ++ (List.drop 0 (List.take (Int.toNat (mnI ((p0).length : Int) 40)) p0)))).length : Int) then ((flow_At K (([] : List T24) ++ (List.drop 0 (List.take (Int.toNat (mnI ((p0).length : Int) 40)) p0))) p1 x221).bind fun t279 => ((tidewrackref06_Of K (IntKind.wrap .i64 ((rdD zT24 (([] : List T24) ++ (List.drop 0 (List.take (Int.toNat (mnI ((p0).length : Int) 40)) p0))) x221).Rune))).bind fun t287 => (bif (decide (t279.1 < x219)) then (some false) else (bif (decide (t279.1 > (IntKind.wrap .i64 (x219 + 1)))) then (some false) else (bif (t279.1 == x219) then (bif (t279.2 != x220) then (some false) else (bif (decide (t279.1 > x219)) then (bif (t279.2 != (0 : Int)) then (some false) else (bif (decide ((IntKind.wrap .i64 (t279.2 + t287)) > (mxI 2 (mnI p1 1000)))) then (some false) else ((tidewracklaw15_FlowPlaces_l2 K p0 p1 k262) t279.1 (IntKind.wrap .i64 (t279.2 + t287)) (IntKind.wrap .i64 (x221 + 1))))) else (bif (decide ((IntKind.wrap .i64 (t279.2 + t287)) > (mxI 2 (mnI p1 1000)))) then (some false) else ((tidewracklaw15_FlowPlaces_l2 K p0 p1 k262) t279.1 (IntKind.wrap .i64 (t279.2 + t287)) (IntKind.wrap .i64 (x221 + 1)))))) else (bif (decide (t279.1 > x219)) then (bif (t279.2 != (0 : Int)) then (some false) else (bif (decide ((IntKind.wrap .i64 (t279.2 + t287)) > (mxI 2 (mnI p1 1000)))) then (some false) else ((tidewracklaw15_FlowPlaces_l2 K p0 p1 k262) t279.1 (IntKind.wrap .i64 (t279.2 + t287)) (IntKind.wrap .i64 (x221 + 1))))) else (bif (decide ((IntKind.wrap .i64 (t279.2 + t287)) > (mxI 2 (mnI p1 1000)))) then (some false) else ((tidewracklaw15_FlowPlaces_l2 K p0 p1 k262) t279.1 (IntKind.wrap .i64 (t279.2 + t287)) (IntKind.wrap .i64 (x221 + 1)))))))))) else none) else (tidewracklaw15_FlowPlaces_j1 K p0 p1 x219)
def tidewracklaw15_FlowPlaces (K : Nat) (p0 : List T24) (p1 : Int) : Option Bool :=
  (tidewracklaw15_awake K).bind fun t4 => (bif (!t4) then (some false) else (if 0 ≤ (mnI ((p0).length : Int) 40) then (if (mnI ((p0).length : Int) 40) ≤ ((p0).length : Int) then (if (([] : List T24)).length + ((List.drop 0 (List.take (Int.toNat (mnI ((p0).length : Int) 40)) p0))).length ≤ 1000000000 then (tidewracklaw15_FlowPlaces_l2 K p0 p1 K 0 0 0) else none) else none) else none))

/-! tidewrack/tidewracklaw15.FlowWidths -/
def tidewracklaw15_FlowWidths (K : Nat) (p0 : List T24) (p1 : Int) (p2 : Int) : Option Bool :=
  (tidewracklaw15_awake K).bind fun t4 => (bif (!t4) then (some false) else (if 0 ≤ (mnI ((p0).length : Int) 60) then (if (mnI ((p0).length : Int) 60) ≤ ((p0).length : Int) then (if (([] : List T24)).length + ((List.drop 0 (List.take (Int.toNat (mnI ((p0).length : Int) 60)) p0))).length ≤ 1000000000 then ((flow_Cut K (([] : List T24) ++ (List.drop 0 (List.take (Int.toNat (mnI ((p0).length : Int) 60)) p0))) p1).bind fun t34 => ((flow_Join K t34).bind fun t46 => ((flow_Cut K t46 p2).bind fun t58 => ((flow_Join K t58).bind fun t70 => ((flow_Cut K t70 p1).bind fun t82 => ((tidewracklaw14_Told K (([] : List T24) ++ (List.drop 0 (List.take (Int.toNat (mnI ((p0).length : Int) 60)) p0)))).bind fun t94 => ((tidewrackref15_Cut K t94 p1).bind fun t106 => ((tidewracklaw15_Rows K t82 t106).bind fun t118 => (bif t118 then (bif (((t34).length : Int) == ((t82).length : Int)) then ((flow_Count K (([] : List T24) ++ (List.drop 0 (List.take (Int.toNat (mnI ((p0).length : Int) 60)) p0))) (mxI p1 p2)).bind fun t128 => ((flow_Count K (([] : List T24) ++ (List.drop 0 (List.take (Int.toNat (mnI ((p0).length : Int) 60)) p0))) (mnI p1 p2)).bind fun t136 => (some (decide (t128 ≤ t136))))) else (some false)) else (some false)))))))))) else none) else none) else none))

end Go.Proofs.YteghllmaknenlaaDoor
