/- Plain functions, printed by an own program: what the walked code computes. -/
import Derived.Test.YtpciioffkjpieaaDoorY30
set_option linter.unusedVariables false
set_option linter.unusedSimpArgs false
namespace Go.Proofs.YtpciioffkjpieaaDoor
open Go Go.Proofs.XC
structure T97 where
  from_ : Int
  to : Int
abbrev zT97 : T97 := ⟨0, 0⟩
structure T192 where
  first : Int
  last : Int
  need : Int
  low : Int
  high : Int
abbrev zT192 : T192 := ⟨0, 0, 0, 0, 0⟩
structure T44 where
  Lead : Int
  Rune : Int
  Need : Int
abbrev zT44 : T44 := ⟨0, 0, 0⟩
namespace WF
def wfBool (_ : Bool) : Prop := True
def wfStr (x : ByteArray) : Prop := x.size ≤ maxLen
def wfi64 (x : Int) : Prop := (Lit.int .i64 x).wf = true
def wfi32 (x : Int) : Prop := (Lit.int .i32 x).wf = true
def wfu8 (x : Int) : Prop := (Lit.int .u8 x).wf = true
def wfu32 (x : Int) : Prop := (Lit.int .u32 x).wf = true
def wfu64 (x : Int) : Prop := (Lit.int .u64 x).wf = true
def wfi8 (x : Int) : Prop := (Lit.int .i8 x).wf = true
def wfi16 (x : Int) : Prop := (Lit.int .i16 x).wf = true
def wfu16 (x : Int) : Prop := (Lit.int .u16 x).wf = true
def wfT97 (x : T97) : Prop := (Lit.int .i32 x.from_).wf = true ∧ (Lit.int .i32 x.to).wf = true
def wfT192 (x : T192) : Prop := (Lit.int .u8 x.first).wf = true ∧ (Lit.int .u8 x.last).wf = true ∧ (Lit.int .i64 x.need).wf = true ∧ (Lit.int .u8 x.low).wf = true ∧ (Lit.int .u8 x.high).wf = true
def wfT44 (x : T44) : Prop := (Lit.int .u8 x.Lead).wf = true ∧ (Lit.int .i32 x.Rune).wf = true ∧ (Lit.int .i64 x.Need).wf = true
end WF
def glob0 : List T97 := [⟨(-2147483648), 31⟩, ⟨127, 159⟩, ⟨768, 879⟩, ⟨6832, 6911⟩, ⟨7616, 7679⟩, ⟨8203, 8207⟩, ⟨8400, 8447⟩, ⟨55296, 57343⟩, ⟨65024, 65039⟩, ⟨65056, 65071⟩, ⟨65279, 65279⟩, ⟨917760, 917999⟩, ⟨1114112, 2147483647⟩]
def glob1 : List T97 := [⟨4352, 4447⟩, ⟨11904, 12350⟩, ⟨12353, 13311⟩, ⟨13312, 19903⟩, ⟨19968, 40959⟩, ⟨40960, 42191⟩, ⟨44032, 55203⟩, ⟨63744, 64255⟩, ⟨65072, 65135⟩, ⟨65280, 65376⟩, ⟨65504, 65510⟩, ⟨127744, 128591⟩, ⟨129280, 129535⟩, ⟨131072, 262141⟩]
def glob3 : List T192 := [⟨194, 223, 1, 128, 191⟩, ⟨224, 224, 2, 160, 191⟩, ⟨225, 236, 2, 128, 191⟩, ⟨237, 237, 2, 128, 159⟩, ⟨238, 239, 2, 128, 191⟩, ⟨240, 240, 3, 144, 191⟩, ⟨241, 243, 3, 128, 191⟩, ⟨244, 244, 3, 128, 143⟩]
/-! tidewrack/wide.in -/
def wide_in_j1 (p0 : List T97) (p1 : Int) (x30 : Int) : Option Bool :=
  bif (decide (x30 < ((p0).length : Int))) then (if 0 ≤ x30 ∧ x30 < ((p0).length : Int) then (some (decide (((rdD zT97 p0 x30).from_) ≤ p1))) else none) else (some false)
def wide_in_l2 (p0 : List T97) (p1 : Int) : Nat → Int → Int → Option Bool
  | 0, _, _ => none
  | k50 + 1, x43, x44 => bif (decide (x43 < x44)) then (if 0 ≤ (IntKind.wrap .i64 (Int.tdiv (IntKind.wrap .i64 (x43 + x44)) 2)) ∧ (IntKind.wrap .i64 (Int.tdiv (IntKind.wrap .i64 (x43 + x44)) 2)) < ((p0).length : Int) then (bif (decide (((rdD zT97 p0 (IntKind.wrap .i64 (Int.tdiv (IntKind.wrap .i64 (x43 + x44)) 2))).to) < p1)) then ((wide_in_l2 p0 p1 k50) (IntKind.wrap .i64 ((IntKind.wrap .i64 (Int.tdiv (IntKind.wrap .i64 (x43 + x44)) 2)) + 1)) x44) else ((wide_in_l2 p0 p1 k50) x43 (IntKind.wrap .i64 (Int.tdiv (IntKind.wrap .i64 (x43 + x44)) 2)))) else none) else (wide_in_j1 p0 p1 x43)
def wide_in (K : Nat) (p0 : List T97) (p1 : Int) : Option Bool :=
  wide_in_l2 p0 p1 K 0 ((p0).length : Int)

/-! tidewrack/wide.Of -/
def wide_Of (K : Nat) (p0 : Int) : Option Int :=
  (wide_in K glob0 p0).bind fun t4 => (bif t4 then (some 0) else ((wide_in K glob1 p0).bind fun t13 => (bif t13 then (some 2) else (some 1))))

/-! tidewrack/glyph.find -/
def glyph_find_j1 : Option (T192 × Bool) :=
  some ((⟨0, 0, 0, 0, 0⟩ : T192), false)
def glyph_find_j3 (x127 : Int) (lp155 : Int → Option (T192 × Bool)) (x175 : Bool) : Option (T192 × Bool) :=
  bif x175 then (some ((rdD zT192 glob3 x127), true)) else (lp155 (IntKind.wrap .i64 (x127 + 1)))
def glyph_find_l2 (p0 : Int) : Nat → Int → Option (T192 × Bool)
  | 0, _ => none
  | k154 + 1, x127 => bif (decide (x127 < (8 : Int))) then (if 0 ≤ x127 ∧ x127 < ((glob3).length : Int) then (bif (decide (p0 ≥ ((rdD zT192 glob3 x127).first))) then (glyph_find_j3 x127 (glyph_find_l2 p0 k154) (decide (p0 ≤ ((rdD zT192 glob3 x127).last)))) else (glyph_find_j3 x127 (glyph_find_l2 p0 k154) false)) else none) else (glyph_find_j1)
def glyph_find (K : Nat) (p0 : Int) : Option (T192 × Bool) :=
  glyph_find_l2 p0 K 0

/-! tidewrack/glyph.begin -/
def glyph_begin (K : Nat) (p0 : Int) : Option (T44 × (List Int)) :=
  bif (decide (p0 < (128 : Int))) then (some ((⟨0, 0, 0⟩ : T44), ([(IntKind.wrap .i32 p0)] : List Int))) else ((glyph_find K p0).bind fun t10 => (bif (!t10.2) then (some ((⟨0, 0, 0⟩ : T44), ([65533] : List Int))) else (if 0 ≤ t10.1.need then (some ((⟨p0, (bits .and .i32 (IntKind.wrap .i32 p0) (Int.fdiv 63 (2 ^ min (Int.toNat t10.1.need) 32))), t10.1.need⟩ : T44), ([] : List Int))) else none)))

/-! (tidewrack/glyph.Decoder).fits -/
def glyph_Decoder_fits (K : Nat) (p0 : T44) (p1 : Int) : Option Bool :=
  (glyph_find K p0.Lead).bind fun t9 => (bif (decide (p0.Need < t9.1.need)) then (bif (decide (p1 ≥ (128 : Int))) then (some (decide (p1 ≤ (191 : Int)))) else (some false)) else (bif (decide (p1 ≥ t9.1.low)) then (some (decide (p1 ≤ t9.1.high))) else (some false)))

/-! (tidewrack/glyph.Decoder).Next -/
def glyph_Decoder_Next_j1 (p0 : T44) (p1 : Int) : Option (T44 × (List Int)) :=
  some ((⟨0, 0, 0⟩ : T44), ([(bits .or .i32 (IntKind.wrap .i32 (p0.Rune * 2 ^ min (Int.toNat 6) 32)) (bits .and .i32 (IntKind.wrap .i32 p1) 63))] : List Int))
def glyph_Decoder_Next (K : Nat) (p0 : T44) (p1 : Int) : Option (T44 × (List Int)) :=
  bif (decide (p0.Need ≤ (0 : Int))) then ((glyph_begin K p1).bind fun t287 => (some (t287.1, t287.2))) else ((glyph_Decoder_fits K p0 p1).bind fun t15 => (bif (!t15) then ((glyph_begin K p1).bind fun t214 => (if (([65533] : List Int)).length + (t214.2).length ≤ 1000000000 then (some (t214.1, (([65533] : List Int) ++ t214.2))) else none)) else (bif ((IntKind.wrap .i64 (p0.Need - 1)) == (0 : Int)) then (glyph_Decoder_Next_j1 p0 p1) else (some ((⟨p0.Lead, (bits .or .i32 (IntKind.wrap .i32 (p0.Rune * 2 ^ min (Int.toNat 6) 32)) (bits .and .i32 (IntKind.wrap .i32 p1) 63)), (IntKind.wrap .i64 (p0.Need - 1))⟩ : T44), ([] : List Int))))))

/-! (tidewrack/glyph.Decoder).Run -/
def glyph_Decoder_Run_j1 (x215 : T44) (l218 : List Int) : Option (T44 × (List Int)) :=
  some (x215, l218)
def glyph_Decoder_Run_l2 (K : Nat) (p1 : ByteArray) : Nat → T44 → (List Int) → Int → Option (T44 × (List Int))
  | 0, _, _, _ => none
  | k355 + 1, x288, l291, x294 => bif (decide (x294 < ((p1).size : Int))) then (if 0 ≤ x294 ∧ x294 < ((p1).size : Int) then ((glyph_Decoder_Next K x288 (bt p1 x294)).bind fun t397 => (if (l291).length + (t397.2).length ≤ 1000000000 then ((glyph_Decoder_Run_l2 K p1 k355) t397.1 (l291 ++ t397.2) (IntKind.wrap .i64 (x294 + 1))) else none)) else none) else (glyph_Decoder_Run_j1 x288 l291)
def glyph_Decoder_Run (K : Nat) (p0 : T44) (p1 : ByteArray) : Option (T44 × (List Int)) :=
  glyph_Decoder_Run_l2 K p1 K p0 ([] : List Int) 0

/-! (tidewrack/glyph.Decoder).End -/
def glyph_Decoder_End (p0 : T44) : Option (List Int) :=
  bif (decide (p0.Need ≤ (0 : Int))) then (some ([] : List Int)) else (some ([65533] : List Int))

/-! tidewrack/glyph.Decode -/
def glyph_Decode (K : Nat) (p0 : ByteArray) : Option (List Int) :=
  (glyph_Decoder_Run K (⟨0, 0, 0⟩ : T44) p0).bind fun t4 => ((glyph_Decoder_End t4.1).bind fun t24 => (if (t4.2).length + (t24).length ≤ 1000000000 then (some (t4.2 ++ t24)) else none))

/-! tidewrack/tidewracklaw01.Cut -/
def tidewracklaw01_Cut (p0 : ByteArray) (p1 : Int) : Option ByteArray :=
  bif (decide (((p0).size : Int) > p1)) then (if 0 ≤ p1 then (if p1 ≤ ((p0).size : Int) then (some (ByteArray.extract p0 0 (Int.toNat p1))) else none) else none) else (some p0)

/-! tidewrack/wide.columns$1 -/
def wide_columns_1_l1 (K : Nat) (p1 : List Int) : Nat → Int → Int → Option (List (Int × Int))
  | 0, _, _ => none
  | k44 + 1, x24, x25 => bif (decide (x25 < ((p1).length : Int))) then (if 0 ≤ x25 ∧ x25 < ((p1).length : Int) then ((wide_Of K (rdD 0 p1 x25)).bind fun t53 => (Option.map (List.cons (x25, (IntKind.wrap .i64 (x24 + t53)))) ((wide_columns_1_l1 K p1 k44) (IntKind.wrap .i64 (x24 + t53)) (IntKind.wrap .i64 (x25 + 1))))) else none) else (some [])
def wide_columns_1 (K : Nat) (p1 : List Int) : Option (List (Int × Int)) :=
  wide_columns_1_l1 K p1 K 0 0

/-! tidewrack/wide.columns -/
def wide_columns (p0 : List Int) : Option Unit :=
  some ()

/-! tidewrack/wide.Fit -/
def wide_Fit_j1 (x83 : Int) : Option Int :=
  some x83
def wide_Fit_x3 (x137 : Int) : Option Int :=
  wide_Fit_j1 x137
def wide_Fit_r2 (p0 : Int) : List (Int × Int) → Int → Option Int
  | [], x120 => wide_Fit_j1 x120
  | x99 :: rest100, x120 => bif (decide (x99.2 > p0)) then (wide_Fit_x3 x120) else ((wide_Fit_r2 p0 rest100) (IntKind.wrap .i64 (x99.1 + 1)))
def wide_Fit (K : Nat) (p0 : Int) (p1 : List Int) : Option Int :=
  (wide_columns p1).bind fun t90 => ((wide_columns_1 K p1).bind fun ys97 => (wide_Fit_r2 p0 ys97 0))

/-! tidewrack/wide.Sum -/
def wide_Sum_j1 (x66 : Int) : Option Int :=
  some x66
def wide_Sum_r2 : List (Int × Int) → Int → Option Int
  | [], x102 => wide_Sum_j1 x102
  | x82 :: rest83, x102 => (wide_Sum_r2 rest83) x82.2
def wide_Sum (K : Nat) (p0 : List Int) : Option Int :=
  (wide_columns p0).bind fun t73 => ((wide_columns_1 K p0).bind fun ys80 => (wide_Sum_r2 ys80 0))

/-! tidewrack/glyph.Encode -/
def glyph_Encode_j1 (l265 : List Int) : Option ByteArray :=
  some (strOfNums l265)
def glyph_Encode_j3 (l354 : List Int) (x357 : Int) (lp439 : (List Int) → Int → Option ByteArray) (x455 : Int) : Option ByteArray :=
  bif (decide (x455 < (128 : Int))) then (if (l354).length + (([(IntKind.wrap .u8 x455)] : List Int)).length ≤ 1000000000 then (lp439 (l354 ++ ([(IntKind.wrap .u8 x455)] : List Int)) (IntKind.wrap .i64 (x357 + 1))) else none) else (bif (decide (x455 < (2048 : Int))) then (if (l354).length + (([(IntKind.wrap .u8 (bits .or .i32 192 (Int.fdiv x455 (2 ^ min (Int.toNat 6) 32)))), (IntKind.wrap .u8 (bits .or .i32 128 (bits .and .i32 x455 63)))] : List Int)).length ≤ 1000000000 then (lp439 (l354 ++ ([(IntKind.wrap .u8 (bits .or .i32 192 (Int.fdiv x455 (2 ^ min (Int.toNat 6) 32)))), (IntKind.wrap .u8 (bits .or .i32 128 (bits .and .i32 x455 63)))] : List Int)) (IntKind.wrap .i64 (x357 + 1))) else none) else (bif (decide (x455 < (65536 : Int))) then (if (l354).length + (([(IntKind.wrap .u8 (bits .or .i32 224 (Int.fdiv x455 (2 ^ min (Int.toNat 12) 32)))), (IntKind.wrap .u8 (bits .or .i32 128 (bits .and .i32 (Int.fdiv x455 (2 ^ min (Int.toNat 6) 32)) 63))), (IntKind.wrap .u8 (bits .or .i32 128 (bits .and .i32 x455 63)))] : List Int)).length ≤ 1000000000 then (lp439 (l354 ++ ([(IntKind.wrap .u8 (bits .or .i32 224 (Int.fdiv x455 (2 ^ min (Int.toNat 12) 32)))), (IntKind.wrap .u8 (bits .or .i32 128 (bits .and .i32 (Int.fdiv x455 (2 ^ min (Int.toNat 6) 32)) 63))), (IntKind.wrap .u8 (bits .or .i32 128 (bits .and .i32 x455 63)))] : List Int)) (IntKind.wrap .i64 (x357 + 1))) else none) else (if (l354).length + (([(IntKind.wrap .u8 (bits .or .i32 240 (Int.fdiv x455 (2 ^ min (Int.toNat 18) 32)))), (IntKind.wrap .u8 (bits .or .i32 128 (bits .and .i32 (Int.fdiv x455 (2 ^ min (Int.toNat 12) 32)) 63))), (IntKind.wrap .u8 (bits .or .i32 128 (bits .and .i32 (Int.fdiv x455 (2 ^ min (Int.toNat 6) 32)) 63))), (IntKind.wrap .u8 (bits .or .i32 128 (bits .and .i32 x455 63)))] : List Int)).length ≤ 1000000000 then (lp439 (l354 ++ ([(IntKind.wrap .u8 (bits .or .i32 240 (Int.fdiv x455 (2 ^ min (Int.toNat 18) 32)))), (IntKind.wrap .u8 (bits .or .i32 128 (bits .and .i32 (Int.fdiv x455 (2 ^ min (Int.toNat 12) 32)) 63))), (IntKind.wrap .u8 (bits .or .i32 128 (bits .and .i32 (Int.fdiv x455 (2 ^ min (Int.toNat 6) 32)) 63))), (IntKind.wrap .u8 (bits .or .i32 128 (bits .and .i32 x455 63)))] : List Int)) (IntKind.wrap .i64 (x357 + 1))) else none)))
def glyph_Encode_l2 (p0 : List Int) : Nat → (List Int) → Int → Option ByteArray
  | 0, _, _ => none
  | k438 + 1, l354, x357 => bif (decide (x357 < ((p0).length : Int))) then (if 0 ≤ x357 ∧ x357 < ((p0).length : Int) then (bif (decide ((rdD 0 p0 x357) < (0 : Int))) then (glyph_Encode_j3 l354 x357 (glyph_Encode_l2 p0 k438) 65533) else (bif (decide ((rdD 0 p0 x357) > (1114111 : Int))) then (glyph_Encode_j3 l354 x357 (glyph_Encode_l2 p0 k438) 65533) else (bif (decide ((rdD 0 p0 x357) ≥ (55296 : Int))) then (bif (decide ((rdD 0 p0 x357) ≤ (57343 : Int))) then (glyph_Encode_j3 l354 x357 (glyph_Encode_l2 p0 k438) 65533) else (glyph_Encode_j3 l354 x357 (glyph_Encode_l2 p0 k438) (rdD 0 p0 x357))) else (glyph_Encode_j3 l354 x357 (glyph_Encode_l2 p0 k438) (rdD 0 p0 x357))))) else none) else (glyph_Encode_j1 l354)
def glyph_Encode (K : Nat) (p0 : List Int) : Option ByteArray :=
  glyph_Encode_l2 p0 K ([] : List Int) 0

/-! tidewrack/tidewracktop.TidewrackColumns -/
def tidewracktop_TidewrackColumns_j3 (K : Nat) (p1 : Int) (t39 : List Int) (t51 : Int) : Option Bool :=
  bif (t51 == ((t39).length : Int)) then (some true) else (if 0 ≤ t51 ∧ t51 < ((t39).length : Int) then ((wide_Sum K (List.take (Int.toNat t51) t39)).bind fun t230 => ((wide_Of K (rdD 0 t39 t51)).bind fun t238 => (some (decide ((IntKind.wrap .i64 (t230 + t238)) > (bits .and .i64 p1 63)))))) else none)
def tidewracktop_TidewrackColumns_l4 (K : Nat) (p1 : Int) (t39 : List Int) (t51 : Int) (t97 : List Int) : Nat → Int → Option Bool
  | 0, _ => none
  | k281 + 1, x263 => bif (decide (x263 < ((t97).length : Int))) then (if 0 ≤ x263 ∧ x263 < ((t97).length : Int) then (if 0 ≤ x263 ∧ x263 < ((t39).length : Int) then (bif ((rdD 0 t97 x263) != (rdD 0 t39 x263)) then (some false) else ((tidewracktop_TidewrackColumns_l4 K p1 t39 t51 t97 k281) (IntKind.wrap .i64 (x263 + 1)))) else none) else none) else (tidewracktop_TidewrackColumns_j3 K p1 t39 t51)
def tidewracktop_TidewrackColumns_j2 (K : Nat) (p1 : Int) (t39 : List Int) (t51 : Int) : Option Bool :=
  if 0 ≤ t51 then (if t51 ≤ ((t39).length : Int) then ((glyph_Encode K (List.take (Int.toNat t51) t39)).bind fun t89 => ((glyph_Decode K t89).bind fun t97 => (bif (((t97).length : Int) != t51) then (some false) else (tidewracktop_TidewrackColumns_l4 K p1 t39 t51 t97 K 0)))) else none) else none
def tidewracktop_TidewrackColumns_j1 (K : Nat) (p0 : ByteArray) (p1 : Int) : Option Bool :=
  (tidewracklaw01_Cut p0 80).bind fun t31 => ((glyph_Decode K t31).bind fun t39 => ((wide_Fit K (bits .and .i64 p1 63) t39).bind fun t51 => (bif (decide (t51 < (0 : Int))) then (some false) else (bif (decide (t51 > ((t39).length : Int))) then (some false) else (if 0 ≤ t51 then (if t51 ≤ ((t39).length : Int) then ((wide_Sum K (List.take (Int.toNat t51) t39)).bind fun t312 => (bif (decide (t312 > (bits .and .i64 p1 63))) then (some false) else (tidewracktop_TidewrackColumns_j2 K p1 t39 t51))) else none) else none)))))
def tidewracktop_TidewrackColumns (K : Nat) (p0 : ByteArray) (p1 : Int) : Option Bool :=
  (wide_Of K 97).bind fun t321 => (bif (t321 != (1 : Int)) then (some false) else ((glyph_Decode K (⟨#[97]⟩ : ByteArray)).bind fun t330 => (bif (((t330).length : Int) != (1 : Int)) then (some false) else (tidewracktop_TidewrackColumns_j1 K p0 p1))))

end Go.Proofs.YtpciioffkjpieaaDoor
