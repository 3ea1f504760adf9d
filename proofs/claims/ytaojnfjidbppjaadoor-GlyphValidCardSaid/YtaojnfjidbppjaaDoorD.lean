/- Plain functions, printed by an own program: what the walked code computes. -/
import Derived.Test.YtaojnfjidbppjaaDoorX13
set_option linter.unusedVariables false
set_option linter.unusedSimpArgs false
namespace Go.Proofs.YtaojnfjidbppjaaDoor
open Go Go.Proofs.XC
structure T47 where
  first : Int
  last : Int
  need : Int
  low : Int
  high : Int
abbrev zT47 : T47 := ⟨0, 0, 0, 0, 0⟩
structure T24 where
  Lead : Int
  Rune : Int
  Need : Int
abbrev zT24 : T24 := ⟨0, 0, 0⟩
def eqT24 (x y : T24) : Bool := ((x.Lead == y.Lead) && ((x.Rune == y.Rune) && ((x.Need == y.Need) && true)))
namespace WF
def wfBool (_ : Bool) : Prop := True
def wfStr (x : ByteArray) : Prop := x.size ≤ maxLen
def wfi64 (x : Int) : Prop := (Lit.int .i64 x).wf = true
def wfi32 (x : Int) : Prop := (Lit.int .i32 x).wf = true
def wfu8 (x : Int) : Prop := (Lit.int .u8 x).wf = true
def wfu32 (x : Int) : Prop := (Lit.int .u32 x).wf = true
def wfu64 (x : Int) : Prop := (Lit.int .u64 x).wf = true
def wfi8 (x : Int) : Prop := (Lit.int .i8 x).wf = true
def wfi16 (x : Int) : Prop := (Lit.int .i16 x).wf = true
def wfu16 (x : Int) : Prop := (Lit.int .u16 x).wf = true
def wfT47 (x : T47) : Prop := (Lit.int .u8 x.first).wf = true ∧ (Lit.int .u8 x.last).wf = true ∧ (Lit.int .i64 x.need).wf = true ∧ (Lit.int .u8 x.low).wf = true ∧ (Lit.int .u8 x.high).wf = true
def wfT24 (x : T24) : Prop := (Lit.int .u8 x.Lead).wf = true ∧ (Lit.int .i32 x.Rune).wf = true ∧ (Lit.int .i64 x.Need).wf = true
end WF
def glob0 : List T47 := [⟨194, 223, 1, 128, 191⟩, ⟨224, 224, 2, 160, 191⟩, ⟨225, 236, 2, 128, 191⟩, ⟨237, 237, 2, 128, 159⟩, ⟨238, 239, 2, 128, 191⟩, ⟨240, 240, 3, 144, 191⟩, ⟨241, 243, 3, 128, 191⟩, ⟨244, 244, 3, 128, 143⟩]
/-! tidewrack/glyph.find -/
def glyph_find_j1 : Option (T47 × Bool) :=
  some ((⟨0, 0, 0, 0, 0⟩ : T47), false)
def glyph_find_j3 (x127 : Int) (lp155 : Int → Option (T47 × Bool)) (x175 : Bool) : Option (T47 × Bool) :=
  bif x175 then (some ((rdD zT47 glob0 x127), true)) else (lp155 (IntKind.wrap .i64 (x127 + 1)))
def glyph_find_l2 (p0 : Int) : Nat → Int → Option (T47 × Bool)
  | 0, _ => none
  | k154 + 1, x127 => bif (decide (x127 < (8 : Int))) then (if 0 ≤ x127 ∧ x127 < ((glob0).length : Int) then (bif (decide (p0 ≥ ((rdD zT47 glob0 x127).first))) then (glyph_find_j3 x127 (glyph_find_l2 p0 k154) (decide (p0 ≤ ((rdD zT47 glob0 x127).last)))) else (glyph_find_j3 x127 (glyph_find_l2 p0 k154) false)) else none) else (glyph_find_j1)
def glyph_find (K : Nat) (p0 : Int) : Option (T47 × Bool) :=
  glyph_find_l2 p0 K 0

/-! tidewrack/glyph.begin -/
def glyph_begin (K : Nat) (p0 : Int) : Option (T24 × (List Int)) :=
  bif (decide (p0 < (128 : Int))) then (some ((⟨0, 0, 0⟩ : T24), ([(IntKind.wrap .i32 p0)] : List Int))) else ((glyph_find K p0).bind fun t10 => (bif (!t10.2) then (some ((⟨0, 0, 0⟩ : T24), ([65533] : List Int))) else (if 0 ≤ t10.1.need then (some ((⟨p0, (bits .and .i32 (IntKind.wrap .i32 p0) (Int.fdiv 63 (2 ^ min (Int.toNat t10.1.need) 32))), t10.1.need⟩ : T24), ([] : List Int))) else none)))

/-! (tidewrack/glyph.Decoder).fits -/
def glyph_Decoder_fits (K : Nat) (p0 : T24) (p1 : Int) : Option Bool :=
  (glyph_find K p0.Lead).bind fun t9 => (bif (decide (p0.Need < t9.1.need)) then (bif (decide (p1 ≥ (128 : Int))) then (some (decide (p1 ≤ (191 : Int)))) else (some false)) else (bif (decide (p1 ≥ t9.1.low)) then (some (decide (p1 ≤ t9.1.high))) else (some false)))

/-! (tidewrack/glyph.Decoder).Next -/
def glyph_Decoder_Next_j1 (l109 : List Int) : Option (T24 × (List Int)) :=
  some ((⟨0, 0, 0⟩ : T24), l109)
def glyph_Decoder_Next (K : Nat) (p0 : T24) (p1 : Int) : Option (T24 × (List Int)) :=
  bif (decide (p0.Need ≤ (0 : Int))) then ((glyph_begin K p1).bind fun t245 => (some (t245.1, t245.2))) else ((glyph_Decoder_fits K p0 p1).bind fun t15 => (bif (!t15) then ((glyph_begin K p1).bind fun t172 => (if (([65533] : List Int)).length + (t172.2).length ≤ 1000000000 then (some (t172.1, (([65533] : List Int) ++ t172.2))) else none)) else (bif ((IntKind.wrap .i64 (p0.Need - 1)) == (0 : Int)) then (glyph_Decoder_Next_j1 ([(bits .or .i32 (IntKind.wrap .i32 (p0.Rune * 2 ^ min (Int.toNat 6) 32)) (bits .and .i32 (IntKind.wrap .i32 p1) 63))] : List Int)) else (some ((⟨p0.Lead, (bits .or .i32 (IntKind.wrap .i32 (p0.Rune * 2 ^ min (Int.toNat 6) 32)) (bits .and .i32 (IntKind.wrap .i32 p1) 63)), (IntKind.wrap .i64 (p0.Need - 1))⟩ : T24), ([] : List Int))))))

/-! (tidewrack/glyph.Decoder).Run -/
def glyph_Decoder_Run_j1 (x215 : T24) (l218 : List Int) : Option (T24 × (List Int)) :=
  some (x215, l218)
def glyph_Decoder_Run_l2 (K : Nat) (p1 : ByteArray) : Nat → T24 → (List Int) → Int → Option (T24 × (List Int))
  | 0, _, _, _ => none
  | k355 + 1, x288, l291, x294 => bif (decide (x294 < ((p1).size : Int))) then (if 0 ≤ x294 ∧ x294 < ((p1).size : Int) then ((glyph_Decoder_Next K x288 (bt p1 x294)).bind fun t397 => (if (l291).length + (t397.2).length ≤ 1000000000 then ((glyph_Decoder_Run_l2 K p1 k355) t397.1 (l291 ++ t397.2) (IntKind.wrap .i64 (x294 + 1))) else none)) else none) else (glyph_Decoder_Run_j1 x288 l291)
def glyph_Decoder_Run (K : Nat) (p0 : T24) (p1 : ByteArray) : Option (T24 × (List Int)) :=
  glyph_Decoder_Run_l2 K p1 K p0 ([] : List Int) 0

/-! (tidewrack/glyph.Decoder).End -/
def glyph_Decoder_End (p0 : T24) : Option (List Int) :=
  bif (decide (p0.Need ≤ (0 : Int))) then (some ([] : List Int)) else (some ([65533] : List Int))

/-! tidewrack/glyph.Decode -/
def glyph_Decode (K : Nat) (p0 : ByteArray) : Option (List Int) :=
  (glyph_Decoder_Run K (⟨0, 0, 0⟩ : T24) p0).bind fun t4 => ((glyph_Decoder_End t4.1).bind fun t24 => (if (t4.2).length + (t24).length ≤ 1000000000 then (some (t4.2 ++ t24)) else none))

/-! tidewrack/tidewracklaw05.Same -/
def tidewracklaw05_Same_j1 : Option Bool :=
  some true
def tidewracklaw05_Same_l2 (p0 : List Int) (p1 : List Int) : Nat → Int → Option Bool
  | 0, _ => none
  | k102 + 1, x84 => bif (decide (x84 < ((p1).length : Int))) then (if 0 ≤ x84 ∧ x84 < ((p0).length : Int) then (if 0 ≤ x84 ∧ x84 < ((p1).length : Int) then (bif ((IntKind.wrap .i64 (rdD 0 p0 x84)) != (rdD 0 p1 x84)) then (some false) else ((tidewracklaw05_Same_l2 p0 p1 k102) (IntKind.wrap .i64 (x84 + 1)))) else none) else none) else (tidewracklaw05_Same_j1)
def tidewracklaw05_Same (K : Nat) (p0 : List Int) (p1 : List Int) : Option Bool :=
  bif (((p0).length : Int) != ((p1).length : Int)) then (some false) else (tidewracklaw05_Same_l2 p0 p1 K 0)

/-! tidewrack/glyph.Encode -/
def glyph_Encode_j1 (l265 : List Int) : Option ByteArray :=
  some (strOfNums l265)
def glyph_Encode_j3 (l354 : List Int) (x357 : Int) (lp439 : (List Int) → Int → Option ByteArray) (x455 : Int) : Option ByteArray :=
  bif (decide (x455 < (128 : Int))) then (if (l354).length + (([(IntKind.wrap .u8 x455)] : List Int)).length ≤ 1000000000 then (lp439 (l354 ++ ([(IntKind.wrap .u8 x455)] : List Int)) (IntKind.wrap .i64 (x357 + 1))) else none) else (bif (decide (x455 < (2048 : Int))) then (if (l354).length + (([(IntKind.wrap .u8 (bits .or .i32 192 (Int.fdiv x455 (2 ^ min (Int.toNat 6) 32)))), (IntKind.wrap .u8 (bits .or .i32 128 (bits .and .i32 x455 63)))] : List Int)).length ≤ 1000000000 then (lp439 (l354 ++ ([(IntKind.wrap .u8 (bits .or .i32 192 (Int.fdiv x455 (2 ^ min (Int.toNat 6) 32)))), (IntKind.wrap .u8 (bits .or .i32 128 (bits .and .i32 x455 63)))] : List Int)) (IntKind.wrap .i64 (x357 + 1))) else none) else (bif (decide (x455 < (65536 : Int))) then (if (l354).length + (([(IntKind.wrap .u8 (bits .or .i32 224 (Int.fdiv x455 (2 ^ min (Int.toNat 12) 32)))), (IntKind.wrap .u8 (bits .or .i32 128 (bits .and .i32 (Int.fdiv x455 (2 ^ min (Int.toNat 6) 32)) 63))), (IntKind.wrap .u8 (bits .or .i32 128 (bits .and .i32 x455 63)))] : List Int)).length ≤ 1000000000 then (lp439 (l354 ++ ([(IntKind.wrap .u8 (bits .or .i32 224 (Int.fdiv x455 (2 ^ min (Int.toNat 12) 32)))), (IntKind.wrap .u8 (bits .or .i32 128 (bits .and .i32 (Int.fdiv x455 (2 ^ min (Int.toNat 6) 32)) 63))), (IntKind.wrap .u8 (bits .or .i32 128 (bits .and .i32 x455 63)))] : List Int)) (IntKind.wrap .i64 (x357 + 1))) else none) else (if (l354).length + (([(IntKind.wrap .u8 (bits .or .i32 240 (Int.fdiv x455 (2 ^ min (Int.toNat 18) 32)))), (IntKind.wrap .u8 (bits .or .i32 128 (bits .and .i32 (Int.fdiv x455 (2 ^ min (Int.toNat 12) 32)) 63))), (IntKind.wrap .u8 (bits .or .i32 128 (bits .and .i32 (Int.fdiv x455 (2 ^ min (Int.toNat 6) 32)) 63))), (IntKind.wrap .u8 (bits .or .i32 128 (bits .and .i32 x455 63)))] : List Int)).length ≤ 1000000000 then (lp439 (l354 ++ ([(IntKind.wrap .u8 (bits .or .i32 240 (Int.fdiv x455 (2 ^ min (Int.toNat 18) 32)))), (IntKind.wrap .u8 (bits .or .i32 128 (bits .and .i32 (Int.fdiv x455 (2 ^ min (Int.toNat 12) 32)) 63))), (IntKind.wrap .u8 (bits .or .i32 128 (bits .and .i32 (Int.fdiv x455 (2 ^ min (Int.toNat 6) 32)) 63))), (IntKind.wrap .u8 (bits .or .i32 128 (bits .and .i32 x455 63)))] : List Int)) (IntKind.wrap .i64 (x357 + 1))) else none)))
def glyph_Encode_l2 (p0 : List Int) : Nat → (List Int) → Int → Option ByteArray
  | 0, _, _ => none
  | k438 + 1, l354, x357 => bif (decide (x357 < ((p0).length : Int))) then (if 0 ≤ x357 ∧ x357 < ((p0).length : Int) then (bif (decide ((rdD 0 p0 x357) < (0 : Int))) then (glyph_Encode_j3 l354 x357 (glyph_Encode_l2 p0 k438) 65533) else (bif (decide ((rdD 0 p0 x357) > (1114111 : Int))) then (glyph_Encode_j3 l354 x357 (glyph_Encode_l2 p0 k438) 65533) else (bif (decide ((rdD 0 p0 x357) ≥ (55296 : Int))) then (bif (decide ((rdD 0 p0 x357) ≤ (57343 : Int))) then (glyph_Encode_j3 l354 x357 (glyph_Encode_l2 p0 k438) 65533) else (glyph_Encode_j3 l354 x357 (glyph_Encode_l2 p0 k438) (rdD 0 p0 x357))) else (glyph_Encode_j3 l354 x357 (glyph_Encode_l2 p0 k438) (rdD 0 p0 x357))))) else none) else (glyph_Encode_j1 l354)
def glyph_Encode (K : Nat) (p0 : List Int) : Option ByteArray :=
  glyph_Encode_l2 p0 K ([] : List Int) 0

/-! tidewrack/tidewracklaw05.awake -/
def tidewracklaw05_awake (K : Nat)  : Option Bool :=
  (glyph_Decode K (⟨#[65, 195, 40]⟩ : ByteArray)).bind fun t4 => ((tidewracklaw05_Same K t4 ([65, 65533, 40] : List Int)).bind fun t22 => (bif t22 then ((glyph_Encode K ([233] : List Int)).bind fun t37 => (some (ByteArray.toList t37 == ByteArray.toList (⟨#[195, 169]⟩ : ByteArray)))) else (some false)))

/-! tidewrack/tidewracklaw01.Cut -/
def tidewracklaw01_Cut (p0 : ByteArray) (p1 : Int) : Option ByteArray :=
  bif (decide (((p0).size : Int) > p1)) then (if 0 ≤ p1 then (if p1 ≤ ((p0).size : Int) then (some (ByteArray.extract p0 0 (Int.toNat p1))) else none) else none) else (some p0)

/-! tidewrack/tidewrackref05.need -/
def tidewrackref05_need_j3 (x47 : Bool) : Option (Int × Int × Int) :=
  bif x47 then (some (3, 128, 191)) else (some (0, 0, 0))
def tidewrackref05_need_j2 (p0 : Int) : Option (Int × Int × Int) :=
  bif (p0 == (240 : Int)) then (some (3, 144, 191)) else (bif (p0 == (244 : Int)) then (some (3, 128, 143)) else (bif (decide (p0 ≥ (241 : Int))) then (tidewrackref05_need_j3 (decide (p0 ≤ (243 : Int)))) else (tidewrackref05_need_j3 false)))
def tidewrackref05_need_j4 (p0 : Int) (x59 : Bool) : Option (Int × Int × Int) :=
  bif x59 then (some (2, 128, 191)) else (tidewrackref05_need_j2 p0)
def tidewrackref05_need_j1 (p0 : Int) : Option (Int × Int × Int) :=
  bif (p0 == (224 : Int)) then (some (2, 160, 191)) else (bif (p0 == (237 : Int)) then (some (2, 128, 159)) else (bif (decide (p0 ≥ (225 : Int))) then (tidewrackref05_need_j4 p0 (decide (p0 ≤ (239 : Int)))) else (tidewrackref05_need_j4 p0 false)))
def tidewrackref05_need_j5 (p0 : Int) (x71 : Bool) : Option (Int × Int × Int) :=
  bif x71 then (some (1, 128, 191)) else (tidewrackref05_need_j1 p0)
def tidewrackref05_need (p0 : Int) : Option (Int × Int × Int) :=
  bif (decide (p0 ≥ (194 : Int))) then (tidewrackref05_need_j5 p0 (decide (p0 ≤ (223 : Int)))) else (tidewrackref05_need_j5 p0 false)

/-! tidewrack/tidewrackref05.Runes -/
def tidewrackref05_Runes_j1 (l715 : List Int) : Option ((List Int) × Int) :=
  some (l715, 0)
def tidewrackref05_Runes_j3 (p0 : ByteArray) (l952 : List Int) (x955 : Int) (lp1185 : (List Int) → Int → Option ((List Int) × Int)) (t1193 : Int × Int × Int) (x1284 : Int) (x1285 : Int) : Option ((List Int) × Int) :=
  bif (decide (x1285 > t1193.1)) then (if (l952).length + (([x1284] : List Int)).length ≤ 1000000000 then (lp1185 (l952 ++ ([x1284] : List Int)) (IntKind.wrap .i64 (x955 + x1285))) else none) else (bif ((IntKind.wrap .i64 (x955 + x1285)) == ((p0).size : Int)) then (some (l952, x1285)) else (if (l952).length + (([65533] : List Int)).length ≤ 1000000000 then (lp1185 (l952 ++ ([65533] : List Int)) (IntKind.wrap .i64 (x955 + x1285))) else none))
def tidewrackref05_Runes_j6 (p0 : ByteArray) (x955 : Int) (x1342 : Int) (x1343 : Int) (lp1365 : Int → Int → Int → Int → Option ((List Int) × Int)) : Option ((List Int) × Int) :=
  lp1365 128 191 (IntKind.wrap .i64 ((IntKind.wrap .i64 (x1342 * 64)) + (Int.tmod (IntKind.wrap .i64 (bt p0 (IntKind.wrap .i64 (x955 + x1343)))) 64))) (IntKind.wrap .i64 (x1343 + 1))
def tidewrackref05_Runes_j5 (p0 : ByteArray) (l952 : List Int) (x955 : Int) (lp1185 : (List Int) → Int → Option ((List Int) × Int)) (t1193 : Int × Int × Int) (x1340 : Int) (x1341 : Int) (x1342 : Int) (x1343 : Int) (lp1365 : Int → Int → Int → Int → Option ((List Int) × Int)) : Option ((List Int) × Int) :=
  if 0 ≤ (IntKind.wrap .i64 (x955 + x1343)) ∧ (IntKind.wrap .i64 (x955 + x1343)) < ((p0).size : Int) then (bif (decide ((IntKind.wrap .i64 (bt p0 (IntKind.wrap .i64 (x955 + x1343)))) < x1340)) then (tidewrackref05_Runes_j3 p0 l952 x955 lp1185 t1193 x1342 x1343) else (bif (decide ((IntKind.wrap .i64 (bt p0 (IntKind.wrap .i64 (x955 + x1343)))) > x1341)) then (tidewrackref05_Runes_j3 p0 l952 x955 lp1185 t1193 x1342 x1343) else (tidewrackref05_Runes_j6 p0 x955 x1342 x1343 lp1365))) else none
def tidewrackref05_Runes_l4 (p0 : ByteArray) (l952 : List Int) (x955 : Int) (lp1185 : (List Int) → Int → Option ((List Int) × Int)) (t1193 : Int × Int × Int) : Nat → Int → Int → Int → Int → Option ((List Int) × Int)
  | 0, _, _, _, _ => none
  | k1364 + 1, x1340, x1341, x1342, x1343 => bif (decide (x1343 ≤ t1193.1)) then (bif (decide ((IntKind.wrap .i64 (x955 + x1343)) < ((p0).size : Int))) then (tidewrackref05_Runes_j5 p0 l952 x955 lp1185 t1193 x1340 x1341 x1342 x1343 (tidewrackref05_Runes_l4 p0 l952 x955 lp1185 t1193 k1364)) else (tidewrackref05_Runes_j3 p0 l952 x955 lp1185 t1193 x1342 x1343)) else (tidewrackref05_Runes_j3 p0 l952 x955 lp1185 t1193 x1342 x1343)
def tidewrackref05_Runes_l2 (K : Nat) (p0 : ByteArray) : Nat → (List Int) → Int → Option ((List Int) × Int)
  | 0, _, _ => none
  | k1184 + 1, l952, x955 => bif (decide (x955 < ((p0).size : Int))) then (if 0 ≤ x955 ∧ x955 < ((p0).size : Int) then (bif (decide ((IntKind.wrap .i64 (bt p0 x955)) < (128 : Int))) then (if (l952).length + (([(IntKind.wrap .i64 (bt p0 x955))] : List Int)).length ≤ 1000000000 then ((tidewrackref05_Runes_l2 K p0 k1184) (l952 ++ ([(IntKind.wrap .i64 (bt p0 x955))] : List Int)) (IntKind.wrap .i64 (x955 + 1))) else none) else ((tidewrackref05_need (IntKind.wrap .i64 (bt p0 x955))).bind fun t1193 => (bif (t1193.1 == (0 : Int)) then (if (l952).length + (([65533] : List Int)).length ≤ 1000000000 then ((tidewrackref05_Runes_l2 K p0 k1184) (l952 ++ ([65533] : List Int)) (IntKind.wrap .i64 (x955 + 1))) else none) else (if 0 ≤ t1193.1 ∧ t1193.1 < ((([0, 32, 16, 8] : List Int)).length : Int) then (if (rdD 0 ([0, 32, 16, 8] : List Int) t1193.1) ≠ 0 then (tidewrackref05_Runes_l4 p0 l952 x955 (tidewrackref05_Runes_l2 K p0 k1184) t1193 K t1193.2.1 t1193.2.2 (Int.tmod (IntKind.wrap .i64 (bt p0 x955)) (rdD 0 ([0, 32, 16, 8] : List Int) t1193.1)) 1) else none) else none)))) else none) else (tidewrackref05_Runes_j1 l952)
def tidewrackref05_Runes (K : Nat) (p0 : ByteArray) : Option ((List Int) × Int) :=
  tidewrackref05_Runes_l2 K p0 K ([] : List Int) 0

/-! tidewrack/tidewracklaw05.GlyphDecodes -/
def tidewracklaw05_GlyphDecodes_j1 (K : Nat) (t13 : ByteArray) (t21 : T24 × (List Int)) (t41 : (List Int) × Int) (l92 : List Int) : Option Bool :=
  (tidewracklaw05_Same K t21.2 t41.1).bind fun t99 => (bif t99 then (bif ((decide (t21.1.Need > (0 : Int))) == (decide (t41.2 > (0 : Int)))) then (bif (decide (t41.2 > (0 : Int))) then ((glyph_Decode K t13).bind fun t144 => ((tidewracklaw05_Same K t144 l92).bind fun t156 => (bif t156 then ((glyph_Decoder_End t21.1).bind fun t165 => (some (((t165).length : Int) == (IntKind.wrap .i64 (((l92).length : Int) - ((t41.1).length : Int)))))) else (some false)))) else (bif (eqT24 t21.1 (⟨0, 0, 0⟩ : T24)) then ((glyph_Decode K t13).bind fun t111 => ((tidewracklaw05_Same K t111 l92).bind fun t123 => (bif t123 then ((glyph_Decoder_End t21.1).bind fun t132 => (some (((t132).length : Int) == (IntKind.wrap .i64 (((l92).length : Int) - ((t41.1).length : Int)))))) else (some false)))) else (some false))) else (some false)) else (some false))
def tidewracklaw05_GlyphDecodes (K : Nat) (p0 : ByteArray) : Option Bool :=
  (tidewracklaw05_awake K).bind fun t4 => (bif (!t4) then (some false) else ((tidewracklaw01_Cut p0 80).bind fun t13 => ((glyph_Decoder_Run K (⟨0, 0, 0⟩ : T24) t13).bind fun t21 => ((tidewrackref05_Runes K t13).bind fun t41 => (if (([] : List Int)).length + (t41.1).length ≤ 1000000000 then (bif (decide (t41.2 > (0 : Int))) then (if ((([] : List Int) ++ t41.1)).length + (([65533] : List Int)).length ≤ 1000000000 then (tidewracklaw05_GlyphDecodes_j1 K t13 t21 t41 ((([] : List Int) ++ t41.1) ++ ([65533] : List Int))) else none) else (tidewracklaw05_GlyphDecodes_j1 K t13 t21 t41 (([] : List Int) ++ t41.1))) else none)))))

/-! tidewrack/tidewracklaw05.GlyphParts -/
def tidewracklaw05_GlyphParts_j2 (K : Nat) (t13 : ByteArray) (t23 : T24 × (List Int)) (x190 : T24) (l193 : List Int) (t200 : T24 × (List Int)) (x426 : T24) (l429 : List Int) : Option Bool :=
  (tidewrackref05_Runes K t13).bind fun t436 => (bif (eqT24 x190 t200.1) then (bif (eqT24 x426 t200.1) then (if (t23.2).length + (l193).length ≤ 1000000000 then ((tidewracklaw05_Same K (t23.2 ++ l193) t436.1).bind fun t458 => (bif t458 then ((tidewracklaw05_Same K t200.2 t436.1).bind fun t467 => (bif t467 then ((tidewracklaw05_Same K l429 t436.1).bind fun t476 => (some t476)) else (some false))) else (some false))) else none) else (some false)) else (some false))
def tidewracklaw05_GlyphParts_l3 (K : Nat) (t13 : ByteArray) (t23 : T24 × (List Int)) (x190 : T24) (l193 : List Int) (t200 : T24 × (List Int)) : Nat → T24 → (List Int) → Int → Option Bool
  | 0, _, _, _ => none
  | k611 + 1, x544, l547, x550 => bif (decide (x550 < ((t13).size : Int))) then (if 0 ≤ x550 ∧ x550 < ((t13).size : Int) then ((glyph_Decoder_Next K x544 (bt t13 x550)).bind fun t653 => (if (l547).length + (t653.2).length ≤ 1000000000 then ((tidewracklaw05_GlyphParts_l3 K t13 t23 x190 l193 t200 k611) t653.1 (l547 ++ t653.2) (IntKind.wrap .i64 (x550 + 1))) else none)) else none) else (tidewracklaw05_GlyphParts_j2 K t13 t23 x190 l193 t200 x544 l547)
def tidewracklaw05_GlyphParts_j1 (K : Nat) (t13 : ByteArray) (t23 : T24 × (List Int)) (x190 : T24) (l193 : List Int) : Option Bool :=
  (glyph_Decoder_Run K (⟨0, 0, 0⟩ : T24) t13).bind fun t200 => (tidewracklaw05_GlyphParts_l3 K t13 t23 x190 l193 t200 K (⟨0, 0, 0⟩ : T24) ([] : List Int) 0)
def tidewracklaw05_GlyphParts (K : Nat) (p0 : ByteArray) (p1 : Int) : Option Bool :=
  (tidewracklaw05_awake K).bind fun t4 => (bif (!t4) then (some false) else ((tidewracklaw01_Cut p0 80).bind fun t13 => (if 0 ≤ (if (if ((t13).size : Int) < p1 then ((t13).size : Int) else p1) > 0 then (if ((t13).size : Int) < p1 then ((t13).size : Int) else p1) else 0) then (if (if (if ((t13).size : Int) < p1 then ((t13).size : Int) else p1) > 0 then (if ((t13).size : Int) < p1 then ((t13).size : Int) else p1) else 0) ≤ ((t13).size : Int) then ((glyph_Decoder_Run K (⟨0, 0, 0⟩ : T24) (ByteArray.extract t13 0 (Int.toNat (if (if ((t13).size : Int) < p1 then ((t13).size : Int) else p1) > 0 then (if ((t13).size : Int) < p1 then ((t13).size : Int) else p1) else 0)))).bind fun t23 => ((glyph_Decoder_Run K t23.1 (ByteArray.extract t13 (Int.toNat (if (if ((t13).size : Int) < p1 then ((t13).size : Int) else p1) > 0 then (if ((t13).size : Int) < p1 then ((t13).size : Int) else p1) else 0)) (t13).size)).bind fun t696 => (tidewracklaw05_GlyphParts_j1 K t13 t23 t696.1 t696.2))) else none) else none)))

/-! tidewrack/tidewrackref05.Encode -/
def tidewrackref05_Encode_j1 (x12 : Int) : Option ByteArray :=
  bif (decide (x12 < (128 : Int))) then (some (strOfNums ([(IntKind.wrap .u8 x12)] : List Int))) else (bif (decide (x12 < (2048 : Int))) then (some (strOfNums ([(IntKind.wrap .u8 (IntKind.wrap .i64 (192 + (IntKind.wrap .i64 (Int.tdiv x12 64))))), (IntKind.wrap .u8 (IntKind.wrap .i64 (128 + (Int.tmod x12 64))))] : List Int))) else (bif (decide (x12 < (65536 : Int))) then (some (strOfNums ([(IntKind.wrap .u8 (IntKind.wrap .i64 (224 + (IntKind.wrap .i64 (Int.tdiv x12 4096))))), (IntKind.wrap .u8 (IntKind.wrap .i64 (128 + (Int.tmod (IntKind.wrap .i64 (Int.tdiv x12 64)) 64)))), (IntKind.wrap .u8 (IntKind.wrap .i64 (128 + (Int.tmod x12 64))))] : List Int))) else (some (strOfNums ([(IntKind.wrap .u8 (IntKind.wrap .i64 (240 + (IntKind.wrap .i64 (Int.tdiv x12 262144))))), (IntKind.wrap .u8 (IntKind.wrap .i64 (128 + (Int.tmod (IntKind.wrap .i64 (Int.tdiv x12 4096)) 64)))), (IntKind.wrap .u8 (IntKind.wrap .i64 (128 + (Int.tmod (IntKind.wrap .i64 (Int.tdiv x12 64)) 64)))), (IntKind.wrap .u8 (IntKind.wrap .i64 (128 + (Int.tmod x12 64))))] : List Int)))))
def tidewrackref05_Encode (p0 : Int) : Option ByteArray :=
  bif (decide (p0 < (0 : Int))) then (tidewrackref05_Encode_j1 65533) else (bif (decide (p0 > (1114111 : Int))) then (tidewrackref05_Encode_j1 65533) else (bif (decide (p0 ≥ (55296 : Int))) then (bif (decide (p0 ≤ (57343 : Int))) then (tidewrackref05_Encode_j1 65533) else (tidewrackref05_Encode_j1 p0)) else (tidewrackref05_Encode_j1 p0)))

/-! tidewrack/tidewracklaw05.GlyphBack -/
def tidewracklaw05_GlyphBack_j1 (K : Nat) (p0 : List Int) (x303 : ByteArray) (l306 : List Int) : Option Bool :=
  (glyph_Encode K (List.drop 0 (List.take (Int.toNat (if 40 < ((p0).length : Int) then 40 else ((p0).length : Int))) p0))).bind fun t313 => (bif (ByteArray.toList t313 == ByteArray.toList x303) then ((glyph_Decode K x303).bind fun t322 => ((tidewracklaw05_Same K t322 l306).bind fun t334 => (some t334))) else (some false))
def tidewracklaw05_GlyphBack_l2 (K : Nat) (p0 : List Int) : Nat → ByteArray → (List Int) → Int → Option Bool
  | 0, _, _, _ => none
  | k524 + 1, x430, l433, x436 => bif (decide (x436 < (((List.drop 0 (List.take (Int.toNat (if 40 < ((p0).length : Int) then 40 else ((p0).length : Int))) p0))).length : Int))) then (if 0 ≤ x436 ∧ x436 < (((List.drop 0 (List.take (Int.toNat (if 40 < ((p0).length : Int) then 40 else ((p0).length : Int))) p0))).length : Int) then ((tidewrackref05_Encode (IntKind.wrap .i64 (rdD 0 (List.drop 0 (List.take (Int.toNat (if 40 < ((p0).length : Int) then 40 else ((p0).length : Int))) p0)) x436))).bind fun t533 => (if ((x430.size + t533.size : Nat) : Int) ≤ 9223372036854775807 then (bif (decide ((IntKind.wrap .i64 (rdD 0 (List.drop 0 (List.take (Int.toNat (if 40 < ((p0).length : Int) then 40 else ((p0).length : Int))) p0)) x436)) < (0 : Int))) then (if (l433).length + (([65533] : List Int)).length ≤ 1000000000 then ((tidewracklaw05_GlyphBack_l2 K p0 k524) (x430 ++ t533) (l433 ++ ([65533] : List Int)) (IntKind.wrap .i64 (x436 + 1))) else none) else (bif (decide ((IntKind.wrap .i64 (rdD 0 (List.drop 0 (List.take (Int.toNat (if 40 < ((p0).length : Int) then 40 else ((p0).length : Int))) p0)) x436)) > (1114111 : Int))) then (if (l433).length + (([65533] : List Int)).length ≤ 1000000000 then ((tidewracklaw05_GlyphBack_l2 K p0 k524) (x430 ++ t533) (l433 ++ ([65533] : List Int)) (IntKind.wrap .i64 (x436 + 1))) else none) else (bif (decide ((IntKind.wrap .i64 (rdD 0 (List.drop 0 (List.take (Int.toNat (if 40 < ((p0).length : Int) then 40 else ((p0).length : Int))) p0)) x436)) ≥ (55296 : Int))) then (bif (decide ((IntKind.wrap .i64 (rdD 0 (List.drop 0 (List.take (Int.toNat (if 40 < ((p0).length : Int) then 40 else ((p0).length : Int))) p0)) x436)) ≤ (57343 : Int))) then (if (l433).length + (([65533] : List Int)).length ≤ 1000000000 then ((tidewracklaw05_GlyphBack_l2 K p0 k524) (x430 ++ t533) (l433 ++ ([65533] : List Int)) (IntKind.wrap .i64 (x436 + 1))) else none) else (if (l433).length + (([(IntKind.wrap .i64 (rdD 0 (List.drop 0 (List.take (Int.toNat (if 40 < ((p0).length : Int) then 40 else ((p0).length : Int))) p0)) x436))] : List Int)).length ≤ 1000000000 then ((tidewracklaw05_GlyphBack_l2 K p0 k524) (x430 ++ t533) (l433 ++ ([(IntKind.wrap .i64 (rdD 0 (List.drop 0 (List.take (Int.toNat (if 40 < ((p0).length : Int) then 40 else ((p0).length : Int))) p0)) x436))] : List Int)) (IntKind.wrap .i64 (x436 + 1))) else none)) else (if (l433).length + (([(IntKind.wrap .i64 (rdD 0 (List.drop 0 (List.take (Int.toNat (if 40 < ((p0).length : Int) then 40 else ((p0).length : Int))) p0)) x436))] : List Int)).length ≤ 1000000000 then ((tidewracklaw05_GlyphBack_l2 K p0 k524) (x430 ++ t533) (l433 ++ ([(IntKind.wrap .i64 (rdD 0 (List.drop 0 (List.take (Int.toNat (if 40 < ((p0).length : Int) then 40 else ((p0).length : Int))) p0)) x436))] : List Int)) (IntKind.wrap .i64 (x436 + 1))) else none)))) else none)) else none) else (tidewracklaw05_GlyphBack_j1 K p0 x430 l433)
def tidewracklaw05_GlyphBack (K : Nat) (p0 : List Int) : Option Bool :=
  (tidewracklaw05_awake K).bind fun t4 => (bif (!t4) then (some false) else (if 0 ≤ (if 40 < ((p0).length : Int) then 40 else ((p0).length : Int)) then (if (if 40 < ((p0).length : Int) then 40 else ((p0).length : Int)) ≤ ((p0).length : Int) then (tidewracklaw05_GlyphBack_l2 K p0 K (⟨#[]⟩ : ByteArray) ([] : List Int) 0) else none) else none))

/-! tidewrack/tidewracklaw05.GlyphHeals -/
def tidewracklaw05_GlyphHeals_j1 (t36 : List Int) (x56 : Int) : Option Bool :=
  bif (decide (((t36).length : Int) > (0 : Int))) then (if 0 ≤ (IntKind.wrap .i64 (((t36).length : Int) - 1)) ∧ (IntKind.wrap .i64 (((t36).length : Int) - 1)) < ((t36).length : Int) then (some ((IntKind.wrap .i64 (rdD 0 t36 (IntKind.wrap .i64 (((t36).length : Int) - 1)))) == x56)) else none) else (some false)
def tidewracklaw05_GlyphHeals (K : Nat) (p0 : ByteArray) (p1 : Int) : Option Bool :=
  (tidewracklaw05_awake K).bind fun t4 => (bif (!t4) then (some false) else ((tidewracklaw01_Cut p0 60).bind fun t13 => ((glyph_Encode K ([p1] : List Int)).bind fun t27 => (if ((t13.size + t27.size : Nat) : Int) ≤ 9223372036854775807 then ((glyph_Decode K (t13 ++ t27)).bind fun t36 => (bif (decide (p1 < (0 : Int))) then (tidewracklaw05_GlyphHeals_j1 t36 65533) else (bif (decide (p1 > (1114111 : Int))) then (tidewracklaw05_GlyphHeals_j1 t36 65533) else (bif (decide (p1 ≥ (55296 : Int))) then (bif (decide (p1 ≤ (57343 : Int))) then (tidewracklaw05_GlyphHeals_j1 t36 65533) else (tidewracklaw05_GlyphHeals_j1 t36 (IntKind.wrap .i64 p1))) else (tidewracklaw05_GlyphHeals_j1 t36 (IntKind.wrap .i64 p1)))))) else none))))

/-! tidewrack/tidewracklaw05.GlyphValid -/
def tidewracklaw05_GlyphValid_j1 (t13 : ByteArray) (t21 : List Int) : Option Bool :=
  bif (decide (((t21).length : Int) ≤ ((t13).size : Int))) then (bif (ByteArray.toList t13 == ByteArray.toList (⟨#[]⟩ : ByteArray)) then (some true) else (some (decide (((t21).length : Int) > (0 : Int))))) else (some false)
def tidewracklaw05_GlyphValid_l2 (t13 : ByteArray) (t21 : List Int) : Nat → Int → Option Bool
  | 0, _ => none
  | k89 + 1, x80 => bif (decide (x80 < ((t21).length : Int))) then (if 0 ≤ x80 ∧ x80 < ((t21).length : Int) then (bif (decide ((rdD 0 t21 x80) < (0 : Int))) then (some false) else (bif (decide ((rdD 0 t21 x80) > (1114111 : Int))) then (some false) else (bif (decide ((rdD 0 t21 x80) ≥ (55296 : Int))) then (bif (decide ((rdD 0 t21 x80) ≤ (57343 : Int))) then (some false) else ((tidewracklaw05_GlyphValid_l2 t13 t21 k89) (IntKind.wrap .i64 (x80 + 1)))) else ((tidewracklaw05_GlyphValid_l2 t13 t21 k89) (IntKind.wrap .i64 (x80 + 1)))))) else none) else (tidewracklaw05_GlyphValid_j1 t13 t21)
def tidewracklaw05_GlyphValid (K : Nat) (p0 : ByteArray) : Option Bool :=
  (tidewracklaw05_awake K).bind fun t4 => (bif (!t4) then (some false) else ((tidewracklaw01_Cut p0 80).bind fun t13 => ((glyph_Decode K t13).bind fun t21 => (tidewracklaw05_GlyphValid_l2 t13 t21 K 0))))

end Go.Proofs.YtaojnfjidbppjaaDoor
