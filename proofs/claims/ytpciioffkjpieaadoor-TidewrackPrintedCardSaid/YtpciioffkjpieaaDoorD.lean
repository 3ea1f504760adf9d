/- Plain functions, printed by an own program: what the walked code computes. -/
import Derived.Test.YtpciioffkjpieaaDoorZ4
set_option linter.unusedVariables false
set_option linter.unusedSimpArgs false
namespace Go.Proofs.YtpciioffkjpieaaDoor
open Go Go.Proofs.XC
structure T192 where
  first : Int
  last : Int
  need : Int
  low : Int
  high : Int
abbrev zT192 : T192 := ⟨0, 0, 0, 0, 0⟩
structure T44 where
  Lead : Int
  Rune : Int
  Need : Int
abbrev zT44 : T44 := ⟨0, 0, 0⟩
structure T50 where
  Kind : Int
  Rune : Int
  Byte : Int
  Private : Bool
  Nums : List Int
  Text : ByteArray
abbrev zT50 : T50 := ⟨0, 0, 0, false, [], (⟨#[]⟩ : ByteArray)⟩
structure T47 where
  state : Int
  order_private_ : Bool
  order_wrong : Bool
  order_any : Bool
  order_some : Bool
  order_n : Int
  order_nums : List Int
  text : ByteArray
  runes_Lead : Int
  runes_Rune : Int
  runes_Need : Int
  out : List T50
structure T42 where
  private_ : Bool
  wrong : Bool
  any : Bool
  some : Bool
  n : Int
  nums : List Int
namespace WF
def wfBool (_ : Bool) : Prop := True
def wfStr (x : ByteArray) : Prop := x.size ≤ maxLen
def wfi64 (x : Int) : Prop := (Lit.int .i64 x).wf = true
def wfi32 (x : Int) : Prop := (Lit.int .i32 x).wf = true
def wfu8 (x : Int) : Prop := (Lit.int .u8 x).wf = true
def wfu32 (x : Int) : Prop := (Lit.int .u32 x).wf = true
def wfu64 (x : Int) : Prop := (Lit.int .u64 x).wf = true
def wfi8 (x : Int) : Prop := (Lit.int .i8 x).wf = true
def wfi16 (x : Int) : Prop := (Lit.int .i16 x).wf = true
def wfu16 (x : Int) : Prop := (Lit.int .u16 x).wf = true
def wfT192 (x : T192) : Prop := (Lit.int .u8 x.first).wf = true ∧ (Lit.int .u8 x.last).wf = true ∧ (Lit.int .i64 x.need).wf = true ∧ (Lit.int .u8 x.low).wf = true ∧ (Lit.int .u8 x.high).wf = true
def wfT44 (x : T44) : Prop := (Lit.int .u8 x.Lead).wf = true ∧ (Lit.int .i32 x.Rune).wf = true ∧ (Lit.int .i64 x.Need).wf = true
def wfT50 (x : T50) : Prop := (Lit.int .i64 x.Kind).wf = true ∧ (Lit.int .i32 x.Rune).wf = true ∧ (Lit.int .u8 x.Byte).wf = true ∧ (∀ y ∈ x.Nums, wfi64 y) ∧ x.Nums.length ≤ maxLen ∧ x.Text.size ≤ maxLen
def wfT42 (x : T42) : Prop := (Lit.int .i64 x.n).wf = true ∧ (∀ y ∈ x.nums, wfi64 y) ∧ x.nums.length ≤ maxLen
end WF
def glob3 : List T192 := [⟨194, 223, 1, 128, 191⟩, ⟨224, 224, 2, 160, 191⟩, ⟨225, 236, 2, 128, 191⟩, ⟨237, 237, 2, 128, 159⟩, ⟨238, 239, 2, 128, 191⟩, ⟨240, 240, 3, 144, 191⟩, ⟨241, 243, 3, 128, 191⟩, ⟨244, 244, 3, 128, 143⟩]
/-! tidewrack/glyph.find -/
def glyph_find_j1 : Option (T192 × Bool) :=
  some ((⟨0, 0, 0, 0, 0⟩ : T192), false)
def glyph_find_j3 (x127 : Int) (lp155 : Int → Option (T192 × Bool)) (x175 : Bool) : Option (T192 × Bool) :=
  bif x175 then (some ((rdD zT192 glob3 x127), true)) else (lp155 (IntKind.wrap .i64 (x127 + 1)))
def glyph_find_l2 (p0 : Int) : Nat → Int → Option (T192 × Bool)
  | 0, _ => none
  | k154 + 1, x127 => bif (decide (x127 < (8 : Int))) then (if 0 ≤ x127 ∧ x127 < ((glob3).length : Int) then (bif (decide (p0 ≥ ((rdD zT192 glob3 x127).first))) then (glyph_find_j3 x127 (glyph_find_l2 p0 k154) (decide (p0 ≤ ((rdD zT192 glob3 x127).last)))) else (glyph_find_j3 x127 (glyph_find_l2 p0 k154) false)) else none) else (glyph_find_j1)
def glyph_find (K : Nat) (p0 : Int) : Option (T192 × Bool) :=
  glyph_find_l2 p0 K 0

/-! tidewrack/glyph.begin -/
def glyph_begin (K : Nat) (p0 : Int) : Option (T44 × (List Int)) :=
  bif (decide (p0 < (128 : Int))) then (some ((⟨0, 0, 0⟩ : T44), ([(IntKind.wrap .i32 p0)] : List Int))) else ((glyph_find K p0).bind fun t10 => (bif (!t10.2) then (some ((⟨0, 0, 0⟩ : T44), ([65533] : List Int))) else (if 0 ≤ t10.1.need then (some ((⟨p0, (bits .and .i32 (IntKind.wrap .i32 p0) (Int.fdiv 63 (2 ^ min (Int.toNat t10.1.need) 32))), t10.1.need⟩ : T44), ([] : List Int))) else none)))

/-! (tidewrack/glyph.Decoder).fits -/
def glyph_Decoder_fits (K : Nat) (p0 : T44) (p1 : Int) : Option Bool :=
  (glyph_find K p0.Lead).bind fun t9 => (bif (decide (p0.Need < t9.1.need)) then (bif (decide (p1 ≥ (128 : Int))) then (some (decide (p1 ≤ (191 : Int)))) else (some false)) else (bif (decide (p1 ≥ t9.1.low)) then (some (decide (p1 ≤ t9.1.high))) else (some false)))

/-! (tidewrack/glyph.Decoder).Next -/
def glyph_Decoder_Next_j1 (p0 : T44) (p1 : Int) : Option (T44 × (List Int)) :=
  some ((⟨0, 0, 0⟩ : T44), ([(bits .or .i32 (IntKind.wrap .i32 (p0.Rune * 2 ^ min (Int.toNat 6) 32)) (bits .and .i32 (IntKind.wrap .i32 p1) 63))] : List Int))
def glyph_Decoder_Next (K : Nat) (p0 : T44) (p1 : Int) : Option (T44 × (List Int)) :=
  bif (decide (p0.Need ≤ (0 : Int))) then ((glyph_begin K p1).bind fun t287 => (some (t287.1, t287.2))) else ((glyph_Decoder_fits K p0 p1).bind fun t15 => (bif (!t15) then ((glyph_begin K p1).bind fun t214 => (if (([65533] : List Int)).length + (t214.2).length ≤ 1000000000 then (some (t214.1, (([65533] : List Int) ++ t214.2))) else none)) else (bif ((IntKind.wrap .i64 (p0.Need - 1)) == (0 : Int)) then (glyph_Decoder_Next_j1 p0 p1) else (some ((⟨p0.Lead, (bits .or .i32 (IntKind.wrap .i32 (p0.Rune * 2 ^ min (Int.toNat 6) 32)) (bits .and .i32 (IntKind.wrap .i32 p1) 63)), (IntKind.wrap .i64 (p0.Need - 1))⟩ : T44), ([] : List Int))))))

/-! (tidewrack/glyph.Decoder).Run -/
def glyph_Decoder_Run_j1 (x215 : T44) (l218 : List Int) : Option (T44 × (List Int)) :=
  some (x215, l218)
def glyph_Decoder_Run_l2 (K : Nat) (p1 : ByteArray) : Nat → T44 → (List Int) → Int → Option (T44 × (List Int))
  | 0, _, _, _ => none
  | k355 + 1, x288, l291, x294 => bif (decide (x294 < ((p1).size : Int))) then (if 0 ≤ x294 ∧ x294 < ((p1).size : Int) then ((glyph_Decoder_Next K x288 (bt p1 x294)).bind fun t397 => (if (l291).length + (t397.2).length ≤ 1000000000 then ((glyph_Decoder_Run_l2 K p1 k355) t397.1 (l291 ++ t397.2) (IntKind.wrap .i64 (x294 + 1))) else none)) else none) else (glyph_Decoder_Run_j1 x288 l291)
def glyph_Decoder_Run (K : Nat) (p0 : T44) (p1 : ByteArray) : Option (T44 × (List Int)) :=
  glyph_Decoder_Run_l2 K p1 K p0 ([] : List Int) 0

/-! (tidewrack/glyph.Decoder).End -/
def glyph_Decoder_End (p0 : T44) : Option (List Int) :=
  bif (decide (p0.Need ≤ (0 : Int))) then (some ([] : List Int)) else (some ([65533] : List Int))

/-! tidewrack/glyph.Decode -/
def glyph_Decode (K : Nat) (p0 : ByteArray) : Option (List Int) :=
  (glyph_Decoder_Run K (⟨0, 0, 0⟩ : T44) p0).bind fun t4 => ((glyph_Decoder_End t4.1).bind fun t24 => (if (t4.2).length + (t24).length ≤ 1000000000 then (some (t4.2 ++ t24)) else none))

/-! tidewrack/glyph.Encode -/
def glyph_Encode_j1 (l265 : List Int) : Option ByteArray :=
  some (strOfNums l265)
def glyph_Encode_j3 (l354 : List Int) (x357 : Int) (lp439 : (List Int) → Int → Option ByteArray) (x455 : Int) : Option ByteArray :=
  bif (decide (x455 < (128 : Int))) then (if (l354).length + (([(IntKind.wrap .u8 x455)] : List Int)).length ≤ 1000000000 then (lp439 (l354 ++ ([(IntKind.wrap .u8 x455)] : List Int)) (IntKind.wrap .i64 (x357 + 1))) else none) else (bif (decide (x455 < (2048 : Int))) then (if (l354).length + (([(IntKind.wrap .u8 (bits .or .i32 192 (Int.fdiv x455 (2 ^ min (Int.toNat 6) 32)))), (IntKind.wrap .u8 (bits .or .i32 128 (bits .and .i32 x455 63)))] : List Int)).length ≤ 1000000000 then (lp439 (l354 ++ ([(IntKind.wrap .u8 (bits .or .i32 192 (Int.fdiv x455 (2 ^ min (Int.toNat 6) 32)))), (IntKind.wrap .u8 (bits .or .i32 128 (bits .and .i32 x455 63)))] : List Int)) (IntKind.wrap .i64 (x357 + 1))) else none) else (bif (decide (x455 < (65536 : Int))) then (if (l354).length + (([(IntKind.wrap .u8 (bits .or .i32 224 (Int.fdiv x455 (2 ^ min (Int.toNat 12) 32)))), (IntKind.wrap .u8 (bits .or .i32 128 (bits .and .i32 (Int.fdiv x455 (2 ^ min (Int.toNat 6) 32)) 63))), (IntKind.wrap .u8 (bits .or .i32 128 (bits .and .i32 x455 63)))] : List Int)).length ≤ 1000000000 then (lp439 (l354 ++ ([(IntKind.wrap .u8 (bits .or .i32 224 (Int.fdiv x455 (2 ^ min (Int.toNat 12) 32)))), (IntKind.wrap .u8 (bits .or .i32 128 (bits .and .i32 (Int.fdiv x455 (2 ^ min (Int.toNat 6) 32)) 63))), (IntKind.wrap .u8 (bits .or .i32 128 (bits .and .i32 x455 63)))] : List Int)) (IntKind.wrap .i64 (x357 + 1))) else none) else (if (l354).length + (([(IntKind.wrap .u8 (bits .or .i32 240 (Int.fdiv x455 (2 ^ min (Int.toNat 18) 32)))), (IntKind.wrap .u8 (bits .or .i32 128 (bits .and .i32 (Int.fdiv x455 (2 ^ min (Int.toNat 12) 32)) 63))), (IntKind.wrap .u8 (bits .or .i32 128 (bits .and .i32 (Int.fdiv x455 (2 ^ min (Int.toNat 6) 32)) 63))), (IntKind.wrap .u8 (bits .or .i32 128 (bits .and .i32 x455 63)))] : List Int)).length ≤ 1000000000 then (lp439 (l354 ++ ([(IntKind.wrap .u8 (bits .or .i32 240 (Int.fdiv x455 (2 ^ min (Int.toNat 18) 32)))), (IntKind.wrap .u8 (bits .or .i32 128 (bits .and .i32 (Int.fdiv x455 (2 ^ min (Int.toNat 12) 32)) 63))), (IntKind.wrap .u8 (bits .or .i32 128 (bits .and .i32 (Int.fdiv x455 (2 ^ min (Int.toNat 6) 32)) 63))), (IntKind.wrap .u8 (bits .or .i32 128 (bits .and .i32 x455 63)))] : List Int)) (IntKind.wrap .i64 (x357 + 1))) else none)))
def glyph_Encode_l2 (p0 : List Int) : Nat → (List Int) → Int → Option ByteArray
  | 0, _, _ => none
  | k438 + 1, l354, x357 => bif (decide (x357 < ((p0).length : Int))) then (if 0 ≤ x357 ∧ x357 < ((p0).length : Int) then (bif (decide ((rdD 0 p0 x357) < (0 : Int))) then (glyph_Encode_j3 l354 x357 (glyph_Encode_l2 p0 k438) 65533) else (bif (decide ((rdD 0 p0 x357) > (1114111 : Int))) then (glyph_Encode_j3 l354 x357 (glyph_Encode_l2 p0 k438) 65533) else (bif (decide ((rdD 0 p0 x357) ≥ (55296 : Int))) then (bif (decide ((rdD 0 p0 x357) ≤ (57343 : Int))) then (glyph_Encode_j3 l354 x357 (glyph_Encode_l2 p0 k438) 65533) else (glyph_Encode_j3 l354 x357 (glyph_Encode_l2 p0 k438) (rdD 0 p0 x357))) else (glyph_Encode_j3 l354 x357 (glyph_Encode_l2 p0 k438) (rdD 0 p0 x357))))) else none) else (glyph_Encode_j1 l354)
def glyph_Encode (K : Nat) (p0 : List Int) : Option ByteArray :=
  glyph_Encode_l2 p0 K ([] : List Int) 0

/-! (*tidewrack/seq.Parser).tell -/
def seq_Parser_tell_j1 (p0 : T47) (p1 : T50) : Option T47 :=
  some (⟨p0.state, p0.order_private_, p0.order_wrong, p0.order_any, p0.order_some, p0.order_n, p0.order_nums, p0.text, p0.runes_Lead, p0.runes_Rune, p0.runes_Need, (p0.out ++ ([p1] : List T50))⟩ : T47)
def seq_Parser_tell (p0 : T47) (p1 : T50) : Option T47 :=
  if (p0.out).length + (([p1] : List T50)).length ≤ 1000000000 then (seq_Parser_tell_j1 p0 p1) else none

/-! (*tidewrack/seq.Parser).print -/
def seq_Parser_print_l1 (p1 : List Int) : Nat → Int → Bool → Bool → Bool → Bool → Int → (List Int) → ByteArray → Int → Int → Int → (List T50) → Int → Option T47
  | 0, _, _, _, _, _, _, _, _, _, _, _, _, _ => none
  | k67 + 1, x25, x26, x27, x28, x29, x30, l33, x36, x37, x38, x39, l42, x45 => bif (decide (x45 < ((p1).length : Int))) then (if 0 ≤ x45 ∧ x45 < ((p1).length : Int) then ((seq_Parser_tell (⟨x25, x26, x27, x28, x29, x30, l33, x36, x37, x38, x39, l42⟩ : T47) (⟨1, (rdD 0 p1 x45), 0, false, ([] : List Int), (⟨#[]⟩ : ByteArray)⟩ : T50)).bind fun t76 => ((seq_Parser_print_l1 p1 k67) t76.state t76.order_private_ t76.order_wrong t76.order_any t76.order_some t76.order_n t76.order_nums t76.text t76.runes_Lead t76.runes_Rune t76.runes_Need t76.out (IntKind.wrap .i64 (x45 + 1)))) else none) else (some (⟨x25, x26, x27, x28, x29, x30, l33, x36, x37, x38, x39, l42⟩ : T47))
def seq_Parser_print (K : Nat) (p0 : T47) (p1 : List Int) : Option T47 :=
  seq_Parser_print_l1 p1 K p0.state p0.order_private_ p0.order_wrong p0.order_any p0.order_some p0.order_n p0.order_nums p0.text p0.runes_Lead p0.runes_Rune p0.runes_Need p0.out 0

/-! (*tidewrack/seq.Parser).common -/
def seq_Parser_common_j1 (p0 : T47) (p1 : Int) (x9 : Bool) : Option (Bool × T47) :=
  bif x9 then (some (true, (⟨0, p0.order_private_, p0.order_wrong, p0.order_any, p0.order_some, p0.order_n, p0.order_nums, p0.text, p0.runes_Lead, p0.runes_Rune, p0.runes_Need, p0.out⟩ : T47))) else (bif (p1 == (27 : Int)) then (some (true, (⟨1, p0.order_private_, p0.order_wrong, p0.order_any, p0.order_some, p0.order_n, p0.order_nums, p0.text, p0.runes_Lead, p0.runes_Rune, p0.runes_Need, p0.out⟩ : T47))) else (bif (decide (p1 < (32 : Int))) then ((seq_Parser_tell p0 (⟨2, 0, p1, false, ([] : List Int), (⟨#[]⟩ : ByteArray)⟩ : T50)).bind fun t17 => (some (true, t17))) else (some ((p1 == (127 : Int)), p0))))
def seq_Parser_common (p0 : T47) (p1 : Int) : Option (Bool × T47) :=
  bif (p1 == (24 : Int)) then (seq_Parser_common_j1 p0 p1 true) else (seq_Parser_common_j1 p0 p1 (p1 == (26 : Int)))

/-! (*tidewrack/seq.Parser).onGround -/
def seq_Parser_onGround_j1 (K : Nat) (p0 : T47) (p1 : Int) : Option T47 :=
  (glyph_Decoder_Next K (⟨p0.runes_Lead, p0.runes_Rune, p0.runes_Need⟩ : T44) p1).bind fun t70 => ((seq_Parser_print K (⟨p0.state, p0.order_private_, p0.order_wrong, p0.order_any, p0.order_some, p0.order_n, p0.order_nums, p0.text, t70.1.Lead, t70.1.Rune, t70.1.Need, p0.out⟩ : T47) t70.2).bind fun t85 => (some t85))
def seq_Parser_onGround_j2 (K : Nat) (p0 : T47) (p1 : Int) (x107 : Bool) : Option T47 :=
  bif x107 then ((glyph_Decoder_End (⟨p0.runes_Lead, p0.runes_Rune, p0.runes_Need⟩ : T44)).bind fun t113 => ((seq_Parser_print K p0 t113).bind fun t125 => ((seq_Parser_common (⟨t125.state, t125.order_private_, t125.order_wrong, t125.order_any, t125.order_some, t125.order_n, t125.order_nums, t125.text, 0, 0, 0, t125.out⟩ : T47) p1).bind fun t145 => (some t145.2)))) else (seq_Parser_onGround_j1 K p0 p1)
def seq_Parser_onGround (K : Nat) (p0 : T47) (p1 : Int) : Option T47 :=
  bif (decide (p1 < (32 : Int))) then (seq_Parser_onGround_j2 K p0 p1 true) else (seq_Parser_onGround_j2 K p0 p1 (p1 == (127 : Int)))

/-! (*tidewrack/seq.Parser).onEscape -/
def seq_Parser_onEscape (p0 : T47) (p1 : Int) : Option T47 :=
  (seq_Parser_common p0 p1).bind fun t4 => (bif t4.1 then (some t4.2) else (bif (p1 == (91 : Int)) then (some (⟨3, false, false, false, false, 0, ([] : List Int), t4.2.text, t4.2.runes_Lead, t4.2.runes_Rune, t4.2.runes_Need, t4.2.out⟩ : T47)) else (bif (p1 == (93 : Int)) then (some (⟨4, t4.2.order_private_, t4.2.order_wrong, t4.2.order_any, t4.2.order_some, t4.2.order_n, t4.2.order_nums, (⟨#[]⟩ : ByteArray), t4.2.runes_Lead, t4.2.runes_Rune, t4.2.runes_Need, t4.2.out⟩ : T47)) else (bif (decide (p1 < (48 : Int))) then (some (⟨2, t4.2.order_private_, t4.2.order_wrong, t4.2.order_any, t4.2.order_some, t4.2.order_n, t4.2.order_nums, t4.2.text, t4.2.runes_Lead, t4.2.runes_Rune, t4.2.runes_Need, t4.2.out⟩ : T47)) else (bif (decide (p1 < (127 : Int))) then ((seq_Parser_tell t4.2 (⟨3, 0, p1, false, ([] : List Int), (⟨#[]⟩ : ByteArray)⟩ : T50)).bind fun t29 => (some (⟨0, t29.order_private_, t29.order_wrong, t29.order_any, t29.order_some, t29.order_n, t29.order_nums, t29.text, t29.runes_Lead, t29.runes_Rune, t29.runes_Need, t29.out⟩ : T47))) else (some (⟨0, t4.2.order_private_, t4.2.order_wrong, t4.2.order_any, t4.2.order_some, t4.2.order_n, t4.2.order_nums, t4.2.text, t4.2.runes_Lead, t4.2.runes_Rune, t4.2.runes_Need, t4.2.out⟩ : T47)))))))

/-! (*tidewrack/seq.Parser).onSkip -/
def seq_Parser_onSkip_j1 (x46 : Int) (x47 : Bool) (x48 : Bool) (x49 : Bool) (x50 : Bool) (x51 : Int) (l54 : List Int) (x57 : ByteArray) (x58 : Int) (x59 : Int) (x60 : Int) (l63 : List T50) (x66 : Bool) : Option T47 :=
  bif x66 then (some (⟨0, x47, x48, x49, x50, x51, l54, x57, x58, x59, x60, l63⟩ : T47)) else (some (⟨x46, x47, x48, x49, x50, x51, l54, x57, x58, x59, x60, l63⟩ : T47))
def seq_Parser_onSkip (p0 : T47) (p1 : Int) : Option T47 :=
  (seq_Parser_common p0 p1).bind fun t75 => (bif (!t75.1) then (seq_Parser_onSkip_j1 t75.2.state t75.2.order_private_ t75.2.order_wrong t75.2.order_any t75.2.order_some t75.2.order_n t75.2.order_nums t75.2.text t75.2.runes_Lead t75.2.runes_Rune t75.2.runes_Need t75.2.out (decide (p1 ≥ (48 : Int)))) else (seq_Parser_onSkip_j1 t75.2.state t75.2.order_private_ t75.2.order_wrong t75.2.order_any t75.2.order_some t75.2.order_n t75.2.order_nums t75.2.text t75.2.runes_Lead t75.2.runes_Rune t75.2.runes_Need t75.2.out false))

/-! (*tidewrack/seq.order).push -/
def seq_order_push_j1 (p0 : T42) : Option T42 :=
  some (⟨p0.private_, p0.wrong, p0.any, p0.some, 0, (p0.nums ++ ([p0.n] : List Int))⟩ : T42)
def seq_order_push (p0 : T42) : Option T42 :=
  bif (decide (((p0.nums).length : Int) < (16 : Int))) then (if (p0.nums).length + (([p0.n] : List Int)).length ≤ 1000000000 then (seq_order_push_j1 p0) else none) else (some (⟨p0.private_, p0.wrong, p0.any, p0.some, 0, p0.nums⟩ : T42))

/-! (*tidewrack/seq.order).push -/
def seq_order_push_of48_1_j1 (p0 : T47) : Option T42 :=
  some (⟨p0.order_private_, p0.order_wrong, p0.order_any, p0.order_some, 0, (p0.order_nums ++ ([p0.order_n] : List Int))⟩ : T42)
def seq_order_push_of48_1 (p0 : T47) : Option T42 :=
  bif (decide (((p0.order_nums).length : Int) < (16 : Int))) then (if (p0.order_nums).length + (([p0.order_n] : List Int)).length ≤ 1000000000 then (seq_order_push_of48_1_j1 p0) else none) else (some (⟨p0.order_private_, p0.order_wrong, p0.order_any, p0.order_some, 0, p0.order_nums⟩ : T42))

/-! (*tidewrack/seq.Parser).finish -/
def seq_Parser_finish_j2 (x211 : Int) (x212 : Bool) (x213 : Bool) (x214 : Bool) (x215 : Bool) (x216 : Int) (l219 : List Int) (x222 : ByteArray) (x223 : Int) (x224 : Int) (x225 : Int) (l228 : List T50) : Option T47 :=
  some (⟨x211, x212, x213, x214, x215, x216, l219, x222, x223, x224, x225, l228⟩ : T47)
def seq_Parser_finish_j1 (p0 : T47) (p1 : Int) (x35 : Bool) (x36 : Bool) (x37 : Bool) (x38 : Bool) (x39 : Int) (l42 : List Int) : Option T47 :=
  (seq_Parser_tell (⟨0, x35, x36, x37, x38, x39, l42, p0.text, p0.runes_Lead, p0.runes_Rune, p0.runes_Need, p0.out⟩ : T47) (⟨4, 0, p1, x35, l42, (⟨#[]⟩ : ByteArray)⟩ : T50)).bind fun t256 => (seq_Parser_finish_j2 t256.state t256.order_private_ t256.order_wrong t256.order_any t256.order_some t256.order_n t256.order_nums t256.text t256.runes_Lead t256.runes_Rune t256.runes_Need t256.out)
def seq_Parser_finish (p0 : T47) (p1 : Int) : Option T47 :=
  bif p0.order_wrong then (some (⟨0, p0.order_private_, true, p0.order_any, p0.order_some, p0.order_n, p0.order_nums, p0.text, p0.runes_Lead, p0.runes_Rune, p0.runes_Need, p0.out⟩ : T47)) else (bif p0.order_some then ((seq_order_push_of48_1 (⟨0, p0.order_private_, false, p0.order_any, true, p0.order_n, p0.order_nums, p0.text, p0.runes_Lead, p0.runes_Rune, p0.runes_Need, p0.out⟩ : T47)).bind fun t356 => (seq_Parser_finish_j1 p0 p1 t356.private_ t356.wrong t356.any t356.some t356.n t356.nums)) else (seq_Parser_finish_j1 p0 p1 p0.order_private_ false p0.order_any false p0.order_n p0.order_nums))

/-! (*tidewrack/seq.Parser).tell -/
def seq_Parser_tell_ofown_j1 (p0 : T47) (p1 : T50) : Option T47 :=
  some (⟨p0.state, p0.order_private_, p0.order_wrong, p0.order_any, p0.order_some, p0.order_n, p0.order_nums, p0.text, p0.runes_Lead, p0.runes_Rune, p0.runes_Need, (p0.out ++ ([p1] : List T50))⟩ : T47)
def seq_Parser_tell_ofown (p0 : T47) (p1 : T50) : Option T47 :=
  if (p0.out).length + (([p1] : List T50)).length ≤ 1000000000 then (seq_Parser_tell_ofown_j1 p0 p1) else none

/-! (*tidewrack/seq.Parser).common -/
def seq_Parser_common_ofown_j1 (p0 : T47) (p1 : Int) (x9 : Bool) : Option (Bool × T47) :=
  bif x9 then (some (true, (⟨0, p0.order_private_, p0.order_wrong, p0.order_any, p0.order_some, p0.order_n, p0.order_nums, p0.text, p0.runes_Lead, p0.runes_Rune, p0.runes_Need, p0.out⟩ : T47))) else (bif (p1 == (27 : Int)) then (some (true, (⟨1, p0.order_private_, p0.order_wrong, p0.order_any, p0.order_some, p0.order_n, p0.order_nums, p0.text, p0.runes_Lead, p0.runes_Rune, p0.runes_Need, p0.out⟩ : T47))) else (bif (decide (p1 < (32 : Int))) then ((seq_Parser_tell_ofown p0 (⟨2, 0, p1, false, ([] : List Int), (⟨#[]⟩ : ByteArray)⟩ : T50)).bind fun t17 => (some (true, t17))) else (some ((p1 == (127 : Int)), p0))))
def seq_Parser_common_ofown (p0 : T47) (p1 : Int) : Option (Bool × T47) :=
  bif (p1 == (24 : Int)) then (seq_Parser_common_ofown_j1 p0 p1 true) else (seq_Parser_common_ofown_j1 p0 p1 (p1 == (26 : Int)))

/-! (*tidewrack/seq.Parser).onCommand -/
def seq_Parser_onCommand_j4 (p1 : Int) (t4 : Bool × T47) (x63 : Bool) : Option T47 :=
  bif x63 then ((seq_Parser_finish (⟨t4.2.state, t4.2.order_private_, t4.2.order_wrong, true, t4.2.order_some, t4.2.order_n, t4.2.order_nums, t4.2.text, t4.2.runes_Lead, t4.2.runes_Rune, t4.2.runes_Need, t4.2.out⟩ : T47) p1).bind fun t72 => (some t72)) else (some (⟨t4.2.state, t4.2.order_private_, true, true, t4.2.order_some, t4.2.order_n, t4.2.order_nums, t4.2.text, t4.2.runes_Lead, t4.2.runes_Rune, t4.2.runes_Need, t4.2.out⟩ : T47))
def seq_Parser_onCommand_j3 (p1 : Int) (t4 : Bool × T47) (x52 : Bool) : Option T47 :=
  bif x52 then (some (⟨t4.2.state, true, t4.2.order_wrong, true, t4.2.order_some, t4.2.order_n, t4.2.order_nums, t4.2.text, t4.2.runes_Lead, t4.2.runes_Rune, t4.2.runes_Need, t4.2.out⟩ : T47)) else (bif (decide (p1 ≥ (64 : Int))) then (seq_Parser_onCommand_j4 p1 t4 (decide (p1 < (127 : Int)))) else (seq_Parser_onCommand_j4 p1 t4 false))
def seq_Parser_onCommand_j2 (p1 : Int) (t4 : Bool × T47) (x41 : Bool) : Option T47 :=
  bif x41 then ((seq_order_push_of48_1 (⟨t4.2.state, t4.2.order_private_, t4.2.order_wrong, true, t4.2.order_some, t4.2.order_n, t4.2.order_nums, t4.2.text, t4.2.runes_Lead, t4.2.runes_Rune, t4.2.runes_Need, t4.2.out⟩ : T47)).bind fun t94 => (some (⟨t4.2.state, t94.private_, t94.wrong, t94.any, true, t94.n, t94.nums, t4.2.text, t4.2.runes_Lead, t4.2.runes_Rune, t4.2.runes_Need, t4.2.out⟩ : T47))) else (bif (p1 == (63 : Int)) then (seq_Parser_onCommand_j3 p1 t4 (!t4.2.order_any)) else (seq_Parser_onCommand_j3 p1 t4 false))
def seq_Parser_onCommand_j1 (p1 : Int) (t4 : Bool × T47) (x30 : Bool) : Option T47 :=
  bif x30 then (some (⟨t4.2.state, t4.2.order_private_, t4.2.order_wrong, true, true, (mnI (IntKind.wrap .i64 ((IntKind.wrap .i64 (10 * t4.2.order_n)) + (IntKind.wrap .i64 (IntKind.wrap .u8 (p1 - 48))))) 9999), t4.2.order_nums, t4.2.text, t4.2.runes_Lead, t4.2.runes_Rune, t4.2.runes_Need, t4.2.out⟩ : T47)) else (bif (p1 == (59 : Int)) then (seq_Parser_onCommand_j2 p1 t4 true) else (seq_Parser_onCommand_j2 p1 t4 (p1 == (58 : Int))))
def seq_Parser_onCommand (p0 : T47) (p1 : Int) : Option T47 :=
  (seq_Parser_common_ofown p0 p1).bind fun t4 => (bif t4.1 then (some t4.2) else (bif (decide (p1 ≥ (48 : Int))) then (seq_Parser_onCommand_j1 p1 t4 (decide (p1 ≤ (57 : Int)))) else (seq_Parser_onCommand_j1 p1 t4 false)))

/-! internal/stringslite.HasPrefix -/
def stringslite_HasPrefix (p0 : ByteArray) (p1 : ByteArray) : Option Bool :=
  bif (decide (((p0).size : Int) ≥ ((p1).size : Int))) then (if 0 ≤ ((p1).size : Int) then (if ((p1).size : Int) ≤ ((p0).size : Int) then (some (ByteArray.toList (ByteArray.extract p0 0 (Int.toNat ((p1).size : Int))) == ByteArray.toList p1)) else none) else none) else (some false)

/-! internal/stringslite.CutPrefix -/
def stringslite_CutPrefix (p0 : ByteArray) (p1 : ByteArray) : Option (ByteArray × Bool) :=
  (stringslite_HasPrefix p0 p1).bind fun t4 => (bif (!t4) then (some (p0, false)) else (if 0 ≤ ((p1).size : Int) then (if ((p1).size : Int) ≤ ((p0).size : Int) then (some ((ByteArray.extract p0 (Int.toNat ((p1).size : Int)) (p0).size), true)) else none) else none))

/-! strings.CutPrefix -/
def strings_CutPrefix (p0 : ByteArray) (p1 : ByteArray) : Option (ByteArray × Bool) :=
  (stringslite_CutPrefix p0 p1).bind fun t4 => (some (t4.1, t4.2))

/-! (*tidewrack/seq.Parser).over -/
def seq_Parser_over_l1 : Nat → Int → Bool → Bool → Bool → Bool → Int → (List Int) → ByteArray → Int → Int → Int → (List T50) → Int → Option T47
  | 0, _, _, _, _, _, _, _, _, _, _, _, _, _ => none
  | k92 + 1, x42, x43, x44, x45, x46, x47, l50, x53, x54, x55, x56, l59, x62 => bif (decide (x62 < ((([(⟨#[48, 59]⟩ : ByteArray), (⟨#[50, 59]⟩ : ByteArray)] : List ByteArray)).length : Int))) then (if 0 ≤ x62 ∧ x62 < ((([(⟨#[48, 59]⟩ : ByteArray), (⟨#[50, 59]⟩ : ByteArray)] : List ByteArray)).length : Int) then ((strings_CutPrefix x53 (rdD (⟨#[]⟩ : ByteArray) ([(⟨#[48, 59]⟩ : ByteArray), (⟨#[50, 59]⟩ : ByteArray)] : List ByteArray) x62)).bind fun t100 => (bif t100.2 then ((seq_Parser_tell (⟨x42, x43, x44, x45, x46, x47, l50, x53, x54, x55, x56, l59⟩ : T47) (⟨5, 0, 0, false, ([] : List Int), t100.1⟩ : T50)).bind fun t109 => ((seq_Parser_over_l1 k92) t109.state t109.order_private_ t109.order_wrong t109.order_any t109.order_some t109.order_n t109.order_nums t109.text t109.runes_Lead t109.runes_Rune t109.runes_Need t109.out (IntKind.wrap .i64 (x62 + 1)))) else ((seq_Parser_over_l1 k92) x42 x43 x44 x45 x46 x47 l50 x53 x54 x55 x56 l59 (IntKind.wrap .i64 (x62 + 1))))) else none) else (some (⟨x42, x43, x44, x45, x46, x47, l50, x53, x54, x55, x56, l59⟩ : T47))
def seq_Parser_over (K : Nat) (p0 : T47) : Option T47 :=
  seq_Parser_over_l1 K 0 p0.order_private_ p0.order_wrong p0.order_any p0.order_some p0.order_n p0.order_nums p0.text p0.runes_Lead p0.runes_Rune p0.runes_Need p0.out 0

/-! (*tidewrack/seq.Parser).onTitle -/
def seq_Parser_onTitle_j2 (p0 : T47) (p1 : Int) : Option T47 :=
  some (⟨p0.state, p0.order_private_, p0.order_wrong, p0.order_any, p0.order_some, p0.order_n, p0.order_nums, (p0.text ++ (strOfNums ([p1] : List Int))), p0.runes_Lead, p0.runes_Rune, p0.runes_Need, p0.out⟩ : T47)
def seq_Parser_onTitle_j1 (p0 : T47) (p1 : Int) (x10 : Bool) : Option T47 :=
  bif x10 then (some (⟨0, p0.order_private_, p0.order_wrong, p0.order_any, p0.order_some, p0.order_n, p0.order_nums, p0.text, p0.runes_Lead, p0.runes_Rune, p0.runes_Need, p0.out⟩ : T47)) else (bif (p1 == (27 : Int)) then (some (⟨5, p0.order_private_, p0.order_wrong, p0.order_any, p0.order_some, p0.order_n, p0.order_nums, p0.text, p0.runes_Lead, p0.runes_Rune, p0.runes_Need, p0.out⟩ : T47)) else (bif (decide (((p0.text).size : Int) < (200 : Int))) then (if ((p0.text.size + (strOfNums ([p1] : List Int)).size : Nat) : Int) ≤ 9223372036854775807 then (seq_Parser_onTitle_j2 p0 p1) else none) else (some p0)))
def seq_Parser_onTitle (K : Nat) (p0 : T47) (p1 : Int) : Option T47 :=
  bif (p1 == (7 : Int)) then ((seq_Parser_over K p0).bind fun t256 => (some t256)) else (bif (p1 == (24 : Int)) then (seq_Parser_onTitle_j1 p0 p1 true) else (seq_Parser_onTitle_j1 p0 p1 (p1 == (26 : Int))))

/-! (*tidewrack/seq.Parser).one -/
def seq_Parser_one (K : Nat) (p0 : T47) (p1 : Int) : Option T47 :=
  bif (p0.state == (0 : Int)) then ((seq_Parser_onGround K p0 p1).bind fun t115 => (some t115)) else (bif (p0.state == (1 : Int)) then ((seq_Parser_onEscape p0 p1).bind fun t98 => (some t98)) else (bif (p0.state == (2 : Int)) then ((seq_Parser_onSkip p0 p1).bind fun t81 => (some t81)) else (bif (p0.state == (3 : Int)) then ((seq_Parser_onCommand p0 p1).bind fun t64 => (some t64)) else (bif (p0.state == (4 : Int)) then ((seq_Parser_onTitle K p0 p1).bind fun t47 => (some t47)) else (bif (p1 == (92 : Int)) then ((seq_Parser_over K p0).bind fun t30 => (some t30)) else ((seq_Parser_onEscape (⟨1, p0.order_private_, p0.order_wrong, p0.order_any, p0.order_some, p0.order_n, p0.order_nums, p0.text, p0.runes_Lead, p0.runes_Rune, p0.runes_Need, p0.out⟩ : T47) p1).bind fun t13 => (some t13)))))))

/-! (*tidewrack/seq.Parser).Feed -/
def seq_Parser_Feed_j1 (x113 : Int) (x114 : Bool) (x115 : Bool) (x116 : Bool) (x117 : Bool) (x118 : Int) (l121 : List Int) (x124 : ByteArray) (x125 : Int) (x126 : Int) (x127 : Int) (l130 : List T50) : Option ((List T50) × T47) :=
  some (l130, (⟨x113, x114, x115, x116, x117, x118, l121, x124, x125, x126, x127, ([] : List T50)⟩ : T47))
def seq_Parser_Feed_l2 (K : Nat) (p1 : ByteArray) : Nat → Int → Bool → Bool → Bool → Bool → Int → (List Int) → ByteArray → Int → Int → Int → (List T50) → Int → Option ((List T50) × T47)
  | 0, _, _, _, _, _, _, _, _, _, _, _, _, _ => none
  | k201 + 1, x160, x161, x162, x163, x164, x165, l168, x171, x172, x173, x174, l177, x180 => bif (decide (x180 < ((p1).size : Int))) then (if 0 ≤ x180 ∧ x180 < ((p1).size : Int) then ((seq_Parser_one K (⟨x160, x161, x162, x163, x164, x165, l168, x171, x172, x173, x174, l177⟩ : T47) (bt p1 x180)).bind fun t209 => ((seq_Parser_Feed_l2 K p1 k201) t209.state t209.order_private_ t209.order_wrong t209.order_any t209.order_some t209.order_n t209.order_nums t209.text t209.runes_Lead t209.runes_Rune t209.runes_Need t209.out (IntKind.wrap .i64 (x180 + 1)))) else none) else (seq_Parser_Feed_j1 x160 x161 x162 x163 x164 x165 l168 x171 x172 x173 x174 l177)
def seq_Parser_Feed (K : Nat) (p0 : T47) (p1 : ByteArray) : Option ((List T50) × T47) :=
  seq_Parser_Feed_l2 K p1 K p0.state p0.order_private_ p0.order_wrong p0.order_any p0.order_some p0.order_n p0.order_nums p0.text p0.runes_Lead p0.runes_Rune p0.runes_Need p0.out 0

/-! tidewrack/tidewracktop.TidewrackPrinted -/
def tidewracktop_TidewrackPrinted_j3 : Option Bool :=
  some true
def tidewracktop_TidewrackPrinted_l4 (l369 : List Int) (l1685 : List Int) : Nat → Int → Option Bool
  | 0, _ => none
  | k1790 + 1, x1772 => bif (decide (x1772 < ((l369).length : Int))) then (if 0 ≤ x1772 ∧ x1772 < ((l1685).length : Int) then (if 0 ≤ x1772 ∧ x1772 < ((l369).length : Int) then (bif ((rdD 0 l1685 x1772) != (rdD 0 l369 x1772)) then (some false) else ((tidewracktop_TidewrackPrinted_l4 l369 l1685 k1790) (IntKind.wrap .i64 (x1772 + 1)))) else none) else none) else (tidewracktop_TidewrackPrinted_j3)
def tidewracktop_TidewrackPrinted_j2 (K : Nat) (l369 : List Int) (l1685 : List Int) : Option Bool :=
  bif (((l1685).length : Int) != ((l369).length : Int)) then (some false) else (tidewracktop_TidewrackPrinted_l4 l369 l1685 K 0)
def tidewracktop_TidewrackPrinted_j6 (x2490 : Int) (lp2797 : Int → Bool → Bool → Bool → Bool → Int → (List Int) → ByteArray → Int → Int → Int → (List Int) → Int → Option Bool) (x2954 : Int) (x2955 : Bool) (x2956 : Bool) (x2957 : Bool) (x2958 : Bool) (x2959 : Int) (l2962 : List Int) (x2965 : ByteArray) (x2966 : Int) (x2967 : Int) (x2968 : Int) (l2971 : List Int) : Option Bool :=
  lp2797 x2954 x2955 x2956 x2957 x2958 x2959 l2962 x2965 x2966 x2967 x2968 l2971 (IntKind.wrap .i64 (x2490 + 1))
def tidewracktop_TidewrackPrinted_l7 (x2490 : Int) (lp2797 : Int → Bool → Bool → Bool → Bool → Int → (List Int) → ByteArray → Int → Int → Int → (List Int) → Int → Option Bool) (t2979 : (List T50) × T47) : Nat → (List Int) → Int → Option Bool
  | 0, _, _ => none
  | k3069 + 1, l3033, x3036 => bif (decide (x3036 < ((t2979.1).length : Int))) then (if 0 ≤ x3036 ∧ x3036 < ((t2979.1).length : Int) then (bif (((rdD zT50 t2979.1 x3036).Kind) == (1 : Int)) then (if (l3033).length + (([(rdD zT50 t2979.1 x3036).Rune] : List Int)).length ≤ 1000000000 then ((tidewracktop_TidewrackPrinted_l7 x2490 lp2797 t2979 k3069) (l3033 ++ ([(rdD zT50 t2979.1 x3036).Rune] : List Int)) (IntKind.wrap .i64 (x3036 + 1))) else none) else ((tidewracktop_TidewrackPrinted_l7 x2490 lp2797 t2979 k3069) l3033 (IntKind.wrap .i64 (x3036 + 1)))) else none) else (tidewracktop_TidewrackPrinted_j6 x2490 lp2797 t2979.2.state t2979.2.order_private_ t2979.2.order_wrong t2979.2.order_any t2979.2.order_some t2979.2.order_n t2979.2.order_nums t2979.2.text t2979.2.runes_Lead t2979.2.runes_Rune t2979.2.runes_Need l3033)
def tidewracktop_TidewrackPrinted_l5 (K : Nat) (p2 : Int) (x366 : ByteArray) (l369 : List Int) : Nat → Int → Bool → Bool → Bool → Bool → Int → (List Int) → ByteArray → Int → Int → Int → (List Int) → Int → Option Bool
  | 0, _, _, _, _, _, _, _, _, _, _, _, _, _ => none
  | k2796 + 1, x2470, x2471, x2472, x2473, x2474, x2475, l2478, x2481, x2482, x2483, x2484, l2487, x2490 => bif (decide (x2490 < ((([(ByteArray.extract x366 0 (Int.toNat (mxI 0 (mnI p2 ((x366).size : Int))))), (ByteArray.extract x366 (Int.toNat (mxI 0 (mnI p2 ((x366).size : Int)))) (x366).size)] : List ByteArray)).length : Int))) then (if 0 ≤ x2490 ∧ x2490 < ((([(ByteArray.extract x366 0 (Int.toNat (mxI 0 (mnI p2 ((x366).size : Int))))), (ByteArray.extract x366 (Int.toNat (mxI 0 (mnI p2 ((x366).size : Int)))) (x366).size)] : List ByteArray)).length : Int) then ((seq_Parser_Feed K (⟨x2470, x2471, x2472, x2473, x2474, x2475, l2478, x2481, x2482, x2483, x2484, ([] : List T50)⟩ : T47) (rdD (⟨#[]⟩ : ByteArray) ([(ByteArray.extract x366 0 (Int.toNat (mxI 0 (mnI p2 ((x366).size : Int))))), (ByteArray.extract x366 (Int.toNat (mxI 0 (mnI p2 ((x366).size : Int)))) (x366).size)] : List ByteArray) x2490)).bind fun t2979 => (tidewracktop_TidewrackPrinted_l7 x2490 (tidewracktop_TidewrackPrinted_l5 K p2 x366 l369 k2796) t2979 K l2487 0)) else none) else (tidewracktop_TidewrackPrinted_j2 K l369 l2487)
def tidewracktop_TidewrackPrinted_j1 (K : Nat) (p2 : Int) (x366 : ByteArray) (l369 : List Int) : Option Bool :=
  if 0 ≤ (mxI 0 (mnI p2 ((x366).size : Int))) then (if (mxI 0 (mnI p2 ((x366).size : Int))) ≤ ((x366).size : Int) then (tidewracktop_TidewrackPrinted_l5 K p2 x366 l369 K 0 false false false false 0 ([] : List Int) (⟨#[]⟩ : ByteArray) 0 0 0 ([] : List Int) 0) else none) else none
def tidewracktop_TidewrackPrinted_j11 (K : Nat) (p0 : List Int) (l3219 : List Int) (x3222 : Int) (lp3330 : ByteArray → (List Int) → Int → Option Bool) (x3352 : ByteArray) (x3372 : Bool) : Option Bool :=
  bif x3372 then (if 0 ≤ x3222 ∧ x3222 < ((p0).length : Int) then ((glyph_Encode K ([(rdD 0 p0 x3222)] : List Int)).bind fun t3386 => (if ((x3352.size + t3386.size : Nat) : Int) ≤ 9223372036854775807 then ((glyph_Encode K ([(rdD 0 p0 x3222)] : List Int)).bind fun t3401 => ((glyph_Decode K t3401).bind fun t3409 => (if (l3219).length + (t3409).length ≤ 1000000000 then (lp3330 (x3352 ++ t3386) (l3219 ++ t3409) (IntKind.wrap .i64 (x3222 + 1))) else none))) else none)) else none) else (lp3330 x3352 l3219 (IntKind.wrap .i64 (x3222 + 1)))
def tidewracktop_TidewrackPrinted_j10 (K : Nat) (p0 : List Int) (l3219 : List Int) (x3222 : Int) (lp3330 : ByteArray → (List Int) → Int → Option Bool) (x3352 : ByteArray) : Option Bool :=
  if 0 ≤ x3222 ∧ x3222 < ((p0).length : Int) then (bif (decide ((rdD 0 p0 x3222) ≥ (32 : Int))) then (tidewracktop_TidewrackPrinted_j11 K p0 l3219 x3222 lp3330 x3352 ((rdD 0 p0 x3222) != (127 : Int))) else (tidewracktop_TidewrackPrinted_j11 K p0 l3219 x3222 lp3330 x3352 false)) else none
def tidewracktop_TidewrackPrinted_j9 (K : Nat) (p0 : List Int) (p1 : List Int) (x3216 : ByteArray) (l3219 : List Int) (x3222 : Int) (lp3330 : ByteArray → (List Int) → Int → Option Bool) : Option Bool :=
  bif (decide (x3222 < ((p1).length : Int))) then (if 0 ≤ x3222 ∧ x3222 < ((p1).length : Int) then (if ((([(⟨#[]⟩ : ByteArray), (⟨#[27, 91, 51, 49, 109]⟩ : ByteArray), (⟨#[27, 93, 48, 59, 120, 7]⟩ : ByteArray), (⟨#[27, 91, 63, 50, 53, 108]⟩ : ByteArray), (⟨#[27, 40, 66]⟩ : ByteArray), (⟨#[27, 91, 50, 59, 51, 72]⟩ : ByteArray), (⟨#[27, 55]⟩ : ByteArray)] : List ByteArray)).length : Int) ≠ 0 then (if 0 ≤ (Int.tmod (bits .and .i64 (rdD 0 p1 x3222) 65535) ((([(⟨#[]⟩ : ByteArray), (⟨#[27, 91, 51, 49, 109]⟩ : ByteArray), (⟨#[27, 93, 48, 59, 120, 7]⟩ : ByteArray), (⟨#[27, 91, 63, 50, 53, 108]⟩ : ByteArray), (⟨#[27, 40, 66]⟩ : ByteArray), (⟨#[27, 91, 50, 59, 51, 72]⟩ : ByteArray), (⟨#[27, 55]⟩ : ByteArray)] : List ByteArray)).length : Int)) ∧ (Int.tmod (bits .and .i64 (rdD 0 p1 x3222) 65535) ((([(⟨#[]⟩ : ByteArray), (⟨#[27, 91, 51, 49, 109]⟩ : ByteArray), (⟨#[27, 93, 48, 59, 120, 7]⟩ : ByteArray), (⟨#[27, 91, 63, 50, 53, 108]⟩ : ByteArray), (⟨#[27, 40, 66]⟩ : ByteArray), (⟨#[27, 91, 50, 59, 51, 72]⟩ : ByteArray), (⟨#[27, 55]⟩ : ByteArray)] : List ByteArray)).length : Int)) < ((([(⟨#[]⟩ : ByteArray), (⟨#[27, 91, 51, 49, 109]⟩ : ByteArray), (⟨#[27, 93, 48, 59, 120, 7]⟩ : ByteArray), (⟨#[27, 91, 63, 50, 53, 108]⟩ : ByteArray), (⟨#[27, 40, 66]⟩ : ByteArray), (⟨#[27, 91, 50, 59, 51, 72]⟩ : ByteArray), (⟨#[27, 55]⟩ : ByteArray)] : List ByteArray)).length : Int) then (if ((x3216.size + (rdD (⟨#[]⟩ : ByteArray) ([(⟨#[]⟩ : ByteArray), (⟨#[27, 91, 51, 49, 109]⟩ : ByteArray), (⟨#[27, 93, 48, 59, 120, 7]⟩ : ByteArray), (⟨#[27, 91, 63, 50, 53, 108]⟩ : ByteArray), (⟨#[27, 40, 66]⟩ : ByteArray), (⟨#[27, 91, 50, 59, 51, 72]⟩ : ByteArray), (⟨#[27, 55]⟩ : ByteArray)] : List ByteArray) (Int.tmod (bits .and .i64 (rdD 0 p1 x3222) 65535) ((([(⟨#[]⟩ : ByteArray), (⟨#[27, 91, 51, 49, 109]⟩ : ByteArray), (⟨#[27, 93, 48, 59, 120, 7]⟩ : ByteArray), (⟨#[27, 91, 63, 50, 53, 108]⟩ : ByteArray), (⟨#[27, 40, 66]⟩ : ByteArray), (⟨#[27, 91, 50, 59, 51, 72]⟩ : ByteArray), (⟨#[27, 55]⟩ : ByteArray)] : List ByteArray)).length : Int))).size : Nat) : Int) ≤ 9223372036854775807 then (tidewracktop_TidewrackPrinted_j10 K p0 l3219 x3222 lp3330 (x3216 ++ (rdD (⟨#[]⟩ : ByteArray) ([(⟨#[]⟩ : ByteArray), (⟨#[27, 91, 51, 49, 109]⟩ : ByteArray), (⟨#[27, 93, 48, 59, 120, 7]⟩ : ByteArray), (⟨#[27, 91, 63, 50, 53, 108]⟩ : ByteArray), (⟨#[27, 40, 66]⟩ : ByteArray), (⟨#[27, 91, 50, 59, 51, 72]⟩ : ByteArray), (⟨#[27, 55]⟩ : ByteArray)] : List ByteArray) (Int.tmod (bits .and .i64 (rdD 0 p1 x3222) 65535) ((([(⟨#[]⟩ : ByteArray), (⟨#[27, 91, 51, 49, 109]⟩ : ByteArray), (⟨#[27, 93, 48, 59, 120, 7]⟩ : ByteArray), (⟨#[27, 91, 63, 50, 53, 108]⟩ : ByteArray), (⟨#[27, 40, 66]⟩ : ByteArray), (⟨#[27, 91, 50, 59, 51, 72]⟩ : ByteArray), (⟨#[27, 55]⟩ : ByteArray)] : List ByteArray)).length : Int))))) else none) else none) else none) else none) else (tidewracktop_TidewrackPrinted_j10 K p0 l3219 x3222 lp3330 x3216)
def tidewracktop_TidewrackPrinted_l8 (K : Nat) (p0 : List Int) (p1 : List Int) (p2 : Int) : Nat → ByteArray → (List Int) → Int → Option Bool
  | 0, _, _, _ => none
  | k3329 + 1, x3216, l3219, x3222 => bif (decide (x3222 < ((p0).length : Int))) then (bif (decide (x3222 < (30 : Int))) then (tidewracktop_TidewrackPrinted_j9 K p0 p1 x3216 l3219 x3222 (tidewracktop_TidewrackPrinted_l8 K p0 p1 p2 k3329)) else (tidewracktop_TidewrackPrinted_j1 K p2 x3216 l3219)) else (tidewracktop_TidewrackPrinted_j1 K p2 x3216 l3219)
def tidewracktop_TidewrackPrinted (K : Nat) (p0 : List Int) (p1 : List Int) (p2 : Int) : Option Bool :=
  (glyph_Decode K (⟨#[97]⟩ : ByteArray)).bind fun t4 => (bif (((t4).length : Int) != (1 : Int)) then (some false) else (tidewracktop_TidewrackPrinted_l8 K p0 p1 p2 K (⟨#[]⟩ : ByteArray) ([] : List Int) 0))

end Go.Proofs.YtpciioffkjpieaaDoor
