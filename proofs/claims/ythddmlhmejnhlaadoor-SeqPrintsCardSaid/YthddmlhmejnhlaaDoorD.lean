/- Plain functions, printed by an own program: what the walked code computes. -/
import Derived.Test.YthddmlhmejnhlaaDoorZ4
set_option linter.unusedVariables false
set_option linter.unusedSimpArgs false
namespace Go.Proofs.YthddmlhmejnhlaaDoor
open Go Go.Proofs.XC
structure T27 where
  Lead : Int
  Rune : Int
  Need : Int
abbrev zT27 : T27 := ⟨0, 0, 0⟩
structure T37 where
  Kind : Int
  Rune : Int
  Byte : Int
  Private : Bool
  Nums : List Int
  Text : ByteArray
abbrev zT37 : T37 := ⟨0, 0, 0, false, [], (⟨#[]⟩ : ByteArray)⟩
structure T30 where
  state : Int
  order_private_ : Bool
  order_wrong : Bool
  order_any : Bool
  order_some : Bool
  order_n : Int
  order_nums : List Int
  text : ByteArray
  runes_Lead : Int
  runes_Rune : Int
  runes_Need : Int
  out : List T37
structure T70 where
  first : Int
  last : Int
  need : Int
  low : Int
  high : Int
abbrev zT70 : T70 := ⟨0, 0, 0, 0, 0⟩
structure T25 where
  private_ : Bool
  wrong : Bool
  any : Bool
  some : Bool
  n : Int
  nums : List Int
structure T47 where
  Kind : Int
  Rune : Int
  Byte : Int
  Private : Bool
  Nums : List Int
  Text : ByteArray
abbrev zT47 : T47 := ⟨0, 0, 0, false, [], (⟨#[]⟩ : ByteArray)⟩
namespace WF
def wfBool (_ : Bool) : Prop := True
def wfStr (x : ByteArray) : Prop := x.size ≤ maxLen
def wfi64 (x : Int) : Prop := (Lit.int .i64 x).wf = true
def wfi32 (x : Int) : Prop := (Lit.int .i32 x).wf = true
def wfu8 (x : Int) : Prop := (Lit.int .u8 x).wf = true
def wfu32 (x : Int) : Prop := (Lit.int .u32 x).wf = true
def wfu64 (x : Int) : Prop := (Lit.int .u64 x).wf = true
def wfi8 (x : Int) : Prop := (Lit.int .i8 x).wf = true
def wfi16 (x : Int) : Prop := (Lit.int .i16 x).wf = true
def wfu16 (x : Int) : Prop := (Lit.int .u16 x).wf = true
def wfT27 (x : T27) : Prop := (Lit.int .u8 x.Lead).wf = true ∧ (Lit.int .i32 x.Rune).wf = true ∧ (Lit.int .i64 x.Need).wf = true
def wfT37 (x : T37) : Prop := (Lit.int .i64 x.Kind).wf = true ∧ (Lit.int .i32 x.Rune).wf = true ∧ (Lit.int .u8 x.Byte).wf = true ∧ (∀ y ∈ x.Nums, wfi64 y) ∧ x.Nums.length ≤ maxLen ∧ x.Text.size ≤ maxLen
def wfT70 (x : T70) : Prop := (Lit.int .u8 x.first).wf = true ∧ (Lit.int .u8 x.last).wf = true ∧ (Lit.int .i64 x.need).wf = true ∧ (Lit.int .u8 x.low).wf = true ∧ (Lit.int .u8 x.high).wf = true
def wfT25 (x : T25) : Prop := (Lit.int .i64 x.n).wf = true ∧ (∀ y ∈ x.nums, wfi64 y) ∧ x.nums.length ≤ maxLen
def wfT47 (x : T47) : Prop := (Lit.int .i64 x.Kind).wf = true ∧ (Lit.int .i64 x.Rune).wf = true ∧ (Lit.int .i64 x.Byte).wf = true ∧ (∀ y ∈ x.Nums, wfi64 y) ∧ x.Nums.length ≤ maxLen ∧ x.Text.size ≤ maxLen
end WF
def glob0 : List T70 := [⟨194, 223, 1, 128, 191⟩, ⟨224, 224, 2, 160, 191⟩, ⟨225, 236, 2, 128, 191⟩, ⟨237, 237, 2, 128, 159⟩, ⟨238, 239, 2, 128, 191⟩, ⟨240, 240, 3, 144, 191⟩, ⟨241, 243, 3, 128, 191⟩, ⟨244, 244, 3, 128, 143⟩]
/-! (tidewrack/glyph.Decoder).End -/
def glyph_Decoder_End (p0 : T27) : Option (List Int) :=
  bif (decide (p0.Need ≤ (0 : Int))) then (some ([] : List Int)) else (some ([65533] : List Int))

/-! (*tidewrack/seq.Parser).tell -/
def seq_Parser_tell_j1 (p0 : T30) (p1 : T37) : Option T30 :=
  some (⟨p0.state, p0.order_private_, p0.order_wrong, p0.order_any, p0.order_some, p0.order_n, p0.order_nums, p0.text, p0.runes_Lead, p0.runes_Rune, p0.runes_Need, (p0.out ++ ([p1] : List T37))⟩ : T30)
def seq_Parser_tell (p0 : T30) (p1 : T37) : Option T30 :=
  if (p0.out).length + (([p1] : List T37)).length ≤ 1000000000 then (seq_Parser_tell_j1 p0 p1) else none

/-! (*tidewrack/seq.Parser).print -/
def seq_Parser_print_l1 (p1 : List Int) : Nat → Int → Bool → Bool → Bool → Bool → Int → (List Int) → ByteArray → Int → Int → Int → (List T37) → Int → Option T30
  | 0, _, _, _, _, _, _, _, _, _, _, _, _, _ => none
  | k67 + 1, x25, x26, x27, x28, x29, x30, l33, x36, x37, x38, x39, l42, x45 => bif (decide (x45 < ((p1).length : Int))) then (if 0 ≤ x45 ∧ x45 < ((p1).length : Int) then ((seq_Parser_tell (⟨x25, x26, x27, x28, x29, x30, l33, x36, x37, x38, x39, l42⟩ : T30) (⟨1, (rdD 0 p1 x45), 0, false, ([] : List Int), (⟨#[]⟩ : ByteArray)⟩ : T37)).bind fun t76 => ((seq_Parser_print_l1 p1 k67) t76.state t76.order_private_ t76.order_wrong t76.order_any t76.order_some t76.order_n t76.order_nums t76.text t76.runes_Lead t76.runes_Rune t76.runes_Need t76.out (IntKind.wrap .i64 (x45 + 1)))) else none) else (some (⟨x25, x26, x27, x28, x29, x30, l33, x36, x37, x38, x39, l42⟩ : T30))
def seq_Parser_print (K : Nat) (p0 : T30) (p1 : List Int) : Option T30 :=
  seq_Parser_print_l1 p1 K p0.state p0.order_private_ p0.order_wrong p0.order_any p0.order_some p0.order_n p0.order_nums p0.text p0.runes_Lead p0.runes_Rune p0.runes_Need p0.out 0

/-! (*tidewrack/seq.Parser).common -/
def seq_Parser_common_j1 (p0 : T30) (p1 : Int) (x9 : Bool) : Option (Bool × T30) :=
  bif x9 then (some (true, (⟨0, p0.order_private_, p0.order_wrong, p0.order_any, p0.order_some, p0.order_n, p0.order_nums, p0.text, p0.runes_Lead, p0.runes_Rune, p0.runes_Need, p0.out⟩ : T30))) else (bif (p1 == (27 : Int)) then (some (true, (⟨1, p0.order_private_, p0.order_wrong, p0.order_any, p0.order_some, p0.order_n, p0.order_nums, p0.text, p0.runes_Lead, p0.runes_Rune, p0.runes_Need, p0.out⟩ : T30))) else (bif (decide (p1 < (32 : Int))) then ((seq_Parser_tell p0 (⟨2, 0, p1, false, ([] : List Int), (⟨#[]⟩ : ByteArray)⟩ : T37)).bind fun t17 => (some (true, t17))) else (some ((p1 == (127 : Int)), p0))))
def seq_Parser_common (p0 : T30) (p1 : Int) : Option (Bool × T30) :=
  bif (p1 == (24 : Int)) then (seq_Parser_common_j1 p0 p1 true) else (seq_Parser_common_j1 p0 p1 (p1 == (26 : Int)))

/-! tidewrack/glyph.find -/
def glyph_find_j1 : Option (T70 × Bool) :=
  some ((⟨0, 0, 0, 0, 0⟩ : T70), false)
def glyph_find_j3 (x127 : Int) (lp155 : Int → Option (T70 × Bool)) (x175 : Bool) : Option (T70 × Bool) :=
  bif x175 then (some ((rdD zT70 glob0 x127), true)) else (lp155 (IntKind.wrap .i64 (x127 + 1)))
def glyph_find_l2 (p0 : Int) : Nat → Int → Option (T70 × Bool)
  | 0, _ => none
  | k154 + 1, x127 => bif (decide (x127 < (8 : Int))) then (if 0 ≤ x127 ∧ x127 < ((glob0).length : Int) then (bif (decide (p0 ≥ ((rdD zT70 glob0 x127).first))) then (glyph_find_j3 x127 (glyph_find_l2 p0 k154) (decide (p0 ≤ ((rdD zT70 glob0 x127).last)))) else (glyph_find_j3 x127 (glyph_find_l2 p0 k154) false)) else none) else (glyph_find_j1)
def glyph_find (K : Nat) (p0 : Int) : Option (T70 × Bool) :=
  glyph_find_l2 p0 K 0

/-! tidewrack/glyph.begin -/
def glyph_begin (K : Nat) (p0 : Int) : Option (T27 × (List Int)) :=
  bif (decide (p0 < (128 : Int))) then (some ((⟨0, 0, 0⟩ : T27), ([(IntKind.wrap .i32 p0)] : List Int))) else ((glyph_find K p0).bind fun t10 => (bif (!t10.2) then (some ((⟨0, 0, 0⟩ : T27), ([65533] : List Int))) else (if 0 ≤ t10.1.need then (some ((⟨p0, (bits .and .i32 (IntKind.wrap .i32 p0) (Int.fdiv 63 (2 ^ min (Int.toNat t10.1.need) 32))), t10.1.need⟩ : T27), ([] : List Int))) else none)))

/-! (tidewrack/glyph.Decoder).fits -/
def glyph_Decoder_fits (K : Nat) (p0 : T27) (p1 : Int) : Option Bool :=
  (glyph_find K p0.Lead).bind fun t9 => (bif (decide (p0.Need < t9.1.need)) then (bif (decide (p1 ≥ (128 : Int))) then (some (decide (p1 ≤ (191 : Int)))) else (some false)) else (bif (decide (p1 ≥ t9.1.low)) then (some (decide (p1 ≤ t9.1.high))) else (some false)))

/-! (tidewrack/glyph.Decoder).Next -/
def glyph_Decoder_Next_j1 (p0 : T27) (p1 : Int) : Option (T27 × (List Int)) :=
  some ((⟨0, 0, 0⟩ : T27), ([(bits .or .i32 (IntKind.wrap .i32 (p0.Rune * 2 ^ min (Int.toNat 6) 32)) (bits .and .i32 (IntKind.wrap .i32 p1) 63))] : List Int))
def glyph_Decoder_Next (K : Nat) (p0 : T27) (p1 : Int) : Option (T27 × (List Int)) :=
  bif (decide (p0.Need ≤ (0 : Int))) then ((glyph_begin K p1).bind fun t287 => (some (t287.1, t287.2))) else ((glyph_Decoder_fits K p0 p1).bind fun t15 => (bif (!t15) then ((glyph_begin K p1).bind fun t214 => (if (([65533] : List Int)).length + (t214.2).length ≤ 1000000000 then (some (t214.1, (([65533] : List Int) ++ t214.2))) else none)) else (bif ((IntKind.wrap .i64 (p0.Need - 1)) == (0 : Int)) then (glyph_Decoder_Next_j1 p0 p1) else (some ((⟨p0.Lead, (bits .or .i32 (IntKind.wrap .i32 (p0.Rune * 2 ^ min (Int.toNat 6) 32)) (bits .and .i32 (IntKind.wrap .i32 p1) 63)), (IntKind.wrap .i64 (p0.Need - 1))⟩ : T27), ([] : List Int))))))

/-! (*tidewrack/seq.Parser).onGround -/
def seq_Parser_onGround_j1 (K : Nat) (p0 : T30) (p1 : Int) : Option T30 :=
  (glyph_Decoder_Next K (⟨p0.runes_Lead, p0.runes_Rune, p0.runes_Need⟩ : T27) p1).bind fun t70 => ((seq_Parser_print K (⟨p0.state, p0.order_private_, p0.order_wrong, p0.order_any, p0.order_some, p0.order_n, p0.order_nums, p0.text, t70.1.Lead, t70.1.Rune, t70.1.Need, p0.out⟩ : T30) t70.2).bind fun t85 => (some t85))
def seq_Parser_onGround_j2 (K : Nat) (p0 : T30) (p1 : Int) (x107 : Bool) : Option T30 :=
  bif x107 then ((glyph_Decoder_End (⟨p0.runes_Lead, p0.runes_Rune, p0.runes_Need⟩ : T27)).bind fun t113 => ((seq_Parser_print K p0 t113).bind fun t125 => ((seq_Parser_common (⟨t125.state, t125.order_private_, t125.order_wrong, t125.order_any, t125.order_some, t125.order_n, t125.order_nums, t125.text, 0, 0, 0, t125.out⟩ : T30) p1).bind fun t145 => (some t145.2)))) else (seq_Parser_onGround_j1 K p0 p1)
def seq_Parser_onGround (K : Nat) (p0 : T30) (p1 : Int) : Option T30 :=
  bif (decide (p1 < (32 : Int))) then (seq_Parser_onGround_j2 K p0 p1 true) else (seq_Parser_onGround_j2 K p0 p1 (p1 == (127 : Int)))

/-! (*tidewrack/seq.Parser).onEscape -/
def seq_Parser_onEscape (p0 : T30) (p1 : Int) : Option T30 :=
  (seq_Parser_common p0 p1).bind fun t4 => (bif t4.1 then (some t4.2) else (bif (p1 == (91 : Int)) then (some (⟨3, false, false, false, false, 0, ([] : List Int), t4.2.text, t4.2.runes_Lead, t4.2.runes_Rune, t4.2.runes_Need, t4.2.out⟩ : T30)) else (bif (p1 == (93 : Int)) then (some (⟨4, t4.2.order_private_, t4.2.order_wrong, t4.2.order_any, t4.2.order_some, t4.2.order_n, t4.2.order_nums, (⟨#[]⟩ : ByteArray), t4.2.runes_Lead, t4.2.runes_Rune, t4.2.runes_Need, t4.2.out⟩ : T30)) else (bif (decide (p1 < (48 : Int))) then (some (⟨2, t4.2.order_private_, t4.2.order_wrong, t4.2.order_any, t4.2.order_some, t4.2.order_n, t4.2.order_nums, t4.2.text, t4.2.runes_Lead, t4.2.runes_Rune, t4.2.runes_Need, t4.2.out⟩ : T30)) else (bif (decide (p1 < (127 : Int))) then ((seq_Parser_tell t4.2 (⟨3, 0, p1, false, ([] : List Int), (⟨#[]⟩ : ByteArray)⟩ : T37)).bind fun t29 => (some (⟨0, t29.order_private_, t29.order_wrong, t29.order_any, t29.order_some, t29.order_n, t29.order_nums, t29.text, t29.runes_Lead, t29.runes_Rune, t29.runes_Need, t29.out⟩ : T30))) else (some (⟨0, t4.2.order_private_, t4.2.order_wrong, t4.2.order_any, t4.2.order_some, t4.2.order_n, t4.2.order_nums, t4.2.text, t4.2.runes_Lead, t4.2.runes_Rune, t4.2.runes_Need, t4.2.out⟩ : T30)))))))

/-! (*tidewrack/seq.Parser).onSkip -/
def seq_Parser_onSkip_j1 (x46 : Int) (x47 : Bool) (x48 : Bool) (x49 : Bool) (x50 : Bool) (x51 : Int) (l54 : List Int) (x57 : ByteArray) (x58 : Int) (x59 : Int) (x60 : Int) (l63 : List T37) (x66 : Bool) : Option T30 :=
  bif x66 then (some (⟨0, x47, x48, x49, x50, x51, l54, x57, x58, x59, x60, l63⟩ : T30)) else (some (⟨x46, x47, x48, x49, x50, x51, l54, x57, x58, x59, x60, l63⟩ : T30))
def seq_Parser_onSkip (p0 : T30) (p1 : Int) : Option T30 :=
  (seq_Parser_common p0 p1).bind fun t75 => (bif (!t75.1) then (seq_Parser_onSkip_j1 t75.2.state t75.2.order_private_ t75.2.order_wrong t75.2.order_any t75.2.order_some t75.2.order_n t75.2.order_nums t75.2.text t75.2.runes_Lead t75.2.runes_Rune t75.2.runes_Need t75.2.out (decide (p1 ≥ (48 : Int)))) else (seq_Parser_onSkip_j1 t75.2.state t75.2.order_private_ t75.2.order_wrong t75.2.order_any t75.2.order_some t75.2.order_n t75.2.order_nums t75.2.text t75.2.runes_Lead t75.2.runes_Rune t75.2.runes_Need t75.2.out false))

/-! (*tidewrack/seq.order).push -/
def seq_order_push_j1 (p0 : T25) : Option T25 :=
  some (⟨p0.private_, p0.wrong, p0.any, p0.some, 0, (p0.nums ++ ([p0.n] : List Int))⟩ : T25)
def seq_order_push (p0 : T25) : Option T25 :=
  bif (decide (((p0.nums).length : Int) < (16 : Int))) then (if (p0.nums).length + (([p0.n] : List Int)).length ≤ 1000000000 then (seq_order_push_j1 p0) else none) else (some (⟨p0.private_, p0.wrong, p0.any, p0.some, 0, p0.nums⟩ : T25))

/-! (*tidewrack/seq.order).push -/
def seq_order_push_of31_1_j1 (p0 : T30) : Option T25 :=
  some (⟨p0.order_private_, p0.order_wrong, p0.order_any, p0.order_some, 0, (p0.order_nums ++ ([p0.order_n] : List Int))⟩ : T25)
def seq_order_push_of31_1 (p0 : T30) : Option T25 :=
  bif (decide (((p0.order_nums).length : Int) < (16 : Int))) then (if (p0.order_nums).length + (([p0.order_n] : List Int)).length ≤ 1000000000 then (seq_order_push_of31_1_j1 p0) else none) else (some (⟨p0.order_private_, p0.order_wrong, p0.order_any, p0.order_some, 0, p0.order_nums⟩ : T25))

/-! (*tidewrack/seq.Parser).finish -/
def seq_Parser_finish_j2 (x211 : Int) (x212 : Bool) (x213 : Bool) (x214 : Bool) (x215 : Bool) (x216 : Int) (l219 : List Int) (x222 : ByteArray) (x223 : Int) (x224 : Int) (x225 : Int) (l228 : List T37) : Option T30 :=
  some (⟨x211, x212, x213, x214, x215, x216, l219, x222, x223, x224, x225, l228⟩ : T30)
def seq_Parser_finish_j1 (p0 : T30) (p1 : Int) (x35 : Bool) (x36 : Bool) (x37 : Bool) (x38 : Bool) (x39 : Int) (l42 : List Int) : Option T30 :=
  (seq_Parser_tell (⟨0, x35, x36, x37, x38, x39, l42, p0.text, p0.runes_Lead, p0.runes_Rune, p0.runes_Need, p0.out⟩ : T30) (⟨4, 0, p1, x35, l42, (⟨#[]⟩ : ByteArray)⟩ : T37)).bind fun t256 => (seq_Parser_finish_j2 t256.state t256.order_private_ t256.order_wrong t256.order_any t256.order_some t256.order_n t256.order_nums t256.text t256.runes_Lead t256.runes_Rune t256.runes_Need t256.out)
def seq_Parser_finish (p0 : T30) (p1 : Int) : Option T30 :=
  bif p0.order_wrong then (some (⟨0, p0.order_private_, true, p0.order_any, p0.order_some, p0.order_n, p0.order_nums, p0.text, p0.runes_Lead, p0.runes_Rune, p0.runes_Need, p0.out⟩ : T30)) else (bif p0.order_some then ((seq_order_push_of31_1 (⟨0, p0.order_private_, false, p0.order_any, true, p0.order_n, p0.order_nums, p0.text, p0.runes_Lead, p0.runes_Rune, p0.runes_Need, p0.out⟩ : T30)).bind fun t356 => (seq_Parser_finish_j1 p0 p1 t356.private_ t356.wrong t356.any t356.some t356.n t356.nums)) else (seq_Parser_finish_j1 p0 p1 p0.order_private_ false p0.order_any false p0.order_n p0.order_nums))

/-! (*tidewrack/seq.Parser).tell -/
def seq_Parser_tell_ofown_j1 (p0 : T30) (p1 : T37) : Option T30 :=
  some (⟨p0.state, p0.order_private_, p0.order_wrong, p0.order_any, p0.order_some, p0.order_n, p0.order_nums, p0.text, p0.runes_Lead, p0.runes_Rune, p0.runes_Need, (p0.out ++ ([p1] : List T37))⟩ : T30)
def seq_Parser_tell_ofown (p0 : T30) (p1 : T37) : Option T30 :=
  if (p0.out).length + (([p1] : List T37)).length ≤ 1000000000 then (seq_Parser_tell_ofown_j1 p0 p1) else none

/-! (*tidewrack/seq.Parser).common -/
def seq_Parser_common_ofown_j1 (p0 : T30) (p1 : Int) (x9 : Bool) : Option (Bool × T30) :=
  bif x9 then (some (true, (⟨0, p0.order_private_, p0.order_wrong, p0.order_any, p0.order_some, p0.order_n, p0.order_nums, p0.text, p0.runes_Lead, p0.runes_Rune, p0.runes_Need, p0.out⟩ : T30))) else (bif (p1 == (27 : Int)) then (some (true, (⟨1, p0.order_private_, p0.order_wrong, p0.order_any, p0.order_some, p0.order_n, p0.order_nums, p0.text, p0.runes_Lead, p0.runes_Rune, p0.runes_Need, p0.out⟩ : T30))) else (bif (decide (p1 < (32 : Int))) then ((seq_Parser_tell_ofown p0 (⟨2, 0, p1, false, ([] : List Int), (⟨#[]⟩ : ByteArray)⟩ : T37)).bind fun t17 => (some (true, t17))) else (some ((p1 == (127 : Int)), p0))))
def seq_Parser_common_ofown (p0 : T30) (p1 : Int) : Option (Bool × T30) :=
  bif (p1 == (24 : Int)) then (seq_Parser_common_ofown_j1 p0 p1 true) else (seq_Parser_common_ofown_j1 p0 p1 (p1 == (26 : Int)))

/-! (*tidewrack/seq.Parser).onCommand -/
def seq_Parser_onCommand_j4 (p1 : Int) (t4 : Bool × T30) (x63 : Bool) : Option T30 :=
  bif x63 then ((seq_Parser_finish (⟨t4.2.state, t4.2.order_private_, t4.2.order_wrong, true, t4.2.order_some, t4.2.order_n, t4.2.order_nums, t4.2.text, t4.2.runes_Lead, t4.2.runes_Rune, t4.2.runes_Need, t4.2.out⟩ : T30) p1).bind fun t72 => (some t72)) else (some (⟨t4.2.state, t4.2.order_private_, true, true, t4.2.order_some, t4.2.order_n, t4.2.order_nums, t4.2.text, t4.2.runes_Lead, t4.2.runes_Rune, t4.2.runes_Need, t4.2.out⟩ : T30))
def seq_Parser_onCommand_j3 (p1 : Int) (t4 : Bool × T30) (x52 : Bool) : Option T30 :=
  bif x52 then (some (⟨t4.2.state, true, t4.2.order_wrong, true, t4.2.order_some, t4.2.order_n, t4.2.order_nums, t4.2.text, t4.2.runes_Lead, t4.2.runes_Rune, t4.2.runes_Need, t4.2.out⟩ : T30)) else (bif (decide (p1 ≥ (64 : Int))) then (seq_Parser_onCommand_j4 p1 t4 (decide (p1 < (127 : Int)))) else (seq_Parser_onCommand_j4 p1 t4 false))
def seq_Parser_onCommand_j2 (p1 : Int) (t4 : Bool × T30) (x41 : Bool) : Option T30 :=
  bif x41 then ((seq_order_push_of31_1 (⟨t4.2.state, t4.2.order_private_, t4.2.order_wrong, true, t4.2.order_some, t4.2.order_n, t4.2.order_nums, t4.2.text, t4.2.runes_Lead, t4.2.runes_Rune, t4.2.runes_Need, t4.2.out⟩ : T30)).bind fun t94 => (some (⟨t4.2.state, t94.private_, t94.wrong, t94.any, true, t94.n, t94.nums, t4.2.text, t4.2.runes_Lead, t4.2.runes_Rune, t4.2.runes_Need, t4.2.out⟩ : T30))) else (bif (p1 == (63 : Int)) then (seq_Parser_onCommand_j3 p1 t4 (!t4.2.order_any)) else (seq_Parser_onCommand_j3 p1 t4 false))
def seq_Parser_onCommand_j1 (p1 : Int) (t4 : Bool × T30) (x30 : Bool) : Option T30 :=
  bif x30 then (some (⟨t4.2.state, t4.2.order_private_, t4.2.order_wrong, true, true, (mnI (IntKind.wrap .i64 ((IntKind.wrap .i64 (10 * t4.2.order_n)) + (IntKind.wrap .i64 (IntKind.wrap .u8 (p1 - 48))))) 9999), t4.2.order_nums, t4.2.text, t4.2.runes_Lead, t4.2.runes_Rune, t4.2.runes_Need, t4.2.out⟩ : T30)) else (bif (p1 == (59 : Int)) then (seq_Parser_onCommand_j2 p1 t4 true) else (seq_Parser_onCommand_j2 p1 t4 (p1 == (58 : Int))))
def seq_Parser_onCommand (p0 : T30) (p1 : Int) : Option T30 :=
  (seq_Parser_common_ofown p0 p1).bind fun t4 => (bif t4.1 then (some t4.2) else (bif (decide (p1 ≥ (48 : Int))) then (seq_Parser_onCommand_j1 p1 t4 (decide (p1 ≤ (57 : Int)))) else (seq_Parser_onCommand_j1 p1 t4 false)))

/-! internal/stringslite.HasPrefix -/
def stringslite_HasPrefix (p0 : ByteArray) (p1 : ByteArray) : Option Bool :=
  bif (decide (((p0).size : Int) ≥ ((p1).size : Int))) then (if 0 ≤ ((p1).size : Int) then (if ((p1).size : Int) ≤ ((p0).size : Int) then (some (ByteArray.toList (ByteArray.extract p0 0 (Int.toNat ((p1).size : Int))) == ByteArray.toList p1)) else none) else none) else (some false)

/-! internal/stringslite.CutPrefix -/
def stringslite_CutPrefix (p0 : ByteArray) (p1 : ByteArray) : Option (ByteArray × Bool) :=
  (stringslite_HasPrefix p0 p1).bind fun t4 => (bif (!t4) then (some (p0, false)) else (if 0 ≤ ((p1).size : Int) then (if ((p1).size : Int) ≤ ((p0).size : Int) then (some ((ByteArray.extract p0 (Int.toNat ((p1).size : Int)) (p0).size), true)) else none) else none))

/-! strings.CutPrefix -/
def strings_CutPrefix (p0 : ByteArray) (p1 : ByteArray) : Option (ByteArray × Bool) :=
  (stringslite_CutPrefix p0 p1).bind fun t4 => (some (t4.1, t4.2))

/-! (*tidewrack/seq.Parser).over -/
def seq_Parser_over_l1 : Nat → Int → Bool → Bool → Bool → Bool → Int → (List Int) → ByteArray → Int → Int → Int → (List T37) → Int → Option T30
  | 0, _, _, _, _, _, _, _, _, _, _, _, _, _ => none
  | k92 + 1, x42, x43, x44, x45, x46, x47, l50, x53, x54, x55, x56, l59, x62 => bif (decide (x62 < ((([(⟨#[48, 59]⟩ : ByteArray), (⟨#[50, 59]⟩ : ByteArray)] : List ByteArray)).length : Int))) then (if 0 ≤ x62 ∧ x62 < ((([(⟨#[48, 59]⟩ : ByteArray), (⟨#[50, 59]⟩ : ByteArray)] : List ByteArray)).length : Int) then ((strings_CutPrefix x53 (rdD (⟨#[]⟩ : ByteArray) ([(⟨#[48, 59]⟩ : ByteArray), (⟨#[50, 59]⟩ : ByteArray)] : List ByteArray) x62)).bind fun t100 => (bif t100.2 then ((seq_Parser_tell (⟨x42, x43, x44, x45, x46, x47, l50, x53, x54, x55, x56, l59⟩ : T30) (⟨5, 0, 0, false, ([] : List Int), t100.1⟩ : T37)).bind fun t109 => ((seq_Parser_over_l1 k92) t109.state t109.order_private_ t109.order_wrong t109.order_any t109.order_some t109.order_n t109.order_nums t109.text t109.runes_Lead t109.runes_Rune t109.runes_Need t109.out (IntKind.wrap .i64 (x62 + 1)))) else ((seq_Parser_over_l1 k92) x42 x43 x44 x45 x46 x47 l50 x53 x54 x55 x56 l59 (IntKind.wrap .i64 (x62 + 1))))) else none) else (some (⟨x42, x43, x44, x45, x46, x47, l50, x53, x54, x55, x56, l59⟩ : T30))
def seq_Parser_over (K : Nat) (p0 : T30) : Option T30 :=
  seq_Parser_over_l1 K 0 p0.order_private_ p0.order_wrong p0.order_any p0.order_some p0.order_n p0.order_nums p0.text p0.runes_Lead p0.runes_Rune p0.runes_Need p0.out 0

/-! (*tidewrack/seq.Parser).onTitle -/
def seq_Parser_onTitle_j2 (p0 : T30) (p1 : Int) : Option T30 :=
  some (⟨p0.state, p0.order_private_, p0.order_wrong, p0.order_any, p0.order_some, p0.order_n, p0.order_nums, (p0.text ++ (strOfNums ([p1] : List Int))), p0.runes_Lead, p0.runes_Rune, p0.runes_Need, p0.out⟩ : T30)
def seq_Parser_onTitle_j1 (p0 : T30) (p1 : Int) (x10 : Bool) : Option T30 :=
  bif x10 then (some (⟨0, p0.order_private_, p0.order_wrong, p0.order_any, p0.order_some, p0.order_n, p0.order_nums, p0.text, p0.runes_Lead, p0.runes_Rune, p0.runes_Need, p0.out⟩ : T30)) else (bif (p1 == (27 : Int)) then (some (⟨5, p0.order_private_, p0.order_wrong, p0.order_any, p0.order_some, p0.order_n, p0.order_nums, p0.text, p0.runes_Lead, p0.runes_Rune, p0.runes_Need, p0.out⟩ : T30)) else (bif (decide (((p0.text).size : Int) < (200 : Int))) then (if ((p0.text.size + (strOfNums ([p1] : List Int)).size : Nat) : Int) ≤ 9223372036854775807 then (seq_Parser_onTitle_j2 p0 p1) else none) else (some p0)))
def seq_Parser_onTitle (K : Nat) (p0 : T30) (p1 : Int) : Option T30 :=
  bif (p1 == (7 : Int)) then ((seq_Parser_over K p0).bind fun t256 => (some t256)) else (bif (p1 == (24 : Int)) then (seq_Parser_onTitle_j1 p0 p1 true) else (seq_Parser_onTitle_j1 p0 p1 (p1 == (26 : Int))))

/-! (*tidewrack/seq.Parser).one -/
def seq_Parser_one (K : Nat) (p0 : T30) (p1 : Int) : Option T30 :=
  bif (p0.state == (0 : Int)) then ((seq_Parser_onGround K p0 p1).bind fun t115 => (some t115)) else (bif (p0.state == (1 : Int)) then ((seq_Parser_onEscape p0 p1).bind fun t98 => (some t98)) else (bif (p0.state == (2 : Int)) then ((seq_Parser_onSkip p0 p1).bind fun t81 => (some t81)) else (bif (p0.state == (3 : Int)) then ((seq_Parser_onCommand p0 p1).bind fun t64 => (some t64)) else (bif (p0.state == (4 : Int)) then ((seq_Parser_onTitle K p0 p1).bind fun t47 => (some t47)) else (bif (p1 == (92 : Int)) then ((seq_Parser_over K p0).bind fun t30 => (some t30)) else ((seq_Parser_onEscape (⟨1, p0.order_private_, p0.order_wrong, p0.order_any, p0.order_some, p0.order_n, p0.order_nums, p0.text, p0.runes_Lead, p0.runes_Rune, p0.runes_Need, p0.out⟩ : T30) p1).bind fun t13 => (some t13)))))))

/-! (*tidewrack/seq.Parser).Feed -/
def seq_Parser_Feed_j1 (x113 : Int) (x114 : Bool) (x115 : Bool) (x116 : Bool) (x117 : Bool) (x118 : Int) (l121 : List Int) (x124 : ByteArray) (x125 : Int) (x126 : Int) (x127 : Int) (l130 : List T37) : Option ((List T37) × T30) :=
  some (l130, (⟨x113, x114, x115, x116, x117, x118, l121, x124, x125, x126, x127, ([] : List T37)⟩ : T30))
def seq_Parser_Feed_l2 (K : Nat) (p1 : ByteArray) : Nat → Int → Bool → Bool → Bool → Bool → Int → (List Int) → ByteArray → Int → Int → Int → (List T37) → Int → Option ((List T37) × T30)
  | 0, _, _, _, _, _, _, _, _, _, _, _, _, _ => none
  | k201 + 1, x160, x161, x162, x163, x164, x165, l168, x171, x172, x173, x174, l177, x180 => bif (decide (x180 < ((p1).size : Int))) then (if 0 ≤ x180 ∧ x180 < ((p1).size : Int) then ((seq_Parser_one K (⟨x160, x161, x162, x163, x164, x165, l168, x171, x172, x173, x174, l177⟩ : T30) (bt p1 x180)).bind fun t209 => ((seq_Parser_Feed_l2 K p1 k201) t209.state t209.order_private_ t209.order_wrong t209.order_any t209.order_some t209.order_n t209.order_nums t209.text t209.runes_Lead t209.runes_Rune t209.runes_Need t209.out (IntKind.wrap .i64 (x180 + 1)))) else none) else (seq_Parser_Feed_j1 x160 x161 x162 x163 x164 x165 l168 x171 x172 x173 x174 l177)
def seq_Parser_Feed (K : Nat) (p0 : T30) (p1 : ByteArray) : Option ((List T37) × T30) :=
  seq_Parser_Feed_l2 K p1 K p0.state p0.order_private_ p0.order_wrong p0.order_any p0.order_some p0.order_n p0.order_nums p0.text p0.runes_Lead p0.runes_Rune p0.runes_Need p0.out 0

/-! tidewrack/tidewracklaw01.Same -/
def tidewracklaw01_Same_j1 : Option Bool :=
  some true
def tidewracklaw01_Same_l2 (p0 : List Int) (p1 : List Int) : Nat → Int → Option Bool
  | 0, _ => none
  | k102 + 1, x84 => bif (decide (x84 < ((p0).length : Int))) then (if 0 ≤ x84 ∧ x84 < ((p0).length : Int) then (if 0 ≤ x84 ∧ x84 < ((p1).length : Int) then (bif ((rdD 0 p0 x84) != (rdD 0 p1 x84)) then (some false) else ((tidewracklaw01_Same_l2 p0 p1 k102) (IntKind.wrap .i64 (x84 + 1)))) else none) else none) else (tidewracklaw01_Same_j1)
def tidewracklaw01_Same (K : Nat) (p0 : List Int) (p1 : List Int) : Option Bool :=
  bif (((p0).length : Int) != ((p1).length : Int)) then (some false) else (tidewracklaw01_Same_l2 p0 p1 K 0)

/-! tidewrack/tidewracklaw07.awake -/
def tidewracklaw07_awake (K : Nat)  : Option Bool :=
  (seq_Parser_Feed K (⟨0, false, false, false, false, 0, ([] : List Int), (⟨#[]⟩ : ByteArray), 0, 0, 0, ([] : List T37)⟩ : T30) (⟨#[97, 27, 91, 51, 49, 59, 109]⟩ : ByteArray)).bind fun t9 => (bif (((t9.1).length : Int) == (2 : Int)) then (if 0 ≤ (0 : Int) ∧ (0 : Int) < ((t9.1).length : Int) then (bif (((rdD zT37 t9.1 0).Kind) == (1 : Int)) then (bif (((rdD zT37 t9.1 0).Rune) == (97 : Int)) then (if 0 ≤ (1 : Int) ∧ (1 : Int) < ((t9.1).length : Int) then (bif (((rdD zT37 t9.1 1).Kind) == (4 : Int)) then (bif (((rdD zT37 t9.1 1).Byte) == (109 : Int)) then ((tidewracklaw01_Same K ((rdD zT37 t9.1 1).Nums) ([31, 0] : List Int)).bind fun t68 => (some t68)) else (some false)) else (some false)) else none) else (some false)) else (some false)) else none) else (some false))

/-! tidewrack/tidewracklaw01.Cut -/
def tidewracklaw01_Cut (p0 : ByteArray) (p1 : Int) : Option ByteArray :=
  bif (decide (((p0).size : Int) > p1)) then (if 0 ≤ p1 then (if p1 ≤ ((p0).size : Int) then (some (ByteArray.extract p0 0 (Int.toNat p1))) else none) else none) else (some p0)

/-! tidewrack/tidewrackref05.need -/
def tidewrackref05_need_j3 (x47 : Bool) : Option (Int × Int × Int) :=
  bif x47 then (some (3, 128, 191)) else (some (0, 0, 0))
def tidewrackref05_need_j2 (p0 : Int) : Option (Int × Int × Int) :=
  bif (p0 == (240 : Int)) then (some (3, 144, 191)) else (bif (p0 == (244 : Int)) then (some (3, 128, 143)) else (bif (decide (p0 ≥ (241 : Int))) then (tidewrackref05_need_j3 (decide (p0 ≤ (243 : Int)))) else (tidewrackref05_need_j3 false)))
def tidewrackref05_need_j4 (p0 : Int) (x59 : Bool) : Option (Int × Int × Int) :=
  bif x59 then (some (2, 128, 191)) else (tidewrackref05_need_j2 p0)
def tidewrackref05_need_j1 (p0 : Int) : Option (Int × Int × Int) :=
  bif (p0 == (224 : Int)) then (some (2, 160, 191)) else (bif (p0 == (237 : Int)) then (some (2, 128, 159)) else (bif (decide (p0 ≥ (225 : Int))) then (tidewrackref05_need_j4 p0 (decide (p0 ≤ (239 : Int)))) else (tidewrackref05_need_j4 p0 false)))
def tidewrackref05_need_j5 (p0 : Int) (x71 : Bool) : Option (Int × Int × Int) :=
  bif x71 then (some (1, 128, 191)) else (tidewrackref05_need_j1 p0)
def tidewrackref05_need (p0 : Int) : Option (Int × Int × Int) :=
  bif (decide (p0 ≥ (194 : Int))) then (tidewrackref05_need_j5 p0 (decide (p0 ≤ (223 : Int)))) else (tidewrackref05_need_j5 p0 false)

/-! tidewrack/tidewrackref05.Runes -/
def tidewrackref05_Runes_j1 (l715 : List Int) : Option ((List Int) × Int) :=
  some (l715, 0)
def tidewrackref05_Runes_j3 (p0 : ByteArray) (l952 : List Int) (x955 : Int) (lp1185 : (List Int) → Int → Option ((List Int) × Int)) (t1193 : Int × Int × Int) (x1284 : Int) (x1285 : Int) : Option ((List Int) × Int) :=
  bif (decide (x1285 > t1193.1)) then (if (l952).length + (([x1284] : List Int)).length ≤ 1000000000 then (lp1185 (l952 ++ ([x1284] : List Int)) (IntKind.wrap .i64 (x955 + x1285))) else none) else (bif ((IntKind.wrap .i64 (x955 + x1285)) == ((p0).size : Int)) then (some (l952, x1285)) else (if (l952).length + (([65533] : List Int)).length ≤ 1000000000 then (lp1185 (l952 ++ ([65533] : List Int)) (IntKind.wrap .i64 (x955 + x1285))) else none))
def tidewrackref05_Runes_j6 (p0 : ByteArray) (x955 : Int) (x1342 : Int) (x1343 : Int) (lp1365 : Int → Int → Int → Int → Option ((List Int) × Int)) : Option ((List Int) × Int) :=
  lp1365 128 191 (IntKind.wrap .i64 ((IntKind.wrap .i64 (x1342 * 64)) + (Int.tmod (IntKind.wrap .i64 (bt p0 (IntKind.wrap .i64 (x955 + x1343)))) 64))) (IntKind.wrap .i64 (x1343 + 1))
def tidewrackref05_Runes_j5 (p0 : ByteArray) (l952 : List Int) (x955 : Int) (lp1185 : (List Int) → Int → Option ((List Int) × Int)) (t1193 : Int × Int × Int) (x1340 : Int) (x1341 : Int) (x1342 : Int) (x1343 : Int) (lp1365 : Int → Int → Int → Int → Option ((List Int) × Int)) : Option ((List Int) × Int) :=
  if 0 ≤ (IntKind.wrap .i64 (x955 + x1343)) ∧ (IntKind.wrap .i64 (x955 + x1343)) < ((p0).size : Int) then (bif (decide ((IntKind.wrap .i64 (bt p0 (IntKind.wrap .i64 (x955 + x1343)))) < x1340)) then (tidewrackref05_Runes_j3 p0 l952 x955 lp1185 t1193 x1342 x1343) else (bif (decide ((IntKind.wrap .i64 (bt p0 (IntKind.wrap .i64 (x955 + x1343)))) > x1341)) then (tidewrackref05_Runes_j3 p0 l952 x955 lp1185 t1193 x1342 x1343) else (tidewrackref05_Runes_j6 p0 x955 x1342 x1343 lp1365))) else none
def tidewrackref05_Runes_l4 (p0 : ByteArray) (l952 : List Int) (x955 : Int) (lp1185 : (List Int) → Int → Option ((List Int) × Int)) (t1193 : Int × Int × Int) : Nat → Int → Int → Int → Int → Option ((List Int) × Int)
  | 0, _, _, _, _ => none
  | k1364 + 1, x1340, x1341, x1342, x1343 => bif (decide (x1343 ≤ t1193.1)) then (bif (decide ((IntKind.wrap .i64 (x955 + x1343)) < ((p0).size : Int))) then (tidewrackref05_Runes_j5 p0 l952 x955 lp1185 t1193 x1340 x1341 x1342 x1343 (tidewrackref05_Runes_l4 p0 l952 x955 lp1185 t1193 k1364)) else (tidewrackref05_Runes_j3 p0 l952 x955 lp1185 t1193 x1342 x1343)) else (tidewrackref05_Runes_j3 p0 l952 x955 lp1185 t1193 x1342 x1343)
def tidewrackref05_Runes_l2 (K : Nat) (p0 : ByteArray) : Nat → (List Int) → Int → Option ((List Int) × Int)
  | 0, _, _ => none
  | k1184 + 1, l952, x955 => bif (decide (x955 < ((p0).size : Int))) then (if 0 ≤ x955 ∧ x955 < ((p0).size : Int) then (bif (decide ((IntKind.wrap .i64 (bt p0 x955)) < (128 : Int))) then (if (l952).length + (([(IntKind.wrap .i64 (bt p0 x955))] : List Int)).length ≤ 1000000000 then ((tidewrackref05_Runes_l2 K p0 k1184) (l952 ++ ([(IntKind.wrap .i64 (bt p0 x955))] : List Int)) (IntKind.wrap .i64 (x955 + 1))) else none) else ((tidewrackref05_need (IntKind.wrap .i64 (bt p0 x955))).bind fun t1193 => (bif (t1193.1 == (0 : Int)) then (if (l952).length + (([65533] : List Int)).length ≤ 1000000000 then ((tidewrackref05_Runes_l2 K p0 k1184) (l952 ++ ([65533] : List Int)) (IntKind.wrap .i64 (x955 + 1))) else none) else (if 0 ≤ t1193.1 ∧ t1193.1 < ((([0, 32, 16, 8] : List Int)).length : Int) then (if (rdD 0 ([0, 32, 16, 8] : List Int) t1193.1) ≠ 0 then (tidewrackref05_Runes_l4 p0 l952 x955 (tidewrackref05_Runes_l2 K p0 k1184) t1193 K t1193.2.1 t1193.2.2 (Int.tmod (IntKind.wrap .i64 (bt p0 x955)) (rdD 0 ([0, 32, 16, 8] : List Int) t1193.1)) 1) else none) else none)))) else none) else (tidewrackref05_Runes_j1 l952)
def tidewrackref05_Runes (K : Nat) (p0 : ByteArray) : Option ((List Int) × Int) :=
  tidewrackref05_Runes_l2 K p0 K ([] : List Int) 0

/-! tidewrack/tidewrackref07.prints -/
def tidewrackref07_prints_j1 (l85 : List T47) : Option (List T47) :=
  some l85
def tidewrackref07_prints_l2 (p0 : List Int) : Nat → (List T47) → Int → Option (List T47)
  | 0, _, _ => none
  | k134 + 1, l112, x115 => bif (decide (x115 < ((p0).length : Int))) then (if 0 ≤ x115 ∧ x115 < ((p0).length : Int) then (if (l112).length + (([(⟨1, (rdD 0 p0 x115), 0, false, ([] : List Int), (⟨#[]⟩ : ByteArray)⟩ : T47)] : List T47)).length ≤ 1000000000 then ((tidewrackref07_prints_l2 p0 k134) (l112 ++ ([(⟨1, (rdD 0 p0 x115), 0, false, ([] : List Int), (⟨#[]⟩ : ByteArray)⟩ : T47)] : List T47)) (IntKind.wrap .i64 (x115 + 1))) else none) else none) else (tidewrackref07_prints_j1 l112)
def tidewrackref07_prints (K : Nat) (p0 : List Int) : Option (List T47) :=
  tidewrackref07_prints_l2 p0 K ([] : List T47) 0

/-! tidewrack/tidewrackref07.Titles -/
def tidewrackref07_Titles_j2 (x10 : ByteArray) (x25 : Bool) : Option (List T47) :=
  bif x25 then (if (2 : Int) ≤ ((x10).size : Int) then (some ([(⟨5, 0, 0, false, ([] : List Int), (ByteArray.extract x10 (Int.toNat 2) (x10).size)⟩ : T47)] : List T47)) else none) else (some ([] : List T47))
def tidewrackref07_Titles_j1 (x10 : ByteArray) : Option (List T47) :=
  bif (decide (((x10).size : Int) > (1 : Int))) then (if 0 ≤ (0 : Int) ∧ (0 : Int) < ((x10).size : Int) then (bif ((bt x10 (0 : Int)) == (48 : Int)) then (if 0 ≤ (1 : Int) ∧ (1 : Int) < ((x10).size : Int) then (tidewrackref07_Titles_j2 x10 ((bt x10 (1 : Int)) == (59 : Int))) else none) else (bif ((bt x10 (0 : Int)) == (50 : Int)) then (if 0 ≤ (1 : Int) ∧ (1 : Int) < ((x10).size : Int) then (tidewrackref07_Titles_j2 x10 ((bt x10 (1 : Int)) == (59 : Int))) else none) else (tidewrackref07_Titles_j2 x10 false))) else none) else (tidewrackref07_Titles_j2 x10 false)
def tidewrackref07_Titles (p0 : ByteArray) : Option (List T47) :=
  bif (decide (((p0).size : Int) > (200 : Int))) then (if (200 : Int) ≤ ((p0).size : Int) then (tidewrackref07_Titles_j1 (ByteArray.extract p0 0 (Int.toNat 200))) else none) else (tidewrackref07_Titles_j1 p0)

/-! tidewrack/tidewrackref07.Order -/
def tidewrackref07_Order_j2 (p1 : Int) (x36 : Bool) (l280 : List Int) : Option (List T47) :=
  some ([(⟨4, 0, p1, x36, l280, (⟨#[]⟩ : ByteArray)⟩ : T47)] : List T47)
def tidewrackref07_Order_j5 (l369 : List Int) (x372 : Int) (x373 : Int) (lp447 : (List Int) → Int → Int → Option (List T47)) : Option (List T47) :=
  bif (decide (((l369).length : Int) < (16 : Int))) then (if (l369).length + (([x372] : List Int)).length ≤ 1000000000 then (lp447 (l369 ++ ([x372] : List Int)) 0 (IntKind.wrap .i64 (x373 + 1))) else none) else (lp447 l369 0 (IntKind.wrap .i64 (x373 + 1)))
def tidewrackref07_Order_j4 (x35 : ByteArray) (l369 : List Int) (x372 : Int) (x373 : Int) (lp447 : (List Int) → Int → Int → Option (List T47)) : Option (List T47) :=
  bif (decide (x373 < ((x35).size : Int))) then (if 0 ≤ x373 ∧ x373 < ((x35).size : Int) then (bif ((bt x35 x373) != (59 : Int)) then (bif ((bt x35 x373) != (58 : Int)) then (some ([] : List T47)) else (tidewrackref07_Order_j5 l369 x372 x373 lp447)) else (tidewrackref07_Order_j5 l369 x372 x373 lp447)) else none) else (tidewrackref07_Order_j5 l369 x372 x373 lp447)
def tidewrackref07_Order_j6 (x35 : ByteArray) (l369 : List Int) (x372 : Int) (x373 : Int) (lp447 : (List Int) → Int → Int → Option (List T47)) (x513 : Bool) : Option (List T47) :=
  bif x513 then (if 0 ≤ x373 ∧ x373 < ((x35).size : Int) then (lp447 l369 (mnI 9999 (IntKind.wrap .i64 ((IntKind.wrap .i64 ((IntKind.wrap .i64 (10 * x372)) + (IntKind.wrap .i64 (bt x35 x373)))) - 48))) (IntKind.wrap .i64 (x373 + 1))) else none) else (tidewrackref07_Order_j4 x35 l369 x372 x373 lp447)
def tidewrackref07_Order_l3 (p1 : Int) (x35 : ByteArray) (x36 : Bool) : Nat → (List Int) → Int → Int → Option (List T47)
  | 0, _, _, _ => none
  | k446 + 1, l369, x372, x373 => bif (decide (x373 ≤ ((x35).size : Int))) then (bif (decide (x373 < ((x35).size : Int))) then (if 0 ≤ x373 ∧ x373 < ((x35).size : Int) then (bif (decide ((bt x35 x373) ≥ (48 : Int))) then (tidewrackref07_Order_j6 x35 l369 x372 x373 (tidewrackref07_Order_l3 p1 x35 x36 k446) (decide ((bt x35 x373) ≤ (57 : Int)))) else (tidewrackref07_Order_j6 x35 l369 x372 x373 (tidewrackref07_Order_l3 p1 x35 x36 k446) false)) else none) else (tidewrackref07_Order_j6 x35 l369 x372 x373 (tidewrackref07_Order_l3 p1 x35 x36 k446) false)) else (tidewrackref07_Order_j2 p1 x36 l369)
def tidewrackref07_Order_j1 (K : Nat) (p1 : Int) (x35 : ByteArray) (x36 : Bool) : Option (List T47) :=
  bif (ByteArray.toList x35 == ByteArray.toList (⟨#[]⟩ : ByteArray)) then (some ([(⟨4, 0, p1, x36, ([] : List Int), (⟨#[]⟩ : ByteArray)⟩ : T47)] : List T47)) else (tidewrackref07_Order_l3 p1 x35 x36 K ([] : List Int) 0 0)
def tidewrackref07_Order_j7 (K : Nat) (p0 : ByteArray) (p1 : Int) (x535 : Bool) : Option (List T47) :=
  bif x535 then (if (1 : Int) ≤ ((p0).size : Int) then (tidewrackref07_Order_j1 K p1 (ByteArray.extract p0 (Int.toNat 1) (p0).size) true) else none) else (tidewrackref07_Order_j1 K p1 p0 false)
def tidewrackref07_Order (K : Nat) (p0 : ByteArray) (p1 : Int) : Option (List T47) :=
  bif (!(ByteArray.toList p0 == ByteArray.toList (⟨#[]⟩ : ByteArray))) then (if 0 ≤ (0 : Int) ∧ (0 : Int) < ((p0).size : Int) then (tidewrackref07_Order_j7 K p0 p1 ((bt p0 (0 : Int)) == (63 : Int))) else none) else (tidewrackref07_Order_j7 K p0 p1 false)

/-! tidewrack/tidewrackref07.Read -/
def tidewrackref07_Read_j1 (l1165 : List T47) : Option (List T47) :=
  some l1165
def tidewrackref07_Read_j5 (K : Nat) (p0 : ByteArray) (x1553 : Int) (x1555 : ByteArray) (lp1935 : (List T47) → Int → Int → ByteArray → Option (List T47)) (l2054 : List T47) (x2057 : Int) (x2082 : Bool) : Option (List T47) :=
  bif x2082 then (if ((x1555.size + (strOfNums ([(IntKind.wrap .u8 (IntKind.wrap .i64 (bt p0 x2057)))] : List Int)).size : Nat) : Int) ≤ 9223372036854775807 then (lp1935 l2054 x1553 (IntKind.wrap .i64 (x2057 + 1)) (x1555 ++ (strOfNums ([(IntKind.wrap .u8 (IntKind.wrap .i64 (bt p0 x2057)))] : List Int)))) else none) else ((tidewrackref07_Order K x1555 (IntKind.wrap .i64 (bt p0 x2057))).bind fun t2088 => (if (l2054).length + (t2088).length ≤ 1000000000 then (lp1935 (l2054 ++ t2088) 0 (IntKind.wrap .i64 (x2057 + 1)) x1555) else none))
def tidewrackref07_Read_j4 (K : Nat) (p0 : ByteArray) (x1553 : Int) (x1555 : ByteArray) (lp1935 : (List T47) → Int → Int → ByteArray → Option (List T47)) (l2054 : List T47) (x2057 : Int) : Option (List T47) :=
  bif ((IntKind.wrap .i64 (bt p0 x2057)) == (27 : Int)) then (lp1935 l2054 1 (IntKind.wrap .i64 (x2057 + 1)) x1555) else (bif (decide ((IntKind.wrap .i64 (bt p0 x2057)) < (32 : Int))) then (if (l2054).length + (([(⟨2, 0, (IntKind.wrap .i64 (bt p0 x2057)), false, ([] : List Int), (⟨#[]⟩ : ByteArray)⟩ : T47)] : List T47)).length ≤ 1000000000 then (lp1935 (l2054 ++ ([(⟨2, 0, (IntKind.wrap .i64 (bt p0 x2057)), false, ([] : List Int), (⟨#[]⟩ : ByteArray)⟩ : T47)] : List T47)) x1553 (IntKind.wrap .i64 (x2057 + 1)) x1555) else none) else (bif ((IntKind.wrap .i64 (bt p0 x2057)) == (127 : Int)) then (lp1935 l2054 x1553 (IntKind.wrap .i64 (x2057 + 1)) x1555) else (bif (x1553 == (1 : Int)) then (bif ((IntKind.wrap .i64 (bt p0 x2057)) == (91 : Int)) then (lp1935 l2054 3 (IntKind.wrap .i64 (x2057 + 1)) (⟨#[]⟩ : ByteArray)) else (bif ((IntKind.wrap .i64 (bt p0 x2057)) == (93 : Int)) then (lp1935 l2054 4 (IntKind.wrap .i64 (x2057 + 1)) (⟨#[]⟩ : ByteArray)) else (bif (decide ((IntKind.wrap .i64 (bt p0 x2057)) < (48 : Int))) then (lp1935 l2054 2 (IntKind.wrap .i64 (x2057 + 1)) (⟨#[]⟩ : ByteArray)) else (bif (decide ((IntKind.wrap .i64 (bt p0 x2057)) < (127 : Int))) then (if (l2054).length + (([(⟨3, 0, (IntKind.wrap .i64 (bt p0 x2057)), false, ([] : List Int), (⟨#[]⟩ : ByteArray)⟩ : T47)] : List T47)).length ≤ 1000000000 then (lp1935 (l2054 ++ ([(⟨3, 0, (IntKind.wrap .i64 (bt p0 x2057)), false, ([] : List Int), (⟨#[]⟩ : ByteArray)⟩ : T47)] : List T47)) 0 (IntKind.wrap .i64 (x2057 + 1)) (⟨#[]⟩ : ByteArray)) else none) else (lp1935 l2054 0 (IntKind.wrap .i64 (x2057 + 1)) (⟨#[]⟩ : ByteArray)))))) else (bif (x1553 == (2 : Int)) then (bif (decide ((IntKind.wrap .i64 (bt p0 x2057)) ≥ (48 : Int))) then (lp1935 l2054 0 (IntKind.wrap .i64 (x2057 + 1)) x1555) else (lp1935 l2054 x1553 (IntKind.wrap .i64 (x2057 + 1)) x1555)) else (bif (x1553 == (3 : Int)) then (bif (decide ((IntKind.wrap .i64 (bt p0 x2057)) < (64 : Int))) then (tidewrackref07_Read_j5 K p0 x1553 x1555 lp1935 l2054 x2057 true) else (tidewrackref07_Read_j5 K p0 x1553 x1555 lp1935 l2054 x2057 (decide ((IntKind.wrap .i64 (bt p0 x2057)) > (126 : Int))))) else (lp1935 l2054 x1553 (IntKind.wrap .i64 (x2057 + 1)) x1555))))))
def tidewrackref07_Read_j6 (p0 : ByteArray) (x1553 : Int) (x1555 : ByteArray) (lp1935 : (List T47) → Int → Int → ByteArray → Option (List T47)) (l2054 : List T47) (x2057 : Int) (x2157 : Bool) : Option (List T47) :=
  bif x2157 then (lp1935 l2054 0 (IntKind.wrap .i64 (x2057 + 1)) x1555) else (bif ((IntKind.wrap .i64 (bt p0 x2057)) != (27 : Int)) then (if ((x1555.size + (strOfNums ([(IntKind.wrap .u8 (IntKind.wrap .i64 (bt p0 x2057)))] : List Int)).size : Nat) : Int) ≤ 9223372036854775807 then (lp1935 l2054 x1553 (IntKind.wrap .i64 (x2057 + 1)) (x1555 ++ (strOfNums ([(IntKind.wrap .u8 (IntKind.wrap .i64 (bt p0 x2057)))] : List Int)))) else none) else (bif ((IntKind.wrap .i64 (x2057 + 1)) == ((p0).size : Int)) then (some l2054) else (if 0 ≤ (IntKind.wrap .i64 (x2057 + 1)) ∧ (IntKind.wrap .i64 (x2057 + 1)) < ((p0).size : Int) then (bif ((bt p0 (IntKind.wrap .i64 (x2057 + 1))) == (92 : Int)) then ((tidewrackref07_Titles x1555).bind fun t2167 => (if (l2054).length + (t2167).length ≤ 1000000000 then (lp1935 (l2054 ++ t2167) 0 (IntKind.wrap .i64 ((IntKind.wrap .i64 (x2057 + 1)) + 1)) x1555) else none)) else (lp1935 l2054 1 (IntKind.wrap .i64 (x2057 + 1)) x1555)) else none)))
def tidewrackref07_Read_j3 (K : Nat) (p0 : ByteArray) (x1553 : Int) (x1555 : ByteArray) (lp1935 : (List T47) → Int → Int → ByteArray → Option (List T47)) (l2054 : List T47) (x2057 : Int) : Option (List T47) :=
  if 0 ≤ x2057 ∧ x2057 < ((p0).size : Int) then (bif (x1553 == (4 : Int)) then (bif ((IntKind.wrap .i64 (bt p0 x2057)) == (7 : Int)) then ((tidewrackref07_Titles x1555).bind fun t2195 => (if (l2054).length + (t2195).length ≤ 1000000000 then (lp1935 (l2054 ++ t2195) 0 (IntKind.wrap .i64 (x2057 + 1)) x1555) else none)) else (bif ((IntKind.wrap .i64 (bt p0 x2057)) == (24 : Int)) then (tidewrackref07_Read_j6 p0 x1553 x1555 lp1935 l2054 x2057 true) else (tidewrackref07_Read_j6 p0 x1553 x1555 lp1935 l2054 x2057 ((IntKind.wrap .i64 (bt p0 x2057)) == (26 : Int))))) else (bif ((IntKind.wrap .i64 (bt p0 x2057)) == (24 : Int)) then (lp1935 l2054 0 (IntKind.wrap .i64 (x2057 + 1)) x1555) else (bif ((IntKind.wrap .i64 (bt p0 x2057)) == (26 : Int)) then (lp1935 l2054 0 (IntKind.wrap .i64 (x2057 + 1)) x1555) else (tidewrackref07_Read_j4 K p0 x1553 x1555 lp1935 l2054 x2057)))) else none
def tidewrackref07_Read_j7 (K : Nat) (p0 : ByteArray) (l1550 : List T47) (x1553 : Int) (x1554 : Int) (x1555 : ByteArray) (lp1935 : (List T47) → Int → Int → ByteArray → Option (List T47)) (x2240 : Int) : Option (List T47) :=
  if 0 ≤ x2240 then (if x2240 ≤ ((p0).size : Int) then (if 0 ≤ x1554 then (if x1554 ≤ ((Int.toNat x2240 : Nat) : Int) then ((tidewrackref05_Runes K (ByteArray.extract p0 (Int.toNat x1554) (Int.toNat x2240))).bind fun t2249 => ((tidewrackref07_prints K t2249.1).bind fun t2261 => (if (l1550).length + (t2261).length ≤ 1000000000 then (bif (x2240 == ((p0).size : Int)) then (some (l1550 ++ t2261)) else (bif (decide (t2249.2 > (0 : Int))) then (if ((l1550 ++ t2261)).length + (([(⟨1, 65533, 0, false, ([] : List Int), (⟨#[]⟩ : ByteArray)⟩ : T47)] : List T47)).length ≤ 1000000000 then (tidewrackref07_Read_j3 K p0 x1553 x1555 lp1935 ((l1550 ++ t2261) ++ ([(⟨1, 65533, 0, false, ([] : List Int), (⟨#[]⟩ : ByteArray)⟩ : T47)] : List T47)) x2240) else none) else (tidewrackref07_Read_j3 K p0 x1553 x1555 lp1935 (l1550 ++ t2261) x2240))) else none))) else none) else none) else none) else none
def tidewrackref07_Read_l8 (K : Nat) (p0 : ByteArray) (l1550 : List T47) (x1553 : Int) (x1554 : Int) (x1555 : ByteArray) (lp1935 : (List T47) → Int → Int → ByteArray → Option (List T47)) : Nat → Int → Option (List T47)
  | 0, _ => none
  | k2307 + 1, x2301 => bif (decide (x2301 < ((p0).size : Int))) then (if 0 ≤ x2301 ∧ x2301 < ((p0).size : Int) then (bif (decide ((bt p0 x2301) ≥ (32 : Int))) then (bif ((bt p0 x2301) != (127 : Int)) then ((tidewrackref07_Read_l8 K p0 l1550 x1553 x1554 x1555 lp1935 k2307) (IntKind.wrap .i64 (x2301 + 1))) else (tidewrackref07_Read_j7 K p0 l1550 x1553 x1554 x1555 lp1935 x2301)) else (tidewrackref07_Read_j7 K p0 l1550 x1553 x1554 x1555 lp1935 x2301)) else none) else (tidewrackref07_Read_j7 K p0 l1550 x1553 x1554 x1555 lp1935 x2301)
def tidewrackref07_Read_l2 (K : Nat) (p0 : ByteArray) : Nat → (List T47) → Int → Int → ByteArray → Option (List T47)
  | 0, _, _, _, _ => none
  | k1934 + 1, l1550, x1553, x1554, x1555 => bif (decide (x1554 < ((p0).size : Int))) then (bif (x1553 == (0 : Int)) then (tidewrackref07_Read_l8 K p0 l1550 x1553 x1554 x1555 (tidewrackref07_Read_l2 K p0 k1934) K x1554) else (tidewrackref07_Read_j3 K p0 x1553 x1555 (tidewrackref07_Read_l2 K p0 k1934) l1550 x1554)) else (tidewrackref07_Read_j1 l1550)
def tidewrackref07_Read (K : Nat) (p0 : ByteArray) : Option (List T47) :=
  tidewrackref07_Read_l2 K p0 K ([] : List T47) 0 0 (⟨#[]⟩ : ByteArray)

/-! tidewrack/tidewracklaw07.Is -/
def tidewracklaw07_Is_j1 : Option Bool :=
  some true
def tidewracklaw07_Is_l2 (K : Nat) (p0 : List T37) (p1 : List T47) : Nat → Int → Option Bool
  | 0, _ => none
  | k512 + 1, x417 => bif (decide (x417 < ((p1).length : Int))) then (if 0 ≤ x417 ∧ x417 < ((p1).length : Int) then (if 0 ≤ x417 ∧ x417 < ((p0).length : Int) then (bif (((rdD zT37 p0 x417).Kind) != ((rdD zT47 p1 x417).Kind)) then (some false) else (bif ((IntKind.wrap .i64 ((rdD zT37 p0 x417).Rune)) != ((rdD zT47 p1 x417).Rune)) then (some false) else (bif ((IntKind.wrap .i64 ((rdD zT37 p0 x417).Byte)) != ((rdD zT47 p1 x417).Byte)) then (some false) else (bif (!(((rdD zT37 p0 x417).Private) == ((rdD zT47 p1 x417).Private))) then (some false) else ((tidewracklaw01_Same K ((rdD zT37 p0 x417).Nums) ((rdD zT47 p1 x417).Nums)).bind fun t565 => (bif (!t565) then (some false) else (bif (!(ByteArray.toList ((rdD zT37 p0 x417).Text) == ByteArray.toList ((rdD zT47 p1 x417).Text))) then (some false) else ((tidewracklaw07_Is_l2 K p0 p1 k512) (IntKind.wrap .i64 (x417 + 1)))))))))) else none) else none) else (tidewracklaw07_Is_j1)
def tidewracklaw07_Is (K : Nat) (p0 : List T37) (p1 : List T47) : Option Bool :=
  bif (((p0).length : Int) != ((p1).length : Int)) then (some false) else (tidewracklaw07_Is_l2 K p0 p1 K 0)

/-! tidewrack/tidewracklaw07.SeqReads -/
def tidewracklaw07_SeqReads (K : Nat) (p0 : ByteArray) : Option Bool :=
  (tidewracklaw07_awake K).bind fun t4 => (bif (!t4) then (some false) else ((tidewracklaw01_Cut p0 300).bind fun t13 => ((seq_Parser_Feed K (⟨0, false, false, false, false, 0, ([] : List Int), (⟨#[]⟩ : ByteArray), 0, 0, 0, ([] : List T37)⟩ : T30) t13).bind fun t26 => ((tidewrackref07_Read K t13).bind fun t46 => ((tidewracklaw07_Is K t26.1 t46).bind fun t58 => (some t58))))))

/-! tidewrack/tidewracklaw07.SeqGround -/
def tidewracklaw07_SeqGround (K : Nat) (p0 : ByteArray) : Option Bool :=
  (tidewracklaw07_awake K).bind fun t4 => (bif (!t4) then (some false) else ((tidewracklaw01_Cut p0 200).bind fun t18 => ((seq_Parser_Feed K (⟨0, false, false, false, false, 0, ([] : List Int), (⟨#[]⟩ : ByteArray), 0, 0, 0, ([] : List T37)⟩ : T30) t18).bind fun t26 => ((seq_Parser_Feed K (⟨t26.2.state, t26.2.order_private_, t26.2.order_wrong, t26.2.order_any, t26.2.order_some, t26.2.order_n, t26.2.order_nums, t26.2.text, t26.2.runes_Lead, t26.2.runes_Rune, t26.2.runes_Need, ([] : List T37)⟩ : T30) (⟨#[24, 122]⟩ : ByteArray)).bind fun t46 => (bif (decide (((t46.1).length : Int) ≥ (1 : Int))) then (bif (decide (((t46.1).length : Int) ≤ (2 : Int))) then (if 0 ≤ (IntKind.wrap .i64 (((t46.1).length : Int) - 1)) ∧ (IntKind.wrap .i64 (((t46.1).length : Int) - 1)) < ((t46.1).length : Int) then (bif (((rdD zT37 t46.1 (IntKind.wrap .i64 (((t46.1).length : Int) - 1))).Kind) == (1 : Int)) then (bif (((rdD zT37 t46.1 (IntKind.wrap .i64 (((t46.1).length : Int) - 1))).Rune) == (122 : Int)) then (bif (((t46.1).length : Int) == (1 : Int)) then (some true) else (if 0 ≤ (0 : Int) ∧ (0 : Int) < ((t46.1).length : Int) then (some (((rdD zT37 t46.1 0).Rune) == (65533 : Int))) else none)) else (some false)) else (some false)) else none) else (some false)) else (some false))))))

/-! tidewrack/tidewracklaw07.SeqAnew -/
def tidewracklaw07_SeqAnew_j1 (K : Nat) (t55 : (List T37) × T30) (t75 : List T47) (x105 : Bool) : Option Bool :=
  bif x105 then (if (1 : Int) ≤ ((t55.1).length : Int) then ((tidewracklaw07_Is K (List.drop (Int.toNat 1) (List.take (t55.1).length t55.1)) t75).bind fun t125 => (some t125)) else none) else ((tidewracklaw07_Is K t55.1 t75).bind fun t111 => (some t111))
def tidewracklaw07_SeqAnew (K : Nat) (p0 : ByteArray) (p1 : ByteArray) : Option Bool :=
  (tidewracklaw07_awake K).bind fun t4 => (bif (!t4) then (some false) else ((tidewracklaw01_Cut p0 150).bind fun t18 => ((seq_Parser_Feed K (⟨0, false, false, false, false, 0, ([] : List Int), (⟨#[]⟩ : ByteArray), 0, 0, 0, ([] : List T37)⟩ : T30) t18).bind fun t26 => ((tidewracklaw01_Cut p1 150).bind fun t46 => (if (((⟨#[24]⟩ : ByteArray).size + t46.size : Nat) : Int) ≤ 9223372036854775807 then ((seq_Parser_Feed K (⟨t26.2.state, t26.2.order_private_, t26.2.order_wrong, t26.2.order_any, t26.2.order_some, t26.2.order_n, t26.2.order_nums, t26.2.text, t26.2.runes_Lead, t26.2.runes_Rune, t26.2.runes_Need, ([] : List T37)⟩ : T30) ((⟨#[24]⟩ : ByteArray) ++ t46)).bind fun t55 => ((tidewrackref07_Read K t46).bind fun t75 => (bif (((t55.1).length : Int) == (IntKind.wrap .i64 (((t75).length : Int) + 1))) then (if 0 ≤ (0 : Int) ∧ (0 : Int) < ((t55.1).length : Int) then (bif (((rdD zT37 t55.1 0).Kind) == (1 : Int)) then (tidewracklaw07_SeqAnew_j1 K t55 t75 (((rdD zT37 t55.1 0).Rune) == (65533 : Int))) else (tidewracklaw07_SeqAnew_j1 K t55 t75 false)) else none) else (tidewracklaw07_SeqAnew_j1 K t55 t75 false)))) else none)))))

/-! tidewrack/tidewracklaw07.SeqBounds -/
def tidewracklaw07_SeqBounds_j1 : Option Bool :=
  some true
def tidewracklaw07_SeqBounds_j3 (x689 : Int) (lp840 : Int → Option Bool) : Option Bool :=
  lp840 (IntKind.wrap .i64 (x689 + 1))
def tidewracklaw07_SeqBounds_l5 (t516 : (List T37) × T30) (x689 : Int) (lp840 : Int → Option Bool) : Nat → Int → Option Bool
  | 0, _ => none
  | k971 + 1, x964 => bif (decide (x964 < (((rdD zT37 t516.1 x689).Nums).length : Int))) then (if 0 ≤ x964 ∧ x964 < (((rdD zT37 t516.1 x689).Nums).length : Int) then (bif (decide ((rdD 0 ((rdD zT37 t516.1 x689).Nums) x964) < (0 : Int))) then (some false) else (bif (decide ((rdD 0 ((rdD zT37 t516.1 x689).Nums) x964) > (9999 : Int))) then (some false) else ((tidewracklaw07_SeqBounds_l5 t516 x689 lp840 k971) (IntKind.wrap .i64 (x964 + 1))))) else none) else (tidewracklaw07_SeqBounds_j3 x689 lp840)
def tidewracklaw07_SeqBounds_j4 (K : Nat) (t516 : (List T37) × T30) (x689 : Int) (lp840 : Int → Option Bool) : Option Bool :=
  tidewracklaw07_SeqBounds_l5 t516 x689 lp840 K 0
def tidewracklaw07_SeqBounds_l2 (K : Nat) (t516 : (List T37) × T30) : Nat → Int → Option Bool
  | 0, _ => none
  | k839 + 1, x689 => bif (decide (x689 < ((t516.1).length : Int))) then (if 0 ≤ x689 ∧ x689 < ((t516.1).length : Int) then (bif (decide (((rdD zT37 t516.1 x689).Kind) < (1 : Int))) then (some false) else (bif (decide (((rdD zT37 t516.1 x689).Kind) > (5 : Int))) then (some false) else (bif (decide ((((rdD zT37 t516.1 x689).Nums).length : Int) > (16 : Int))) then (some false) else (bif (decide ((((rdD zT37 t516.1 x689).Text).size : Int) > (198 : Int))) then (some false) else (bif (((rdD zT37 t516.1 x689).Kind) == (1 : Int)) then (bif (decide (((rdD zT37 t516.1 x689).Rune) < (32 : Int))) then (some false) else (bif (((rdD zT37 t516.1 x689).Rune) == (127 : Int)) then (some false) else (bif (((rdD zT37 t516.1 x689).Kind) == (2 : Int)) then (bif (decide (((rdD zT37 t516.1 x689).Byte) ≥ (32 : Int))) then (some false) else (tidewracklaw07_SeqBounds_j4 K t516 x689 (tidewracklaw07_SeqBounds_l2 K t516 k839))) else (tidewracklaw07_SeqBounds_j4 K t516 x689 (tidewracklaw07_SeqBounds_l2 K t516 k839))))) else (bif (((rdD zT37 t516.1 x689).Kind) == (2 : Int)) then (bif (decide (((rdD zT37 t516.1 x689).Byte) ≥ (32 : Int))) then (some false) else (tidewracklaw07_SeqBounds_j4 K t516 x689 (tidewracklaw07_SeqBounds_l2 K t516 k839))) else (tidewracklaw07_SeqBounds_j4 K t516 x689 (tidewracklaw07_SeqBounds_l2 K t516 k839)))))))) else none) else (tidewracklaw07_SeqBounds_j1)
def tidewracklaw07_SeqBounds (K : Nat) (p0 : ByteArray) : Option Bool :=
  (tidewracklaw07_awake K).bind fun t4 => (bif (!t4) then (some false) else ((tidewracklaw01_Cut p0 400).bind fun t508 => ((seq_Parser_Feed K (⟨0, false, false, false, false, 0, ([] : List Int), (⟨#[]⟩ : ByteArray), 0, 0, 0, ([] : List T37)⟩ : T30) t508).bind fun t516 => (tidewracklaw07_SeqBounds_l2 K t516 K 0))))

/-! slices.Clone[[]int,int] -/
def slices_Clone (p0 : List Int) : Option (List Int) :=
  if (([] : List Int)).length + (p0).length ≤ 1000000000 then (some (([] : List Int) ++ p0)) else none

/-! (*tidewrack/seq.Parser).Clone -/
def seq_Parser_Clone (p0 : T30) : Option T30 :=
  (slices_Clone p0.order_nums).bind fun t13 => (some (⟨p0.state, p0.order_private_, p0.order_wrong, p0.order_any, p0.order_some, p0.order_n, t13, p0.text, p0.runes_Lead, p0.runes_Rune, p0.runes_Need, ([] : List T37)⟩ : T30))

/-! tidewrack/tidewracklaw07.SeqParts -/
def tidewracklaw07_SeqParts_j1 (K : Nat) (t13 : ByteArray) (x839 : Int) (x840 : Bool) (x841 : Bool) (x842 : Bool) (x843 : Bool) (x844 : Int) (l847 : List Int) (x850 : ByteArray) (x851 : Int) (x852 : Int) (x853 : Int) (l856 : List T37) (x859 : ByteArray) : Option Bool :=
  (seq_Parser_Feed K (⟨x839, x840, x841, x842, x843, x844, l847, x850, x851, x852, x853, ([] : List T37)⟩ : T30) x859).bind fun t864 => (if (l856).length + (t864.1).length ≤ 1000000000 then ((tidewrackref07_Read K t13).bind fun t892 => ((tidewracklaw07_Is K (l856 ++ t864.1) t892).bind fun t904 => (some t904))) else none)
def tidewracklaw07_SeqParts_l2 (K : Nat) (p1 : List Int) (t13 : ByteArray) : Nat → Int → Bool → Bool → Bool → Bool → Int → (List Int) → ByteArray → Int → Int → Int → (List T37) → ByteArray → Int → Option Bool
  | 0, _, _, _, _, _, _, _, _, _, _, _, _, _, _ => none
  | k1494 + 1, x1293, x1294, x1295, x1296, x1297, x1298, l1301, x1304, x1305, x1306, x1307, l1310, x1313, x1314 => bif (decide (x1314 < ((p1).length : Int))) then (if 0 ≤ x1314 ∧ x1314 < ((p1).length : Int) then ((seq_Parser_Clone (⟨x1293, x1294, x1295, x1296, x1297, x1298, l1301, x1304, x1305, x1306, x1307, ([] : List T37)⟩ : T30)).bind fun t1503 => (if 0 ≤ (mnI (IntKind.wrap .i64 (1 + (bits .and .i64 (rdD 0 p1 x1314) 15))) ((x1313).size : Int)) then (if (mnI (IntKind.wrap .i64 (1 + (bits .and .i64 (rdD 0 p1 x1314) 15))) ((x1313).size : Int)) ≤ ((x1313).size : Int) then ((seq_Parser_Feed K (⟨x1293, x1294, x1295, x1296, x1297, x1298, l1301, x1304, x1305, x1306, x1307, ([] : List T37)⟩ : T30) (ByteArray.extract x1313 0 (Int.toNat (mnI (IntKind.wrap .i64 (1 + (bits .and .i64 (rdD 0 p1 x1314) 15))) ((x1313).size : Int))))).bind fun t1609 => ((seq_Parser_Feed K t1503 (ByteArray.extract x1313 0 (Int.toNat (mnI (IntKind.wrap .i64 (1 + (bits .and .i64 (rdD 0 p1 x1314) 15))) ((x1313).size : Int))))).bind fun t1629 => (bif (((t1609.1).length : Int) != ((t1629.1).length : Int)) then (some false) else ((seq_Parser_Feed K (⟨t1629.2.state, t1629.2.order_private_, t1629.2.order_wrong, t1629.2.order_any, t1629.2.order_some, t1629.2.order_n, t1629.2.order_nums, t1629.2.text, t1629.2.runes_Lead, t1629.2.runes_Rune, t1629.2.runes_Need, ([] : List T37)⟩ : T30) (⟨#[27, 91, 57]⟩ : ByteArray)).bind fun t1650 => (if (l1310).length + (t1609.1).length ≤ 1000000000 then ((tidewracklaw07_SeqParts_l2 K p1 t13 k1494) t1609.2.state t1609.2.order_private_ t1609.2.order_wrong t1609.2.order_any t1609.2.order_some t1609.2.order_n t1609.2.order_nums t1609.2.text t1609.2.runes_Lead t1609.2.runes_Rune t1609.2.runes_Need (l1310 ++ t1609.1) (ByteArray.extract x1313 (Int.toNat (mnI (IntKind.wrap .i64 (1 + (bits .and .i64 (rdD 0 p1 x1314) 15))) ((x1313).size : Int))) (x1313).size) (IntKind.wrap .i64 (x1314 + 1))) else none))))) else none) else none)) else none) else (tidewracklaw07_SeqParts_j1 K t13 x1293 x1294 x1295 x1296 x1297 x1298 l1301 x1304 x1305 x1306 x1307 l1310 x1313)
def tidewracklaw07_SeqParts (K : Nat) (p0 : ByteArray) (p1 : List Int) : Option Bool :=
  (tidewracklaw07_awake K).bind fun t4 => (bif (!t4) then (some false) else ((tidewracklaw01_Cut p0 200).bind fun t13 => (tidewracklaw07_SeqParts_l2 K p1 t13 K 0 false false false false 0 ([] : List Int) (⟨#[]⟩ : ByteArray) 0 0 0 ([] : List T37) t13 0)))

/-! tidewrack/tidewrackref05.Encode -/
def tidewrackref05_Encode_j1 (x12 : Int) : Option ByteArray :=
  bif (decide (x12 < (128 : Int))) then (some (strOfNums ([(IntKind.wrap .u8 x12)] : List Int))) else (bif (decide (x12 < (2048 : Int))) then (some (strOfNums ([(IntKind.wrap .u8 (IntKind.wrap .i64 (192 + (IntKind.wrap .i64 (Int.tdiv x12 64))))), (IntKind.wrap .u8 (IntKind.wrap .i64 (128 + (Int.tmod x12 64))))] : List Int))) else (bif (decide (x12 < (65536 : Int))) then (some (strOfNums ([(IntKind.wrap .u8 (IntKind.wrap .i64 (224 + (IntKind.wrap .i64 (Int.tdiv x12 4096))))), (IntKind.wrap .u8 (IntKind.wrap .i64 (128 + (Int.tmod (IntKind.wrap .i64 (Int.tdiv x12 64)) 64)))), (IntKind.wrap .u8 (IntKind.wrap .i64 (128 + (Int.tmod x12 64))))] : List Int))) else (some (strOfNums ([(IntKind.wrap .u8 (IntKind.wrap .i64 (240 + (IntKind.wrap .i64 (Int.tdiv x12 262144))))), (IntKind.wrap .u8 (IntKind.wrap .i64 (128 + (Int.tmod (IntKind.wrap .i64 (Int.tdiv x12 4096)) 64)))), (IntKind.wrap .u8 (IntKind.wrap .i64 (128 + (Int.tmod (IntKind.wrap .i64 (Int.tdiv x12 64)) 64)))), (IntKind.wrap .u8 (IntKind.wrap .i64 (128 + (Int.tmod x12 64))))] : List Int)))))
def tidewrackref05_Encode (p0 : Int) : Option ByteArray :=
  bif (decide (p0 < (0 : Int))) then (tidewrackref05_Encode_j1 65533) else (bif (decide (p0 > (1114111 : Int))) then (tidewrackref05_Encode_j1 65533) else (bif (decide (p0 ≥ (55296 : Int))) then (bif (decide (p0 ≤ (57343 : Int))) then (tidewrackref05_Encode_j1 65533) else (tidewrackref05_Encode_j1 p0)) else (tidewrackref05_Encode_j1 p0)))

/-! tidewrack/glyph.Encode -/
def glyph_Encode_j1 (l265 : List Int) : Option ByteArray :=
  some (strOfNums l265)
def glyph_Encode_j3 (l354 : List Int) (x357 : Int) (lp439 : (List Int) → Int → Option ByteArray) (x455 : Int) : Option ByteArray :=
  bif (decide (x455 < (128 : Int))) then (if (l354).length + (([(IntKind.wrap .u8 x455)] : List Int)).length ≤ 1000000000 then (lp439 (l354 ++ ([(IntKind.wrap .u8 x455)] : List Int)) (IntKind.wrap .i64 (x357 + 1))) else none) else (bif (decide (x455 < (2048 : Int))) then (if (l354).length + (([(IntKind.wrap .u8 (bits .or .i32 192 (Int.fdiv x455 (2 ^ min (Int.toNat 6) 32)))), (IntKind.wrap .u8 (bits .or .i32 128 (bits .and .i32 x455 63)))] : List Int)).length ≤ 1000000000 then (lp439 (l354 ++ ([(IntKind.wrap .u8 (bits .or .i32 192 (Int.fdiv x455 (2 ^ min (Int.toNat 6) 32)))), (IntKind.wrap .u8 (bits .or .i32 128 (bits .and .i32 x455 63)))] : List Int)) (IntKind.wrap .i64 (x357 + 1))) else none) else (bif (decide (x455 < (65536 : Int))) then (if (l354).length + (([(IntKind.wrap .u8 (bits .or .i32 224 (Int.fdiv x455 (2 ^ min (Int.toNat 12) 32)))), (IntKind.wrap .u8 (bits .or .i32 128 (bits .and .i32 (Int.fdiv x455 (2 ^ min (Int.toNat 6) 32)) 63))), (IntKind.wrap .u8 (bits .or .i32 128 (bits .and .i32 x455 63)))] : List Int)).length ≤ 1000000000 then (lp439 (l354 ++ ([(IntKind.wrap .u8 (bits .or .i32 224 (Int.fdiv x455 (2 ^ min (Int.toNat 12) 32)))), (IntKind.wrap .u8 (bits .or .i32 128 (bits .and .i32 (Int.fdiv x455 (2 ^ min (Int.toNat 6) 32)) 63))), (IntKind.wrap .u8 (bits .or .i32 128 (bits .and .i32 x455 63)))] : List Int)) (IntKind.wrap .i64 (x357 + 1))) else none) else (if (l354).length + (([(IntKind.wrap .u8 (bits .or .i32 240 (Int.fdiv x455 (2 ^ min (Int.toNat 18) 32)))), (IntKind.wrap .u8 (bits .or .i32 128 (bits .and .i32 (Int.fdiv x455 (2 ^ min (Int.toNat 12) 32)) 63))), (IntKind.wrap .u8 (bits .or .i32 128 (bits .and .i32 (Int.fdiv x455 (2 ^ min (Int.toNat 6) 32)) 63))), (IntKind.wrap .u8 (bits .or .i32 128 (bits .and .i32 x455 63)))] : List Int)).length ≤ 1000000000 then (lp439 (l354 ++ ([(IntKind.wrap .u8 (bits .or .i32 240 (Int.fdiv x455 (2 ^ min (Int.toNat 18) 32)))), (IntKind.wrap .u8 (bits .or .i32 128 (bits .and .i32 (Int.fdiv x455 (2 ^ min (Int.toNat 12) 32)) 63))), (IntKind.wrap .u8 (bits .or .i32 128 (bits .and .i32 (Int.fdiv x455 (2 ^ min (Int.toNat 6) 32)) 63))), (IntKind.wrap .u8 (bits .or .i32 128 (bits .and .i32 x455 63)))] : List Int)) (IntKind.wrap .i64 (x357 + 1))) else none)))
def glyph_Encode_l2 (p0 : List Int) : Nat → (List Int) → Int → Option ByteArray
  | 0, _, _ => none
  | k438 + 1, l354, x357 => bif (decide (x357 < ((p0).length : Int))) then (if 0 ≤ x357 ∧ x357 < ((p0).length : Int) then (bif (decide ((rdD 0 p0 x357) < (0 : Int))) then (glyph_Encode_j3 l354 x357 (glyph_Encode_l2 p0 k438) 65533) else (bif (decide ((rdD 0 p0 x357) > (1114111 : Int))) then (glyph_Encode_j3 l354 x357 (glyph_Encode_l2 p0 k438) 65533) else (bif (decide ((rdD 0 p0 x357) ≥ (55296 : Int))) then (bif (decide ((rdD 0 p0 x357) ≤ (57343 : Int))) then (glyph_Encode_j3 l354 x357 (glyph_Encode_l2 p0 k438) 65533) else (glyph_Encode_j3 l354 x357 (glyph_Encode_l2 p0 k438) (rdD 0 p0 x357))) else (glyph_Encode_j3 l354 x357 (glyph_Encode_l2 p0 k438) (rdD 0 p0 x357))))) else none) else (glyph_Encode_j1 l354)
def glyph_Encode (K : Nat) (p0 : List Int) : Option ByteArray :=
  glyph_Encode_l2 p0 K ([] : List Int) 0

/-! tidewrack/tidewracklaw07.SeqPrints -/
def tidewracklaw07_SeqPrints_j2 (K : Nat) (l468 : List T47) (l473 : List Int) : Option Bool :=
  (glyph_Encode K l473).bind fun t485 => ((seq_Parser_Feed K (⟨0, false, false, false, false, 0, ([] : List Int), (⟨#[]⟩ : ByteArray), 0, 0, 0, ([] : List T37)⟩ : T30) t485).bind fun t493 => ((tidewracklaw07_Is K t493.1 l468).bind fun t513 => (some t513)))
def tidewracklaw07_SeqPrints_j5 (p1 : ByteArray) (l576 : List T47) (l581 : List Int) (x584 : Int) (lp639 : (List T47) → (List Int) → Int → Option Bool) (x657 : Bool) : Option Bool :=
  bif x657 then (if 0 ≤ x584 ∧ x584 < ((p1).size : Int) then (if (l581).length + (([(IntKind.wrap .i32 (bt p1 x584))] : List Int)).length ≤ 1000000000 then (if (l576).length + (([(⟨1, (IntKind.wrap .i64 (bt p1 x584)), 0, false, ([] : List Int), (⟨#[]⟩ : ByteArray)⟩ : T47)] : List T47)).length ≤ 1000000000 then (lp639 (l576 ++ ([(⟨1, (IntKind.wrap .i64 (bt p1 x584)), 0, false, ([] : List Int), (⟨#[]⟩ : ByteArray)⟩ : T47)] : List T47)) (l581 ++ ([(IntKind.wrap .i32 (bt p1 x584))] : List Int)) (IntKind.wrap .i64 (x584 + 1))) else none) else none) else none) else (lp639 l576 l581 (IntKind.wrap .i64 (x584 + 1)))
def tidewracklaw07_SeqPrints_j4 (p1 : ByteArray) (l576 : List T47) (l581 : List Int) (x584 : Int) (lp639 : (List T47) → (List Int) → Int → Option Bool) : Option Bool :=
  if 0 ≤ x584 ∧ x584 < ((p1).size : Int) then (bif (decide ((bt p1 x584) ≥ (32 : Int))) then (tidewracklaw07_SeqPrints_j5 p1 l576 l581 x584 lp639 (decide ((bt p1 x584) < (127 : Int)))) else (tidewracklaw07_SeqPrints_j5 p1 l576 l581 x584 lp639 false)) else none
def tidewracklaw07_SeqPrints_l3 (K : Nat) (p1 : ByteArray) : Nat → (List T47) → (List Int) → Int → Option Bool
  | 0, _, _, _ => none
  | k638 + 1, l576, l581, x584 => bif (decide (x584 < ((p1).size : Int))) then (bif (decide (x584 < (50 : Int))) then (tidewracklaw07_SeqPrints_j4 p1 l576 l581 x584 (tidewracklaw07_SeqPrints_l3 K p1 k638)) else (tidewracklaw07_SeqPrints_j2 K l576 l581)) else (tidewracklaw07_SeqPrints_j2 K l576 l581)
def tidewracklaw07_SeqPrints_j1 (K : Nat) (p1 : ByteArray) (l266 : List T47) (l271 : List Int) : Option Bool :=
  tidewracklaw07_SeqPrints_l3 K p1 K l266 l271 0
def tidewracklaw07_SeqPrints_j8 (K : Nat) (p0 : List Int) (l772 : List T47) (l777 : List Int) (x780 : Int) (lp856 : (List T47) → (List Int) → Int → Option Bool) (x875 : Bool) : Option Bool :=
  bif x875 then ((tidewrackref05_Encode (IntKind.wrap .i64 (rdD 0 p0 x780))).bind fun t881 => ((tidewrackref05_Runes K t881).bind fun t889 => (if (l777).length + (([(rdD 0 p0 x780)] : List Int)).length ≤ 1000000000 then (if 0 ≤ (0 : Int) ∧ (0 : Int) < ((t889.1).length : Int) then (if (l772).length + (([(⟨1, (rdD 0 t889.1 0), 0, false, ([] : List Int), (⟨#[]⟩ : ByteArray)⟩ : T47)] : List T47)).length ≤ 1000000000 then (lp856 (l772 ++ ([(⟨1, (rdD 0 t889.1 0), 0, false, ([] : List Int), (⟨#[]⟩ : ByteArray)⟩ : T47)] : List T47)) (l777 ++ ([(rdD 0 p0 x780)] : List Int)) (IntKind.wrap .i64 (x780 + 1))) else none) else none) else none))) else (lp856 l772 l777 (IntKind.wrap .i64 (x780 + 1)))
def tidewracklaw07_SeqPrints_j7 (K : Nat) (p0 : List Int) (l772 : List T47) (l777 : List Int) (x780 : Int) (lp856 : (List T47) → (List Int) → Int → Option Bool) : Option Bool :=
  if 0 ≤ x780 ∧ x780 < ((p0).length : Int) then (bif (decide ((rdD 0 p0 x780) ≥ (32 : Int))) then (tidewracklaw07_SeqPrints_j8 K p0 l772 l777 x780 lp856 ((rdD 0 p0 x780) != (127 : Int))) else (tidewracklaw07_SeqPrints_j8 K p0 l772 l777 x780 lp856 false)) else none
def tidewracklaw07_SeqPrints_l6 (K : Nat) (p0 : List Int) (p1 : ByteArray) : Nat → (List T47) → (List Int) → Int → Option Bool
  | 0, _, _, _ => none
  | k855 + 1, l772, l777, x780 => bif (decide (x780 < ((p0).length : Int))) then (bif (decide (x780 < (30 : Int))) then (tidewracklaw07_SeqPrints_j7 K p0 l772 l777 x780 (tidewracklaw07_SeqPrints_l6 K p0 p1 k855)) else (tidewracklaw07_SeqPrints_j1 K p1 l772 l777)) else (tidewracklaw07_SeqPrints_j1 K p1 l772 l777)
def tidewracklaw07_SeqPrints (K : Nat) (p0 : List Int) (p1 : ByteArray) : Option Bool :=
  (tidewracklaw07_awake K).bind fun t4 => (bif (!t4) then (some false) else (tidewracklaw07_SeqPrints_l6 K p0 p1 K ([] : List T47) ([] : List Int) 0))

end Go.Proofs.YthddmlhmejnhlaaDoor
