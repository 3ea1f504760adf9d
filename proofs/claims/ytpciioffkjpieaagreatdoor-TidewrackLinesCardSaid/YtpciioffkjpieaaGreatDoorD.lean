/- Plain functions, printed by an own program: what the walked code computes. -/
import Derived.Test.YtpciioffkjpieaaGreatDoorY47
set_option linter.unusedVariables false
set_option linter.unusedSimpArgs false
namespace Go.Proofs.YtpciioffkjpieaaGreatDoor
open Go Go.Proofs.XC
structure T77 where
  Rune : Int
  Style : Int
  Part : Int
abbrev zT77 : T77 := ⟨0, 0, 0⟩
structure T65 where
  Cells : List T77
  Wrapped : Bool
abbrev zT65 : T65 := ⟨[], false⟩
structure T74 where
  w : Int
  l : List T65
structure T55 where
  g_w : Int
  g_l : List T65
  spot_x : Int
  spot_y : Int
  spot_style_Fore : Int
  spot_style_Back : Int
  spot_style_Bold : Bool
  spot_style_Under : Bool
  spot_style_Inverse : Bool
  saved_x : Int
  saved_y : Int
  saved_style_Fore : Int
  saved_style_Back : Int
  saved_style_Bold : Bool
  saved_style_Under : Bool
  saved_style_Inverse : Bool
  waiting : Bool
  top : Int
  bottom : Int
  wraps : Bool
  title : ByteArray
structure T46 where
  Rune : Int
  Style : Int
abbrev zT46 : T46 := ⟨0, 0⟩
structure T60 where
  l : List (List T46)
  chains : List Int
  begun : List T46
structure T30 where
  Lead : Int
  Rune : Int
  Need : Int
abbrev zT30 : T30 := ⟨0, 0, 0⟩
structure T37 where
  Kind : Int
  Rune : Int
  Byte : Int
  Private : Bool
  Nums : List Int
  Text : ByteArray
abbrev zT37 : T37 := ⟨0, 0, 0, false, [], (⟨#[]⟩ : ByteArray)⟩
structure T33 where
  state : Int
  order_private_ : Bool
  order_wrong : Bool
  order_any : Bool
  order_some : Bool
  order_n : Int
  order_nums : List Int
  text : ByteArray
  runes_Lead : Int
  runes_Rune : Int
  runes_Need : Int
  out : List T37
structure T141 where
  first : Int
  last : Int
  need : Int
  low : Int
  high : Int
abbrev zT141 : T141 := ⟨0, 0, 0, 0, 0⟩
structure T109 where
  from_ : Int
  to : Int
abbrev zT109 : T109 := ⟨0, 0⟩
structure T51 where
  Fore : Int
  Back : Int
  Bold : Bool
  Under : Bool
  Inverse : Bool
abbrev zT51 : T51 := ⟨0, 0, false, false, false⟩
structure T128 where
  b : List Int
def eqT77 (x y : T77) : Bool := ((x.Rune == y.Rune) && ((x.Style == y.Style) && ((x.Part == y.Part) && true)))
namespace WF
def wfBool (_ : Bool) : Prop := True
def wfStr (x : ByteArray) : Prop := x.size ≤ maxLen
def wfi64 (x : Int) : Prop := (Lit.int .i64 x).wf = true
def wfi32 (x : Int) : Prop := (Lit.int .i32 x).wf = true
def wfu8 (x : Int) : Prop := (Lit.int .u8 x).wf = true
def wfu32 (x : Int) : Prop := (Lit.int .u32 x).wf = true
def wfu64 (x : Int) : Prop := (Lit.int .u64 x).wf = true
def wfi8 (x : Int) : Prop := (Lit.int .i8 x).wf = true
def wfi16 (x : Int) : Prop := (Lit.int .i16 x).wf = true
def wfu16 (x : Int) : Prop := (Lit.int .u16 x).wf = true
def wfT77 (x : T77) : Prop := (Lit.int .i32 x.Rune).wf = true ∧ (Lit.int .i64 x.Style).wf = true ∧ (Lit.int .i64 x.Part).wf = true
def wfT65 (x : T65) : Prop := (∀ y ∈ x.Cells, wfT77 y) ∧ x.Cells.length ≤ maxLen
def wfT46 (x : T46) : Prop := (Lit.int .i32 x.Rune).wf = true ∧ (Lit.int .i64 x.Style).wf = true
def wfT60 (x : T60) : Prop := (∀ y ∈ x.l, (∀ z ∈ y, wfT46 z) ∧ y.length ≤ maxLen) ∧ x.l.length ≤ maxLen ∧ (∀ y ∈ x.chains, wfi64 y) ∧ x.chains.length ≤ maxLen ∧ (∀ y ∈ x.begun, wfT46 y) ∧ x.begun.length ≤ maxLen
def wfT30 (x : T30) : Prop := (Lit.int .u8 x.Lead).wf = true ∧ (Lit.int .i32 x.Rune).wf = true ∧ (Lit.int .i64 x.Need).wf = true
def wfT37 (x : T37) : Prop := (Lit.int .i64 x.Kind).wf = true ∧ (Lit.int .i32 x.Rune).wf = true ∧ (Lit.int .u8 x.Byte).wf = true ∧ (∀ y ∈ x.Nums, wfi64 y) ∧ x.Nums.length ≤ maxLen ∧ x.Text.size ≤ maxLen
def wfT141 (x : T141) : Prop := (Lit.int .u8 x.first).wf = true ∧ (Lit.int .u8 x.last).wf = true ∧ (Lit.int .i64 x.need).wf = true ∧ (Lit.int .u8 x.low).wf = true ∧ (Lit.int .u8 x.high).wf = true
def wfT109 (x : T109) : Prop := (Lit.int .i32 x.from_).wf = true ∧ (Lit.int .i32 x.to).wf = true
def wfT51 (x : T51) : Prop := (Lit.int .i64 x.Fore).wf = true ∧ (Lit.int .i64 x.Back).wf = true
def wfT128 (x : T128) : Prop := (∀ y ∈ x.b, wfu8 y) ∧ x.b.length ≤ maxLen
end WF
def glob0 : List T109 := [⟨(-2147483648), 31⟩, ⟨127, 159⟩, ⟨768, 879⟩, ⟨6832, 6911⟩, ⟨7616, 7679⟩, ⟨8203, 8207⟩, ⟨8400, 8447⟩, ⟨55296, 57343⟩, ⟨65024, 65039⟩, ⟨65056, 65071⟩, ⟨65279, 65279⟩, ⟨917760, 917999⟩, ⟨1114112, 2147483647⟩]
def glob1 : List T109 := [⟨4352, 4447⟩, ⟨11904, 12350⟩, ⟨12353, 13311⟩, ⟨13312, 19903⟩, ⟨19968, 40959⟩, ⟨40960, 42191⟩, ⟨44032, 55203⟩, ⟨63744, 64255⟩, ⟨65072, 65135⟩, ⟨65280, 65376⟩, ⟨65504, 65510⟩, ⟨127744, 128591⟩, ⟨129280, 129535⟩, ⟨131072, 262141⟩]
def glob2 : List Int := [0, 498536548, 997073096, 651767980, 1994146192, 1802195444, 1303535960, 1342533948, 3988292384, 4027552580, 3604390888, 3412177804, 2607071920, 2262029012, 2685067896, 3183342108]
def glob3 : List T141 := [⟨194, 223, 1, 128, 191⟩, ⟨224, 224, 2, 160, 191⟩, ⟨225, 236, 2, 128, 191⟩, ⟨237, 237, 2, 128, 159⟩, ⟨238, 239, 2, 128, 191⟩, ⟨240, 240, 3, 144, 191⟩, ⟨241, 243, 3, 128, 191⟩, ⟨244, 244, 3, 128, 143⟩]
/-! tidewrack/grid.clip -/
def grid_clip (p0 : Int) (p1 : Int) (p2 : Int) : Option Int :=
  some (mxI p1 (mnI p0 p2))

/-! tidewrack/grid.size -/
def grid_size (p0 : Int) : Option Int :=
  (grid_clip p0 1 1000).bind fun t4 => (some t4)

/-! tidewrack/row.clip -/
def row_clip (p0 : Int) (p1 : Int) (p2 : Int) : Option Int :=
  some (mxI p1 (mnI p0 p2))

/-! tidewrack/row.blank -/
def row_blank (p0 : Int) : Option T77 :=
  some (⟨32, p0, 0⟩ : T77)

/-! math/bits.Mul32 -/
def bits_Mul32 (p0 : Int) (p1 : Int) : Option (Int × Int) :=
  some ((IntKind.wrap .u32 (Int.fdiv (IntKind.wrap .u64 ((IntKind.wrap .u64 p0) * (IntKind.wrap .u64 p1))) (2 ^ min (Int.toNat 32) 64))), (IntKind.wrap .u32 (IntKind.wrap .u64 ((IntKind.wrap .u64 p0) * (IntKind.wrap .u64 p1)))))

/-! math/bits.Mul64 -/
def bits_Mul64 (p0 : Int) (p1 : Int) : Option (Int × Int) :=
  some ((IntKind.wrap .u64 ((IntKind.wrap .u64 ((IntKind.wrap .u64 ((Int.fdiv p0 (2 ^ min (Int.toNat 32) 64)) * (Int.fdiv p1 (2 ^ min (Int.toNat 32) 64)))) + (Int.fdiv (IntKind.wrap .u64 ((IntKind.wrap .u64 ((Int.fdiv p0 (2 ^ min (Int.toNat 32) 64)) * (bits .and .u64 p1 4294967295))) + (Int.fdiv (IntKind.wrap .u64 ((bits .and .u64 p0 4294967295) * (bits .and .u64 p1 4294967295))) (2 ^ min (Int.toNat 32) 64)))) (2 ^ min (Int.toNat 32) 64)))) + (Int.fdiv (IntKind.wrap .u64 ((bits .and .u64 (IntKind.wrap .u64 ((IntKind.wrap .u64 ((Int.fdiv p0 (2 ^ min (Int.toNat 32) 64)) * (bits .and .u64 p1 4294967295))) + (Int.fdiv (IntKind.wrap .u64 ((bits .and .u64 p0 4294967295) * (bits .and .u64 p1 4294967295))) (2 ^ min (Int.toNat 32) 64)))) 4294967295) + (IntKind.wrap .u64 ((bits .and .u64 p0 4294967295) * (Int.fdiv p1 (2 ^ min (Int.toNat 32) 64)))))) (2 ^ min (Int.toNat 32) 64)))), (IntKind.wrap .u64 (p0 * p1)))

/-! math/bits.Mul -/
def bits_Mul (p0 : Int) (p1 : Int) : Option (Int × Int) :=
  (bits_Mul64 p0 p1).bind fun t4 => (some (t4.1, t4.2))

/-! slices.Repeat[[]tidewrack/row.Cell,tidewrack/row.Cell] -/
def slices_Repeat_j3 (l180 : List T77) : Option (List T77) :=
  some l180
def slices_Repeat_l4 : Nat → (List T77) → Int → Option (List T77)
  | 0, _, _ => none
  | k267 + 1, l226, x229 => bif (decide (x229 < ((l226).length : Int))) then (if 0 ≤ x229 then (if x229 ≤ ((l226).length : Int) then ((slices_Repeat_l4 k267) (cpy (Int.toNat x229) l226 (List.take (Int.toNat x229) l226)) (IntKind.wrap .i64 (x229 + ((min ((List.take (Int.toNat x229) l226)).length ((l226).length - (Int.toNat x229)) : Nat) : Int)))) else none) else none) else (slices_Repeat_j3 l226)
def slices_Repeat_j2 (K : Nat) (p0 : List T77) (t10 : Int × Int) : Option (List T77) :=
  if 0 ≤ (IntKind.wrap .i64 t10.2) then (if (IntKind.wrap .i64 t10.2) ≤ 1000000000 then (slices_Repeat_l4 K (cpy 0 (List.replicate (Int.toNat (IntKind.wrap .i64 t10.2)) (zT77 : T77)) p0) ((min (p0).length (((List.replicate (Int.toNat (IntKind.wrap .i64 t10.2)) (zT77 : T77))).length - 0) : Nat) : Int)) else none) else none
def slices_Repeat_j5 (K : Nat) (p0 : List T77) (t10 : Int × Int) (x314 : Bool) : Option (List T77) :=
  bif x314 then (none) else (slices_Repeat_j2 K p0 t10)
def slices_Repeat_j1 (K : Nat) (p0 : List T77) (p1 : Int) : Option (List T77) :=
  (bits_Mul (IntKind.wrap .u64 ((p0).length : Int)) (IntKind.wrap .u64 p1)).bind fun t10 => (bif (decide (t10.1 > (0 : Int))) then (slices_Repeat_j5 K p0 t10 true) else (slices_Repeat_j5 K p0 t10 (decide (t10.2 > (9223372036854775807 : Int)))))
def slices_Repeat (K : Nat) (p0 : List T77) (p1 : Int) : Option (List T77) :=
  bif (decide (p1 < (0 : Int))) then (none) else (slices_Repeat_j1 K p0 p1)

/-! tidewrack/row.blanks -/
def row_blanks (K : Nat) (p0 : Int) (p1 : Int) : Option (List T77) :=
  (row_blank p1).bind fun t4 => ((slices_Repeat K ([t4] : List T77) (mxI 0 p0)).bind fun t18 => (some t18))

/-! tidewrack/row.Blank -/
def row_Blank (K : Nat) (p0 : Int) (p1 : Int) : Option T65 :=
  (row_clip p0 0 1000).bind fun t9 => ((row_blanks K t9 p1).bind fun t17 => (some (⟨t17, false⟩ : T65)))

/-! tidewrack/grid.New -/
def grid_New_j1 (t4 : Int) (l2200 : List T65) : Option T74 :=
  some (⟨t4, l2200⟩ : T74)
def grid_New_j3 (x2938 : Int) (lp3658 : (List T65) → Int → Option T74) (l4039 : List T65) : Option T74 :=
  lp3658 l4039 (IntKind.wrap .i64 (x2938 + 1))
def grid_New_l2 (K : Nat) (t4 : Int) (t2207 : Int) : Nat → (List T65) → Int → Option T74
  | 0, _, _ => none
  | k3657 + 1, l2935, x2938 => bif (decide (x2938 < t2207)) then ((row_Blank K t4 0).bind fun t4077 => (if (l2935).length + (([t4077] : List T65)).length ≤ 1000000000 then (grid_New_j3 x2938 (grid_New_l2 K t4 t2207 k3657) (l2935 ++ ([t4077] : List T65))) else none)) else (grid_New_j1 t4 l2935)
def grid_New (K : Nat) (p0 : Int) (p1 : Int) : Option T74 :=
  (grid_size p0).bind fun t4 => ((grid_size p1).bind fun t2207 => (grid_New_l2 K t4 t2207 K ([] : List T65) 0))

/-! (*tidewrack/grid.Grid).Size -/
def grid_Grid_Size (p0 : T74) : Option (Int × Int) :=
  some (p0.w, ((p0.l).length : Int))

/-! tidewrack/screen.New -/
def screen_New (K : Nat) (p0 : Int) (p1 : Int) : Option T55 :=
  (grid_New K p0 p1).bind fun t4 => ((grid_Grid_Size t4).bind fun t23 => (some (⟨t4.w, t4.l, 0, 0, 0, 0, false, false, false, 0, 0, 0, 0, false, false, false, false, 0, (IntKind.wrap .i64 (t23.2 - 1)), true, (⟨#[]⟩ : ByteArray)⟩ : T55)))

/-! tidewrack/book.New -/
def book_New  : Option T60 :=
  some (⟨([] : List (List T46)), ([0] : List Int), ([] : List T46)⟩ : T60)

/-! (tidewrack/glyph.Decoder).End -/
def glyph_Decoder_End (p0 : T30) : Option (List Int) :=
  bif (decide (p0.Need ≤ (0 : Int))) then (some ([] : List Int)) else (some ([65533] : List Int))

/-! (*tidewrack/seq.Parser).tell -/
def seq_Parser_tell_j1 (p0 : T33) (p1 : T37) : Option T33 :=
  some (⟨p0.state, p0.order_private_, p0.order_wrong, p0.order_any, p0.order_some, p0.order_n, p0.order_nums, p0.text, p0.runes_Lead, p0.runes_Rune, p0.runes_Need, (p0.out ++ ([p1] : List T37))⟩ : T33)
def seq_Parser_tell (p0 : T33) (p1 : T37) : Option T33 :=
  if (p0.out).length + (([p1] : List T37)).length ≤ 1000000000 then (seq_Parser_tell_j1 p0 p1) else none

/-! (*tidewrack/seq.Parser).print -/
def seq_Parser_print_l1 (p1 : List Int) : Nat → Int → Bool → Bool → Bool → Bool → Int → (List Int) → ByteArray → Int → Int → Int → (List T37) → Int → Option T33
  | 0, _, _, _, _, _, _, _, _, _, _, _, _, _ => none
  | k67 + 1, x25, x26, x27, x28, x29, x30, l33, x36, x37, x38, x39, l42, x45 => bif (decide (x45 < ((p1).length : Int))) then (if 0 ≤ x45 ∧ x45 < ((p1).length : Int) then ((seq_Parser_tell (⟨x25, x26, x27, x28, x29, x30, l33, x36, x37, x38, x39, l42⟩ : T33) (⟨1, (rdD 0 p1 x45), 0, false, ([] : List Int), (⟨#[]⟩ : ByteArray)⟩ : T37)).bind fun t76 => ((seq_Parser_print_l1 p1 k67) t76.state t76.order_private_ t76.order_wrong t76.order_any t76.order_some t76.order_n t76.order_nums t76.text t76.runes_Lead t76.runes_Rune t76.runes_Need t76.out (IntKind.wrap .i64 (x45 + 1)))) else none) else (some (⟨x25, x26, x27, x28, x29, x30, l33, x36, x37, x38, x39, l42⟩ : T33))
def seq_Parser_print (K : Nat) (p0 : T33) (p1 : List Int) : Option T33 :=
  seq_Parser_print_l1 p1 K p0.state p0.order_private_ p0.order_wrong p0.order_any p0.order_some p0.order_n p0.order_nums p0.text p0.runes_Lead p0.runes_Rune p0.runes_Need p0.out 0

/-! (*tidewrack/seq.Parser).common -/
def seq_Parser_common_j1 (p0 : T33) (p1 : Int) (x9 : Bool) : Option (Bool × T33) :=
  bif x9 then (some (true, (⟨0, p0.order_private_, p0.order_wrong, p0.order_any, p0.order_some, p0.order_n, p0.order_nums, p0.text, p0.runes_Lead, p0.runes_Rune, p0.runes_Need, p0.out⟩ : T33))) else (bif (p1 == (27 : Int)) then (some (true, (⟨1, p0.order_private_, p0.order_wrong, p0.order_any, p0.order_some, p0.order_n, p0.order_nums, p0.text, p0.runes_Lead, p0.runes_Rune, p0.runes_Need, p0.out⟩ : T33))) else (bif (decide (p1 < (32 : Int))) then ((seq_Parser_tell p0 (⟨2, 0, p1, false, ([] : List Int), (⟨#[]⟩ : ByteArray)⟩ : T37)).bind fun t17 => (some (true, t17))) else (some ((p1 == (127 : Int)), p0))))
def seq_Parser_common (p0 : T33) (p1 : Int) : Option (Bool × T33) :=
  bif (p1 == (24 : Int)) then (seq_Parser_common_j1 p0 p1 true) else (seq_Parser_common_j1 p0 p1 (p1 == (26 : Int)))

/-! tidewrack/glyph.begin -/
def glyph_begin (p0 : Int) : Option (T30 × (List Int)) :=
  bif (decide (p0 < (128 : Int))) then (some ((⟨0, 0, 0⟩ : T30), ([(IntKind.wrap .i32 p0)] : List Int))) else (none)

/-! (tidewrack/glyph.Decoder).Next -/
def glyph_Decoder_Next (p0 : T30) (p1 : Int) : Option (T30 × (List Int)) :=
  bif (decide (p0.Need ≤ (0 : Int))) then ((glyph_begin p1).bind fun t15 => (some (t15.1, t15.2))) else (none)

/-! (*tidewrack/seq.Parser).onGround -/
def seq_Parser_onGround_j1 (K : Nat) (p0 : T33) (p1 : Int) : Option T33 :=
  (glyph_Decoder_Next (⟨p0.runes_Lead, p0.runes_Rune, p0.runes_Need⟩ : T30) p1).bind fun t70 => ((seq_Parser_print K (⟨p0.state, p0.order_private_, p0.order_wrong, p0.order_any, p0.order_some, p0.order_n, p0.order_nums, p0.text, t70.1.Lead, t70.1.Rune, t70.1.Need, p0.out⟩ : T33) t70.2).bind fun t85 => (some t85))
def seq_Parser_onGround_j2 (K : Nat) (p0 : T33) (p1 : Int) (x107 : Bool) : Option T33 :=
  bif x107 then ((glyph_Decoder_End (⟨p0.runes_Lead, p0.runes_Rune, p0.runes_Need⟩ : T30)).bind fun t113 => ((seq_Parser_print K p0 t113).bind fun t125 => ((seq_Parser_common (⟨t125.state, t125.order_private_, t125.order_wrong, t125.order_any, t125.order_some, t125.order_n, t125.order_nums, t125.text, 0, 0, 0, t125.out⟩ : T33) p1).bind fun t145 => (some t145.2)))) else (seq_Parser_onGround_j1 K p0 p1)
def seq_Parser_onGround (K : Nat) (p0 : T33) (p1 : Int) : Option T33 :=
  bif (decide (p1 < (32 : Int))) then (seq_Parser_onGround_j2 K p0 p1 true) else (seq_Parser_onGround_j2 K p0 p1 (p1 == (127 : Int)))

/-! (*tidewrack/seq.Parser).one -/
def seq_Parser_one (K : Nat) (p0 : T33) (p1 : Int) : Option T33 :=
  bif (p0.state == (0 : Int)) then ((seq_Parser_onGround K p0 p1).bind fun t13 => (some t13)) else (bif (p0.state == (1 : Int)) then (none) else (bif (p0.state == (2 : Int)) then (none) else (bif (p0.state == (3 : Int)) then (none) else (bif (p0.state == (4 : Int)) then (none) else (bif (p1 == (92 : Int)) then (none) else (none))))))

/-! (*tidewrack/seq.Parser).Feed -/
def seq_Parser_Feed_j1 (x113 : Int) (x114 : Bool) (x115 : Bool) (x116 : Bool) (x117 : Bool) (x118 : Int) (l121 : List Int) (x124 : ByteArray) (x125 : Int) (x126 : Int) (x127 : Int) (l130 : List T37) : Option ((List T37) × T33) :=
  some (l130, (⟨x113, x114, x115, x116, x117, x118, l121, x124, x125, x126, x127, ([] : List T37)⟩ : T33))
def seq_Parser_Feed_l2 (K : Nat) (p1 : ByteArray) : Nat → Int → Bool → Bool → Bool → Bool → Int → (List Int) → ByteArray → Int → Int → Int → (List T37) → Int → Option ((List T37) × T33)
  | 0, _, _, _, _, _, _, _, _, _, _, _, _, _ => none
  | k201 + 1, x160, x161, x162, x163, x164, x165, l168, x171, x172, x173, x174, l177, x180 => bif (decide (x180 < ((p1).size : Int))) then (if 0 ≤ x180 ∧ x180 < ((p1).size : Int) then ((seq_Parser_one K (⟨x160, x161, x162, x163, x164, x165, l168, x171, x172, x173, x174, l177⟩ : T33) (bt p1 x180)).bind fun t209 => ((seq_Parser_Feed_l2 K p1 k201) t209.state t209.order_private_ t209.order_wrong t209.order_any t209.order_some t209.order_n t209.order_nums t209.text t209.runes_Lead t209.runes_Rune t209.runes_Need t209.out (IntKind.wrap .i64 (x180 + 1)))) else none) else (seq_Parser_Feed_j1 x160 x161 x162 x163 x164 x165 l168 x171 x172 x173 x174 l177)
def seq_Parser_Feed (K : Nat) (p0 : T33) (p1 : ByteArray) : Option ((List T37) × T33) :=
  seq_Parser_Feed_l2 K p1 K p0.state p0.order_private_ p0.order_wrong p0.order_any p0.order_some p0.order_n p0.order_nums p0.text p0.runes_Lead p0.runes_Rune p0.runes_Need p0.out 0

/-! tidewrack/wide.in -/
def wide_in_j1 (p0 : List T109) (p1 : Int) (x30 : Int) : Option Bool :=
  bif (decide (x30 < ((p0).length : Int))) then (if 0 ≤ x30 ∧ x30 < ((p0).length : Int) then (some (decide (((rdD zT109 p0 x30).from_) ≤ p1))) else none) else (some false)
def wide_in_l2 (p0 : List T109) (p1 : Int) : Nat → Int → Int → Option Bool
  | 0, _, _ => none
  | k50 + 1, x43, x44 => bif (decide (x43 < x44)) then (if 0 ≤ (IntKind.wrap .i64 (Int.tdiv (IntKind.wrap .i64 (x43 + x44)) 2)) ∧ (IntKind.wrap .i64 (Int.tdiv (IntKind.wrap .i64 (x43 + x44)) 2)) < ((p0).length : Int) then (bif (decide (((rdD zT109 p0 (IntKind.wrap .i64 (Int.tdiv (IntKind.wrap .i64 (x43 + x44)) 2))).to) < p1)) then ((wide_in_l2 p0 p1 k50) (IntKind.wrap .i64 ((IntKind.wrap .i64 (Int.tdiv (IntKind.wrap .i64 (x43 + x44)) 2)) + 1)) x44) else ((wide_in_l2 p0 p1 k50) x43 (IntKind.wrap .i64 (Int.tdiv (IntKind.wrap .i64 (x43 + x44)) 2)))) else none) else (wide_in_j1 p0 p1 x43)
def wide_in (K : Nat) (p0 : List T109) (p1 : Int) : Option Bool :=
  wide_in_l2 p0 p1 K 0 ((p0).length : Int)

/-! tidewrack/wide.Of -/
def wide_Of (K : Nat) (p0 : Int) : Option Int :=
  (wide_in K glob0 p0).bind fun t4 => (bif t4 then (some 0) else ((wide_in K glob1 p0).bind fun t13 => (bif t13 then (some 2) else (some 1))))

/-! slices.Clone[[]tidewrack/row.Cell,tidewrack/row.Cell] -/
def slices_Clone (p0 : List T77) : Option (List T77) :=
  if (([] : List T77)).length + (p0).length ≤ 1000000000 then (some (([] : List T77) ++ p0)) else none

/-! tidewrack/grid.own -/
def grid_own (p0 : T65) : Option T65 :=
  (slices_Clone p0.Cells).bind fun t43 => (some (⟨t43, p0.Wrapped⟩ : T65))

/-! (*tidewrack/grid.Grid).Row -/
def grid_Grid_Row_j1 (p0 : T74) (p1 : Int) : Option T65 :=
  if 0 ≤ p1 ∧ p1 < ((p0.l).length : Int) then ((grid_own (rdD zT65 p0.l p1)).bind fun t36 => (some t36)) else none
def grid_Grid_Row_j2 (p0 : T74) (p1 : Int) (x56 : Bool) : Option T65 :=
  bif x56 then (some (⟨([] : List T77), false⟩ : T65)) else (grid_Grid_Row_j1 p0 p1)
def grid_Grid_Row (p0 : T74) (p1 : Int) : Option T65 :=
  bif (decide (p1 < (0 : Int))) then (grid_Grid_Row_j2 p0 p1 true) else (grid_Grid_Row_j2 p0 p1 (decide (p1 ≥ ((p0.l).length : Int))))

/-! (tidewrack/row.Row).cells -/
def row_Row_cells (p0 : T65) : Option (List T77) :=
  (slices_Clone p0.Cells).bind fun t9 => (some t9)

/-! tidewrack/row.broken -/
def row_broken (p0 : List T77) (p1 : Int) : Option Bool :=
  if 0 ≤ p1 ∧ p1 < ((p0).length : Int) then (bif (((rdD zT77 p0 p1).Part) == (1 : Int)) then (bif (decide ((IntKind.wrap .i64 (p1 + 1)) ≥ ((p0).length : Int))) then (some true) else (if 0 ≤ (IntKind.wrap .i64 (p1 + 1)) ∧ (IntKind.wrap .i64 (p1 + 1)) < ((p0).length : Int) then (some (((rdD zT77 p0 (IntKind.wrap .i64 (p1 + 1))).Part) != (2 : Int))) else none)) else (bif (((rdD zT77 p0 p1).Part) == (2 : Int)) then (bif (p1 == (0 : Int)) then (some true) else (if 0 ≤ (IntKind.wrap .i64 (p1 - 1)) ∧ (IntKind.wrap .i64 (p1 - 1)) < ((p0).length : Int) then (some (((rdD zT77 p0 (IntKind.wrap .i64 (p1 - 1))).Part) != (1 : Int))) else none)) else (bif (((rdD zT77 p0 p1).Part) == (3 : Int)) then (some (p1 != (IntKind.wrap .i64 (((p0).length : Int) - 1)))) else (some false)))) else none

/-! tidewrack/row.mend -/
def row_mend_j1 (l105 : List T77) : Option T65 :=
  some (⟨l105, false⟩ : T65)
def row_mend_l2 (p0 : List T77) : Nat → (List T77) → Int → Option T65
  | 0, _, _ => none
  | k171 + 1, l142, x145 => bif (decide (x145 < ((p0).length : Int))) then ((row_broken l142 x145).bind fun t178 => (bif t178 then (if 0 ≤ x145 ∧ x145 < ((l142).length : Int) then ((row_blank ((rdD zT77 l142 x145).Style)).bind fun t189 => ((row_mend_l2 p0 k171) (List.set l142 (Int.toNat x145) t189) (IntKind.wrap .i64 (x145 + 1)))) else none) else ((row_mend_l2 p0 k171) l142 (IntKind.wrap .i64 (x145 + 1))))) else (row_mend_j1 l142)
def row_mend (K : Nat) (p0 : List T77) : Option T65 :=
  row_mend_l2 p0 K p0 0

/-! (tidewrack/row.Row).Resize -/
def row_Row_Resize (K : Nat) (p0 : T65) (p1 : Int) : Option T65 :=
  (row_clip p1 0 1000).bind fun t14 => ((row_Row_cells p0).bind fun t22 => (bif (t14 == ((t22).length : Int)) then (some (⟨t22, p0.Wrapped⟩ : T65)) else (if 0 ≤ (mnI t14 ((t22).length : Int)) then (if (mnI t14 ((t22).length : Int)) ≤ ((t22).length : Int) then ((row_blanks K (IntKind.wrap .i64 (t14 - ((t22).length : Int))) 0).bind fun t125 => (if ((List.take (Int.toNat (mnI t14 ((t22).length : Int))) t22)).length + (t125).length ≤ 1000000000 then ((row_mend K ((List.take (Int.toNat (mnI t14 ((t22).length : Int))) t22) ++ t125)).bind fun t145 => (some t145)) else none)) else none) else none)))

/-! (*tidewrack/grid.Grid).Set -/
def grid_Grid_Set_j1 (K : Nat) (p0 : T74) (p1 : Int) (p2 : T65) : Option (Bool × T74) :=
  (row_Row_Resize K p2 p0.w).bind fun t30 => (if 0 ≤ p1 ∧ p1 < ((p0.l).length : Int) then (some (true, (⟨p0.w, (List.set p0.l (Int.toNat p1) t30)⟩ : T74))) else none)
def grid_Grid_Set (K : Nat) (p0 : T74) (p1 : Int) (p2 : T65) : Option (Bool × T74) :=
  bif (decide (p1 < (0 : Int))) then (some (false, p0)) else (bif (decide (p1 ≥ ((p0.l).length : Int))) then (some (false, p0)) else (grid_Grid_Set_j1 K p0 p1 p2))

/-! (*tidewrack/screen.Screen).print$1 -/
def screen_Screen_print_1 (p0 : T65) : Option T65 :=
  some (⟨p0.Cells, true⟩ : T65)

/-! (tidewrack/style.Style).may -/
def style_Style_may (p0 : T51) : Option Bool :=
  bif (decide (p0.Fore ≥ (0 : Int))) then (bif (decide (p0.Fore < (9 : Int))) then (bif (decide (p0.Back ≥ (0 : Int))) then (some (decide (p0.Back < (9 : Int)))) else (some false)) else (some false)) else (some false)

/-! tidewrack/style.bit -/
def style_bit (p0 : Bool) (p1 : Int) : Option Int :=
  bif p0 then (some p1) else (some 0)

/-! (tidewrack/style.Style).Num -/
def style_Style_Num (p0 : T51) : Option Int :=
  (style_Style_may p0).bind fun t9 => (bif (!t9) then (some 0) else ((style_bit p0.Bold 81).bind fun t68 => ((style_bit p0.Under 162).bind fun t76 => ((style_bit p0.Inverse 324).bind fun t84 => (some (IntKind.wrap .i64 ((IntKind.wrap .i64 ((IntKind.wrap .i64 ((IntKind.wrap .i64 (p0.Fore + (IntKind.wrap .i64 (9 * p0.Back)))) + t68)) + t76)) + t84)))))))

/-! (*tidewrack/screen.Screen).num -/
def screen_Screen_num (p0 : T55) : Option Int :=
  (style_Style_Num (⟨p0.spot_style_Fore, p0.spot_style_Back, p0.spot_style_Bold, p0.spot_style_Under, p0.spot_style_Inverse⟩ : T51)).bind fun t4 => (some t4)

/-! (*tidewrack/grid.Grid).region -/
def grid_Grid_region (p0 : T74) (p1 : Int) (p2 : Int) : Option Bool :=
  (grid_clip p1 0 (IntKind.wrap .i64 (((p0.l).length : Int) - 1))).bind fun t4 => ((grid_clip p2 0 (IntKind.wrap .i64 (((p0.l).length : Int) - 1))).bind fun t12 => (bif (decide (t12 < t4)) then (none) else (if t4 = 0 then (if (IntKind.wrap .i64 (t12 + 1)) = ((p0.l).length : Int) then (some true) else none) else none)))

/-! slices.Clone[[]tidewrack/row.Row,tidewrack/row.Row] -/
def slices_Clone' (p0 : List T65) : Option (List T65) :=
  if (([] : List T65)).length + (p0).length ≤ 1000000000 then (some (([] : List T65) ++ p0)) else none

/-! (*tidewrack/grid.Grid).Up -/
def grid_Grid_Up_j1 (p0 : T74) (t28 : List T65) (l136 : List T65) : Option ((List T65) × T74) :=
  some (t28, (⟨p0.w, l136⟩ : T74))
def grid_Grid_Up_l2 (K : Nat) (p0 : T74) (p4 : Int) (t28 : List T65) : Nat → (List T65) → Int → Option ((List T65) × T74)
  | 0, _, _ => none
  | k193 + 1, l167, x170 => bif (decide (x170 < ((l167).length : Int))) then ((row_Blank K p0.w p4).bind fun t200 => (if 0 ≤ x170 ∧ x170 < ((l167).length : Int) then ((grid_Grid_Up_l2 K p0 p4 t28 k193) (List.set l167 (Int.toNat x170) t200) (IntKind.wrap .i64 (x170 + 1))) else none)) else (grid_Grid_Up_j1 p0 t28 l167)
def grid_Grid_Up (K : Nat) (p0 : T74) (p1 : Int) (p2 : Int) (p3 : Int) (p4 : Int) : Option ((List T65) × T74) :=
  (grid_Grid_region p0 p1 p2).bind fun t4 => (bif (!t4) then (some (([] : List T65), p0)) else ((grid_clip p3 0 ((p0.l).length : Int)).bind fun t13 => (if 0 ≤ t13 then (if t13 ≤ ((p0.l).length : Int) then ((slices_Clone' (List.take (Int.toNat t13) p0.l)).bind fun t28 => (grid_Grid_Up_l2 K p0 p4 t28 K (cpy 0 p0.l (List.drop (Int.toNat t13) (List.take (p0.l).length p0.l))) (IntKind.wrap .i64 ((((cpy 0 p0.l (List.drop (Int.toNat t13) (List.take (p0.l).length p0.l)))).length : Int) - t13)))) else none) else none)))

/-! (*tidewrack/screen.Screen).up -/
def screen_Screen_up (K : Nat) (p0 : T55) (p1 : Int) : Option ((List T65) × T55) :=
  (screen_Screen_num p0).bind fun t56 => ((grid_Grid_Up K (⟨p0.g_w, p0.g_l⟩ : T74) p0.top p0.bottom p1 t56).bind fun t64 => (bif (decide (p0.top > (0 : Int))) then (some (([] : List T65), (⟨t64.2.w, t64.2.l, p0.spot_x, p0.spot_y, p0.spot_style_Fore, p0.spot_style_Back, p0.spot_style_Bold, p0.spot_style_Under, p0.spot_style_Inverse, p0.saved_x, p0.saved_y, p0.saved_style_Fore, p0.saved_style_Back, p0.saved_style_Bold, p0.saved_style_Under, p0.saved_style_Inverse, p0.waiting, p0.top, p0.bottom, p0.wraps, p0.title⟩ : T55))) else (some (t64.1, (⟨t64.2.w, t64.2.l, p0.spot_x, p0.spot_y, p0.spot_style_Fore, p0.spot_style_Back, p0.spot_style_Bold, p0.spot_style_Under, p0.spot_style_Inverse, p0.saved_x, p0.saved_y, p0.saved_style_Fore, p0.saved_style_Back, p0.saved_style_Bold, p0.saved_style_Under, p0.saved_style_Inverse, p0.waiting, p0.top, p0.bottom, p0.wraps, p0.title⟩ : T55)))))

/-! (*tidewrack/screen.Screen).last -/
def screen_Screen_last (p0 : T55) : Option (Int × Int) :=
  (grid_Grid_Size (⟨p0.g_w, p0.g_l⟩ : T74)).bind fun t4 => (some ((IntKind.wrap .i64 (t4.1 - 1)), (IntKind.wrap .i64 (t4.2 - 1))))

/-! tidewrack/screen.clip -/
def screen_clip (p0 : Int) (p1 : Int) (p2 : Int) : Option Int :=
  some (mxI p1 (mnI p0 p2))

/-! (*tidewrack/screen.Screen).move -/
def screen_Screen_move (p0 : T55) (p1 : Int) (p2 : Int) : Option T55 :=
  (screen_Screen_last p0).bind fun t4 => ((screen_clip p1 0 t4.1).bind fun t12 => ((screen_clip p2 0 t4.2).bind fun t20 => (some (⟨p0.g_w, p0.g_l, t12, t20, p0.spot_style_Fore, p0.spot_style_Back, p0.spot_style_Bold, p0.spot_style_Under, p0.spot_style_Inverse, p0.saved_x, p0.saved_y, p0.saved_style_Fore, p0.saved_style_Back, p0.saved_style_Bold, p0.saved_style_Under, p0.saved_style_Inverse, false, p0.top, p0.bottom, p0.wraps, p0.title⟩ : T55))))

/-! (*tidewrack/screen.Screen).line -/
def screen_Screen_line_j1 (x153 : Int) (l156 : List T65) (x159 : Int) (x160 : Int) (x161 : Int) (x162 : Int) (x163 : Bool) (x164 : Bool) (x165 : Bool) (x166 : Int) (x167 : Int) (x168 : Int) (x169 : Int) (x170 : Bool) (x171 : Bool) (x172 : Bool) (x173 : Bool) (x174 : Int) (x175 : Int) (x176 : Bool) (x177 : ByteArray) : Option ((List T65) × T55) :=
  some (([] : List T65), (⟨x153, l156, x159, x160, x161, x162, x163, x164, x165, x166, x167, x168, x169, x170, x171, x172, x173, x174, x175, x176, x177⟩ : T55))
def screen_Screen_line (K : Nat) (p0 : T55) : Option ((List T65) × T55) :=
  bif (p0.spot_y == p0.bottom) then ((screen_Screen_up K (⟨p0.g_w, p0.g_l, p0.spot_x, p0.spot_y, p0.spot_style_Fore, p0.spot_style_Back, p0.spot_style_Bold, p0.spot_style_Under, p0.spot_style_Inverse, p0.saved_x, p0.saved_y, p0.saved_style_Fore, p0.saved_style_Back, p0.saved_style_Bold, p0.saved_style_Under, p0.saved_style_Inverse, false, p0.top, p0.bottom, p0.wraps, p0.title⟩ : T55) 1).bind fun t278 => (some (t278.1, t278.2))) else ((screen_Screen_move (⟨p0.g_w, p0.g_l, p0.spot_x, p0.spot_y, p0.spot_style_Fore, p0.spot_style_Back, p0.spot_style_Bold, p0.spot_style_Under, p0.spot_style_Inverse, p0.saved_x, p0.saved_y, p0.saved_style_Fore, p0.saved_style_Back, p0.saved_style_Bold, p0.saved_style_Under, p0.saved_style_Inverse, false, p0.top, p0.bottom, p0.wraps, p0.title⟩ : T55) p0.spot_x (IntKind.wrap .i64 (p0.spot_y + 1))).bind fun t197 => (screen_Screen_line_j1 t197.g_w t197.g_l t197.spot_x t197.spot_y t197.spot_style_Fore t197.spot_style_Back t197.spot_style_Bold t197.spot_style_Under t197.spot_style_Inverse t197.saved_x t197.saved_y t197.saved_style_Fore t197.saved_style_Back t197.saved_style_Bold t197.saved_style_Under t197.saved_style_Inverse t197.waiting t197.top t197.bottom t197.wraps t197.title))

/-! (tidewrack/row.Row).Put -/
def row_Row_Put_j2 (K : Nat) (p1 : Int) (p2 : Int) (p3 : Int) (t14 : List T77) (x64 : Bool) : Option T65 :=
  bif x64 then (if 0 ≤ (IntKind.wrap .i64 (p1 - 1)) ∧ (IntKind.wrap .i64 (p1 - 1)) < (((List.set (List.set t14 (Int.toNat p1) (⟨p2, p3, 1⟩ : T77)) (Int.toNat (IntKind.wrap .i64 (p1 + 1))) (⟨p2, p3, 2⟩ : T77))).length : Int) then ((row_blank ((rdD zT77 (List.set (List.set t14 (Int.toNat p1) (⟨p2, p3, 1⟩ : T77)) (Int.toNat (IntKind.wrap .i64 (p1 + 1))) (⟨p2, p3, 2⟩ : T77)) (IntKind.wrap .i64 (p1 - 1))).Style)).bind fun t86 => ((row_mend K (List.set (List.set (List.set t14 (Int.toNat p1) (⟨p2, p3, 1⟩ : T77)) (Int.toNat (IntKind.wrap .i64 (p1 + 1))) (⟨p2, p3, 2⟩ : T77)) (Int.toNat (IntKind.wrap .i64 (p1 - 1))) t86)).bind fun t98 => (some t98))) else none) else ((row_mend K (List.set (List.set t14 (Int.toNat p1) (⟨p2, p3, 1⟩ : T77)) (Int.toNat (IntKind.wrap .i64 (p1 + 1))) (⟨p2, p3, 2⟩ : T77))).bind fun t70 => (some t70))
def row_Row_Put_j1 (K : Nat) (p1 : Int) (p2 : Int) (p3 : Int) (t14 : List T77) (t26 : Int) (x40 : Bool) : Option T65 :=
  bif x40 then ((row_mend K t14).bind fun t136 => (some t136)) else (bif (t26 == (1 : Int)) then (if 0 ≤ p1 ∧ p1 < ((t14).length : Int) then ((row_mend K (List.set t14 (Int.toNat p1) (⟨p2, p3, 0⟩ : T77))).bind fun t121 => (some t121)) else none) else (if 0 ≤ p1 ∧ p1 < ((t14).length : Int) then (if 0 ≤ (IntKind.wrap .i64 (p1 + 1)) ∧ (IntKind.wrap .i64 (p1 + 1)) < (((List.set t14 (Int.toNat p1) (⟨p2, p3, 1⟩ : T77))).length : Int) then (bif (decide (p1 > (0 : Int))) then (if 0 ≤ (IntKind.wrap .i64 (p1 - 1)) ∧ (IntKind.wrap .i64 (p1 - 1)) < (((List.set (List.set t14 (Int.toNat p1) (⟨p2, p3, 1⟩ : T77)) (Int.toNat (IntKind.wrap .i64 (p1 + 1))) (⟨p2, p3, 2⟩ : T77))).length : Int) then (row_Row_Put_j2 K p1 p2 p3 t14 (((rdD zT77 (List.set (List.set t14 (Int.toNat p1) (⟨p2, p3, 1⟩ : T77)) (Int.toNat (IntKind.wrap .i64 (p1 + 1))) (⟨p2, p3, 2⟩ : T77)) (IntKind.wrap .i64 (p1 - 1))).Part) == (1 : Int))) else none) else (row_Row_Put_j2 K p1 p2 p3 t14 false)) else none) else none))
def row_Row_Put (K : Nat) (p0 : T65) (p1 : Int) (p2 : Int) (p3 : Int) : Option T65 :=
  (row_Row_cells p0).bind fun t14 => ((wide_Of K p2).bind fun t26 => (bif (t26 == (0 : Int)) then (row_Row_Put_j1 K p1 p2 p3 t14 t26 true) else (bif (decide (p1 < (0 : Int))) then (row_Row_Put_j1 K p1 p2 p3 t14 t26 true) else (row_Row_Put_j1 K p1 p2 p3 t14 t26 (decide (p1 > (IntKind.wrap .i64 (((t14).length : Int) - t26))))))))

/-! (*tidewrack/screen.Screen).print$3 -/
def screen_Screen_print_3 (K : Nat) (p0 : T65) (p1 : T55) (p2 : Int) : Option T65 :=
  (screen_Screen_num p1).bind fun t34 => ((row_Row_Put K p0 p1.spot_x p2 t34).bind fun t42 => (some t42))

/-! (*tidewrack/screen.Screen).edit -/
def screen_Screen_edit_of34 (K : Nat) (p0 : T55) : Option T55 :=
  (grid_Grid_Row (⟨p0.g_w, p0.g_l⟩ : T74) p0.spot_y).bind fun t80 => ((screen_Screen_print_1 t80).bind fun t92 => ((grid_Grid_Set K (⟨p0.g_w, p0.g_l⟩ : T74) p0.spot_y t92).bind fun t104 => (some (⟨t104.2.w, t104.2.l, p0.spot_x, p0.spot_y, p0.spot_style_Fore, p0.spot_style_Back, p0.spot_style_Bold, p0.spot_style_Under, p0.spot_style_Inverse, p0.saved_x, p0.saved_y, p0.saved_style_Fore, p0.saved_style_Back, p0.saved_style_Bold, p0.saved_style_Under, p0.saved_style_Inverse, p0.waiting, p0.top, p0.bottom, p0.wraps, p0.title⟩ : T55))))

/-! (*tidewrack/screen.Screen).edit -/
def screen_Screen_edit_of39_0_0 (K : Nat) (p0 : T55) (p1_1 : Int) : Option T55 :=
  (grid_Grid_Row (⟨p0.g_w, p0.g_l⟩ : T74) p0.spot_y).bind fun t80 => ((screen_Screen_print_3 K t80 p0 p1_1).bind fun t92 => ((grid_Grid_Set K (⟨p0.g_w, p0.g_l⟩ : T74) p0.spot_y t92).bind fun t104 => (some (⟨t104.2.w, t104.2.l, p0.spot_x, p0.spot_y, p0.spot_style_Fore, p0.spot_style_Back, p0.spot_style_Bold, p0.spot_style_Under, p0.spot_style_Inverse, p0.saved_x, p0.saved_y, p0.saved_style_Fore, p0.saved_style_Back, p0.saved_style_Bold, p0.saved_style_Under, p0.saved_style_Inverse, p0.waiting, p0.top, p0.bottom, p0.wraps, p0.title⟩ : T55))))

/-! (*tidewrack/screen.Screen).print -/
def screen_Screen_print_j3 (K : Nat) (p1 : Int) (t14 : Int) (t22 : Int × Int) (x133 : Int) (l136 : List T65) (x140 : Int) (x141 : Int) (x142 : Int) (x143 : Bool) (x144 : Bool) (x145 : Bool) (x146 : Int) (x147 : Int) (x148 : Int) (x149 : Int) (x150 : Bool) (x151 : Bool) (x152 : Bool) (x153 : Bool) (x154 : Int) (x155 : Int) (x156 : Bool) (x157 : ByteArray) (l160 : List T65) (x176 : Int) : Option ((List T65) × T55) :=
  (screen_Screen_edit_of39_0_0 K (⟨x133, l136, x176, x140, x141, x142, x143, x144, x145, x146, x147, x148, x149, x150, x151, x152, x153, x154, x155, x156, x157⟩ : T55) p1).bind fun t181 => (some (l160, (⟨t181.g_w, t181.g_l, (mnI (IntKind.wrap .i64 (t181.spot_x + t14)) (IntKind.wrap .i64 (t22.1 - 1))), t181.spot_y, t181.spot_style_Fore, t181.spot_style_Back, t181.spot_style_Bold, t181.spot_style_Under, t181.spot_style_Inverse, t181.saved_x, t181.saved_y, t181.saved_style_Fore, t181.saved_style_Back, t181.saved_style_Bold, t181.saved_style_Under, t181.saved_style_Inverse, ((IntKind.wrap .i64 (t181.spot_x + t14)) == t22.1), t181.top, t181.bottom, t181.wraps, t181.title⟩ : T55)))
def screen_Screen_print_j2 (K : Nat) (p1 : Int) (t14 : Int) (t22 : Int × Int) (x133 : Int) (l136 : List T65) (x139 : Int) (x140 : Int) (x141 : Int) (x142 : Int) (x143 : Bool) (x144 : Bool) (x145 : Bool) (x146 : Int) (x147 : Int) (x148 : Int) (x149 : Int) (x150 : Bool) (x151 : Bool) (x152 : Bool) (x153 : Bool) (x154 : Int) (x155 : Int) (x156 : Bool) (x157 : ByteArray) (l160 : List T65) : Option ((List T65) × T55) :=
  bif (decide ((IntKind.wrap .i64 (x139 + t14)) > t22.1)) then (bif x156 then (none) else (screen_Screen_print_j3 K p1 t14 t22 x133 l136 x140 x141 x142 x143 x144 x145 x146 x147 x148 x149 x150 x151 x152 x153 x154 x155 x156 x157 l160 (IntKind.wrap .i64 (x139 - 1)))) else (screen_Screen_print_j3 K p1 t14 t22 x133 l136 x140 x141 x142 x143 x144 x145 x146 x147 x148 x149 x150 x151 x152 x153 x154 x155 x156 x157 l160 x139)
def screen_Screen_print_j4 (K : Nat) (p0 : T55) (p1 : Int) (t14 : Int) (t22 : Int × Int) (x235 : Bool) (x236 : Bool) : Option ((List T65) × T55) :=
  bif x236 then ((screen_Screen_edit_of34 K (⟨p0.g_w, p0.g_l, p0.spot_x, p0.spot_y, p0.spot_style_Fore, p0.spot_style_Back, p0.spot_style_Bold, p0.spot_style_Under, p0.spot_style_Inverse, p0.saved_x, p0.saved_y, p0.saved_style_Fore, p0.saved_style_Back, p0.saved_style_Bold, p0.saved_style_Under, p0.saved_style_Inverse, x235, p0.top, p0.bottom, p0.wraps, p0.title⟩ : T55)).bind fun t242 => ((screen_Screen_line K (⟨t242.g_w, t242.g_l, 0, t242.spot_y, t242.spot_style_Fore, t242.spot_style_Back, t242.spot_style_Bold, t242.spot_style_Under, t242.spot_style_Inverse, t242.saved_x, t242.saved_y, t242.saved_style_Fore, t242.saved_style_Back, t242.saved_style_Bold, t242.saved_style_Under, t242.saved_style_Inverse, t242.waiting, t242.top, t242.bottom, t242.wraps, t242.title⟩ : T55)).bind fun t260 => (if (([] : List T65)).length + (t260.1).length ≤ 1000000000 then (screen_Screen_print_j2 K p1 t14 t22 t260.2.g_w t260.2.g_l t260.2.spot_x t260.2.spot_y t260.2.spot_style_Fore t260.2.spot_style_Back t260.2.spot_style_Bold t260.2.spot_style_Under t260.2.spot_style_Inverse t260.2.saved_x t260.2.saved_y t260.2.saved_style_Fore t260.2.saved_style_Back t260.2.saved_style_Bold t260.2.saved_style_Under t260.2.saved_style_Inverse t260.2.waiting t260.2.top t260.2.bottom t260.2.wraps t260.2.title (([] : List T65) ++ t260.1)) else none))) else (screen_Screen_print_j2 K p1 t14 t22 p0.g_w p0.g_l p0.spot_x p0.spot_y p0.spot_style_Fore p0.spot_style_Back p0.spot_style_Bold p0.spot_style_Under p0.spot_style_Inverse p0.saved_x p0.saved_y p0.saved_style_Fore p0.saved_style_Back p0.saved_style_Bold p0.saved_style_Under p0.saved_style_Inverse x235 p0.top p0.bottom p0.wraps p0.title ([] : List T65))
def screen_Screen_print_j1 (K : Nat) (p0 : T55) (p1 : Int) (t14 : Int) (t22 : Int × Int) : Option ((List T65) × T55) :=
  bif p0.waiting then (screen_Screen_print_j4 K p0 p1 t14 t22 true p0.wraps) else (screen_Screen_print_j4 K p0 p1 t14 t22 false false)
def screen_Screen_print (K : Nat) (p0 : T55) (p1 : Int) : Option ((List T65) × T55) :=
  (wide_Of K p1).bind fun t14 => ((grid_Grid_Size (⟨p0.g_w, p0.g_l⟩ : T74)).bind fun t22 => (bif (t14 == (0 : Int)) then (some (([] : List T65), p0)) else (bif (decide (t14 > t22.1)) then (some (([] : List T65), p0)) else (screen_Screen_print_j1 K p0 p1 t14 t22))))

/-! (*tidewrack/screen.Screen).control -/
def screen_Screen_control_j1 (K : Nat) (p0 : T55) (p1 : Int) (x12 : Bool) : Option ((List T65) × T55) :=
  bif x12 then ((screen_Screen_line K p0).bind fun t34 => (some (t34.1, t34.2))) else (bif (p1 == (13 : Int)) then ((screen_Screen_move p0 0 p0.spot_y).bind fun t19 => (some (([] : List T65), t19))) else (some (([] : List T65), p0)))
def screen_Screen_control_j2 (x198 : Int) (l201 : List T65) (x204 : Int) (x205 : Int) (x206 : Int) (x207 : Int) (x208 : Bool) (x209 : Bool) (x210 : Bool) (x211 : Int) (x212 : Int) (x213 : Int) (x214 : Int) (x215 : Bool) (x216 : Bool) (x217 : Bool) (x218 : Bool) (x219 : Int) (x220 : Int) (x221 : Bool) (x222 : ByteArray) : Option ((List T65) × T55) :=
  some (([] : List T65), (⟨x198, l201, x204, x205, x206, x207, x208, x209, x210, x211, x212, x213, x214, x215, x216, x217, x218, x219, x220, x221, x222⟩ : T55))
def screen_Screen_control_j3 (x466 : Int) (l469 : List T65) (x472 : Int) (x473 : Int) (x474 : Int) (x475 : Int) (x476 : Bool) (x477 : Bool) (x478 : Bool) (x479 : Int) (x480 : Int) (x481 : Int) (x482 : Int) (x483 : Bool) (x484 : Bool) (x485 : Bool) (x486 : Bool) (x487 : Int) (x488 : Int) (x489 : Bool) (x490 : ByteArray) : Option ((List T65) × T55) :=
  some (([] : List T65), (⟨x466, l469, x472, x473, x474, x475, x476, x477, x478, x479, x480, x481, x482, x483, x484, x485, x486, x487, x488, x489, x490⟩ : T55))
def screen_Screen_control (K : Nat) (p0 : T55) (p1 : Int) : Option ((List T65) × T55) :=
  bif (p1 == (8 : Int)) then ((screen_Screen_move p0 (IntKind.wrap .i64 (p0.spot_x - 1)) p0.spot_y).bind fun t510 => (screen_Screen_control_j3 t510.g_w t510.g_l t510.spot_x t510.spot_y t510.spot_style_Fore t510.spot_style_Back t510.spot_style_Bold t510.spot_style_Under t510.spot_style_Inverse t510.saved_x t510.saved_y t510.saved_style_Fore t510.saved_style_Back t510.saved_style_Bold t510.saved_style_Under t510.saved_style_Inverse t510.waiting t510.top t510.bottom t510.wraps t510.title)) else (bif (p1 == (9 : Int)) then ((screen_Screen_move p0 (IntKind.wrap .i64 ((IntKind.wrap .i64 ((IntKind.wrap .i64 (Int.tdiv p0.spot_x 8)) + 1)) * 8)) p0.spot_y).bind fun t242 => (screen_Screen_control_j2 t242.g_w t242.g_l t242.spot_x t242.spot_y t242.spot_style_Fore t242.spot_style_Back t242.spot_style_Bold t242.spot_style_Under t242.spot_style_Inverse t242.saved_x t242.saved_y t242.saved_style_Fore t242.saved_style_Back t242.saved_style_Bold t242.saved_style_Under t242.saved_style_Inverse t242.waiting t242.top t242.bottom t242.wraps t242.title)) else (bif (p1 == (10 : Int)) then (screen_Screen_control_j1 K p0 p1 true) else (bif (p1 == (11 : Int)) then (screen_Screen_control_j1 K p0 p1 true) else (screen_Screen_control_j1 K p0 p1 (p1 == (12 : Int))))))

/-! tidewrack/screen.at -/
def screen_at_j1 (p0 : T37) (p1 : Int) (p2 : Int) (x24 : Bool) : Option Int :=
  bif x24 then (some p2) else (if 0 ≤ p1 ∧ p1 < ((p0.Nums).length : Int) then (some (mnI (rdD 0 p0.Nums p1) 9999)) else none)
def screen_at (p0 : T37) (p1 : Int) (p2 : Int) : Option Int :=
  bif (decide (p1 ≥ ((p0.Nums).length : Int))) then (screen_at_j1 p0 p1 p2 true) else (if 0 ≤ p1 ∧ p1 < ((p0.Nums).length : Int) then (screen_at_j1 p0 p1 p2 (decide ((rdD 0 p0.Nums p1) ≤ (0 : Int)))) else none)

/-! (*tidewrack/screen.Screen).Do -/
def screen_Screen_Do_j1 (p0 : T55) (p1 : T37) (x29 : Bool) : Option ((List T65) × T55) :=
  bif x29 then (some (([] : List T65), (⟨p0.g_w, p0.g_l, p0.spot_x, p0.spot_y, p0.spot_style_Fore, p0.spot_style_Back, p0.spot_style_Bold, p0.spot_style_Under, p0.spot_style_Inverse, p0.saved_x, p0.saved_y, p0.saved_style_Fore, p0.saved_style_Back, p0.saved_style_Bold, p0.saved_style_Under, p0.saved_style_Inverse, p0.waiting, p0.top, p0.bottom, (p1.Byte == (104 : Int)), p0.title⟩ : T55))) else (some (([] : List T65), p0))
def screen_Screen_Do (K : Nat) (p0 : T55) (p1 : T37) : Option ((List T65) × T55) :=
  bif (p1.Kind == (1 : Int)) then ((screen_Screen_print K p0 p1.Rune).bind fun t70 => (some (t70.1, t70.2))) else (bif (p1.Kind == (2 : Int)) then ((screen_Screen_control K p0 p1.Byte).bind fun t51 => (some (t51.1, t51.2))) else (bif (p1.Kind == (3 : Int)) then (none) else (bif (p1.Kind == (5 : Int)) then (some (([] : List T65), (⟨p0.g_w, p0.g_l, p0.spot_x, p0.spot_y, p0.spot_style_Fore, p0.spot_style_Back, p0.spot_style_Bold, p0.spot_style_Under, p0.spot_style_Inverse, p0.saved_x, p0.saved_y, p0.saved_style_Fore, p0.saved_style_Back, p0.saved_style_Bold, p0.saved_style_Under, p0.saved_style_Inverse, p0.waiting, p0.top, p0.bottom, p0.wraps, p1.Text⟩ : T55))) else (bif (p1.Kind == (4 : Int)) then (bif (!p1.Private) then (none) else ((screen_at p1 0 0).bind fun t38 => (bif (t38 == (7 : Int)) then (bif (p1.Byte == (104 : Int)) then (screen_Screen_Do_j1 p0 p1 true) else (screen_Screen_Do_j1 p0 p1 (p1.Byte == (108 : Int)))) else (screen_Screen_Do_j1 p0 p1 false)))) else (some (([] : List T65), p0))))))

/-! (tidewrack/row.Row).Glyphs -/
def row_Row_Glyphs_j2 (l312 : List T46) : Option (List T46) :=
  some l312
def row_Row_Glyphs_j4 (l170 : List T77) (l359 : List T46) (x362 : Int) (lp402 : (List T46) → Int → Option (List T46)) (x423 : Bool) : Option (List T46) :=
  bif x423 then (if (l359).length + (([(⟨(rdD zT77 l170 x362).Rune, (rdD zT77 l170 x362).Style⟩ : T46)] : List T46)).length ≤ 1000000000 then (lp402 (l359 ++ ([(⟨(rdD zT77 l170 x362).Rune, (rdD zT77 l170 x362).Style⟩ : T46)] : List T46)) (IntKind.wrap .i64 (x362 + 1))) else none) else (lp402 l359 (IntKind.wrap .i64 (x362 + 1)))
def row_Row_Glyphs_l3 (l170 : List T77) : Nat → (List T46) → Int → Option (List T46)
  | 0, _, _ => none
  | k401 + 1, l359, x362 => bif (decide (x362 < ((l170).length : Int))) then (if 0 ≤ x362 ∧ x362 < ((l170).length : Int) then (bif (((rdD zT77 l170 x362).Part) == (0 : Int)) then (row_Row_Glyphs_j4 l170 l359 x362 (row_Row_Glyphs_l3 l170 k401) true) else (row_Row_Glyphs_j4 l170 l359 x362 (row_Row_Glyphs_l3 l170 k401) (((rdD zT77 l170 x362).Part) == (1 : Int)))) else none) else (row_Row_Glyphs_j2 l359)
def row_Row_Glyphs_j1 (K : Nat) (l170 : List T77) : Option (List T46) :=
  row_Row_Glyphs_l3 l170 K ([] : List T46) 0
def row_Row_Glyphs_l5 (K : Nat) (p0 : T65) : Nat → (List T77) → Option (List T46)
  | 0, _ => none
  | k543 + 1, l493 => bif (!p0.Wrapped) then (bif (decide (((l493).length : Int) > (0 : Int))) then (if 0 ≤ (IntKind.wrap .i64 (((l493).length : Int) - 1)) ∧ (IntKind.wrap .i64 (((l493).length : Int) - 1)) < ((l493).length : Int) then ((row_blank 0).bind fun t579 => (bif (eqT77 (rdD zT77 l493 (IntKind.wrap .i64 (((l493).length : Int) - 1))) t579) then (if 0 ≤ (IntKind.wrap .i64 (((l493).length : Int) - 1)) then (if (IntKind.wrap .i64 (((l493).length : Int) - 1)) ≤ ((l493).length : Int) then ((row_Row_Glyphs_l5 K p0 k543) (List.drop 0 (List.take (Int.toNat (IntKind.wrap .i64 (((l493).length : Int) - 1))) l493))) else none) else none) else (row_Row_Glyphs_j1 K l493))) else none) else (row_Row_Glyphs_j1 K l493)) else (row_Row_Glyphs_j1 K l493)
def row_Row_Glyphs (K : Nat) (p0 : T65) : Option (List T46) :=
  row_Row_Glyphs_l5 K p0 K p0.Cells

/-! slices.Clone[[]tidewrack/row.Glyph,tidewrack/row.Glyph] -/
def slices_Clone'' (p0 : List T46) : Option (List T46) :=
  if (([] : List T46)).length + (p0).length ≤ 1000000000 then (some (([] : List T46) ++ p0)) else none

/-! tidewrack/num.clip -/
def num_clip (p0 : Int) : Option Int :=
  some (mxI 0 (mnI p0 4611686018427387904))

/-! tidewrack/num.digits$1 -/
def num_digits_1_j1 (x63 : Int) : Option (List Int) :=
  Option.map (List.cons (IntKind.wrap .u8 x63)) (some [])
def num_digits_1_l2 : Nat → Int → Option (List Int)
  | 0, _ => none
  | k110 + 1, x98 => bif (decide (x98 ≥ (128 : Int))) then (Option.map (List.cons (bits .or .u8 (bits .and .u8 (IntKind.wrap .u8 x98) 127) 128)) ((num_digits_1_l2 k110) (Int.fdiv x98 (2 ^ min (Int.toNat 7) 64)))) else (num_digits_1_j1 x98)
def num_digits_1 (K : Nat) (p1 : Int) : Option (List Int) :=
  (num_clip p1).bind fun t74 => (num_digits_1_l2 K t74)

/-! tidewrack/num.digits -/
def num_digits (p0 : Int) : Option Int :=
  some p0

/-! (*tidewrack/num.Out).Num -/
def num_Out_Num_j1 (l5361 : List Int) : Option T128 :=
  some (⟨l5361⟩ : T128)
def num_Out_Num_j3 (x7155 : Int) (lp8931 : (List Int) → Int → Option T128) (l9826 : List Int) : Option T128 :=
  lp8931 l9826 (IntKind.wrap .i64 (x7155 + 1))
def num_Out_Num_j5 (x9848 : Int) (l10143 : List Int) (lp9853 : (List Int) → Option T128) : Option T128 :=
  lp9853 (l10143 ++ ([x9848] : List Int))
def num_Out_Num_r4 (x7155 : Int) (lp8931 : (List Int) → Int → Option T128) : List Int → (List Int) → Option T128
  | [], l10143 => num_Out_Num_j3 x7155 lp8931 l10143
  | x9848 :: rest9849, l10143 => if (l10143).length + (([x9848] : List Int)).length ≤ 1000000000 then (num_Out_Num_j5 x9848 l10143 (num_Out_Num_r4 x7155 lp8931 rest9849)) else none
def num_Out_Num_l2 (K : Nat) (p1 : List Int) : Nat → (List Int) → Int → Option T128
  | 0, _, _ => none
  | k8930 + 1, l7148, x7155 => bif (decide (x7155 < ((p1).length : Int))) then (if 0 ≤ x7155 ∧ x7155 < ((p1).length : Int) then ((num_digits (rdD 0 p1 x7155)).bind fun t9839 => ((num_digits_1 K t9839).bind fun ys9846 => (num_Out_Num_r4 x7155 (num_Out_Num_l2 K p1 k8930) ys9846 l7148))) else none) else (num_Out_Num_j1 l7148)
def num_Out_Num (K : Nat) (p0 : T128) (p1 : List Int) : Option T128 :=
  num_Out_Num_l2 K p1 K p0.b 0

/-! (*tidewrack/num.Out).Bytes -/
def num_Out_Bytes (p0 : T128) : Option (ByteArray × T128) :=
  some ((strOfNums p0.b), p0)

/-! tidewrack/book.Pack -/
def book_Pack_j1 (l142 : List Int) : Option ByteArray :=
  (num_Out_Bytes (⟨l142⟩ : T128)).bind fun t149 => (some t149.1)
def book_Pack_l2 (K : Nat) (p0 : List T46) : Nat → (List Int) → Int → Option ByteArray
  | 0, _, _ => none
  | k230 + 1, l195, x198 => bif (decide (x198 < ((p0).length : Int))) then (if 0 ≤ x198 ∧ x198 < ((p0).length : Int) then ((num_Out_Num K (⟨l195⟩ : T128) ([(IntKind.wrap .i64 ((rdD zT46 p0 x198).Rune)), (rdD zT46 p0 x198).Style] : List Int)).bind fun t253 => ((book_Pack_l2 K p0 k230) t253.b (IntKind.wrap .i64 (x198 + 1)))) else none) else (book_Pack_j1 l195)
def book_Pack (K : Nat) (p0 : List T46) : Option ByteArray :=
  (num_Out_Num K (⟨([] : List Int)⟩ : T128) ([((p0).length : Int)] : List Int)).bind fun t15 => (book_Pack_l2 K p0 K t15.b 0)

/-! tidewrack/sum.step -/
def sum_step (p0 : Int) (p1 : Int) : Option Int :=
  if 0 ≤ (bits .and .u32 (bits .xor .u32 p0 (IntKind.wrap .u32 p1)) 15) ∧ (bits .and .u32 (bits .xor .u32 p0 (IntKind.wrap .u32 p1)) 15) < ((glob2).length : Int) then (if 0 ≤ (bits .and .u32 (bits .xor .u32 (Int.fdiv (bits .xor .u32 p0 (IntKind.wrap .u32 p1)) (2 ^ min (Int.toNat 4) 32)) (rdD 0 glob2 (bits .and .u32 (bits .xor .u32 p0 (IntKind.wrap .u32 p1)) 15))) 15) ∧ (bits .and .u32 (bits .xor .u32 (Int.fdiv (bits .xor .u32 p0 (IntKind.wrap .u32 p1)) (2 ^ min (Int.toNat 4) 32)) (rdD 0 glob2 (bits .and .u32 (bits .xor .u32 p0 (IntKind.wrap .u32 p1)) 15))) 15) < ((glob2).length : Int) then (some (bits .xor .u32 (Int.fdiv (bits .xor .u32 (Int.fdiv (bits .xor .u32 p0 (IntKind.wrap .u32 p1)) (2 ^ min (Int.toNat 4) 32)) (rdD 0 glob2 (bits .and .u32 (bits .xor .u32 p0 (IntKind.wrap .u32 p1)) 15))) (2 ^ min (Int.toNat 4) 32)) (rdD 0 glob2 (bits .and .u32 (bits .xor .u32 (Int.fdiv (bits .xor .u32 p0 (IntKind.wrap .u32 p1)) (2 ^ min (Int.toNat 4) 32)) (rdD 0 glob2 (bits .and .u32 (bits .xor .u32 p0 (IntKind.wrap .u32 p1)) 15))) 15)))) else none) else none

/-! tidewrack/sum.Of -/
def sum_Of_j1 (x328 : Int) : Option Int :=
  some (bits .xor .u32 4294967295 x328)
def sum_Of_j3 (x441 : Int) (lp546 : Int → Int → Option Int) (x602 : Int) : Option Int :=
  lp546 x602 (IntKind.wrap .i64 (x441 + 1))
def sum_Of_l4 (p0 : List ByteArray) (x441 : Int) (lp546 : Int → Int → Option Int) : Nat → Int → Int → Option Int
  | 0, _, _ => none
  | k637 + 1, x624, x625 => bif (decide (x625 < (((rdD (⟨#[]⟩ : ByteArray) p0 x441)).size : Int))) then (if 0 ≤ x625 ∧ x625 < (((rdD (⟨#[]⟩ : ByteArray) p0 x441)).size : Int) then ((sum_step x624 (bt (rdD (⟨#[]⟩ : ByteArray) p0 x441) x625)).bind fun t645 => ((sum_Of_l4 p0 x441 lp546 k637) t645 (IntKind.wrap .i64 (x625 + 1)))) else none) else (sum_Of_j3 x441 lp546 x624)
def sum_Of_l2 (K : Nat) (p0 : List ByteArray) : Nat → Int → Int → Option Int
  | 0, _, _ => none
  | k545 + 1, x436, x441 => bif (decide (x441 < ((p0).length : Int))) then (if 0 ≤ x441 ∧ x441 < ((p0).length : Int) then (sum_Of_l4 p0 x441 (sum_Of_l2 K p0 k545) K x436 0) else none) else (sum_Of_j1 x436)
def sum_Of (K : Nat) (p0 : List ByteArray) : Option Int :=
  sum_Of_l2 K p0 K 4294967295 0

/-! tidewrack/book.next -/
def book_next (K : Nat) (p0 : Int) (p1 : List T46) : Option Int :=
  (book_Pack K p1).bind fun t4 => ((sum_Of K ([t4] : List ByteArray)).bind fun t18 => (some (Int.tmod (IntKind.wrap .i64 ((Int.tmod (IntKind.wrap .i64 ((Int.tmod (IntKind.wrap .i64 (p0 * 256)) 281474976710597) * 256)) 281474976710597) + (IntKind.wrap .i64 t18))) 281474976710597)))

/-! (*tidewrack/book.Book).close -/
def book_Book_close_j2 (p0 : T60) (l311 : List (List T46)) (l801 : List Int) : Option T60 :=
  some (⟨l311, l801, p0.begun⟩ : T60)
def book_Book_close_j1 (K : Nat) (p0 : T60) (p1 : List T46) (l311 : List (List T46)) : Option T60 :=
  if 0 ≤ (IntKind.wrap .i64 (((p0.chains).length : Int) - 1)) ∧ (IntKind.wrap .i64 (((p0.chains).length : Int) - 1)) < ((p0.chains).length : Int) then ((book_next K (rdD 0 p0.chains (IntKind.wrap .i64 (((p0.chains).length : Int) - 1))) p1).bind fun t837 => (if (p0.chains).length + (([t837] : List Int)).length ≤ 1000000000 then (book_Book_close_j2 p0 l311 (p0.chains ++ ([t837] : List Int))) else none)) else none
def book_Book_close (K : Nat) (p0 : T60) (p1 : List T46) : Option T60 :=
  (slices_Clone'' p1).bind fun t1285 => (if (p0.l).length + (([t1285] : List (List T46))).length ≤ 1000000000 then (book_Book_close_j1 K p0 p1 (p0.l ++ ([t1285] : List (List T46)))) else none)

/-! (*tidewrack/book.Book).Add -/
def book_Book_Add_j1 (p0 : T60) (l4732 : List (List T46)) (l4737 : List Int) (l4742 : List T46) : Option (Int × T60) :=
  some ((IntKind.wrap .i64 (((l4732).length : Int) - ((p0.l).length : Int))), (⟨l4732, l4737, l4742⟩ : T60))
def book_Book_Add_j3 (x6329 : Int) (lp7892 : (List (List T46)) → (List Int) → (List T46) → Int → Option (Int × T60)) (l8679 : List (List T46)) (l8684 : List Int) (l8689 : List T46) : Option (Int × T60) :=
  lp7892 l8679 l8684 l8689 (IntKind.wrap .i64 (x6329 + 1))
def book_Book_Add_j5 (K : Nat) (p1 : List T65) (x6329 : Int) (lp7892 : (List (List T46)) → (List Int) → (List T46) → Int → Option (Int × T60)) (l9095 : List (List T46)) (l9100 : List Int) (l9105 : List T46) : Option (Int × T60) :=
  bif (!((rdD zT65 p1 x6329).Wrapped)) then ((book_Book_close K (⟨l9095, l9100, l9105⟩ : T60) l9105).bind fun t9113 => (book_Book_Add_j3 x6329 lp7892 t9113.l t9113.chains ([] : List T46))) else (book_Book_Add_j3 x6329 lp7892 l9095 l9100 l9105)
def book_Book_Add_l6 (K : Nat) (p1 : List T65) (x6329 : Int) (lp7892 : (List (List T46)) → (List Int) → (List T46) → Int → Option (Int × T60)) : Nat → (List (List T46)) → (List Int) → (List T46) → Option (Int × T60)
  | 0, _, _, _ => none
  | k9252 + 1, l9189, l9194, l9199 => bif (decide (((l9199).length : Int) ≥ (1024 : Int))) then (if (1024 : Int) ≤ ((l9199).length : Int) then ((book_Book_close K (⟨l9189, l9194, l9199⟩ : T60) (List.take (Int.toNat 1024) l9199)).bind fun t9265 => (if (1024 : Int) ≤ ((t9265.begun).length : Int) then ((slices_Clone'' (List.drop (Int.toNat 1024) (List.take (t9265.begun).length t9265.begun))).bind fun t9292 => ((book_Book_Add_l6 K p1 x6329 lp7892 k9252) t9265.l t9265.chains t9292)) else none)) else none) else (book_Book_Add_j5 K p1 x6329 lp7892 l9189 l9194 l9199)
def book_Book_Add_j4 (K : Nat) (p1 : List T65) (l6312 : List (List T46)) (l6317 : List Int) (x6329 : Int) (lp7892 : (List (List T46)) → (List Int) → (List T46) → Int → Option (Int × T60)) (l8898 : List T46) : Option (Int × T60) :=
  book_Book_Add_l6 K p1 x6329 lp7892 K l6312 l6317 l8898
def book_Book_Add_l2 (K : Nat) (p0 : T60) (p1 : List T65) : Nat → (List (List T46)) → (List Int) → (List T46) → Int → Option (Int × T60)
  | 0, _, _, _, _ => none
  | k7891 + 1, l6312, l6317, l6322, x6329 => bif (decide (x6329 < ((p1).length : Int))) then (if 0 ≤ x6329 ∧ x6329 < ((p1).length : Int) then ((row_Row_Glyphs K (rdD zT65 p1 x6329)).bind fun t9330 => (if (l6322).length + (t9330).length ≤ 1000000000 then (book_Book_Add_j4 K p1 l6312 l6317 x6329 (book_Book_Add_l2 K p0 p1 k7891) (l6322 ++ t9330)) else none)) else none) else (book_Book_Add_j1 p0 l6312 l6317 l6322)
def book_Book_Add (K : Nat) (p0 : T60) (p1 : List T65) : Option (Int × T60) :=
  book_Book_Add_l2 K p0 p1 K p0.l p0.chains p0.begun 0

/-! (*tidewrack/book.Book).Len -/
def book_Book_Len (p0 : T60) : Option Int :=
  some ((p0.l).length : Int)

/-! (*tidewrack/book.Book).Line -/
def book_Book_Line_j1 (p0 : T60) (p1 : Int) : Option ((List T46) × Bool) :=
  if 0 ≤ p1 ∧ p1 < ((p0.l).length : Int) then ((slices_Clone'' (rdD [] p0.l p1)).bind fun t28 => (some (t28, true))) else none
def book_Book_Line_j2 (p0 : T60) (p1 : Int) (x45 : Bool) : Option ((List T46) × Bool) :=
  bif x45 then (some (([] : List T46), false)) else (book_Book_Line_j1 p0 p1)
def book_Book_Line (p0 : T60) (p1 : Int) : Option ((List T46) × Bool) :=
  bif (decide (p1 < (0 : Int))) then (book_Book_Line_j2 p0 p1 true) else (book_Book_Line_j2 p0 p1 (decide (p1 ≥ ((p0.l).length : Int))))

/-! tidewrack/tidewracktop.TidewrackLines -/
def tidewracktop_TidewrackLines_j4 : Option Bool :=
  some true
def tidewracktop_TidewrackLines_j6 (x6451 : Int) (lp6662 : Int → Option Bool) : Option Bool :=
  lp6662 (IntKind.wrap .i64 (x6451 + 1))
def tidewracktop_TidewrackLines_l8 (l3677 : List ByteArray) (x6451 : Int) (lp6662 : Int → Option Bool) (t6781 : (List T46) × Bool) : Nat → (List Int) → Option Bool
  | 0, _ => none
  | k6849 + 1, l6827 => bif (List.isEmpty l6827) then (tidewracktop_TidewrackLines_j6 x6451 lp6662) else (if 0 ≤ (List.headD l6827 0) ∧ (List.headD l6827 0) < ((t6781.1).length : Int) then (if 0 ≤ (List.headD l6827 0) ∧ (List.headD l6827 0) < (((rdD (⟨#[]⟩ : ByteArray) l3677 x6451)).size : Int) then (bif (((rdD zT46 t6781.1 (List.headD l6827 0)).Rune) != (IntKind.wrap .i32 (bt (rdD (⟨#[]⟩ : ByteArray) l3677 x6451) (List.headD l6827 0)))) then (some false) else ((tidewracktop_TidewrackLines_l8 l3677 x6451 lp6662 t6781 k6849) (List.tail l6827))) else none) else none)
def tidewracktop_TidewrackLines_j7 (K : Nat) (l3677 : List ByteArray) (x6451 : Int) (lp6662 : Int → Option Bool) (t6781 : (List T46) × Bool) : Option Bool :=
  if asciiB (rdD (⟨#[]⟩ : ByteArray) l3677 x6451) = true then (tidewracktop_TidewrackLines_l8 l3677 x6451 lp6662 t6781 K (idxs (rdD (⟨#[]⟩ : ByteArray) l3677 x6451) 0)) else none
def tidewracktop_TidewrackLines_l5 (K : Nat) (l3677 : List ByteArray) (l5570 : List (List T46)) (l5575 : List Int) (l5580 : List T46) : Nat → Int → Option Bool
  | 0, _ => none
  | k6661 + 1, x6451 => bif (decide (x6451 < ((l3677).length : Int))) then (if 0 ≤ x6451 ∧ x6451 < ((l3677).length : Int) then ((book_Book_Line (⟨l5570, l5575, l5580⟩ : T60) x6451).bind fun t6781 => (bif (!t6781.2) then (some false) else (bif (((t6781.1).length : Int) != (((rdD (⟨#[]⟩ : ByteArray) l3677 x6451)).size : Int)) then (some false) else (tidewracktop_TidewrackLines_j7 K l3677 x6451 (tidewracktop_TidewrackLines_l5 K l3677 l5570 l5575 l5580 k6661) t6781)))) else none) else (tidewracktop_TidewrackLines_j4)
def tidewracktop_TidewrackLines_j3 (K : Nat) (l3677 : List ByteArray) (l5570 : List (List T46)) (l5575 : List Int) (l5580 : List T46) : Option Bool :=
  (book_Book_Len (⟨l5570, l5575, l5580⟩ : T60)).bind fun t5587 => (bif (decide (t5587 < ((l3677).length : Int))) then (some false) else (tidewracktop_TidewrackLines_l5 K l3677 l5570 l5575 l5580 K 0))
def tidewracktop_TidewrackLines_j10 (x7533 : Int) (lp8136 : Int → (List T65) → Int → Int → Int → Int → Bool → Bool → Bool → Int → Int → Int → Int → Bool → Bool → Bool → Bool → Int → Int → Bool → ByteArray → (List (List T46)) → (List Int) → (List T46) → Int → Bool → Bool → Bool → Bool → Int → (List Int) → ByteArray → Int → Int → Int → Int → Option Bool) (x8443 : Int) (l8446 : List T65) (x8449 : Int) (x8450 : Int) (x8451 : Int) (x8452 : Int) (x8453 : Bool) (x8454 : Bool) (x8455 : Bool) (x8456 : Int) (x8457 : Int) (x8458 : Int) (x8459 : Int) (x8460 : Bool) (x8461 : Bool) (x8462 : Bool) (x8463 : Bool) (x8464 : Int) (x8465 : Int) (x8466 : Bool) (x8467 : ByteArray) (l8470 : List (List T46)) (l8475 : List Int) (l8480 : List T46) (x8483 : Int) (x8484 : Bool) (x8485 : Bool) (x8486 : Bool) (x8487 : Bool) (x8488 : Int) (l8491 : List Int) (x8494 : ByteArray) (x8495 : Int) (x8496 : Int) (x8497 : Int) : Option Bool :=
  lp8136 x8443 l8446 x8449 x8450 x8451 x8452 x8453 x8454 x8455 x8456 x8457 x8458 x8459 x8460 x8461 x8462 x8463 x8464 x8465 x8466 x8467 l8470 l8475 l8480 x8483 x8484 x8485 x8486 x8487 x8488 l8491 x8494 x8495 x8496 x8497 (IntKind.wrap .i64 (x7533 + 1))
def tidewracktop_TidewrackLines_l11 (K : Nat) (x7533 : Int) (lp8136 : Int → (List T65) → Int → Int → Int → Int → Bool → Bool → Bool → Int → Int → Int → Int → Bool → Bool → Bool → Bool → Int → Int → Bool → ByteArray → (List (List T46)) → (List Int) → (List T46) → Int → Bool → Bool → Bool → Bool → Int → (List Int) → ByteArray → Int → Int → Int → Int → Option Bool) (t8502 : (List T37) × T33) : Nat → Int → (List T65) → Int → Int → Int → Int → Bool → Bool → Bool → Int → Int → Int → Int → Bool → Bool → Bool → Bool → Int → Int → Bool → ByteArray → (List (List T46)) → (List Int) → (List T46) → Int → Option Bool
  | 0, _, _, _, _, _, _, _, _, _, _, _, _, _, _, _, _, _, _, _, _, _, _, _, _, _ => none
  | k8679 + 1, x8581, l8584, x8587, x8588, x8589, x8590, x8591, x8592, x8593, x8594, x8595, x8596, x8597, x8598, x8599, x8600, x8601, x8602, x8603, x8604, x8605, l8608, l8613, l8618, x8621 => bif (decide (x8621 < ((t8502.1).length : Int))) then (if 0 ≤ x8621 ∧ x8621 < ((t8502.1).length : Int) then ((screen_Screen_Do K (⟨x8581, l8584, x8587, x8588, x8589, x8590, x8591, x8592, x8593, x8594, x8595, x8596, x8597, x8598, x8599, x8600, x8601, x8602, x8603, x8604, x8605⟩ : T55) (rdD zT37 t8502.1 x8621)).bind fun t8701 => ((book_Book_Add K (⟨l8608, l8613, l8618⟩ : T60) t8701.1).bind fun t8720 => ((tidewracktop_TidewrackLines_l11 K x7533 lp8136 t8502 k8679) t8701.2.g_w t8701.2.g_l t8701.2.spot_x t8701.2.spot_y t8701.2.spot_style_Fore t8701.2.spot_style_Back t8701.2.spot_style_Bold t8701.2.spot_style_Under t8701.2.spot_style_Inverse t8701.2.saved_x t8701.2.saved_y t8701.2.saved_style_Fore t8701.2.saved_style_Back t8701.2.saved_style_Bold t8701.2.saved_style_Under t8701.2.saved_style_Inverse t8701.2.waiting t8701.2.top t8701.2.bottom t8701.2.wraps t8701.2.title t8720.2.l t8720.2.chains t8720.2.begun (IntKind.wrap .i64 (x8621 + 1))))) else none) else (tidewracktop_TidewrackLines_j10 x7533 lp8136 x8581 l8584 x8587 x8588 x8589 x8590 x8591 x8592 x8593 x8594 x8595 x8596 x8597 x8598 x8599 x8600 x8601 x8602 x8603 x8604 x8605 l8608 l8613 l8618 t8502.2.state t8502.2.order_private_ t8502.2.order_wrong t8502.2.order_any t8502.2.order_some t8502.2.order_n t8502.2.order_nums t8502.2.text t8502.2.runes_Lead t8502.2.runes_Rune t8502.2.runes_Need)
def tidewracktop_TidewrackLines_l9 (K : Nat) (p2 : Int) (l3677 : List ByteArray) : Nat → Int → (List T65) → Int → Int → Int → Int → Bool → Bool → Bool → Int → Int → Int → Int → Bool → Bool → Bool → Bool → Int → Int → Bool → ByteArray → (List (List T46)) → (List Int) → (List T46) → Int → Bool → Bool → Bool → Bool → Int → (List Int) → ByteArray → Int → Int → Int → Int → Option Bool
  | 0, _, _, _, _, _, _, _, _, _, _, _, _, _, _, _, _, _, _, _, _, _, _, _, _, _, _, _, _, _, _, _, _, _, _, _, _ => none
  | k8135 + 1, x7478, l7481, x7484, x7485, x7486, x7487, x7488, x7489, x7490, x7491, x7492, x7493, x7494, x7495, x7496, x7497, x7498, x7499, x7500, x7501, x7502, l7505, l7510, l7515, x7518, x7519, x7520, x7521, x7522, x7523, l7526, x7529, x7530, x7531, x7532, x7533 => bif (decide (x7533 < (IntKind.wrap .i64 (1 + (bits .and .i64 p2 3))))) then ((seq_Parser_Feed K (⟨x7518, x7519, x7520, x7521, x7522, x7523, l7526, x7529, x7530, x7531, x7532, ([] : List T37)⟩ : T33) (⟨#[13, 10]⟩ : ByteArray)).bind fun t8502 => (tidewracktop_TidewrackLines_l11 K x7533 (tidewracktop_TidewrackLines_l9 K p2 l3677 k8135) t8502 K x7478 l7481 x7484 x7485 x7486 x7487 x7488 x7489 x7490 x7491 x7492 x7493 x7494 x7495 x7496 x7497 x7498 x7499 x7500 x7501 x7502 l7505 l7510 l7515 0)) else (tidewracktop_TidewrackLines_j3 K l3677 l7505 l7510 l7515)
def tidewracktop_TidewrackLines_j2 (K : Nat) (p2 : Int) (x3620 : Int) (l3623 : List T65) (x3626 : Int) (x3627 : Int) (x3628 : Int) (x3629 : Int) (x3630 : Bool) (x3631 : Bool) (x3632 : Bool) (x3633 : Int) (x3634 : Int) (x3635 : Int) (x3636 : Int) (x3637 : Bool) (x3638 : Bool) (x3639 : Bool) (x3640 : Bool) (x3641 : Int) (x3642 : Int) (x3643 : Bool) (x3644 : ByteArray) (l3647 : List (List T46)) (l3652 : List Int) (l3657 : List T46) (x3660 : Int) (x3661 : Bool) (x3662 : Bool) (x3663 : Bool) (x3664 : Bool) (x3665 : Int) (l3668 : List Int) (x3671 : ByteArray) (x3672 : Int) (x3673 : Int) (x3674 : Int) (l3677 : List ByteArray) : Option Bool :=
  tidewracktop_TidewrackLines_l9 K p2 l3677 K x3620 l3623 x3626 x3627 x3628 x3629 x3630 x3631 x3632 x3633 x3634 x3635 x3636 x3637 x3638 x3639 x3640 x3641 x3642 x3643 x3644 l3647 l3652 l3657 x3660 x3661 x3662 x3663 x3664 x3665 l3668 x3671 x3672 x3673 x3674 0
def tidewracktop_TidewrackLines_j14 (x9950 : Int) (lp11095 : Int → (List T65) → Int → Int → Int → Int → Bool → Bool → Bool → Int → Int → Int → Int → Bool → Bool → Bool → Bool → Int → Int → Bool → ByteArray → (List (List T46)) → (List Int) → (List T46) → Int → Bool → Bool → Bool → Bool → Int → (List Int) → ByteArray → Int → Int → Int → (List ByteArray) → Int → Option Bool) (x11679 : Int) (l11682 : List T65) (x11685 : Int) (x11686 : Int) (x11687 : Int) (x11688 : Int) (x11689 : Bool) (x11690 : Bool) (x11691 : Bool) (x11692 : Int) (x11693 : Int) (x11694 : Int) (x11695 : Int) (x11696 : Bool) (x11697 : Bool) (x11698 : Bool) (x11699 : Bool) (x11700 : Int) (x11701 : Int) (x11702 : Bool) (x11703 : ByteArray) (l11706 : List (List T46)) (l11711 : List Int) (l11716 : List T46) (x11719 : Int) (x11720 : Bool) (x11721 : Bool) (x11722 : Bool) (x11723 : Bool) (x11724 : Int) (l11727 : List Int) (x11730 : ByteArray) (x11731 : Int) (x11732 : Int) (x11733 : Int) (l11736 : List ByteArray) : Option Bool :=
  lp11095 x11679 l11682 x11685 x11686 x11687 x11688 x11689 x11690 x11691 x11692 x11693 x11694 x11695 x11696 x11697 x11698 x11699 x11700 x11701 x11702 x11703 l11706 l11711 l11716 x11719 x11720 x11721 x11722 x11723 x11724 l11727 x11730 x11731 x11732 x11733 l11736 (IntKind.wrap .i64 (x9950 + 1))
def tidewracktop_TidewrackLines_l16 (K : Nat) (l9947 : List ByteArray) (x9950 : Int) (lp11095 : Int → (List T65) → Int → Int → Int → Int → Bool → Bool → Bool → Int → Int → Int → Int → Bool → Bool → Bool → Bool → Int → Int → Bool → ByteArray → (List (List T46)) → (List Int) → (List T46) → Int → Bool → Bool → Bool → Bool → Int → (List Int) → ByteArray → Int → Int → Int → (List ByteArray) → Int → Option Bool) (x11868 : ByteArray) (t11888 : (List T37) × T33) : Nat → Int → (List T65) → Int → Int → Int → Int → Bool → Bool → Bool → Int → Int → Int → Int → Bool → Bool → Bool → Bool → Int → Int → Bool → ByteArray → (List (List T46)) → (List Int) → (List T46) → Int → Option Bool
  | 0, _, _, _, _, _, _, _, _, _, _, _, _, _, _, _, _, _, _, _, _, _, _, _, _, _ => none
  | k12065 + 1, x11967, l11970, x11973, x11974, x11975, x11976, x11977, x11978, x11979, x11980, x11981, x11982, x11983, x11984, x11985, x11986, x11987, x11988, x11989, x11990, x11991, l11994, l11999, l12004, x12007 => bif (decide (x12007 < ((t11888.1).length : Int))) then (if 0 ≤ x12007 ∧ x12007 < ((t11888.1).length : Int) then ((screen_Screen_Do K (⟨x11967, l11970, x11973, x11974, x11975, x11976, x11977, x11978, x11979, x11980, x11981, x11982, x11983, x11984, x11985, x11986, x11987, x11988, x11989, x11990, x11991⟩ : T55) (rdD zT37 t11888.1 x12007)).bind fun t12087 => ((book_Book_Add K (⟨l11994, l11999, l12004⟩ : T60) t12087.1).bind fun t12106 => ((tidewracktop_TidewrackLines_l16 K l9947 x9950 lp11095 x11868 t11888 k12065) t12087.2.g_w t12087.2.g_l t12087.2.spot_x t12087.2.spot_y t12087.2.spot_style_Fore t12087.2.spot_style_Back t12087.2.spot_style_Bold t12087.2.spot_style_Under t12087.2.spot_style_Inverse t12087.2.saved_x t12087.2.saved_y t12087.2.saved_style_Fore t12087.2.saved_style_Back t12087.2.saved_style_Bold t12087.2.saved_style_Under t12087.2.saved_style_Inverse t12087.2.waiting t12087.2.top t12087.2.bottom t12087.2.wraps t12087.2.title t12106.2.l t12106.2.chains t12106.2.begun (IntKind.wrap .i64 (x12007 + 1))))) else none) else (tidewracktop_TidewrackLines_j14 x9950 lp11095 x11967 l11970 x11973 x11974 x11975 x11976 x11977 x11978 x11979 x11980 x11981 x11982 x11983 x11984 x11985 x11986 x11987 x11988 x11989 x11990 x11991 l11994 l11999 l12004 t11888.2.state t11888.2.order_private_ t11888.2.order_wrong t11888.2.order_any t11888.2.order_some t11888.2.order_n t11888.2.order_nums t11888.2.text t11888.2.runes_Lead t11888.2.runes_Rune t11888.2.runes_Need (l9947 ++ ([x11868] : List ByteArray)))
def tidewracktop_TidewrackLines_j15 (K : Nat) (x9890 : Int) (l9893 : List T65) (x9896 : Int) (x9897 : Int) (x9898 : Int) (x9899 : Int) (x9900 : Bool) (x9901 : Bool) (x9902 : Bool) (x9903 : Int) (x9904 : Int) (x9905 : Int) (x9906 : Int) (x9907 : Bool) (x9908 : Bool) (x9909 : Bool) (x9910 : Bool) (x9911 : Int) (x9912 : Int) (x9913 : Bool) (x9914 : ByteArray) (l9917 : List (List T46)) (l9922 : List Int) (l9927 : List T46) (x9930 : Int) (x9931 : Bool) (x9932 : Bool) (x9933 : Bool) (x9934 : Bool) (x9935 : Int) (l9938 : List Int) (x9941 : ByteArray) (x9942 : Int) (x9943 : Int) (x9944 : Int) (l9947 : List ByteArray) (x9950 : Int) (lp11095 : Int → (List T65) → Int → Int → Int → Int → Bool → Bool → Bool → Int → Int → Int → Int → Bool → Bool → Bool → Bool → Int → Int → Bool → ByteArray → (List (List T46)) → (List Int) → (List T46) → Int → Bool → Bool → Bool → Bool → Int → (List Int) → ByteArray → Int → Int → Int → (List ByteArray) → Int → Option Bool) (x11868 : ByteArray) : Option Bool :=
  if (l9947).length + (([x11868] : List ByteArray)).length ≤ 1000000000 then (if ((x11868.size + (⟨#[13, 10]⟩ : ByteArray).size : Nat) : Int) ≤ 9223372036854775807 then ((seq_Parser_Feed K (⟨x9930, x9931, x9932, x9933, x9934, x9935, l9938, x9941, x9942, x9943, x9944, ([] : List T37)⟩ : T33) (x11868 ++ (⟨#[13, 10]⟩ : ByteArray))).bind fun t11888 => (tidewracktop_TidewrackLines_l16 K l9947 x9950 lp11095 x11868 t11888 K x9890 l9893 x9896 x9897 x9898 x9899 x9900 x9901 x9902 x9903 x9904 x9905 x9906 x9907 x9908 x9909 x9910 x9911 x9912 x9913 x9914 l9917 l9922 l9927 0)) else none) else none
def tidewracktop_TidewrackLines_j18 (p0 : List ByteArray) (x9950 : Int) (x12165 : ByteArray) (x12166 : Int) (lp12202 : ByteArray → Int → Option Bool) : Option Bool :=
  if 0 ≤ x9950 ∧ x9950 < ((p0).length : Int) then (if 0 ≤ x12166 ∧ x12166 < (((rdD (⟨#[]⟩ : ByteArray) p0 x9950)).size : Int) then (if ((x12165.size + (strOfNums ([(IntKind.wrap .u8 (33 + (bits .and .u8 (bt (rdD (⟨#[]⟩ : ByteArray) p0 x9950) x12166) 63)))] : List Int)).size : Nat) : Int) ≤ 9223372036854775807 then (lp12202 (x12165 ++ (strOfNums ([(IntKind.wrap .u8 (33 + (bits .and .u8 (bt (rdD (⟨#[]⟩ : ByteArray) p0 x9950) x12166) 63)))] : List Int))) (IntKind.wrap .i64 (x12166 + 1))) else none) else none) else none
def tidewracktop_TidewrackLines_l17 (K : Nat) (p0 : List ByteArray) (x9890 : Int) (l9893 : List T65) (x9896 : Int) (x9897 : Int) (x9898 : Int) (x9899 : Int) (x9900 : Bool) (x9901 : Bool) (x9902 : Bool) (x9903 : Int) (x9904 : Int) (x9905 : Int) (x9906 : Int) (x9907 : Bool) (x9908 : Bool) (x9909 : Bool) (x9910 : Bool) (x9911 : Int) (x9912 : Int) (x9913 : Bool) (x9914 : ByteArray) (l9917 : List (List T46)) (l9922 : List Int) (l9927 : List T46) (x9930 : Int) (x9931 : Bool) (x9932 : Bool) (x9933 : Bool) (x9934 : Bool) (x9935 : Int) (l9938 : List Int) (x9941 : ByteArray) (x9942 : Int) (x9943 : Int) (x9944 : Int) (l9947 : List ByteArray) (x9950 : Int) (lp11095 : Int → (List T65) → Int → Int → Int → Int → Bool → Bool → Bool → Int → Int → Int → Int → Bool → Bool → Bool → Bool → Int → Int → Bool → ByteArray → (List (List T46)) → (List Int) → (List T46) → Int → Bool → Bool → Bool → Bool → Int → (List Int) → ByteArray → Int → Int → Int → (List ByteArray) → Int → Option Bool) : Nat → ByteArray → Int → Option Bool
  | 0, _, _ => none
  | k12201 + 1, x12165, x12166 => if 0 ≤ x9950 ∧ x9950 < ((p0).length : Int) then (bif (decide (x12166 < (((rdD (⟨#[]⟩ : ByteArray) p0 x9950)).size : Int))) then (bif (decide (x12166 < (40 : Int))) then (tidewracktop_TidewrackLines_j18 p0 x9950 x12165 x12166 (tidewracktop_TidewrackLines_l17 K p0 x9890 l9893 x9896 x9897 x9898 x9899 x9900 x9901 x9902 x9903 x9904 x9905 x9906 x9907 x9908 x9909 x9910 x9911 x9912 x9913 x9914 l9917 l9922 l9927 x9930 x9931 x9932 x9933 x9934 x9935 l9938 x9941 x9942 x9943 x9944 l9947 x9950 lp11095 k12201)) else (tidewracktop_TidewrackLines_j15 K x9890 l9893 x9896 x9897 x9898 x9899 x9900 x9901 x9902 x9903 x9904 x9905 x9906 x9907 x9908 x9909 x9910 x9911 x9912 x9913 x9914 l9917 l9922 l9927 x9930 x9931 x9932 x9933 x9934 x9935 l9938 x9941 x9942 x9943 x9944 l9947 x9950 lp11095 x12165)) else (tidewracktop_TidewrackLines_j15 K x9890 l9893 x9896 x9897 x9898 x9899 x9900 x9901 x9902 x9903 x9904 x9905 x9906 x9907 x9908 x9909 x9910 x9911 x9912 x9913 x9914 l9917 l9922 l9927 x9930 x9931 x9932 x9933 x9934 x9935 l9938 x9941 x9942 x9943 x9944 l9947 x9950 lp11095 x12165)) else none
def tidewracktop_TidewrackLines_j13 (K : Nat) (p0 : List ByteArray) (x9890 : Int) (l9893 : List T65) (x9896 : Int) (x9897 : Int) (x9898 : Int) (x9899 : Int) (x9900 : Bool) (x9901 : Bool) (x9902 : Bool) (x9903 : Int) (x9904 : Int) (x9905 : Int) (x9906 : Int) (x9907 : Bool) (x9908 : Bool) (x9909 : Bool) (x9910 : Bool) (x9911 : Int) (x9912 : Int) (x9913 : Bool) (x9914 : ByteArray) (l9917 : List (List T46)) (l9922 : List Int) (l9927 : List T46) (x9930 : Int) (x9931 : Bool) (x9932 : Bool) (x9933 : Bool) (x9934 : Bool) (x9935 : Int) (l9938 : List Int) (x9941 : ByteArray) (x9942 : Int) (x9943 : Int) (x9944 : Int) (l9947 : List ByteArray) (x9950 : Int) (lp11095 : Int → (List T65) → Int → Int → Int → Int → Bool → Bool → Bool → Int → Int → Int → Int → Bool → Bool → Bool → Bool → Int → Int → Bool → ByteArray → (List (List T46)) → (List Int) → (List T46) → Int → Bool → Bool → Bool → Bool → Int → (List Int) → ByteArray → Int → Int → Int → (List ByteArray) → Int → Option Bool) : Option Bool :=
  tidewracktop_TidewrackLines_l17 K p0 x9890 l9893 x9896 x9897 x9898 x9899 x9900 x9901 x9902 x9903 x9904 x9905 x9906 x9907 x9908 x9909 x9910 x9911 x9912 x9913 x9914 l9917 l9922 l9927 x9930 x9931 x9932 x9933 x9934 x9935 l9938 x9941 x9942 x9943 x9944 l9947 x9950 lp11095 K (⟨#[]⟩ : ByteArray) 0
def tidewracktop_TidewrackLines_l12 (K : Nat) (p0 : List ByteArray) (p2 : Int) : Nat → Int → (List T65) → Int → Int → Int → Int → Bool → Bool → Bool → Int → Int → Int → Int → Bool → Bool → Bool → Bool → Int → Int → Bool → ByteArray → (List (List T46)) → (List Int) → (List T46) → Int → Bool → Bool → Bool → Bool → Int → (List Int) → ByteArray → Int → Int → Int → (List ByteArray) → Int → Option Bool
  | 0, _, _, _, _, _, _, _, _, _, _, _, _, _, _, _, _, _, _, _, _, _, _, _, _, _, _, _, _, _, _, _, _, _, _, _, _, _ => none
  | k11094 + 1, x9890, l9893, x9896, x9897, x9898, x9899, x9900, x9901, x9902, x9903, x9904, x9905, x9906, x9907, x9908, x9909, x9910, x9911, x9912, x9913, x9914, l9917, l9922, l9927, x9930, x9931, x9932, x9933, x9934, x9935, l9938, x9941, x9942, x9943, x9944, l9947, x9950 => bif (decide (x9950 < ((p0).length : Int))) then (bif (decide (x9950 < (12 : Int))) then (tidewracktop_TidewrackLines_j13 K p0 x9890 l9893 x9896 x9897 x9898 x9899 x9900 x9901 x9902 x9903 x9904 x9905 x9906 x9907 x9908 x9909 x9910 x9911 x9912 x9913 x9914 l9917 l9922 l9927 x9930 x9931 x9932 x9933 x9934 x9935 l9938 x9941 x9942 x9943 x9944 l9947 x9950 (tidewracktop_TidewrackLines_l12 K p0 p2 k11094)) else (tidewracktop_TidewrackLines_j2 K p2 x9890 l9893 x9896 x9897 x9898 x9899 x9900 x9901 x9902 x9903 x9904 x9905 x9906 x9907 x9908 x9909 x9910 x9911 x9912 x9913 x9914 l9917 l9922 l9927 x9930 x9931 x9932 x9933 x9934 x9935 l9938 x9941 x9942 x9943 x9944 l9947)) else (tidewracktop_TidewrackLines_j2 K p2 x9890 l9893 x9896 x9897 x9898 x9899 x9900 x9901 x9902 x9903 x9904 x9905 x9906 x9907 x9908 x9909 x9910 x9911 x9912 x9913 x9914 l9917 l9922 l9927 x9930 x9931 x9932 x9933 x9934 x9935 l9938 x9941 x9942 x9943 x9944 l9947)
def tidewracktop_TidewrackLines_j1 (K : Nat) (p0 : List ByteArray) (p2 : Int) (t4 : T55) (t20 : T60) : Option Bool :=
  tidewracktop_TidewrackLines_l12 K p0 p2 K t4.g_w t4.g_l t4.spot_x t4.spot_y t4.spot_style_Fore t4.spot_style_Back t4.spot_style_Bold t4.spot_style_Under t4.spot_style_Inverse t4.saved_x t4.saved_y t4.saved_style_Fore t4.saved_style_Back t4.saved_style_Bold t4.saved_style_Under t4.saved_style_Inverse t4.waiting t4.top t4.bottom t4.wraps t4.title t20.l t20.chains t20.begun 0 false false false false 0 ([] : List Int) (⟨#[]⟩ : ByteArray) 0 0 0 ([] : List ByteArray) 0
def tidewracktop_TidewrackLines (K : Nat) (p0 : List ByteArray) (p1 : Int) (p2 : Int) : Option Bool :=
  (screen_New K (IntKind.wrap .i64 (2 + (bits .and .i64 p1 15))) (IntKind.wrap .i64 (1 + (bits .and .i64 p2 3)))).bind fun t4 => ((book_New).bind fun t20 => (tidewracktop_TidewrackLines_j1 K p0 p2 t4 t20))

end Go.Proofs.YtpciioffkjpieaaGreatDoor
