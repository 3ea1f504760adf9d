/- Plain functions, printed by an own program: what the walked code computes. -/
import Derived.Test.YtibcjohofabllaaY37
set_option linter.unusedVariables false
set_option linter.unusedSimpArgs false
namespace Go.Proofs.Ytibcjohofabllaa
open Go Go.Proofs.XC
structure T29 where
  key : Int
  count : Int
  parts : M ByteArray
  bytes : Int
structure T52 where
  buf : List Int
structure T40 where
  Key : Int
  Has : List Bool
  Parts : List ByteArray
structure T42 where
  Forget : Bool
  Key : Int
  Index : Int
  Count : Int
  Data : ByteArray
abbrev zT42 : T42 := ⟨false, 0, 0, 0, (⟨#[]⟩ : ByteArray)⟩
namespace WF
def wfBool (_ : Bool) : Prop := True
def wfStr (x : ByteArray) : Prop := x.size ≤ maxLen
def wfi64 (x : Int) : Prop := (Lit.int .i64 x).wf = true
def wfi32 (x : Int) : Prop := (Lit.int .i32 x).wf = true
def wfu8 (x : Int) : Prop := (Lit.int .u8 x).wf = true
def wfu32 (x : Int) : Prop := (Lit.int .u32 x).wf = true
def wfu64 (x : Int) : Prop := (Lit.int .u64 x).wf = true
def wfi8 (x : Int) : Prop := (Lit.int .i8 x).wf = true
def wfi16 (x : Int) : Prop := (Lit.int .i16 x).wf = true
def wfu16 (x : Int) : Prop := (Lit.int .u16 x).wf = true
def wfT52 (x : T52) : Prop := (∀ y ∈ x.buf, wfu8 y) ∧ x.buf.length ≤ maxLen
def wfT40 (x : T40) : Prop := (Lit.int .i64 x.Key).wf = true ∧ (∀ y ∈ x.Has, wfBool y) ∧ x.Has.length ≤ maxLen ∧ (∀ y ∈ x.Parts, wfStr y) ∧ x.Parts.length ≤ maxLen
def wfT42 (x : T42) : Prop := (Lit.int .i64 x.Key).wf = true ∧ (Lit.int .i64 x.Index).wf = true ∧ (Lit.int .i64 x.Count).wf = true ∧ x.Data.size ≤ maxLen
end WF
/-! tidewrack/parts.Split -/
def parts_Split_j1 (x78 : ByteArray) (l81 : List ByteArray) : Option (List ByteArray) :=
  if (l81).length + (([x78] : List ByteArray)).length ≤ 1000000000 then (some (l81 ++ ([x78] : List ByteArray))) else none
def parts_Split_l2 (p1 : Int) : Nat → ByteArray → (List ByteArray) → Option (List ByteArray)
  | 0, _, _ => none
  | k144 + 1, x120, l123 => bif (decide (((x120).size : Int) > (mxI 1 (mnI p1 8000)))) then (if 0 ≤ (mxI 1 (mnI p1 8000)) then (if (mxI 1 (mnI p1 8000)) ≤ ((x120).size : Int) then (if (l123).length + (([(ByteArray.extract x120 0 (Int.toNat (mxI 1 (mnI p1 8000))))] : List ByteArray)).length ≤ 1000000000 then ((parts_Split_l2 p1 k144) (ByteArray.extract x120 (Int.toNat (mxI 1 (mnI p1 8000))) (x120).size) (l123 ++ ([(ByteArray.extract x120 0 (Int.toNat (mxI 1 (mnI p1 8000))))] : List ByteArray))) else none) else none) else none) else (parts_Split_j1 x120 l123)
def parts_Split (K : Nat) (p0 : ByteArray) (p1 : Int) : Option (List ByteArray) :=
  parts_Split_l2 p1 K p0 ([] : List ByteArray)

/-! (*tidewrack/parts.Slot).Put -/
def parts_Slot_Put_j1 (p2 : Int) (p4 : ByteArray) (x44 : Int) (x45 : Int) (l48 : M ByteArray) (x51 : Int) : Option (Int × T29) :=
  bif (!(M.has l48 p2)) then (if M.isNil l48 = false then (some (0, (⟨x44, x45, (M.put l48 p2 p4), (IntKind.wrap .i64 (x51 + ((p4).size : Int)))⟩ : T29))) else none) else (some (0, (⟨x44, x45, l48, x51⟩ : T29)))
def parts_Slot_Put_j2 (p0 : T29) (p1 : Int) (p2 : Int) (p3 : Int) (p4 : ByteArray) (x72 : Bool) : Option (Int × T29) :=
  bif x72 then (some (6, p0)) else (bif (decide (p1 < p0.key)) then (some (8, p0)) else (bif (decide (p1 > p0.key)) then (parts_Slot_Put_j1 p2 p4 p1 p3 (M.new : M ByteArray) 0) else (bif (p3 != p0.count) then (some (1, p0)) else (parts_Slot_Put_j1 p2 p4 p0.key p0.count p0.parts p0.bytes))))
def parts_Slot_Put (p0 : T29) (p1 : Int) (p2 : Int) (p3 : Int) (p4 : ByteArray) : Option (Int × T29) :=
  bif (decide (p3 < (1 : Int))) then (parts_Slot_Put_j2 p0 p1 p2 p3 p4 true) else (bif (decide (p3 > (4096 : Int))) then (parts_Slot_Put_j2 p0 p1 p2 p3 p4 true) else (bif (decide (p2 < (0 : Int))) then (parts_Slot_Put_j2 p0 p1 p2 p3 p4 true) else (bif (decide (p2 ≥ p3)) then (parts_Slot_Put_j2 p0 p1 p2 p3 p4 true) else (parts_Slot_Put_j2 p0 p1 p2 p3 p4 (decide (p1 < (1 : Int)))))))

/-! (*tidewrack/parts.Slot).each -/
def parts_Slot_each_l1 (p0 : T29) : Nat → Int → Option (List (Int × Bool))
  | 0, _ => none
  | k23 + 1, x14 => bif (decide (x14 < p0.count)) then (Option.map (List.cons (x14, (M.has p0.parts x14))) ((parts_Slot_each_l1 p0 k23) (IntKind.wrap .i64 (x14 + 1)))) else (some [])
def parts_Slot_each (K : Nat) (p0 : T29) : Option (List (Int × Bool)) :=
  parts_Slot_each_l1 p0 K 0

/-! (*strings.Builder).copyCheck -/
def strings_Builder_copyCheck (p0 : T52) : Option T52 :=
  some p0

/-! (*strings.Builder).WriteString -/
def strings_Builder_WriteString (p0 : T52) (p1 : ByteArray) : Option (Int × T52) :=
  (strings_Builder_copyCheck p0).bind fun t4 => (if (t4.buf).length + (p1).size ≤ 1000000000 then (some (((p1).size : Int), (⟨(t4.buf ++ numsOf p1)⟩ : T52))) else none)

/-! (*strings.Builder).String -/
def strings_Builder_String (p0 : T52) : Option ByteArray :=
  some (strOfNums p0.buf)

/-! (*tidewrack/parts.Slot).Whole -/
def parts_Slot_Whole_j2 (l130 : List Int) : Option (ByteArray × Bool) :=
  (strings_Builder_String (⟨l130⟩ : T52)).bind fun t137 => (some (t137, true))
def parts_Slot_Whole_r3 (p0 : T29) : List (Int × Bool) → (List Int) → Option (ByteArray × Bool)
  | [], l178 => parts_Slot_Whole_j2 l178
  | x146 :: rest147, l178 => (strings_Builder_WriteString (⟨l178⟩ : T52) (M.get (⟨#[]⟩ : ByteArray) p0.parts x146.1)).bind fun t204 => ((parts_Slot_Whole_r3 p0 rest147) t204.2.buf)
def parts_Slot_Whole_j1 (K : Nat) (p0 : T29) : Option (ByteArray × Bool) :=
  (parts_Slot_each K p0).bind fun ys144 => (parts_Slot_Whole_r3 p0 ys144 ([] : List Int))
def parts_Slot_Whole_j4 (K : Nat) (p0 : T29) (x230 : Bool) : Option (ByteArray × Bool) :=
  bif x230 then (some ((⟨#[]⟩ : ByteArray), false)) else (parts_Slot_Whole_j1 K p0)
def parts_Slot_Whole (K : Nat) (p0 : T29) : Option (ByteArray × Bool) :=
  bif (p0.key == (0 : Int)) then (parts_Slot_Whole_j4 K p0 true) else (parts_Slot_Whole_j4 K p0 (decide (((p0.parts).length : Int) < p0.count)))

/-! (*tidewrack/parts.Slot).Key -/
def parts_Slot_Key (p0 : T29) : Option Int :=
  some p0.key

/-! tidewrack/tidewracklaw04.awake -/
def tidewracklaw04_awake (K : Nat)  : Option Bool :=
  (parts_Split K (⟨#[97, 98, 99]⟩ : ByteArray) 2).bind fun t4 => ((parts_Slot_Put (⟨0, 0, (M.nil : M ByteArray), 0⟩ : T29) 1 1 2 (⟨#[99]⟩ : ByteArray)).bind fun t21 => ((parts_Slot_Put t21.2 1 0 2 (⟨#[97, 98]⟩ : ByteArray)).bind fun t34 => ((parts_Slot_Whole K t34.2).bind fun t47 => (bif (((t4).length : Int) == (2 : Int)) then (if 0 ≤ (1 : Int) ∧ (1 : Int) < ((t4).length : Int) then (bif (ByteArray.toList (rdD (⟨#[]⟩ : ByteArray) t4 1) == ByteArray.toList (⟨#[99]⟩ : ByteArray)) then (bif (t21.1 == (0 : Int)) then (bif (t34.1 == (0 : Int)) then (bif (ByteArray.toList t47.1 == ByteArray.toList (⟨#[97, 98, 99]⟩ : ByteArray)) then (bif t47.2 then ((parts_Slot_Key t34.2).bind fun t63 => (some (t63 == (1 : Int)))) else (some false)) else (some false)) else (some false)) else (some false)) else (some false)) else none) else (some false)))))

/-! tidewrack/tidewracklaw01.Cut -/
def tidewracklaw01_Cut (p0 : ByteArray) (p1 : Int) : Option ByteArray :=
  bif (decide (((p0).size : Int) > p1)) then (if 0 ≤ p1 then (if p1 ≤ ((p0).size : Int) then (some (ByteArray.extract p0 0 (Int.toNat p1))) else none) else none) else (some p0)

/-! tidewrack/tidewrackref04.Split -/
def tidewrackref04_Split_j1 (l92 : List ByteArray) : Option (List ByteArray) :=
  some l92
def tidewrackref04_Split_l2 (p0 : ByteArray) (p1 : Int) : Nat → (List ByteArray) → Int → Option (List ByteArray)
  | 0, _, _ => none
  | k145 + 1, l121, x124 => bif (decide (x124 < (mxI 1 (IntKind.wrap .i64 (Int.tdiv (IntKind.wrap .i64 ((IntKind.wrap .i64 (((p0).size : Int) + (mxI 1 (mnI p1 8000)))) - 1)) (mxI 1 (mnI p1 8000))))))) then (if 0 ≤ (mnI ((p0).size : Int) (IntKind.wrap .i64 ((IntKind.wrap .i64 (x124 * (mxI 1 (mnI p1 8000)))) + (mxI 1 (mnI p1 8000))))) then (if (mnI ((p0).size : Int) (IntKind.wrap .i64 ((IntKind.wrap .i64 (x124 * (mxI 1 (mnI p1 8000)))) + (mxI 1 (mnI p1 8000))))) ≤ ((p0).size : Int) then (if 0 ≤ (IntKind.wrap .i64 (x124 * (mxI 1 (mnI p1 8000)))) then (if (IntKind.wrap .i64 (x124 * (mxI 1 (mnI p1 8000)))) ≤ ((Int.toNat (mnI ((p0).size : Int) (IntKind.wrap .i64 ((IntKind.wrap .i64 (x124 * (mxI 1 (mnI p1 8000)))) + (mxI 1 (mnI p1 8000))))) : Nat) : Int) then (if (l121).length + (([(ByteArray.extract p0 (Int.toNat (IntKind.wrap .i64 (x124 * (mxI 1 (mnI p1 8000))))) (Int.toNat (mnI ((p0).size : Int) (IntKind.wrap .i64 ((IntKind.wrap .i64 (x124 * (mxI 1 (mnI p1 8000)))) + (mxI 1 (mnI p1 8000)))))))] : List ByteArray)).length ≤ 1000000000 then ((tidewrackref04_Split_l2 p0 p1 k145) (l121 ++ ([(ByteArray.extract p0 (Int.toNat (IntKind.wrap .i64 (x124 * (mxI 1 (mnI p1 8000))))) (Int.toNat (mnI ((p0).size : Int) (IntKind.wrap .i64 ((IntKind.wrap .i64 (x124 * (mxI 1 (mnI p1 8000)))) + (mxI 1 (mnI p1 8000)))))))] : List ByteArray)) (IntKind.wrap .i64 (x124 + 1))) else none) else none) else none) else none) else none) else (tidewrackref04_Split_j1 l121)
def tidewrackref04_Split (K : Nat) (p0 : ByteArray) (p1 : Int) : Option (List ByteArray) :=
  if (mxI 1 (mnI p1 8000)) ≠ 0 then (tidewrackref04_Split_l2 p0 p1 K ([] : List ByteArray) 0) else none

/-! tidewrack/tidewracklaw04.PartsSplit -/
def tidewracklaw04_PartsSplit_j1 (t13 : ByteArray) (x81 : ByteArray) : Option Bool :=
  some (ByteArray.toList x81 == ByteArray.toList t13)
def tidewracklaw04_PartsSplit_l2 (t13 : ByteArray) (t21 : List ByteArray) (t33 : List ByteArray) : Nat → ByteArray → Int → Option Bool
  | 0, _, _ => none
  | k104 + 1, x94, x95 => bif (decide (x95 < ((t21).length : Int))) then (if 0 ≤ x95 ∧ x95 < ((t21).length : Int) then (if 0 ≤ x95 ∧ x95 < ((t33).length : Int) then (bif (!(ByteArray.toList (rdD (⟨#[]⟩ : ByteArray) t21 x95) == ByteArray.toList (rdD (⟨#[]⟩ : ByteArray) t33 x95))) then (some false) else (if ((x94.size + (rdD (⟨#[]⟩ : ByteArray) t21 x95).size : Nat) : Int) ≤ 9223372036854775807 then ((tidewracklaw04_PartsSplit_l2 t13 t21 t33 k104) (x94 ++ (rdD (⟨#[]⟩ : ByteArray) t21 x95)) (IntKind.wrap .i64 (x95 + 1))) else none)) else none) else none) else (tidewracklaw04_PartsSplit_j1 t13 x94)
def tidewracklaw04_PartsSplit (K : Nat) (p0 : ByteArray) (p1 : Int) : Option Bool :=
  (tidewracklaw04_awake K).bind fun t4 => (bif (!t4) then (some false) else ((tidewracklaw01_Cut p0 300).bind fun t13 => ((parts_Split K t13 p1).bind fun t21 => ((tidewrackref04_Split K t13 p1).bind fun t33 => (bif (((t21).length : Int) != ((t33).length : Int)) then (some false) else (tidewracklaw04_PartsSplit_l2 t13 t21 t33 K (⟨#[]⟩ : ByteArray) 0))))))

/-! tidewrack/tidewracklaw04.PartsSizes -/
def tidewracklaw04_PartsSizes_j1 (p1 : Int) (t13 : ByteArray) (t21 : List ByteArray) : Option Bool :=
  if (mxI 1 (mnI p1 8000)) ≠ 0 then (some (((t21).length : Int) == (mxI 1 (IntKind.wrap .i64 (Int.tdiv (IntKind.wrap .i64 ((IntKind.wrap .i64 (((t13).size : Int) + (mxI 1 (mnI p1 8000)))) - 1)) (mxI 1 (mnI p1 8000))))))) else none
def tidewracklaw04_PartsSizes_l2 (p1 : Int) (t13 : ByteArray) (t21 : List ByteArray) : Nat → Int → Option Bool
  | 0, _ => none
  | k108 + 1, x95 => bif (decide (x95 < ((t21).length : Int))) then (if 0 ≤ x95 ∧ x95 < ((t21).length : Int) then (bif (decide (x95 < (IntKind.wrap .i64 (((t21).length : Int) - 1)))) then (bif ((((rdD (⟨#[]⟩ : ByteArray) t21 x95)).size : Int) != (mxI 1 (mnI p1 8000))) then (some false) else (bif (decide ((((rdD (⟨#[]⟩ : ByteArray) t21 x95)).size : Int) > (mxI 1 (mnI p1 8000)))) then (some false) else (bif (ByteArray.toList (rdD (⟨#[]⟩ : ByteArray) t21 x95) == ByteArray.toList (⟨#[]⟩ : ByteArray)) then (bif (!(ByteArray.toList t13 == ByteArray.toList (⟨#[]⟩ : ByteArray))) then (some false) else ((tidewracklaw04_PartsSizes_l2 p1 t13 t21 k108) (IntKind.wrap .i64 (x95 + 1)))) else ((tidewracklaw04_PartsSizes_l2 p1 t13 t21 k108) (IntKind.wrap .i64 (x95 + 1)))))) else (bif (decide ((((rdD (⟨#[]⟩ : ByteArray) t21 x95)).size : Int) > (mxI 1 (mnI p1 8000)))) then (some false) else (bif (ByteArray.toList (rdD (⟨#[]⟩ : ByteArray) t21 x95) == ByteArray.toList (⟨#[]⟩ : ByteArray)) then (bif (!(ByteArray.toList t13 == ByteArray.toList (⟨#[]⟩ : ByteArray))) then (some false) else ((tidewracklaw04_PartsSizes_l2 p1 t13 t21 k108) (IntKind.wrap .i64 (x95 + 1)))) else ((tidewracklaw04_PartsSizes_l2 p1 t13 t21 k108) (IntKind.wrap .i64 (x95 + 1)))))) else none) else (tidewracklaw04_PartsSizes_j1 p1 t13 t21)
def tidewracklaw04_PartsSizes (K : Nat) (p0 : ByteArray) (p1 : Int) : Option Bool :=
  (tidewracklaw04_awake K).bind fun t4 => (bif (!t4) then (some false) else ((tidewracklaw01_Cut p0 300).bind fun t13 => ((parts_Split K t13 p1).bind fun t21 => (tidewracklaw04_PartsSizes_l2 p1 t13 t21 K 0))))

/-! (*tidewrack/parts.Slot).which -/
def parts_Slot_which_j1 (l114 : List Int) : Option (List Int) :=
  some l114
def parts_Slot_which_r2 (p1 : Bool) : List (Int × Bool) → (List Int) → Option (List Int)
  | [], l159 => parts_Slot_which_j1 l159
  | x122 :: rest123, l159 => bif (x122.2 == p1) then (if (l159).length + (([x122.1] : List Int)).length ≤ 1000000000 then ((parts_Slot_which_r2 p1 rest123) (l159 ++ ([x122.1] : List Int))) else none) else ((parts_Slot_which_r2 p1 rest123) l159)
def parts_Slot_which (K : Nat) (p0 : T29) (p1 : Bool) : Option (List Int) :=
  (parts_Slot_each K p0).bind fun ys120 => (parts_Slot_which_r2 p1 ys120 ([] : List Int))

/-! (*tidewrack/parts.Slot).Lacks -/
def parts_Slot_Lacks (K : Nat) (p0 : T29) : Option (List Int) :=
  (parts_Slot_which K p0 false).bind fun t4 => (some t4)

/-! (*tidewrack/parts.Slot).Bytes -/
def parts_Slot_Bytes (p0 : T29) : Option Int :=
  some p0.bytes

/-! tidewrack/tidewracklaw04.PartsBack -/
def tidewracklaw04_PartsBack_j2 (K : Nat) (t13 : ByteArray) (x243 : Int) (x244 : Int) (l247 : M ByteArray) (x250 : Int) : Option Bool :=
  (parts_Slot_Whole K (⟨x243, x244, l247, x250⟩ : T29)).bind fun t255 => (bif t255.2 then (bif (ByteArray.toList t255.1 == ByteArray.toList t13) then ((parts_Slot_Lacks K (⟨x243, x244, l247, x250⟩ : T29)).bind fun t265 => (bif (((t265).length : Int) == (0 : Int)) then ((parts_Slot_Bytes (⟨x243, x244, l247, x250⟩ : T29)).bind fun t278 => (bif (t278 == ((t13).size : Int)) then ((parts_Slot_Put (⟨x243, x244, l247, x250⟩ : T29) 8 0 1 (⟨#[122]⟩ : ByteArray)).bind fun t287 => (bif (t287.1 == (8 : Int)) then ((parts_Slot_Put t287.2 10 0 2 (⟨#[122]⟩ : ByteArray)).bind fun t301 => (bif (t301.1 == (0 : Int)) then ((parts_Slot_Bytes t301.2).bind fun t315 => (some (t315 == (1 : Int)))) else (some false))) else (some false))) else (some false))) else (some false))) else (some false)) else (some false))
def tidewracklaw04_PartsBack_l3 (K : Nat) (t13 : ByteArray) (t21 : List ByteArray) : Nat → Int → Int → (M ByteArray) → Int → Int → Option Bool
  | 0, _, _, _, _, _ => none
  | k369 + 1, x342, x343, l346, x349, x350 => bif (decide (x350 < ((t21).length : Int))) then (if 0 ≤ x350 ∧ x350 < ((t21).length : Int) then ((parts_Slot_Put (⟨x342, x343, l346, x349⟩ : T29) 9 x350 ((t21).length : Int) (rdD (⟨#[]⟩ : ByteArray) t21 x350)).bind fun t378 => (bif (t378.1 != (0 : Int)) then (some false) else ((tidewracklaw04_PartsBack_l3 K t13 t21 k369) t378.2.key t378.2.count t378.2.parts t378.2.bytes (IntKind.wrap .i64 (x350 + 1))))) else none) else (tidewracklaw04_PartsBack_j2 K t13 x342 x343 l346 x349)
def tidewracklaw04_PartsBack_j1 (K : Nat) (t13 : ByteArray) (t21 : List ByteArray) (x151 : Int) (x152 : Int) (l155 : M ByteArray) (x158 : Int) : Option Bool :=
  tidewracklaw04_PartsBack_l3 K t13 t21 K x151 x152 l155 x158 0
def tidewracklaw04_PartsBack_j5 (p2 : List Int) (t21 : List ByteArray) (x421 : Int) (x422 : Int) (l425 : M ByteArray) (x428 : Int) (x429 : Int) (lp460 : Int → Int → (M ByteArray) → Int → Int → Option Bool) : Option Bool :=
  if 0 ≤ x429 ∧ x429 < ((p2).length : Int) then (if ((t21).length : Int) ≠ 0 then (if 0 ≤ (Int.tmod (bits .and .i64 (rdD 0 p2 x429) 65535) ((t21).length : Int)) ∧ (Int.tmod (bits .and .i64 (rdD 0 p2 x429) 65535) ((t21).length : Int)) < ((t21).length : Int) then ((parts_Slot_Put (⟨x421, x422, l425, x428⟩ : T29) 9 (Int.tmod (bits .and .i64 (rdD 0 p2 x429) 65535) ((t21).length : Int)) ((t21).length : Int) (rdD (⟨#[]⟩ : ByteArray) t21 (Int.tmod (bits .and .i64 (rdD 0 p2 x429) 65535) ((t21).length : Int)))).bind fun t477 => (bif (t477.1 != (0 : Int)) then (some false) else (lp460 t477.2.key t477.2.count t477.2.parts t477.2.bytes (IntKind.wrap .i64 (x429 + 1))))) else none) else none) else none
def tidewracklaw04_PartsBack_l4 (K : Nat) (p2 : List Int) (t13 : ByteArray) (t21 : List ByteArray) : Nat → Int → Int → (M ByteArray) → Int → Int → Option Bool
  | 0, _, _, _, _, _ => none
  | k459 + 1, x421, x422, l425, x428, x429 => bif (decide (x429 < ((p2).length : Int))) then (bif (decide (x429 < (40 : Int))) then (tidewracklaw04_PartsBack_j5 p2 t21 x421 x422 l425 x428 x429 (tidewracklaw04_PartsBack_l4 K p2 t13 t21 k459)) else (tidewracklaw04_PartsBack_j1 K t13 t21 x421 x422 l425 x428)) else (tidewracklaw04_PartsBack_j1 K t13 t21 x421 x422 l425 x428)
def tidewracklaw04_PartsBack (K : Nat) (p0 : ByteArray) (p1 : Int) (p2 : List Int) : Option Bool :=
  (tidewracklaw04_awake K).bind fun t4 => (bif (!t4) then (some false) else ((tidewracklaw01_Cut p0 300).bind fun t13 => ((parts_Split K t13 p1).bind fun t21 => (bif (((t21).length : Int) == (0 : Int)) then (some false) else (tidewracklaw04_PartsBack_l4 K p2 t13 t21 K 0 0 (M.nil : M ByteArray) 0 0)))))

/-! maps.Clone[map[int]string,int,string] -/
def maps_Clone (p0 : M ByteArray) : Option (M ByteArray) :=
  bif (M.isNil p0) then (some (M.nil : M ByteArray)) else (some p0)

/-! (*tidewrack/parts.Slot).Clone -/
def parts_Slot_Clone (p0 : T29) : Option T29 :=
  (maps_Clone p0.parts).bind fun t12 => (some (⟨p0.key, p0.count, t12, p0.bytes⟩ : T29))

/-! tidewrack/tidewrackref04.Which -/
def tidewrackref04_Which_j1 (l93 : List Int) : Option (List Int) :=
  some l93
def tidewrackref04_Which_l2 (p0 : T40) (p1 : Bool) : Nat → (List Int) → Int → Option (List Int)
  | 0, _, _ => none
  | k144 + 1, l121, x124 => bif (decide (x124 < ((p0.Has).length : Int))) then (if 0 ≤ x124 ∧ x124 < ((p0.Has).length : Int) then (bif ((rdD false p0.Has x124) == p1) then (if (l121).length + (([x124] : List Int)).length ≤ 1000000000 then ((tidewrackref04_Which_l2 p0 p1 k144) (l121 ++ ([x124] : List Int)) (IntKind.wrap .i64 (x124 + 1))) else none) else ((tidewrackref04_Which_l2 p0 p1 k144) l121 (IntKind.wrap .i64 (x124 + 1)))) else none) else (tidewrackref04_Which_j1 l121)
def tidewrackref04_Which (K : Nat) (p0 : T40) (p1 : Bool) : Option (List Int) :=
  tidewrackref04_Which_l2 p0 p1 K ([] : List Int) 0

/-! tidewrack/tidewrackref04.All -/
def tidewrackref04_All_j1 (K : Nat) (p0 : T40) (x35 : ByteArray) : Option (ByteArray × Bool) :=
  bif (decide (p0.Key > (0 : Int))) then ((tidewrackref04_Which K p0 false).bind fun t41 => (some (x35, (((t41).length : Int) == (0 : Int))))) else (some (x35, false))
def tidewrackref04_All_l2 (K : Nat) (p0 : T40) : Nat → ByteArray → Int → Option (ByteArray × Bool)
  | 0, _, _ => none
  | k65 + 1, x58, x59 => bif (decide (x59 < ((p0.Parts).length : Int))) then (if 0 ≤ x59 ∧ x59 < ((p0.Parts).length : Int) then (if ((x58.size + (rdD (⟨#[]⟩ : ByteArray) p0.Parts x59).size : Nat) : Int) ≤ 9223372036854775807 then ((tidewrackref04_All_l2 K p0 k65) (x58 ++ (rdD (⟨#[]⟩ : ByteArray) p0.Parts x59)) (IntKind.wrap .i64 (x59 + 1))) else none) else none) else (tidewrackref04_All_j1 K p0 x58)
def tidewrackref04_All (K : Nat) (p0 : T40) : Option (ByteArray × Bool) :=
  tidewrackref04_All_l2 K p0 K (⟨#[]⟩ : ByteArray) 0

/-! (*tidewrack/parts.Slot).Count -/
def parts_Slot_Count (p0 : T29) : Option Int :=
  some p0.count

/-! (*tidewrack/parts.Slot).Have -/
def parts_Slot_Have (K : Nat) (p0 : T29) : Option (List Int) :=
  (parts_Slot_which K p0 true).bind fun t4 => (some t4)

/-! tidewrack/tidewracklaw01.Same -/
def tidewracklaw01_Same_j1 : Option Bool :=
  some true
def tidewracklaw01_Same_l2 (p0 : List Int) (p1 : List Int) : Nat → Int → Option Bool
  | 0, _ => none
  | k102 + 1, x84 => bif (decide (x84 < ((p0).length : Int))) then (if 0 ≤ x84 ∧ x84 < ((p0).length : Int) then (if 0 ≤ x84 ∧ x84 < ((p1).length : Int) then (bif ((rdD 0 p0 x84) != (rdD 0 p1 x84)) then (some false) else ((tidewracklaw01_Same_l2 p0 p1 k102) (IntKind.wrap .i64 (x84 + 1)))) else none) else none) else (tidewracklaw01_Same_j1)
def tidewracklaw01_Same (K : Nat) (p0 : List Int) (p1 : List Int) : Option Bool :=
  bif (((p0).length : Int) != ((p1).length : Int)) then (some false) else (tidewracklaw01_Same_l2 p0 p1 K 0)

/-! tidewrack/tidewracklaw04.Is -/
def tidewracklaw04_Is_j1 (K : Nat) (p0 : T29) (p1 : T40) (t9 : ByteArray × Bool) : Option Bool :=
  (parts_Slot_Key p0).bind fun t220 => (bif (t220 == p1.Key) then ((parts_Slot_Count p0).bind fun t229 => (bif (t229 == ((p1.Has).length : Int)) then ((parts_Slot_Have K p0).bind fun t238 => ((tidewrackref04_Which K p1 true).bind fun t250 => ((tidewracklaw01_Same K t238 t250).bind fun t262 => (bif t262 then ((parts_Slot_Lacks K p0).bind fun t271 => ((tidewrackref04_Which K p1 false).bind fun t283 => ((tidewracklaw01_Same K t271 t283).bind fun t295 => (bif t295 then ((parts_Slot_Bytes p0).bind fun t304 => (some (t304 == ((t9.1).size : Int)))) else (some false))))) else (some false))))) else (some false))) else (some false))
def tidewracklaw04_Is (K : Nat) (p0 : T29) (p1 : T40) : Option Bool :=
  (tidewrackref04_All K p1).bind fun t9 => ((parts_Slot_Whole K p0).bind fun t17 => (bif (!(t17.2 == t9.2)) then (some false) else (bif t9.2 then (bif (!(ByteArray.toList t17.1 == ByteArray.toList t9.1)) then (some false) else (tidewracklaw04_Is_j1 K p0 p1 t9)) else (bif (!(ByteArray.toList t17.1 == ByteArray.toList (⟨#[]⟩ : ByteArray))) then (some false) else (tidewracklaw04_Is_j1 K p0 p1 t9)))))

/-! (*tidewrack/parts.Slot).Forget -/
def parts_Slot_Forget (p0 : T29) : Option T29 :=
  some (⟨0, 0, (M.nil : M ByteArray), 0⟩ : T29)

/-! tidewrack/tidewrackref04.Put -/
def tidewrackref04_Put_j3 (p1 : Int) (p2 : Int) (p4 : ByteArray) (l442 : List Bool) (l447 : List ByteArray) : Option (T40 × Int) :=
  if 0 ≤ p2 ∧ p2 < ((l442).length : Int) then (bif (!(rdD false l442 p2)) then (if 0 ≤ p2 ∧ p2 < ((l447).length : Int) then (some ((⟨p1, (List.set l442 (Int.toNat p2) true), (List.set l447 (Int.toNat p2) p4)⟩ : T40), 0)) else none) else (some ((⟨p1, l442, l447⟩ : T40), 0))) else none
def tidewrackref04_Put_j2 (p0 : T40) (p1 : Int) (p2 : Int) (p3 : Int) (p4 : ByteArray) : Option (T40 × Int) :=
  bif (p1 == p0.Key) then (bif (p3 != ((p0.Has).length : Int)) then (some (p0, 1)) else (tidewrackref04_Put_j3 p1 p2 p4 (cpy 0 (List.replicate (Int.toNat p3) (false : Bool)) p0.Has) (cpy 0 (List.replicate (Int.toNat p3) ((⟨#[]⟩ : ByteArray) : ByteArray)) p0.Parts))) else (tidewrackref04_Put_j3 p1 p2 p4 (List.replicate (Int.toNat p3) (false : Bool)) (List.replicate (Int.toNat p3) ((⟨#[]⟩ : ByteArray) : ByteArray)))
def tidewrackref04_Put_j1 (p0 : T40) (p1 : Int) (p2 : Int) (p3 : Int) (p4 : ByteArray) : Option (T40 × Int) :=
  bif (decide (p1 < p0.Key)) then (some (p0, 8)) else (if 0 ≤ p3 then (if p3 ≤ 1000000000 then (tidewrackref04_Put_j2 p0 p1 p2 p3 p4) else none) else none)
def tidewrackref04_Put_j4 (p0 : T40) (p1 : Int) (p2 : Int) (p3 : Int) (p4 : ByteArray) (x822 : Bool) : Option (T40 × Int) :=
  bif x822 then (some (p0, 6)) else (tidewrackref04_Put_j1 p0 p1 p2 p3 p4)
def tidewrackref04_Put (p0 : T40) (p1 : Int) (p2 : Int) (p3 : Int) (p4 : ByteArray) : Option (T40 × Int) :=
  bif (decide (p3 < (1 : Int))) then (tidewrackref04_Put_j4 p0 p1 p2 p3 p4 true) else (bif (decide (p3 > (4096 : Int))) then (tidewrackref04_Put_j4 p0 p1 p2 p3 p4 true) else (bif (decide (p2 < (0 : Int))) then (tidewrackref04_Put_j4 p0 p1 p2 p3 p4 true) else (bif (decide (p2 ≥ p3)) then (tidewrackref04_Put_j4 p0 p1 p2 p3 p4 true) else (tidewrackref04_Put_j4 p0 p1 p2 p3 p4 (decide (p1 < (1 : Int)))))))

/-! tidewrack/tidewracklaw04.PartsPlay -/
def tidewracklaw04_PartsPlay_j1 : Option Bool :=
  some true
def tidewracklaw04_PartsPlay_j5 (K : Nat) (x1631 : Int) (lp2022 : Int → Int → (M ByteArray) → Int → Int → (List Bool) → (List ByteArray) → Int → Option Bool) (x2233 : Int) (x2234 : Int) (l2237 : M ByteArray) (x2240 : Int) (x2241 : Int) (l2244 : List Bool) (l2249 : List ByteArray) : Option Bool :=
  (tidewracklaw04_Is K (⟨x2233, x2234, l2237, x2240⟩ : T29) (⟨x2241, l2244, l2249⟩ : T40)).bind fun t2256 => (bif (!t2256) then (some false) else (lp2022 x2233 x2234 l2237 x2240 x2241 l2244 l2249 (IntKind.wrap .i64 (x1631 + 1))))
def tidewracklaw04_PartsPlay_j6 (K : Nat) (x1612 : Int) (x1613 : Int) (l1616 : M ByteArray) (x1619 : Int) (x1620 : Int) (l1623 : List Bool) (l1628 : List ByteArray) (x1631 : Int) (lp2022 : Int → Int → (M ByteArray) → Int → Int → (List Bool) → (List ByteArray) → Int → Option Bool) (t2044 : T29) (t2266 : ByteArray) (x2293 : T42) : Option Bool :=
  (tidewrackref04_Put (⟨x1620, l1623, l1628⟩ : T40) x2293.Key x2293.Index x2293.Count t2266).bind fun t2298 => ((parts_Slot_Put (⟨x1612, x1613, l1616, x1619⟩ : T29) x2293.Key x2293.Index x2293.Count t2266).bind fun t2325 => (bif (t2325.1 != t2298.2) then (some false) else ((parts_Slot_Bytes t2044).bind fun t2339 => ((parts_Slot_Bytes t2325.2).bind fun t2347 => (bif (decide (t2339 > t2347)) then ((parts_Slot_Key t2044).bind fun t2356 => ((parts_Slot_Key t2325.2).bind fun t2364 => (bif (t2356 == t2364) then (some false) else (tidewracklaw04_PartsPlay_j5 K x1631 lp2022 t2325.2.key t2325.2.count t2325.2.parts t2325.2.bytes t2298.1.Key t2298.1.Has t2298.1.Parts)))) else (tidewracklaw04_PartsPlay_j5 K x1631 lp2022 t2325.2.key t2325.2.count t2325.2.parts t2325.2.bytes t2298.1.Key t2298.1.Has t2298.1.Parts))))))
def tidewracklaw04_PartsPlay_j7 (K : Nat) (p0 : List T42) (x1612 : Int) (x1613 : Int) (l1616 : M ByteArray) (x1619 : Int) (x1620 : Int) (l1623 : List Bool) (l1628 : List ByteArray) (x1631 : Int) (lp2022 : Int → Int → (M ByteArray) → Int → Int → (List Bool) → (List ByteArray) → Int → Option Bool) (t2044 : T29) (t2266 : ByteArray) (x2378 : Bool) : Option Bool :=
  bif x2378 then (tidewracklaw04_PartsPlay_j6 K x1612 x1613 l1616 x1619 x1620 l1623 l1628 x1631 lp2022 t2044 t2266 (⟨false, (rdD zT42 p0 x1631).Key, (rdD zT42 p0 x1631).Index, 40, (rdD zT42 p0 x1631).Data⟩ : T42)) else (tidewracklaw04_PartsPlay_j6 K x1612 x1613 l1616 x1619 x1620 l1623 l1628 x1631 lp2022 t2044 t2266 (⟨false, (rdD zT42 p0 x1631).Key, (rdD zT42 p0 x1631).Index, (rdD zT42 p0 x1631).Count, (rdD zT42 p0 x1631).Data⟩ : T42))
def tidewracklaw04_PartsPlay_j4 (K : Nat) (p0 : List T42) (x1612 : Int) (x1613 : Int) (l1616 : M ByteArray) (x1619 : Int) (x1620 : Int) (l1623 : List Bool) (l1628 : List ByteArray) (x1631 : Int) (lp2022 : Int → Int → (M ByteArray) → Int → Int → (List Bool) → (List ByteArray) → Int → Option Bool) (t2044 : T29) : Option Bool :=
  bif (rdD zT42 p0 x1631).Forget then ((parts_Slot_Forget (⟨x1612, x1613, l1616, x1619⟩ : T29)).bind fun t2388 => (tidewracklaw04_PartsPlay_j5 K x1631 lp2022 t2388.key t2388.count t2388.parts t2388.bytes 0 ([] : List Bool) ([] : List ByteArray))) else ((tidewracklaw01_Cut ((rdD zT42 p0 x1631).Data) 20).bind fun t2266 => (bif (decide (((rdD zT42 p0 x1631).Count) > (40 : Int))) then (tidewracklaw04_PartsPlay_j7 K p0 x1612 x1613 l1616 x1619 x1620 l1623 l1628 x1631 lp2022 t2044 t2266 (decide (((rdD zT42 p0 x1631).Count) ≤ (4096 : Int)))) else (tidewracklaw04_PartsPlay_j7 K p0 x1612 x1613 l1616 x1619 x1620 l1623 l1628 x1631 lp2022 t2044 t2266 false)))
def tidewracklaw04_PartsPlay_j3 (K : Nat) (p0 : List T42) (x1612 : Int) (x1613 : Int) (l1616 : M ByteArray) (x1619 : Int) (x1620 : Int) (l1623 : List Bool) (l1628 : List ByteArray) (x1631 : Int) (lp2022 : Int → Int → (M ByteArray) → Int → Int → (List Bool) → (List ByteArray) → Int → Option Bool) : Option Bool :=
  if 0 ≤ x1631 ∧ x1631 < ((p0).length : Int) then ((parts_Slot_Clone (⟨x1612, x1613, l1616, x1619⟩ : T29)).bind fun t2044 => ((tidewracklaw04_Is K t2044 (⟨x1620, l1623, l1628⟩ : T40)).bind fun t2404 => (bif (!t2404) then (some false) else (tidewracklaw04_PartsPlay_j4 K p0 x1612 x1613 l1616 x1619 x1620 l1623 l1628 x1631 lp2022 t2044)))) else none
def tidewracklaw04_PartsPlay_l2 (K : Nat) (p0 : List T42) : Nat → Int → Int → (M ByteArray) → Int → Int → (List Bool) → (List ByteArray) → Int → Option Bool
  | 0, _, _, _, _, _, _, _, _ => none
  | k2021 + 1, x1612, x1613, l1616, x1619, x1620, l1623, l1628, x1631 => bif (decide (x1631 < ((p0).length : Int))) then (bif (decide (x1631 < (40 : Int))) then (tidewracklaw04_PartsPlay_j3 K p0 x1612 x1613 l1616 x1619 x1620 l1623 l1628 x1631 (tidewracklaw04_PartsPlay_l2 K p0 k2021)) else (tidewracklaw04_PartsPlay_j1)) else (tidewracklaw04_PartsPlay_j1)
def tidewracklaw04_PartsPlay (K : Nat) (p0 : List T42) : Option Bool :=
  (tidewracklaw04_awake K).bind fun t4 => (bif (!t4) then (some false) else (tidewracklaw04_PartsPlay_l2 K p0 K 0 0 (M.nil : M ByteArray) 0 0 ([] : List Bool) ([] : List ByteArray) 0))

end Go.Proofs.Ytibcjohofabllaa
