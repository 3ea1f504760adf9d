/- Plain functions, printed by an own program: what the walked code computes. -/
import Derived.Test.YthmlldkmgdjeoaaZ4
set_option linter.unusedVariables false
set_option linter.unusedSimpArgs false
namespace Go.Proofs.Ythmlldkmgdjeoaa
open Go Go.Proofs.XC
structure T59 where
  Rune : Int
  Style : Int
abbrev zT59 : T59 := ⟨0, 0⟩
structure T71 where
  l : List T59
  at_ : Int
abbrev zT71 : T71 := ⟨[], 0⟩
structure T62 where
  most : Int
  now : Int
  l : M T71
structure T75 where
  Rune : Int
  Style : Int
abbrev zT75 : T75 := ⟨0, 0⟩
structure T29 where
  Kind : Int
  I : Int
  L : List T59
abbrev zT29 : T29 := ⟨0, 0, []⟩
namespace WF
def wfBool (_ : Bool) : Prop := True
def wfStr (x : ByteArray) : Prop := x.size ≤ maxLen
def wfi64 (x : Int) : Prop := (Lit.int .i64 x).wf = true
def wfi32 (x : Int) : Prop := (Lit.int .i32 x).wf = true
def wfu8 (x : Int) : Prop := (Lit.int .u8 x).wf = true
def wfu32 (x : Int) : Prop := (Lit.int .u32 x).wf = true
def wfu64 (x : Int) : Prop := (Lit.int .u64 x).wf = true
def wfi8 (x : Int) : Prop := (Lit.int .i8 x).wf = true
def wfi16 (x : Int) : Prop := (Lit.int .i16 x).wf = true
def wfu16 (x : Int) : Prop := (Lit.int .u16 x).wf = true
def wfT59 (x : T59) : Prop := (Lit.int .i32 x.Rune).wf = true ∧ (Lit.int .i64 x.Style).wf = true
def wfT71 (x : T71) : Prop := (∀ y ∈ x.l, wfT59 y) ∧ x.l.length ≤ maxLen ∧ (Lit.int .i64 x.at_).wf = true
def wfT75 (x : T75) : Prop := (Lit.int .i64 x.Rune).wf = true ∧ (Lit.int .i64 x.Style).wf = true
def wfT29 (x : T29) : Prop := (Lit.int .i64 x.Kind).wf = true ∧ (Lit.int .i64 x.I).wf = true ∧ (∀ y ∈ x.L, wfT59 y) ∧ x.L.length ≤ maxLen
end WF
/-! tidewrack/cache.New -/
noncomputable def cache_New (p0 : Int) : Option T62 :=
  some (⟨(mxI 1 (mnI p0 65536)), 0, (M.new : M T71)⟩ : T62)

/-! slices.Clone[[]tidewrack/row.Glyph,tidewrack/row.Glyph] -/
noncomputable def slices_Clone (p0 : List T59) : Option (List T59) :=
  if (([] : List T59)).length + (p0).length ≤ 1000000000 then (some (([] : List T59) ++ p0)) else none

/-! (*tidewrack/cache.Cache).touch -/
noncomputable def cache_Cache_touch (p0 : T62) (p1 : Int) (p2 : List T59) : Option T62 :=
  if M.isNil p0.l = false then (some (⟨p0.most, (IntKind.wrap .i64 (p0.now + 1)), (M.put p0.l p1 (⟨p2, (IntKind.wrap .i64 (p0.now + 1))⟩ : T71))⟩ : T62)) else none

/-! maps.Keys[map[int]tidewrack/cache.entry,int,tidewrack/cache.entry] -/
noncomputable def maps_Keys' (p0 : M T71) : Option Unit :=
  some ()

/-! cmp.isNaN[int] -/
noncomputable def cmp_isNaN (p0 : Int) : Option Bool :=
  some (p0 != p0)

/-! cmp.Compare[int] -/
noncomputable def cmp_Compare (p0 : Int) (p1 : Int) : Option Int :=
  (cmp_isNaN p0).bind fun t4 => ((cmp_isNaN p1).bind fun t12 => (bif t4 then (bif t12 then (some 0) else (some (-1))) else (bif t12 then (some 1) else (bif (decide (p0 < p1)) then (some (-1)) else (bif (decide (p0 > p1)) then (some 1) else (some 0))))))

/-! (*tidewrack/cache.Cache).Put$1 -/
noncomputable def cache_Cache_Put_1 (p0 : Int) (p1 : Int) (p2 : T62) : Option Int :=
  (cmp_Compare ((M.get zT71 p2.l p0).at_) ((M.get zT71 p2.l p1).at_)).bind fun t32 => (some t32)

/-! slices.MinFunc[[]int,int] -/
noncomputable def slices_MinFunc_of27_j2 (x59 : Int) : Option Int :=
  some x59
noncomputable def slices_MinFunc_of27_l3 (p0 : List Int) (p1_0 : T62) : Nat → Int → Int → Option Int
  | 0, _, _ => none
  | k90 + 1, x76, x77 => bif (decide (x77 < ((p0).length : Int))) then (if 0 ≤ x77 ∧ x77 < ((p0).length : Int) then ((cache_Cache_Put_1 (rdD 0 p0 x77) x76 p1_0).bind fun t98 => (bif (decide (t98 < (0 : Int))) then ((slices_MinFunc_of27_l3 p0 p1_0 k90) (rdD 0 p0 x77) (IntKind.wrap .i64 (x77 + 1))) else ((slices_MinFunc_of27_l3 p0 p1_0 k90) x76 (IntKind.wrap .i64 (x77 + 1))))) else none) else (slices_MinFunc_of27_j2 x76)
noncomputable def slices_MinFunc_of27_j1 (K : Nat) (p0 : List Int) (p1_0 : T62) : Option Int :=
  if 0 ≤ (0 : Int) ∧ (0 : Int) < ((p0).length : Int) then (slices_MinFunc_of27_l3 p0 p1_0 K (rdD 0 p0 0) 1) else none
noncomputable def slices_MinFunc_of27 (K : Nat) (p0 : List Int) (p1_0 : T62) : Option Int :=
  bif (decide (((p0).length : Int) < (1 : Int))) then (none) else (slices_MinFunc_of27_j1 K p0 p1_0)

/-! (*tidewrack/cache.Cache).Put -/
noncomputable def cache_Cache_Put_j1 (K : Nat) (p0 : T62) (p1 : Int) (p2 : List T59) : Option (Int × Bool × T62) :=
  (slices_Clone p2).bind fun t82 => ((cache_Cache_touch p0 p1 t82).bind fun t96 => (bif (decide (((t96.l).length : Int) ≤ t96.most)) then (some (0, false, t96)) else ((maps_Keys' t96.l).bind fun t114 => (if KeysOK t96.l then (ordP (fun l_ => List.Perm l_ (M.keys t96.l)) fun ks127 => ((slices_MinFunc_of27 K ks127 t96).bind fun t137 => (some (t137, true, (⟨t96.most, t96.now, (M.del t96.l t137)⟩ : T62))))) else none))))
noncomputable def cache_Cache_Put_j2 (K : Nat) (p0 : T62) (p1 : Int) (p2 : List T59) (x153 : Bool) : Option (Int × Bool × T62) :=
  bif x153 then (some (0, false, p0)) else (cache_Cache_Put_j1 K p0 p1 p2)
noncomputable def cache_Cache_Put (K : Nat) (p0 : T62) (p1 : Int) (p2 : List T59) : Option (Int × Bool × T62) :=
  bif (decide (p1 < (0 : Int))) then (cache_Cache_Put_j2 K p0 p1 p2 true) else (cache_Cache_Put_j2 K p0 p1 p2 (decide (p1 > (1152921504606846976 : Int))))

/-! (*tidewrack/cache.Cache).Peek -/
noncomputable def cache_Cache_Peek (p0 : T62) (p1 : Int) : Option ((List T59) × Bool) :=
  (slices_Clone ((M.get zT71 p0.l p1).l)).bind fun t17 => (some (t17, (M.has p0.l p1)))

/-! (*tidewrack/cache.Cache).Get -/
noncomputable def cache_Cache_Get (p0 : T62) (p1 : Int) : Option ((List T59) × Bool × T62) :=
  bif (M.has p0.l p1) then ((cache_Cache_touch p0 p1 ((M.get zT71 p0.l p1).l)).bind fun t30 => ((cache_Cache_Peek t30 p1).bind fun t43 => (some (t43.1, t43.2, t30)))) else ((cache_Cache_Peek p0 p1).bind fun t18 => (some (t18.1, t18.2, p0)))

/-! (*tidewrack/cache.Cache).Len -/
noncomputable def cache_Cache_Len (p0 : T62) : Option Int :=
  some ((p0.l).length : Int)

/-! tidewrack/tidewracklaw14.awake -/
noncomputable def tidewracklaw14_awake (K : Nat)  : Option Bool :=
  (cache_New 2).bind fun t4 => ((cache_Cache_Put K t4 1 ([(⟨97, 0⟩ : T59)] : List T59)).bind fun t24 => ((cache_Cache_Put K t24.2.2 2 ([] : List T59)).bind fun t37 => ((cache_Cache_Get t37.2.2 1).bind fun t50 => ((cache_Cache_Put K t50.2.2 3 ([] : List T59)).bind fun t67 => (bif t50.2.1 then (bif (((t50.1).length : Int) == (1 : Int)) then (bif (t67.1 == (2 : Int)) then (bif t67.2.1 then ((cache_Cache_Len t67.2.2).bind fun t84 => (some (t84 == (2 : Int)))) else (some false)) else (some false)) else (some false)) else (some false))))))

/-! tidewrack/tidewracklaw14.Told -/
noncomputable def tidewracklaw14_Told_j1 (l103 : List T75) : Option (List T75) :=
  some l103
noncomputable def tidewracklaw14_Told_l2 (p0 : List T59) : Nat → (List T75) → Int → Option (List T75)
  | 0, _, _ => none
  | k168 + 1, l138, x141 => bif (decide (x141 < ((p0).length : Int))) then (if 0 ≤ x141 ∧ x141 < ((p0).length : Int) then (if (l138).length + (([(⟨(IntKind.wrap .i64 ((rdD zT59 p0 x141).Rune)), (rdD zT59 p0 x141).Style⟩ : T75)] : List T75)).length ≤ 1000000000 then ((tidewracklaw14_Told_l2 p0 k168) (l138 ++ ([(⟨(IntKind.wrap .i64 ((rdD zT59 p0 x141).Rune)), (rdD zT59 p0 x141).Style⟩ : T75)] : List T75)) (IntKind.wrap .i64 (x141 + 1))) else none) else none) else (tidewracklaw14_Told_j1 l138)
noncomputable def tidewracklaw14_Told (K : Nat) (p0 : List T59) : Option (List T75) :=
  tidewracklaw14_Told_l2 p0 K ([] : List T75) 0

/-! tidewrack/tidewracklaw09.Glyphs -/
noncomputable def tidewracklaw09_Glyphs_j1 : Option Bool :=
  some true
noncomputable def tidewracklaw09_Glyphs_l2 (p0 : List T59) (p1 : List T75) : Nat → Int → Option Bool
  | 0, _ => none
  | k137 + 1, x112 => bif (decide (x112 < ((p0).length : Int))) then (if 0 ≤ x112 ∧ x112 < ((p0).length : Int) then (if 0 ≤ x112 ∧ x112 < ((p1).length : Int) then (bif ((IntKind.wrap .i64 ((rdD zT59 p0 x112).Rune)) != ((rdD zT75 p1 x112).Rune)) then (some false) else (bif (((rdD zT59 p0 x112).Style) != ((rdD zT75 p1 x112).Style)) then (some false) else ((tidewracklaw09_Glyphs_l2 p0 p1 k137) (IntKind.wrap .i64 (x112 + 1))))) else none) else none) else (tidewracklaw09_Glyphs_j1)
noncomputable def tidewracklaw09_Glyphs (K : Nat) (p0 : List T59) (p1 : List T75) : Option Bool :=
  bif (((p0).length : Int) != ((p1).length : Int)) then (some false) else (tidewracklaw09_Glyphs_l2 p0 p1 K 0)

/-! tidewrack/tidewracklaw14.CacheLast -/
noncomputable def tidewracklaw14_CacheLast_j2 : Option Bool :=
  some true
noncomputable def tidewracklaw14_CacheLast_l3 (K : Nat) (p1 : Int) (x499 : Int) (x500 : Int) (l503 : M T71) (l508 : M (List T59)) (l513 : List Int) : Nat → (M Bool) → Int → Option Bool
  | 0, _, _ => none
  | k790 + 1, l737, x740 => bif (decide (x740 ≥ (0 : Int))) then (if 0 ≤ x740 ∧ x740 < ((l513).length : Int) then (bif (M.get false l737 (rdD 0 l513 x740)) then ((tidewracklaw14_CacheLast_l3 K p1 x499 x500 l503 l508 l513 k790) l737 (IntKind.wrap .i64 (x740 - 1))) else (if M.isNil l737 = false then ((cache_Cache_Peek (⟨x499, x500, l503⟩ : T62) (rdD 0 l513 x740)).bind fun t804 => (bif (!(t804.2 == (decide (((l737).length : Int) < (IntKind.wrap .i64 (1 + (bits .and .i64 p1 7))))))) then (some false) else (bif t804.2 then ((tidewracklaw14_Told K (M.get [] l508 (rdD 0 l513 x740))).bind fun t823 => ((tidewracklaw09_Glyphs K t804.1 t823).bind fun t835 => (bif (!t835) then (some false) else ((tidewracklaw14_CacheLast_l3 K p1 x499 x500 l503 l508 l513 k790) (M.put l737 (rdD 0 l513 x740) true) (IntKind.wrap .i64 (x740 - 1)))))) else ((tidewracklaw14_CacheLast_l3 K p1 x499 x500 l503 l508 l513 k790) (M.put l737 (rdD 0 l513 x740) true) (IntKind.wrap .i64 (x740 - 1)))))) else none)) else none) else (tidewracklaw14_CacheLast_j2)
noncomputable def tidewracklaw14_CacheLast_j1 (K : Nat) (p1 : Int) (x499 : Int) (x500 : Int) (l503 : M T71) (l508 : M (List T59)) (l513 : List Int) : Option Bool :=
  tidewracklaw14_CacheLast_l3 K p1 x499 x500 l503 l508 l513 K (M.new : M Bool) (IntKind.wrap .i64 (((l513).length : Int) - 1))
noncomputable def tidewracklaw14_CacheLast_j5 (K : Nat) (p0 : List T29) (x983 : Int) (x984 : Int) (l987 : M T71) (l992 : M (List T59)) (l997 : List Int) (x1000 : Int) (lp1142 : Int → Int → (M T71) → (M (List T59)) → (List Int) → Int → Option Bool) : Option Bool :=
  if 0 ≤ x1000 ∧ x1000 < ((p0).length : Int) then (if 0 ≤ (mnI (((rdD zT29 p0 x1000).L).length : Int) 10) then (if (mnI (((rdD zT29 p0 x1000).L).length : Int) 10) ≤ (((rdD zT29 p0 x1000).L).length : Int) then (if (([] : List T59)).length + ((List.drop 0 (List.take (Int.toNat (mnI (((rdD zT29 p0 x1000).L).length : Int) 10)) ((rdD zT29 p0 x1000).L)))).length ≤ 1000000000 then ((cache_Cache_Put K (⟨x983, x984, l987⟩ : T62) (bits .and .i64 ((rdD zT29 p0 x1000).I) 15) (([] : List T59) ++ (List.drop 0 (List.take (Int.toNat (mnI (((rdD zT29 p0 x1000).L).length : Int) 10)) ((rdD zT29 p0 x1000).L))))).bind fun t1251 => (if M.isNil l992 = false then (if (l997).length + (([(bits .and .i64 ((rdD zT29 p0 x1000).I) 15)] : List Int)).length ≤ 1000000000 then (lp1142 t1251.2.2.most t1251.2.2.now t1251.2.2.l (M.put l992 (bits .and .i64 ((rdD zT29 p0 x1000).I) 15) (([] : List T59) ++ (List.drop 0 (List.take (Int.toNat (mnI (((rdD zT29 p0 x1000).L).length : Int) 10)) ((rdD zT29 p0 x1000).L))))) (l997 ++ ([(bits .and .i64 ((rdD zT29 p0 x1000).I) 15)] : List Int)) (IntKind.wrap .i64 (x1000 + 1))) else none) else none)) else none) else none) else none) else none
noncomputable def tidewracklaw14_CacheLast_l4 (K : Nat) (p0 : List T29) (p1 : Int) : Nat → Int → Int → (M T71) → (M (List T59)) → (List Int) → Int → Option Bool
  | 0, _, _, _, _, _, _ => none
  | k1141 + 1, x983, x984, l987, l992, l997, x1000 => bif (decide (x1000 < ((p0).length : Int))) then (bif (decide (x1000 < (30 : Int))) then (tidewracklaw14_CacheLast_j5 K p0 x983 x984 l987 l992 l997 x1000 (tidewracklaw14_CacheLast_l4 K p0 p1 k1141)) else (tidewracklaw14_CacheLast_j1 K p1 x983 x984 l987 l992 l997)) else (tidewracklaw14_CacheLast_j1 K p1 x983 x984 l987 l992 l997)
noncomputable def tidewracklaw14_CacheLast (K : Nat) (p0 : List T29) (p1 : Int) : Option Bool :=
  (tidewracklaw14_awake K).bind fun t4 => (bif (!t4) then (some false) else ((cache_New (IntKind.wrap .i64 (1 + (bits .and .i64 p1 7)))).bind fun t13 => (tidewracklaw14_CacheLast_l4 K p0 p1 K t13.most t13.now t13.l (M.new : M (List T59)) ([] : List Int) 0)))

end Go.Proofs.Ythmlldkmgdjeoaa
