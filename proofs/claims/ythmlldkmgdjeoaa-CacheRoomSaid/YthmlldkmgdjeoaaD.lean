/- Plain functions, printed by an own program: what the walked code computes. -/
import Derived.Test.YthmlldkmgdjeoaaZ4
set_option linter.unusedVariables false
set_option linter.unusedSimpArgs false
namespace Go.Proofs.Ythmlldkmgdjeoaa
open Go Go.Proofs.XC
structure T59 where
  Rune : Int
  Style : Int
abbrev zT59 : T59 := ⟨0, 0⟩
structure T71 where
  l : List T59
  at_ : Int
abbrev zT71 : T71 := ⟨[], 0⟩
structure T62 where
  most : Int
  now : Int
  l : M T71
structure T75 where
  Rune : Int
  Style : Int
abbrev zT75 : T75 := ⟨0, 0⟩
structure T44 where
  From : Int
  To : Int
abbrev zT44 : T44 := ⟨0, 0⟩
structure T77 where
  l : List T44
namespace WF
def wfBool (_ : Bool) : Prop := True
def wfStr (x : ByteArray) : Prop := x.size ≤ maxLen
def wfi64 (x : Int) : Prop := (Lit.int .i64 x).wf = true
def wfi32 (x : Int) : Prop := (Lit.int .i32 x).wf = true
def wfu8 (x : Int) : Prop := (Lit.int .u8 x).wf = true
def wfu32 (x : Int) : Prop := (Lit.int .u32 x).wf = true
def wfu64 (x : Int) : Prop := (Lit.int .u64 x).wf = true
def wfi8 (x : Int) : Prop := (Lit.int .i8 x).wf = true
def wfi16 (x : Int) : Prop := (Lit.int .i16 x).wf = true
def wfu16 (x : Int) : Prop := (Lit.int .u16 x).wf = true
def wfT59 (x : T59) : Prop := (Lit.int .i32 x.Rune).wf = true ∧ (Lit.int .i64 x.Style).wf = true
def wfT71 (x : T71) : Prop := (∀ y ∈ x.l, wfT59 y) ∧ x.l.length ≤ maxLen ∧ (Lit.int .i64 x.at_).wf = true
def wfT75 (x : T75) : Prop := (Lit.int .i64 x.Rune).wf = true ∧ (Lit.int .i64 x.Style).wf = true
def wfT44 (x : T44) : Prop := (Lit.int .i64 x.From).wf = true ∧ (Lit.int .i64 x.To).wf = true
def wfT77 (x : T77) : Prop := (∀ y ∈ x.l, wfT44 y) ∧ x.l.length ≤ maxLen
end WF
/-! tidewrack/cache.New -/
noncomputable def cache_New (p0 : Int) : Option T62 :=
  some (⟨(mxI 1 (mnI p0 65536)), 0, (M.new : M T71)⟩ : T62)

/-! slices.Clone[[]tidewrack/row.Glyph,tidewrack/row.Glyph] -/
noncomputable def slices_Clone (p0 : List T59) : Option (List T59) :=
  if (([] : List T59)).length + (p0).length ≤ 1000000000 then (some (([] : List T59) ++ p0)) else none

/-! (*tidewrack/cache.Cache).touch -/
noncomputable def cache_Cache_touch (p0 : T62) (p1 : Int) (p2 : List T59) : Option T62 :=
  if M.isNil p0.l = false then (some (⟨p0.most, (IntKind.wrap .i64 (p0.now + 1)), (M.put p0.l p1 (⟨p2, (IntKind.wrap .i64 (p0.now + 1))⟩ : T71))⟩ : T62)) else none

/-! maps.Keys[map[int]tidewrack/cache.entry,int,tidewrack/cache.entry] -/
noncomputable def maps_Keys' (p0 : M T71) : Option Unit :=
  some ()

/-! cmp.isNaN[int] -/
noncomputable def cmp_isNaN (p0 : Int) : Option Bool :=
  some (p0 != p0)

/-! cmp.Compare[int] -/
noncomputable def cmp_Compare (p0 : Int) (p1 : Int) : Option Int :=
  (cmp_isNaN p0).bind fun t4 => ((cmp_isNaN p1).bind fun t12 => (bif t4 then (bif t12 then (some 0) else (some (-1))) else (bif t12 then (some 1) else (bif (decide (p0 < p1)) then (some (-1)) else (bif (decide (p0 > p1)) then (some 1) else (some 0))))))

/-! (*tidewrack/cache.Cache).Put$1 -/
noncomputable def cache_Cache_Put_1 (p0 : Int) (p1 : Int) (p2 : T62) : Option Int :=
  (cmp_Compare ((M.get zT71 p2.l p0).at_) ((M.get zT71 p2.l p1).at_)).bind fun t32 => (some t32)

/-! slices.MinFunc[[]int,int] -/
noncomputable def slices_MinFunc_of27_j2 (x59 : Int) : Option Int :=
  some x59
noncomputable def slices_MinFunc_of27_l3 (p0 : List Int) (p1_0 : T62) : Nat → Int → Int → Option Int
  | 0, _, _ => none
  | k90 + 1, x76, x77 => bif (decide (x77 < ((p0).length : Int))) then (if 0 ≤ x77 ∧ x77 < ((p0).length : Int) then ((cache_Cache_Put_1 (rdD 0 p0 x77) x76 p1_0).bind fun t98 => (bif (decide (t98 < (0 : Int))) then ((slices_MinFunc_of27_l3 p0 p1_0 k90) (rdD 0 p0 x77) (IntKind.wrap .i64 (x77 + 1))) else ((slices_MinFunc_of27_l3 p0 p1_0 k90) x76 (IntKind.wrap .i64 (x77 + 1))))) else none) else (slices_MinFunc_of27_j2 x76)
noncomputable def slices_MinFunc_of27_j1 (K : Nat) (p0 : List Int) (p1_0 : T62) : Option Int :=
  if 0 ≤ (0 : Int) ∧ (0 : Int) < ((p0).length : Int) then (slices_MinFunc_of27_l3 p0 p1_0 K (rdD 0 p0 0) 1) else none
noncomputable def slices_MinFunc_of27 (K : Nat) (p0 : List Int) (p1_0 : T62) : Option Int :=
  bif (decide (((p0).length : Int) < (1 : Int))) then (none) else (slices_MinFunc_of27_j1 K p0 p1_0)

/-! (*tidewrack/cache.Cache).Put -/
noncomputable def cache_Cache_Put_j1 (K : Nat) (p0 : T62) (p1 : Int) (p2 : List T59) : Option (Int × Bool × T62) :=
  (slices_Clone p2).bind fun t82 => ((cache_Cache_touch p0 p1 t82).bind fun t96 => (bif (decide (((t96.l).length : Int) ≤ t96.most)) then (some (0, false, t96)) else ((maps_Keys' t96.l).bind fun t114 => (if KeysOK t96.l then (ordP (fun l_ => List.Perm l_ (M.keys t96.l)) fun ks127 => ((slices_MinFunc_of27 K ks127 t96).bind fun t137 => (some (t137, true, (⟨t96.most, t96.now, (M.del t96.l t137)⟩ : T62))))) else none))))
noncomputable def cache_Cache_Put_j2 (K : Nat) (p0 : T62) (p1 : Int) (p2 : List T59) (x153 : Bool) : Option (Int × Bool × T62) :=
  bif x153 then (some (0, false, p0)) else (cache_Cache_Put_j1 K p0 p1 p2)
noncomputable def cache_Cache_Put (K : Nat) (p0 : T62) (p1 : Int) (p2 : List T59) : Option (Int × Bool × T62) :=
  bif (decide (p1 < (0 : Int))) then (cache_Cache_Put_j2 K p0 p1 p2 true) else (cache_Cache_Put_j2 K p0 p1 p2 (decide (p1 > (1152921504606846976 : Int))))

/-! (*tidewrack/cache.Cache).Peek -/
noncomputable def cache_Cache_Peek (p0 : T62) (p1 : Int) : Option ((List T59) × Bool) :=
  (slices_Clone ((M.get zT71 p0.l p1).l)).bind fun t17 => (some (t17, (M.has p0.l p1)))

/-! (*tidewrack/cache.Cache).Get -/
noncomputable def cache_Cache_Get (p0 : T62) (p1 : Int) : Option ((List T59) × Bool × T62) :=
  bif (M.has p0.l p1) then ((cache_Cache_touch p0 p1 ((M.get zT71 p0.l p1).l)).bind fun t30 => ((cache_Cache_Peek t30 p1).bind fun t43 => (some (t43.1, t43.2, t30)))) else ((cache_Cache_Peek p0 p1).bind fun t18 => (some (t18.1, t18.2, p0)))

/-! (*tidewrack/cache.Cache).Len -/
noncomputable def cache_Cache_Len (p0 : T62) : Option Int :=
  some ((p0.l).length : Int)

/-! tidewrack/tidewracklaw14.awake -/
noncomputable def tidewracklaw14_awake (K : Nat)  : Option Bool :=
  (cache_New 2).bind fun t4 => ((cache_Cache_Put K t4 1 ([(⟨97, 0⟩ : T59)] : List T59)).bind fun t24 => ((cache_Cache_Put K t24.2.2 2 ([] : List T59)).bind fun t37 => ((cache_Cache_Get t37.2.2 1).bind fun t50 => ((cache_Cache_Put K t50.2.2 3 ([] : List T59)).bind fun t67 => (bif t50.2.1 then (bif (((t50.1).length : Int) == (1 : Int)) then (bif (t67.1 == (2 : Int)) then (bif t67.2.1 then ((cache_Cache_Len t67.2.2).bind fun t84 => (some (t84 == (2 : Int)))) else (some false)) else (some false)) else (some false)) else (some false))))))

/-! tidewrack/tidewracklaw14.Told -/
noncomputable def tidewracklaw14_Told_j1 (l103 : List T75) : Option (List T75) :=
  some l103
noncomputable def tidewracklaw14_Told_l2 (p0 : List T59) : Nat → (List T75) → Int → Option (List T75)
  | 0, _, _ => none
  | k168 + 1, l138, x141 => bif (decide (x141 < ((p0).length : Int))) then (if 0 ≤ x141 ∧ x141 < ((p0).length : Int) then (if (l138).length + (([(⟨(IntKind.wrap .i64 ((rdD zT59 p0 x141).Rune)), (rdD zT59 p0 x141).Style⟩ : T75)] : List T75)).length ≤ 1000000000 then ((tidewracklaw14_Told_l2 p0 k168) (l138 ++ ([(⟨(IntKind.wrap .i64 ((rdD zT59 p0 x141).Rune)), (rdD zT59 p0 x141).Style⟩ : T75)] : List T75)) (IntKind.wrap .i64 (x141 + 1))) else none) else none) else (tidewracklaw14_Told_j1 l138)
noncomputable def tidewracklaw14_Told (K : Nat) (p0 : List T59) : Option (List T75) :=
  tidewracklaw14_Told_l2 p0 K ([] : List T75) 0

/-! tidewrack/tidewracklaw09.Glyphs -/
noncomputable def tidewracklaw09_Glyphs_j1 : Option Bool :=
  some true
noncomputable def tidewracklaw09_Glyphs_l2 (p0 : List T59) (p1 : List T75) : Nat → Int → Option Bool
  | 0, _ => none
  | k137 + 1, x112 => bif (decide (x112 < ((p0).length : Int))) then (if 0 ≤ x112 ∧ x112 < ((p0).length : Int) then (if 0 ≤ x112 ∧ x112 < ((p1).length : Int) then (bif ((IntKind.wrap .i64 ((rdD zT59 p0 x112).Rune)) != ((rdD zT75 p1 x112).Rune)) then (some false) else (bif (((rdD zT59 p0 x112).Style) != ((rdD zT75 p1 x112).Style)) then (some false) else ((tidewracklaw09_Glyphs_l2 p0 p1 k137) (IntKind.wrap .i64 (x112 + 1))))) else none) else none) else (tidewracklaw09_Glyphs_j1)
noncomputable def tidewracklaw09_Glyphs (K : Nat) (p0 : List T59) (p1 : List T75) : Option Bool :=
  bif (((p0).length : Int) != ((p1).length : Int)) then (some false) else (tidewracklaw09_Glyphs_l2 p0 p1 K 0)

/-! (tidewrack/spans.Span).fit -/
noncomputable def spans_Span_fit (p0 : T44) : Option T44 :=
  some (⟨(mxI (-1152921504606846976) (mnI p0.From 1152921504606846976)), (mxI (-1152921504606846976) (mnI p0.To 1152921504606846976))⟩ : T44)

/-! (tidewrack/spans.Span).empty -/
noncomputable def spans_Span_empty (p0 : T44) : Option Bool :=
  some (decide (p0.To ≤ p0.From))

/-! slices.Grow[[]tidewrack/spans.Span,tidewrack/spans.Span] -/
noncomputable def slices_Grow_j1 (p1 : Int) : Option (List T44) :=
  bif (decide ((IntKind.wrap .i64 (p1 - (IntKind.wrap .i64 (0 - ((([] : List T44)).length : Int))))) > (0 : Int))) then (if 0 < (IntKind.wrap .i64 (p1 - (IntKind.wrap .i64 (0 - ((([] : List T44)).length : Int))))) then (if (IntKind.wrap .i64 (p1 - (IntKind.wrap .i64 (0 - ((([] : List T44)).length : Int))))) ≤ 1000000000 then (some ([] : List T44)) else none) else none) else (some ([] : List T44))
noncomputable def slices_Grow (p1 : Int) : Option (List T44) :=
  bif (decide (p1 < (0 : Int))) then (none) else (slices_Grow_j1 p1)

/-! slices.Concat[[]tidewrack/spans.Span,tidewrack/spans.Span] -/
noncomputable def slices_Concat_j2 (l134 : List T44) : Option (List T44) :=
  some l134
noncomputable def slices_Concat_l3 (p0 : List (List T44)) : Nat → (List T44) → Int → Option (List T44)
  | 0, _, _ => none
  | k181 + 1, l160, x163 => bif (decide (x163 < ((p0).length : Int))) then (if 0 ≤ x163 ∧ x163 < ((p0).length : Int) then (if (l160).length + ((rdD [] p0 x163)).length ≤ 1000000000 then ((slices_Concat_l3 p0 k181) (l160 ++ (rdD [] p0 x163)) (IntKind.wrap .i64 (x163 + 1))) else none) else none) else (slices_Concat_j2 l160)
noncomputable def slices_Concat_j1 (K : Nat) (p0 : List (List T44)) (x45 : Int) : Option (List T44) :=
  (slices_Grow x45).bind fun t50 => (slices_Concat_l3 p0 K t50 0)
noncomputable def slices_Concat_l4 (K : Nat) (p0 : List (List T44)) : Nat → Int → Int → Option (List T44)
  | 0, _, _ => none
  | k225 + 1, x213, x214 => bif (decide (x214 < ((p0).length : Int))) then (if 0 ≤ x214 ∧ x214 < ((p0).length : Int) then (bif (decide ((IntKind.wrap .i64 (x213 + (((rdD [] p0 x214)).length : Int))) < (0 : Int))) then (none) else ((slices_Concat_l4 K p0 k225) (IntKind.wrap .i64 (x213 + (((rdD [] p0 x214)).length : Int))) (IntKind.wrap .i64 (x214 + 1)))) else none) else (slices_Concat_j1 K p0 x213)
noncomputable def slices_Concat (K : Nat) (p0 : List (List T44)) : Option (List T44) :=
  slices_Concat_l4 K p0 K 0 0

/-! (*tidewrack/spans.Set).Add -/
noncomputable def spans_Set_Add_j2 (x6584 : Int) (lp13157 : (List T44) → Int → Option T77) (l16449 : List T44) : Option T77 :=
  lp13157 l16449 (IntKind.wrap .i64 (x6584 + 1))
noncomputable def spans_Set_Add_j3 (x6584 : Int) (lp13157 : (List T44) → Int → Option T77) (x18102 : T44) (l18105 : List T44) : Option T77 :=
  if (l18105).length + (([x18102] : List T44)).length ≤ 1000000000 then (spans_Set_Add_j2 x6584 lp13157 (l18105 ++ ([x18102] : List T44))) else none
noncomputable def spans_Set_Add_j5 (x6584 : Int) (lp13157 : (List T44) → Int → Option T77) (l19487 : List T44) : Option T77 :=
  spans_Set_Add_j2 x6584 lp13157 l19487
noncomputable def spans_Set_Add_l4 (K : Nat) (l6577 : List T44) (x6584 : Int) (lp13157 : (List T44) → Int → Option T77) : Nat → T44 → (List T44) → Int → Option T77
  | 0, _, _, _ => none
  | k19195 + 1, x18656, l18659, x18662 => bif (decide (x18662 < ((l6577).length : Int))) then (if 0 ≤ x18662 ∧ x18662 < ((l6577).length : Int) then (bif (decide (((rdD zT44 l6577 x18662).To) < x18656.From)) then (if (l18659).length + (([(rdD zT44 l6577 x18662)] : List T44)).length ≤ 1000000000 then ((spans_Set_Add_l4 K l6577 x6584 lp13157 k19195) x18656 (l18659 ++ ([(rdD zT44 l6577 x18662)] : List T44)) (IntKind.wrap .i64 (x18662 + 1))) else none) else (bif (decide (((rdD zT44 l6577 x18662).From) > x18656.To)) then (if 0 ≤ x18662 then (if x18662 ≤ ((l6577).length : Int) then ((slices_Concat K ([l18659, ([x18656] : List T44), (List.drop (Int.toNat x18662) (List.take (l6577).length l6577))] : List (List T44))).bind fun t19549 => (spans_Set_Add_j5 x6584 lp13157 t19549)) else none) else none) else ((spans_Set_Add_l4 K l6577 x6584 lp13157 k19195) (⟨(mnI x18656.From ((rdD zT44 l6577 x18662).From)), (mxI x18656.To ((rdD zT44 l6577 x18662).To))⟩ : T44) l18659 (IntKind.wrap .i64 (x18662 + 1))))) else none) else (spans_Set_Add_j3 x6584 lp13157 x18656 l18659)
noncomputable def spans_Set_Add_l1 (K : Nat) (p1 : List T44) : Nat → (List T44) → Int → Option T77
  | 0, _, _ => none
  | k13156 + 1, l6577, x6584 => bif (decide (x6584 < ((p1).length : Int))) then (if 0 ≤ x6584 ∧ x6584 < ((p1).length : Int) then ((spans_Span_fit (rdD zT44 p1 x6584)).bind fun t16470 => ((spans_Span_empty t16470).bind fun t16481 => (bif t16481 then (spans_Set_Add_j2 x6584 (spans_Set_Add_l1 K p1 k13156) l6577) else (spans_Set_Add_l4 K l6577 x6584 (spans_Set_Add_l1 K p1 k13156) K t16470 ([] : List T44) 0)))) else none) else (some (⟨l6577⟩ : T77))
noncomputable def spans_Set_Add (K : Nat) (p0 : T77) (p1 : List T44) : Option T77 :=
  spans_Set_Add_l1 K p1 K p0.l 0

/-! slices.Clone[[]tidewrack/spans.Span,tidewrack/spans.Span] -/
noncomputable def slices_Clone' (p0 : List T44) : Option (List T44) :=
  if (([] : List T44)).length + (p0).length ≤ 1000000000 then (some (([] : List T44) ++ p0)) else none

/-! (*tidewrack/spans.Set).Spans -/
noncomputable def spans_Set_Spans (p0 : T77) : Option (List T44) :=
  (slices_Clone' p0.l).bind fun t4 => (some t4)

/-! (*tidewrack/cache.Cache).Spans -/
noncomputable def cache_Cache_Spans_j1 (l124 : List T44) : Option (List T44) :=
  (spans_Set_Spans (⟨l124⟩ : T77)).bind fun t131 => (some t131)
noncomputable def cache_Cache_Spans_l2 (K : Nat) : Nat → (List T44) → (List Int) → Option (List T44)
  | 0, _, _ => none
  | k215 + 1, l179, l184 => bif (List.isEmpty l184) then (cache_Cache_Spans_j1 l179) else (anyP l184 fun kk218 => ((spans_Set_Add K (⟨l179⟩ : T77) ([(⟨kk218, (IntKind.wrap .i64 (kk218 + 1))⟩ : T44)] : List T44)).bind fun t235 => ((cache_Cache_Spans_l2 K k215) t235.l (List.erase l184 kk218))))
noncomputable def cache_Cache_Spans (K : Nat) (p0 : T62) : Option (List T44) :=
  if KeysOK p0.l then (cache_Cache_Spans_l2 K K ([] : List T44) (M.keys p0.l)) else none

/-! tidewrack/tidewracklaw14.CacheRoom -/
noncomputable def tidewracklaw14_CacheRoom_j2 (K : Nat) (p0 : List (List T59)) (p1 : Int) (x770 : Int) (x771 : Int) (l774 : M T71) : Option Bool :=
  (cache_Cache_Spans K (⟨x770, x771, l774⟩ : T62)).bind fun t781 => (bif ((mnI ((p0).length : Int) 20) == (0 : Int)) then (some (((t781).length : Int) == (0 : Int))) else ((cache_Cache_Put K (⟨x770, x771, l774⟩ : T62) (IntKind.wrap .i64 ((bits .and .i64 p1 65535) + (mnI ((p0).length : Int) 20))) ([] : List T59)).bind fun t794 => (bif (((t781).length : Int) == (1 : Int)) then (if 0 ≤ (0 : Int) ∧ (0 : Int) < ((t781).length : Int) then (bif (((rdD zT44 t781 0).From) == (bits .and .i64 p1 65535)) then (bif (((rdD zT44 t781 0).To) == (IntKind.wrap .i64 ((bits .and .i64 p1 65535) + (mnI ((p0).length : Int) 20)))) then (bif t794.2.1 then (some (t794.1 == (bits .and .i64 p1 65535))) else (some false)) else (some false)) else (some false)) else none) else (some false))))
noncomputable def tidewracklaw14_CacheRoom_l3 (K : Nat) (p0 : List (List T59)) (p1 : Int) : Nat → Int → Int → (M T71) → Int → Option Bool
  | 0, _, _, _, _ => none
  | k1093 + 1, x949, x950, l953, x956 => bif (decide (x956 < (mnI ((p0).length : Int) 20))) then ((cache_Cache_Get (⟨x949, x950, l953⟩ : T62) (IntKind.wrap .i64 ((bits .and .i64 p1 65535) + x956))).bind fun t1100 => (bif (!t1100.2.1) then (some false) else (if 0 ≤ x956 ∧ x956 < ((p0).length : Int) then (if 0 ≤ (mnI (((rdD [] p0 x956)).length : Int) 20) then (if (mnI (((rdD [] p0 x956)).length : Int) 20) ≤ (((rdD [] p0 x956)).length : Int) then ((tidewracklaw14_Told K (List.drop 0 (List.take (Int.toNat (mnI (((rdD [] p0 x956)).length : Int) 20)) (rdD [] p0 x956)))).bind fun t1167 => ((tidewracklaw09_Glyphs K t1100.1 t1167).bind fun t1179 => (bif (!t1179) then (some false) else ((tidewracklaw14_CacheRoom_l3 K p0 p1 k1093) t1100.2.2.most t1100.2.2.now t1100.2.2.l (IntKind.wrap .i64 (x956 + 1)))))) else none) else none) else none))) else (tidewracklaw14_CacheRoom_j2 K p0 p1 x949 x950 l953)
noncomputable def tidewracklaw14_CacheRoom_j1 (K : Nat) (p0 : List (List T59)) (p1 : Int) (x328 : Int) (x329 : Int) (l332 : M T71) : Option Bool :=
  tidewracklaw14_CacheRoom_l3 K p0 p1 K x328 x329 l332 0
noncomputable def tidewracklaw14_CacheRoom_l4 (K : Nat) (p0 : List (List T59)) (p1 : Int) : Nat → Int → Int → (M T71) → Int → Option Bool
  | 0, _, _, _, _ => none
  | k1424 + 1, x1325, x1326, l1329, x1332 => bif (decide (x1332 < (mnI ((p0).length : Int) 20))) then (if 0 ≤ x1332 ∧ x1332 < ((p0).length : Int) then (if 0 ≤ (mnI (((rdD [] p0 x1332)).length : Int) 20) then (if (mnI (((rdD [] p0 x1332)).length : Int) 20) ≤ (((rdD [] p0 x1332)).length : Int) then ((cache_Cache_Put K (⟨x1325, x1326, l1329⟩ : T62) (IntKind.wrap .i64 ((bits .and .i64 p1 65535) + x1332)) (List.drop 0 (List.take (Int.toNat (mnI (((rdD [] p0 x1332)).length : Int) 20)) (rdD [] p0 x1332)))).bind fun t1472 => (bif t1472.2.1 then (some false) else ((tidewracklaw14_CacheRoom_l4 K p0 p1 k1424) t1472.2.2.most t1472.2.2.now t1472.2.2.l (IntKind.wrap .i64 (x1332 + 1))))) else none) else none) else none) else (tidewracklaw14_CacheRoom_j1 K p0 p1 x1325 x1326 l1329)
noncomputable def tidewracklaw14_CacheRoom (K : Nat) (p0 : List (List T59)) (p1 : Int) : Option Bool :=
  (tidewracklaw14_awake K).bind fun t4 => (bif (!t4) then (some false) else ((cache_New (mnI ((p0).length : Int) 20)).bind fun t13 => (tidewracklaw14_CacheRoom_l4 K p0 p1 K t13.most t13.now t13.l 0)))

end Go.Proofs.Ythmlldkmgdjeoaa
