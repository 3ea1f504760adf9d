/- Plain functions, printed by an own program: what the walked code computes. -/
import Derived.Test.YthmlldkmgdjeoaaY43
set_option linter.unusedVariables false
set_option linter.unusedSimpArgs false
namespace Go.Proofs.Ythmlldkmgdjeoaa
open Go Go.Proofs.XC
structure T59 where
  Rune : Int
  Style : Int
abbrev zT59 : T59 := ⟨0, 0⟩
structure T71 where
  l : List T59
  at_ : Int
abbrev zT71 : T71 := ⟨[], 0⟩
structure T62 where
  most : Int
  now : Int
  l : M T71
structure T44 where
  From : Int
  To : Int
abbrev zT44 : T44 := ⟨0, 0⟩
structure T77 where
  l : List T44
structure T29 where
  Kind : Int
  I : Int
  L : List T59
abbrev zT29 : T29 := ⟨0, 0, []⟩
structure T75 where
  Rune : Int
  Style : Int
abbrev zT75 : T75 := ⟨0, 0⟩
structure T87 where
  I : Int
  L : List T75
abbrev zT87 : T87 := ⟨0, []⟩
structure T50 where
  Most : Int
  L : List T87
def eqT44 (x y : T44) : Bool := ((x.From == y.From) && ((x.To == y.To) && true))
namespace WF
def wfBool (_ : Bool) : Prop := True
def wfStr (x : ByteArray) : Prop := x.size ≤ maxLen
def wfi64 (x : Int) : Prop := (Lit.int .i64 x).wf = true
def wfi32 (x : Int) : Prop := (Lit.int .i32 x).wf = true
def wfu8 (x : Int) : Prop := (Lit.int .u8 x).wf = true
def wfu32 (x : Int) : Prop := (Lit.int .u32 x).wf = true
def wfu64 (x : Int) : Prop := (Lit.int .u64 x).wf = true
def wfi8 (x : Int) : Prop := (Lit.int .i8 x).wf = true
def wfi16 (x : Int) : Prop := (Lit.int .i16 x).wf = true
def wfu16 (x : Int) : Prop := (Lit.int .u16 x).wf = true
def wfT59 (x : T59) : Prop := (Lit.int .i32 x.Rune).wf = true ∧ (Lit.int .i64 x.Style).wf = true
def wfT71 (x : T71) : Prop := (∀ y ∈ x.l, wfT59 y) ∧ x.l.length ≤ maxLen ∧ (Lit.int .i64 x.at_).wf = true
def wfT44 (x : T44) : Prop := (Lit.int .i64 x.From).wf = true ∧ (Lit.int .i64 x.To).wf = true
def wfT77 (x : T77) : Prop := (∀ y ∈ x.l, wfT44 y) ∧ x.l.length ≤ maxLen
def wfT29 (x : T29) : Prop := (Lit.int .i64 x.Kind).wf = true ∧ (Lit.int .i64 x.I).wf = true ∧ (∀ y ∈ x.L, wfT59 y) ∧ x.L.length ≤ maxLen
def wfT75 (x : T75) : Prop := (Lit.int .i64 x.Rune).wf = true ∧ (Lit.int .i64 x.Style).wf = true
def wfT87 (x : T87) : Prop := (Lit.int .i64 x.I).wf = true ∧ (∀ y ∈ x.L, wfT75 y) ∧ x.L.length ≤ maxLen
end WF
/-! tidewrack/cache.New -/
noncomputable def cache_New (p0 : Int) : Option T62 :=
  some (⟨(mxI 1 (mnI p0 65536)), 0, (M.new : M T71)⟩ : T62)

/-! slices.Clone[[]tidewrack/row.Glyph,tidewrack/row.Glyph] -/
noncomputable def slices_Clone (p0 : List T59) : Option (List T59) :=
  if (([] : List T59)).length + (p0).length ≤ 1000000000 then (some (([] : List T59) ++ p0)) else none

/-! (*tidewrack/cache.Cache).touch -/
noncomputable def cache_Cache_touch (p0 : T62) (p1 : Int) (p2 : List T59) : Option T62 :=
  if M.isNil p0.l = false then (some (⟨p0.most, (IntKind.wrap .i64 (p0.now + 1)), (M.put p0.l p1 (⟨p2, (IntKind.wrap .i64 (p0.now + 1))⟩ : T71))⟩ : T62)) else none

/-! maps.Keys[map[int]tidewrack/cache.entry,int,tidewrack/cache.entry] -/
noncomputable def maps_Keys' (p0 : M T71) : Option Unit :=
  some ()

/-! cmp.isNaN[int] -/
noncomputable def cmp_isNaN (p0 : Int) : Option Bool :=
  some (p0 != p0)

/-! cmp.Compare[int] -/
noncomputable def cmp_Compare (p0 : Int) (p1 : Int) : Option Int :=
  (cmp_isNaN p0).bind fun t4 => ((cmp_isNaN p1).bind fun t12 => (bif t4 then (bif t12 then (some 0) else (some (-1))) else (bif t12 then (some 1) else (bif (decide (p0 < p1)) then (some (-1)) else (bif (decide (p0 > p1)) then (some 1) else (some 0))))))

/-! (*tidewrack/cache.Cache).Put$1 -/
noncomputable def cache_Cache_Put_1 (p0 : Int) (p1 : Int) (p2 : T62) : Option Int :=
  (cmp_Compare ((M.get zT71 p2.l p0).at_) ((M.get zT71 p2.l p1).at_)).bind fun t32 => (some t32)

/-! slices.MinFunc[[]int,int] -/
noncomputable def slices_MinFunc_of27_j2 (x59 : Int) : Option Int :=
  some x59
noncomputable def slices_MinFunc_of27_l3 (p0 : List Int) (p1_0 : T62) : Nat → Int → Int → Option Int
  | 0, _, _ => none
  | k90 + 1, x76, x77 => bif (decide (x77 < ((p0).length : Int))) then (if 0 ≤ x77 ∧ x77 < ((p0).length : Int) then ((cache_Cache_Put_1 (rdD 0 p0 x77) x76 p1_0).bind fun t98 => (bif (decide (t98 < (0 : Int))) then ((slices_MinFunc_of27_l3 p0 p1_0 k90) (rdD 0 p0 x77) (IntKind.wrap .i64 (x77 + 1))) else ((slices_MinFunc_of27_l3 p0 p1_0 k90) x76 (IntKind.wrap .i64 (x77 + 1))))) else none) else (slices_MinFunc_of27_j2 x76)
noncomputable def slices_MinFunc_of27_j1 (K : Nat) (p0 : List Int) (p1_0 : T62) : Option Int :=
  if 0 ≤ (0 : Int) ∧ (0 : Int) < ((p0).length : Int) then (slices_MinFunc_of27_l3 p0 p1_0 K (rdD 0 p0 0) 1) else none
noncomputable def slices_MinFunc_of27 (K : Nat) (p0 : List Int) (p1_0 : T62) : Option Int :=
  bif (decide (((p0).length : Int) < (1 : Int))) then (none) else (slices_MinFunc_of27_j1 K p0 p1_0)

/-! (*tidewrack/cache.Cache).Put -/
noncomputable def cache_Cache_Put_j1 (K : Nat) (p0 : T62) (p1 : Int) (p2 : List T59) : Option (Int × Bool × T62) :=
  (slices_Clone p2).bind fun t82 => ((cache_Cache_touch p0 p1 t82).bind fun t96 => (bif (decide (((t96.l).length : Int) ≤ t96.most)) then (some (0, false, t96)) else ((maps_Keys' t96.l).bind fun t114 => (if KeysOK t96.l then (ordP (fun l_ => List.Perm l_ (M.keys t96.l)) fun ks127 => ((slices_MinFunc_of27 K ks127 t96).bind fun t137 => (some (t137, true, (⟨t96.most, t96.now, (M.del t96.l t137)⟩ : T62))))) else none))))
noncomputable def cache_Cache_Put_j2 (K : Nat) (p0 : T62) (p1 : Int) (p2 : List T59) (x153 : Bool) : Option (Int × Bool × T62) :=
  bif x153 then (some (0, false, p0)) else (cache_Cache_Put_j1 K p0 p1 p2)
noncomputable def cache_Cache_Put (K : Nat) (p0 : T62) (p1 : Int) (p2 : List T59) : Option (Int × Bool × T62) :=
  bif (decide (p1 < (0 : Int))) then (cache_Cache_Put_j2 K p0 p1 p2 true) else (cache_Cache_Put_j2 K p0 p1 p2 (decide (p1 > (1152921504606846976 : Int))))

/-! (*tidewrack/cache.Cache).Peek -/
noncomputable def cache_Cache_Peek (p0 : T62) (p1 : Int) : Option ((List T59) × Bool) :=
  (slices_Clone ((M.get zT71 p0.l p1).l)).bind fun t17 => (some (t17, (M.has p0.l p1)))

/-! (*tidewrack/cache.Cache).Get -/
noncomputable def cache_Cache_Get (p0 : T62) (p1 : Int) : Option ((List T59) × Bool × T62) :=
  bif (M.has p0.l p1) then ((cache_Cache_touch p0 p1 ((M.get zT71 p0.l p1).l)).bind fun t30 => ((cache_Cache_Peek t30 p1).bind fun t43 => (some (t43.1, t43.2, t30)))) else ((cache_Cache_Peek p0 p1).bind fun t18 => (some (t18.1, t18.2, p0)))

/-! (*tidewrack/cache.Cache).Len -/
noncomputable def cache_Cache_Len (p0 : T62) : Option Int :=
  some ((p0.l).length : Int)

/-! tidewrack/tidewracklaw14.awake -/
noncomputable def tidewracklaw14_awake (K : Nat)  : Option Bool :=
  (cache_New 2).bind fun t4 => ((cache_Cache_Put K t4 1 ([(⟨97, 0⟩ : T59)] : List T59)).bind fun t24 => ((cache_Cache_Put K t24.2.2 2 ([] : List T59)).bind fun t37 => ((cache_Cache_Get t37.2.2 1).bind fun t50 => ((cache_Cache_Put K t50.2.2 3 ([] : List T59)).bind fun t67 => (bif t50.2.1 then (bif (((t50.1).length : Int) == (1 : Int)) then (bif (t67.1 == (2 : Int)) then (bif t67.2.1 then ((cache_Cache_Len t67.2.2).bind fun t84 => (some (t84 == (2 : Int)))) else (some false)) else (some false)) else (some false)) else (some false))))))

/-! (*tidewrack/cache.Cache).Order$1 -/
noncomputable def cache_Cache_Order_1 (p0 : Int) (p1 : Int) (p2 : T62) : Option Int :=
  (cmp_Compare ((M.get zT71 p2.l p0).at_) ((M.get zT71 p2.l p1).at_)).bind fun t32 => (some t32)

/-! slices.SortedFunc[int] -/
noncomputable def slices_SortedFunc_of42_32 (p0_0 : M T71) (p1_0 : T62) : Option (List Int) :=
  if KeysOK p0_0 then (ordP (fun l_ => List.Perm l_ (M.keys p0_0)) fun ks7 => (if (ks7).length ≤ 1000000000 then (ordP (fun l_ => List.Perm l_ ks7 ∧ List.Pairwise (fun a_ b_ => (M.get zT71 p1_0.l a_).at_ ≤ (M.get zT71 p1_0.l b_).at_) l_) fun ks18 => (some ks18)) else none)) else none

/-! (*tidewrack/cache.Cache).Order -/
noncomputable def cache_Cache_Order (p0 : T62) : Option (List Int) :=
  (maps_Keys' p0.l).bind fun t9 => ((slices_SortedFunc_of42_32 p0.l p0).bind fun t19 => (some t19))

/-! (tidewrack/spans.Span).fit -/
noncomputable def spans_Span_fit (p0 : T44) : Option T44 :=
  some (⟨(mxI (-1152921504606846976) (mnI p0.From 1152921504606846976)), (mxI (-1152921504606846976) (mnI p0.To 1152921504606846976))⟩ : T44)

/-! (tidewrack/spans.Span).empty -/
noncomputable def spans_Span_empty (p0 : T44) : Option Bool :=
  some (decide (p0.To ≤ p0.From))

/-! slices.Grow[[]tidewrack/spans.Span,tidewrack/spans.Span] -/
noncomputable def slices_Grow_j1 (p1 : Int) : Option (List T44) :=
  bif (decide ((IntKind.wrap .i64 (p1 - (IntKind.wrap .i64 (0 - ((([] : List T44)).length : Int))))) > (0 : Int))) then (if 0 < (IntKind.wrap .i64 (p1 - (IntKind.wrap .i64 (0 - ((([] : List T44)).length : Int))))) then (if (IntKind.wrap .i64 (p1 - (IntKind.wrap .i64 (0 - ((([] : List T44)).length : Int))))) ≤ 1000000000 then (some ([] : List T44)) else none) else none) else (some ([] : List T44))
noncomputable def slices_Grow (p1 : Int) : Option (List T44) :=
  bif (decide (p1 < (0 : Int))) then (none) else (slices_Grow_j1 p1)

/-! slices.Concat[[]tidewrack/spans.Span,tidewrack/spans.Span] -/
noncomputable def slices_Concat_j2 (l134 : List T44) : Option (List T44) :=
  some l134
noncomputable def slices_Concat_l3 (p0 : List (List T44)) : Nat → (List T44) → Int → Option (List T44)
  | 0, _, _ => none
  | k181 + 1, l160, x163 => bif (decide (x163 < ((p0).length : Int))) then (if 0 ≤ x163 ∧ x163 < ((p0).length : Int) then (if (l160).length + ((rdD [] p0 x163)).length ≤ 1000000000 then ((slices_Concat_l3 p0 k181) (l160 ++ (rdD [] p0 x163)) (IntKind.wrap .i64 (x163 + 1))) else none) else none) else (slices_Concat_j2 l160)
noncomputable def slices_Concat_j1 (K : Nat) (p0 : List (List T44)) (x45 : Int) : Option (List T44) :=
  (slices_Grow x45).bind fun t50 => (slices_Concat_l3 p0 K t50 0)
noncomputable def slices_Concat_l4 (K : Nat) (p0 : List (List T44)) : Nat → Int → Int → Option (List T44)
  | 0, _, _ => none
  | k225 + 1, x213, x214 => bif (decide (x214 < ((p0).length : Int))) then (if 0 ≤ x214 ∧ x214 < ((p0).length : Int) then (bif (decide ((IntKind.wrap .i64 (x213 + (((rdD [] p0 x214)).length : Int))) < (0 : Int))) then (none) else ((slices_Concat_l4 K p0 k225) (IntKind.wrap .i64 (x213 + (((rdD [] p0 x214)).length : Int))) (IntKind.wrap .i64 (x214 + 1)))) else none) else (slices_Concat_j1 K p0 x213)
noncomputable def slices_Concat (K : Nat) (p0 : List (List T44)) : Option (List T44) :=
  slices_Concat_l4 K p0 K 0 0

/-! (*tidewrack/spans.Set).Add -/
noncomputable def spans_Set_Add_j2 (x6584 : Int) (lp13157 : (List T44) → Int → Option T77) (l16449 : List T44) : Option T77 :=
  lp13157 l16449 (IntKind.wrap .i64 (x6584 + 1))
noncomputable def spans_Set_Add_j3 (x6584 : Int) (lp13157 : (List T44) → Int → Option T77) (x18102 : T44) (l18105 : List T44) : Option T77 :=
  if (l18105).length + (([x18102] : List T44)).length ≤ 1000000000 then (spans_Set_Add_j2 x6584 lp13157 (l18105 ++ ([x18102] : List T44))) else none
noncomputable def spans_Set_Add_j5 (x6584 : Int) (lp13157 : (List T44) → Int → Option T77) (l19487 : List T44) : Option T77 :=
  spans_Set_Add_j2 x6584 lp13157 l19487
noncomputable def spans_Set_Add_l4 (K : Nat) (l6577 : List T44) (x6584 : Int) (lp13157 : (List T44) → Int → Option T77) : Nat → T44 → (List T44) → Int → Option T77
  | 0, _, _, _ => none
  | k19195 + 1, x18656, l18659, x18662 => bif (decide (x18662 < ((l6577).length : Int))) then (if 0 ≤ x18662 ∧ x18662 < ((l6577).length : Int) then (bif (decide (((rdD zT44 l6577 x18662).To) < x18656.From)) then (if (l18659).length + (([(rdD zT44 l6577 x18662)] : List T44)).length ≤ 1000000000 then ((spans_Set_Add_l4 K l6577 x6584 lp13157 k19195) x18656 (l18659 ++ ([(rdD zT44 l6577 x18662)] : List T44)) (IntKind.wrap .i64 (x18662 + 1))) else none) else (bif (decide (((rdD zT44 l6577 x18662).From) > x18656.To)) then (if 0 ≤ x18662 then (if x18662 ≤ ((l6577).length : Int) then ((slices_Concat K ([l18659, ([x18656] : List T44), (List.drop (Int.toNat x18662) (List.take (l6577).length l6577))] : List (List T44))).bind fun t19549 => (spans_Set_Add_j5 x6584 lp13157 t19549)) else none) else none) else ((spans_Set_Add_l4 K l6577 x6584 lp13157 k19195) (⟨(mnI x18656.From ((rdD zT44 l6577 x18662).From)), (mxI x18656.To ((rdD zT44 l6577 x18662).To))⟩ : T44) l18659 (IntKind.wrap .i64 (x18662 + 1))))) else none) else (spans_Set_Add_j3 x6584 lp13157 x18656 l18659)
noncomputable def spans_Set_Add_l1 (K : Nat) (p1 : List T44) : Nat → (List T44) → Int → Option T77
  | 0, _, _ => none
  | k13156 + 1, l6577, x6584 => bif (decide (x6584 < ((p1).length : Int))) then (if 0 ≤ x6584 ∧ x6584 < ((p1).length : Int) then ((spans_Span_fit (rdD zT44 p1 x6584)).bind fun t16470 => ((spans_Span_empty t16470).bind fun t16481 => (bif t16481 then (spans_Set_Add_j2 x6584 (spans_Set_Add_l1 K p1 k13156) l6577) else (spans_Set_Add_l4 K l6577 x6584 (spans_Set_Add_l1 K p1 k13156) K t16470 ([] : List T44) 0)))) else none) else (some (⟨l6577⟩ : T77))
noncomputable def spans_Set_Add (K : Nat) (p0 : T77) (p1 : List T44) : Option T77 :=
  spans_Set_Add_l1 K p1 K p0.l 0

/-! slices.Clone[[]tidewrack/spans.Span,tidewrack/spans.Span] -/
noncomputable def slices_Clone' (p0 : List T44) : Option (List T44) :=
  if (([] : List T44)).length + (p0).length ≤ 1000000000 then (some (([] : List T44) ++ p0)) else none

/-! (*tidewrack/spans.Set).Spans -/
noncomputable def spans_Set_Spans (p0 : T77) : Option (List T44) :=
  (slices_Clone' p0.l).bind fun t4 => (some t4)

/-! (*tidewrack/cache.Cache).Spans -/
noncomputable def cache_Cache_Spans_j1 (l124 : List T44) : Option (List T44) :=
  (spans_Set_Spans (⟨l124⟩ : T77)).bind fun t131 => (some t131)
noncomputable def cache_Cache_Spans_l2 (K : Nat) : Nat → (List T44) → (List Int) → Option (List T44)
  | 0, _, _ => none
  | k215 + 1, l179, l184 => bif (List.isEmpty l184) then (cache_Cache_Spans_j1 l179) else (anyP l184 fun kk218 => ((spans_Set_Add K (⟨l179⟩ : T77) ([(⟨kk218, (IntKind.wrap .i64 (kk218 + 1))⟩ : T44)] : List T44)).bind fun t235 => ((cache_Cache_Spans_l2 K k215) t235.l (List.erase l184 kk218))))
noncomputable def cache_Cache_Spans (K : Nat) (p0 : T62) : Option (List T44) :=
  if KeysOK p0.l then (cache_Cache_Spans_l2 K K ([] : List T44) (M.keys p0.l)) else none

/-! tidewrack/tidewracklaw14.CacheSpans -/
noncomputable def tidewracklaw14_CacheSpans_j1 : Option Bool :=
  some true
noncomputable def tidewracklaw14_CacheSpans_j4 (x8368 : Int) (lp10447 : Int → Int → (M T71) → Int → Option Bool) (x11496 : Int) (x11497 : Int) (l11500 : M T71) : Option Bool :=
  lp10447 x11496 x11497 l11500 (IntKind.wrap .i64 (x8368 + 1))
noncomputable def tidewracklaw14_CacheSpans_j6 (x8368 : Int) (lp10447 : Int → Int → (M T71) → Int → Option Bool) (x11566 : Int) (x11567 : Int) (l11570 : M T71) (x11573 : Int) (t11578 : List Int) (x12034 : Int) : Option Bool :=
  (cache_Cache_Len (⟨x11566, x11567, l11570⟩ : T62)).bind fun t12039 => (bif (x12034 != t12039) then (some false) else (bif (((t11578).length : Int) != x12034) then (some false) else (bif (decide (x11573 ≥ (0 : Int))) then (if 0 ≤ (IntKind.wrap .i64 (x12034 - 1)) ∧ (IntKind.wrap .i64 (x12034 - 1)) < ((t11578).length : Int) then (bif ((rdD 0 t11578 (IntKind.wrap .i64 (x12034 - 1))) != x11573) then (some false) else (tidewracklaw14_CacheSpans_j4 x8368 lp10447 x11566 x11567 l11570)) else none) else (tidewracklaw14_CacheSpans_j4 x8368 lp10447 x11566 x11567 l11570))))
noncomputable def tidewracklaw14_CacheSpans_j8 (t12053 : List T44) (x12204 : Int) (x12209 : Int) (lp12350 : Int → Int → Option Bool) : Option Bool :=
  lp12350 (IntKind.wrap .i64 (x12204 + (IntKind.wrap .i64 (((rdD zT44 t12053 x12209).To) - ((rdD zT44 t12053 x12209).From))))) (IntKind.wrap .i64 (x12209 + 1))
noncomputable def tidewracklaw14_CacheSpans_l9 (x11566 : Int) (x11567 : Int) (l11570 : M T71) (t12053 : List T44) (x12204 : Int) (x12209 : Int) (lp12350 : Int → Int → Option Bool) : Nat → Int → Option Bool
  | 0, _ => none
  | k12473 + 1, x12457 => bif (decide (x12457 < ((rdD zT44 t12053 x12209).To))) then ((cache_Cache_Peek (⟨x11566, x11567, l11570⟩ : T62) x12457).bind fun t12480 => (bif (!t12480.2) then (some false) else ((tidewracklaw14_CacheSpans_l9 x11566 x11567 l11570 t12053 x12204 x12209 lp12350 k12473) (IntKind.wrap .i64 (x12457 + 1))))) else (tidewracklaw14_CacheSpans_j8 t12053 x12204 x12209 lp12350)
noncomputable def tidewracklaw14_CacheSpans_l7 (K : Nat) (x8368 : Int) (lp10447 : Int → Int → (M T71) → Int → Option Bool) (x11566 : Int) (x11567 : Int) (l11570 : M T71) (x11573 : Int) (t11578 : List Int) (t12053 : List T44) : Nat → Int → Int → Option Bool
  | 0, _, _ => none
  | k12349 + 1, x12204, x12209 => bif (decide (x12209 < ((t12053).length : Int))) then (if 0 ≤ x12209 ∧ x12209 < ((t12053).length : Int) then (tidewracklaw14_CacheSpans_l9 x11566 x11567 l11570 t12053 x12204 x12209 (tidewracklaw14_CacheSpans_l7 K x8368 lp10447 x11566 x11567 l11570 x11573 t11578 t12053 k12349) K ((rdD zT44 t12053 x12209).From)) else none) else (tidewracklaw14_CacheSpans_j6 x8368 lp10447 x11566 x11567 l11570 x11573 t11578 x12204)
noncomputable def tidewracklaw14_CacheSpans_j5 (K : Nat) (x8368 : Int) (lp10447 : Int → Int → (M T71) → Int → Option Bool) (x11566 : Int) (x11567 : Int) (l11570 : M T71) (x11573 : Int) : Option Bool :=
  (cache_Cache_Order (⟨x11566, x11567, l11570⟩ : T62)).bind fun t11578 => ((cache_Cache_Spans K (⟨x11566, x11567, l11570⟩ : T62)).bind fun t12053 => (tidewracklaw14_CacheSpans_l7 K x8368 lp10447 x11566 x11567 l11570 x11573 t11578 t12053 K 0 0))
noncomputable def tidewracklaw14_CacheSpans_j3 (K : Nat) (p0 : List T29) (x8361 : Int) (x8362 : Int) (l8365 : M T71) (x8368 : Int) (lp10447 : Int → Int → (M T71) → Int → Option Bool) : Option Bool :=
  if 0 ≤ x8368 ∧ x8368 < ((p0).length : Int) then (bif (((rdD zT29 p0 x8368).Kind) == (0 : Int)) then ((cache_Cache_Put K (⟨x8361, x8362, l8365⟩ : T62) (bits .and .i64 ((rdD zT29 p0 x8368).I) 31) ([] : List T59)).bind fun t12513 => (tidewracklaw14_CacheSpans_j5 K x8368 lp10447 t12513.2.2.most t12513.2.2.now t12513.2.2.l (bits .and .i64 ((rdD zT29 p0 x8368).I) 31))) else (bif (((rdD zT29 p0 x8368).Kind) == (1 : Int)) then ((cache_Cache_Get (⟨x8361, x8362, l8365⟩ : T62) (bits .and .i64 ((rdD zT29 p0 x8368).I) 31)).bind fun t12495 => (bif t12495.2.1 then (tidewracklaw14_CacheSpans_j5 K x8368 lp10447 t12495.2.2.most t12495.2.2.now t12495.2.2.l (bits .and .i64 ((rdD zT29 p0 x8368).I) 31)) else (tidewracklaw14_CacheSpans_j5 K x8368 lp10447 t12495.2.2.most t12495.2.2.now t12495.2.2.l (-1)))) else (tidewracklaw14_CacheSpans_j5 K x8368 lp10447 x8361 x8362 l8365 (-1)))) else none
noncomputable def tidewracklaw14_CacheSpans_l2 (K : Nat) (p0 : List T29) : Nat → Int → Int → (M T71) → Int → Option Bool
  | 0, _, _, _, _ => none
  | k10446 + 1, x8361, x8362, l8365, x8368 => bif (decide (x8368 < ((p0).length : Int))) then (bif (decide (x8368 < (30 : Int))) then (tidewracklaw14_CacheSpans_j3 K p0 x8361 x8362 l8365 x8368 (tidewracklaw14_CacheSpans_l2 K p0 k10446)) else (tidewracklaw14_CacheSpans_j1)) else (tidewracklaw14_CacheSpans_j1)
noncomputable def tidewracklaw14_CacheSpans (K : Nat) (p0 : List T29) (p1 : Int) : Option Bool :=
  (tidewracklaw14_awake K).bind fun t4 => (bif (!t4) then (some false) else ((cache_New (IntKind.wrap .i64 (1 + (bits .and .i64 p1 15)))).bind fun t13 => (tidewracklaw14_CacheSpans_l2 K p0 K t13.most t13.now t13.l 0)))

/-! tidewrack/tidewrackref14.New -/
noncomputable def tidewrackref14_New (p0 : Int) : Option T50 :=
  some (⟨(mxI 1 (mnI p0 65536)), ([] : List T87)⟩ : T50)

/-! tidewrack/tidewracklaw14.Told -/
noncomputable def tidewracklaw14_Told_j1 (l103 : List T75) : Option (List T75) :=
  some l103
noncomputable def tidewracklaw14_Told_l2 (p0 : List T59) : Nat → (List T75) → Int → Option (List T75)
  | 0, _, _ => none
  | k168 + 1, l138, x141 => bif (decide (x141 < ((p0).length : Int))) then (if 0 ≤ x141 ∧ x141 < ((p0).length : Int) then (if (l138).length + (([(⟨(IntKind.wrap .i64 ((rdD zT59 p0 x141).Rune)), (rdD zT59 p0 x141).Style⟩ : T75)] : List T75)).length ≤ 1000000000 then ((tidewracklaw14_Told_l2 p0 k168) (l138 ++ ([(⟨(IntKind.wrap .i64 ((rdD zT59 p0 x141).Rune)), (rdD zT59 p0 x141).Style⟩ : T75)] : List T75)) (IntKind.wrap .i64 (x141 + 1))) else none) else none) else (tidewracklaw14_Told_j1 l138)
noncomputable def tidewracklaw14_Told (K : Nat) (p0 : List T59) : Option (List T75) :=
  tidewracklaw14_Told_l2 p0 K ([] : List T75) 0

/-! tidewrack/tidewrackref14.newest -/
noncomputable def tidewrackref14_newest_j1 (p0 : T50) (p1 : T87) (l142 : List T87) : Option T50 :=
  if (l142).length + (([p1] : List T87)).length ≤ 1000000000 then (some (⟨p0.Most, (l142 ++ ([p1] : List T87))⟩ : T50)) else none
noncomputable def tidewrackref14_newest_l2 (p0 : T50) (p1 : T87) : Nat → (List T87) → Int → Option T50
  | 0, _, _ => none
  | k284 + 1, l248, x251 => bif (decide (x251 < ((p0.L).length : Int))) then (if 0 ≤ x251 ∧ x251 < ((p0.L).length : Int) then (bif (((rdD zT87 p0.L x251).I) != p1.I) then (if (l248).length + (([(rdD zT87 p0.L x251)] : List T87)).length ≤ 1000000000 then ((tidewrackref14_newest_l2 p0 p1 k284) (l248 ++ ([(rdD zT87 p0.L x251)] : List T87)) (IntKind.wrap .i64 (x251 + 1))) else none) else ((tidewrackref14_newest_l2 p0 p1 k284) l248 (IntKind.wrap .i64 (x251 + 1)))) else none) else (tidewrackref14_newest_j1 p0 p1 l248)
noncomputable def tidewrackref14_newest (K : Nat) (p0 : T50) (p1 : T87) : Option T50 :=
  tidewrackref14_newest_l2 p0 p1 K ([] : List T87) 0

/-! tidewrack/tidewrackref14.Put -/
noncomputable def tidewrackref14_Put_j1 (K : Nat) (p0 : T50) (p1 : Int) (p2 : List T75) : Option (T50 × Int × Bool) :=
  (tidewrackref14_newest K p0 (⟨p1, p2⟩ : T87)).bind fun t34 => (bif (decide (((t34.L).length : Int) ≤ t34.Most)) then (some (t34, 0, false)) else (if (1 : Int) ≤ ((t34.L).length : Int) then (if 0 ≤ (0 : Int) ∧ (0 : Int) < ((t34.L).length : Int) then (some ((⟨t34.Most, (List.drop (Int.toNat 1) (List.take (t34.L).length t34.L))⟩ : T50), (rdD zT87 t34.L 0).I, true)) else none) else none))
noncomputable def tidewrackref14_Put_j2 (K : Nat) (p0 : T50) (p1 : Int) (p2 : List T75) (x113 : Bool) : Option (T50 × Int × Bool) :=
  bif x113 then (some (p0, 0, false)) else (tidewrackref14_Put_j1 K p0 p1 p2)
noncomputable def tidewrackref14_Put (K : Nat) (p0 : T50) (p1 : Int) (p2 : List T75) : Option (T50 × Int × Bool) :=
  bif (decide (p1 < (0 : Int))) then (tidewrackref14_Put_j2 K p0 p1 p2 true) else (tidewrackref14_Put_j2 K p0 p1 p2 (decide (p1 > (1152921504606846976 : Int))))

/-! tidewrack/tidewrackref14.Find -/
noncomputable def tidewrackref14_Find_j1 : Option ((List T75) × Bool) :=
  some (([] : List T75), false)
noncomputable def tidewrackref14_Find_l2 (p0 : T50) (p1 : Int) : Nat → Int → Option ((List T75) × Bool)
  | 0, _ => none
  | k111 + 1, x92 => bif (decide (x92 < ((p0.L).length : Int))) then (if 0 ≤ x92 ∧ x92 < ((p0.L).length : Int) then (bif (((rdD zT87 p0.L x92).I) == p1) then (some ((rdD zT87 p0.L x92).L, true)) else ((tidewrackref14_Find_l2 p0 p1 k111) (IntKind.wrap .i64 (x92 + 1)))) else none) else (tidewrackref14_Find_j1)
noncomputable def tidewrackref14_Find (K : Nat) (p0 : T50) (p1 : Int) : Option ((List T75) × Bool) :=
  tidewrackref14_Find_l2 p0 p1 K 0

/-! tidewrack/tidewrackref14.Get -/
noncomputable def tidewrackref14_Get (K : Nat) (p0 : T50) (p1 : Int) : Option (T50 × (List T75) × Bool) :=
  (tidewrackref14_Find K p0 p1).bind fun t14 => (bif (!t14.2) then (some (p0, ([] : List T75), false)) else ((tidewrackref14_newest K p0 (⟨p1, t14.1⟩ : T87)).bind fun t27 => (some (t27, t14.1, true))))

/-! tidewrack/tidewracklaw09.Glyphs -/
noncomputable def tidewracklaw09_Glyphs_j1 : Option Bool :=
  some true
noncomputable def tidewracklaw09_Glyphs_l2 (p0 : List T59) (p1 : List T75) : Nat → Int → Option Bool
  | 0, _ => none
  | k137 + 1, x112 => bif (decide (x112 < ((p0).length : Int))) then (if 0 ≤ x112 ∧ x112 < ((p0).length : Int) then (if 0 ≤ x112 ∧ x112 < ((p1).length : Int) then (bif ((IntKind.wrap .i64 ((rdD zT59 p0 x112).Rune)) != ((rdD zT75 p1 x112).Rune)) then (some false) else (bif (((rdD zT59 p0 x112).Style) != ((rdD zT75 p1 x112).Style)) then (some false) else ((tidewracklaw09_Glyphs_l2 p0 p1 k137) (IntKind.wrap .i64 (x112 + 1))))) else none) else none) else (tidewracklaw09_Glyphs_j1)
noncomputable def tidewracklaw09_Glyphs (K : Nat) (p0 : List T59) (p1 : List T75) : Option Bool :=
  bif (((p0).length : Int) != ((p1).length : Int)) then (some false) else (tidewracklaw09_Glyphs_l2 p0 p1 K 0)

/-! (*tidewrack/cache.Cache).Clear -/
noncomputable def cache_Cache_Clear (p0 : T62) : Option T62 :=
  some (⟨p0.most, p0.now, (M.wipe p0.l)⟩ : T62)

/-! tidewrack/tidewracklaw14.do -/
noncomputable def tidewracklaw14_do_j1 (K : Nat) (p0 : T62) (p2 : T29) (x583 : Int) (l586 : List T87) (x589 : Int) (x590 : Bool) : Option (T50 × Bool × T62) :=
  (cache_Cache_Put K p0 p2.I (([] : List T59) ++ (List.drop 0 (List.take (Int.toNat (mnI ((p2.L).length : Int) 20)) p2.L)))).bind fun t595 => (bif (t595.1 == x589) then (some ((⟨x583, l586⟩ : T50), (t595.2.1 == x590), t595.2.2)) else (some ((⟨x583, l586⟩ : T50), false, t595.2.2)))
noncomputable def tidewracklaw14_do (K : Nat) (p0 : T62) (p1 : T50) (p2 : T29) : Option (T50 × Bool × T62) :=
  bif (p2.Kind == (0 : Int)) then (if 0 ≤ (mnI ((p2.L).length : Int) 20) then (if (mnI ((p2.L).length : Int) 20) ≤ ((p2.L).length : Int) then (if (([] : List T59)).length + ((List.drop 0 (List.take (Int.toNat (mnI ((p2.L).length : Int) 20)) p2.L))).length ≤ 1000000000 then ((tidewracklaw14_Told K (([] : List T59) ++ (List.drop 0 (List.take (Int.toNat (mnI ((p2.L).length : Int) 20)) p2.L)))).bind fun t649 => ((tidewrackref14_Put K p1 p2.I t649).bind fun t663 => (tidewracklaw14_do_j1 K p0 p2 t663.1.Most t663.1.L t663.2.1 t663.2.2))) else none) else none) else none) else (bif (p2.Kind == (1 : Int)) then ((tidewrackref14_Get K p1 p2.I).bind fun t120 => ((cache_Cache_Get p0 p2.I).bind fun t144 => (bif (t144.2.1 == t120.2.2) then ((tidewracklaw09_Glyphs K t144.1 t120.2.1).bind fun t188 => (some (t120.1, t188, t144.2.2))) else (some (t120.1, false, t144.2.2))))) else (bif (p2.Kind == (2 : Int)) then ((tidewrackref14_Find K p1 p2.I).bind fun t38 => ((cache_Cache_Peek p0 p2.I).bind fun t50 => (bif (t50.2 == t38.2) then ((tidewracklaw09_Glyphs K t50.1 t38.1).bind fun t89 => (some (p1, t89, p0))) else (some (p1, false, p0))))) else ((cache_Cache_Clear p0).bind fun t22 => (some ((⟨p1.Most, ([] : List T87)⟩ : T50), true, t22)))))

/-! tidewrack/tidewracklaw01.Same -/
noncomputable def tidewracklaw01_Same_j1 : Option Bool :=
  some true
noncomputable def tidewracklaw01_Same_l2 (p0 : List Int) (p1 : List Int) : Nat → Int → Option Bool
  | 0, _ => none
  | k102 + 1, x84 => bif (decide (x84 < ((p0).length : Int))) then (if 0 ≤ x84 ∧ x84 < ((p0).length : Int) then (if 0 ≤ x84 ∧ x84 < ((p1).length : Int) then (bif ((rdD 0 p0 x84) != (rdD 0 p1 x84)) then (some false) else ((tidewracklaw01_Same_l2 p0 p1 k102) (IntKind.wrap .i64 (x84 + 1)))) else none) else none) else (tidewracklaw01_Same_j1)
noncomputable def tidewracklaw01_Same (K : Nat) (p0 : List Int) (p1 : List Int) : Option Bool :=
  bif (((p0).length : Int) != ((p1).length : Int)) then (some false) else (tidewracklaw01_Same_l2 p0 p1 K 0)

/-! tidewrack/tidewrackref13.near -/
noncomputable def tidewrackref13_near (p0 : Int) : Option Int :=
  bif (decide (p0 < (-1152921504606846976))) then (some (-1152921504606846976)) else (bif (decide (p0 > (1152921504606846976 : Int))) then (some 1152921504606846976) else (some p0))

/-! tidewrack/tidewrackref13.Fit -/
noncomputable def tidewrackref13_Fit (p0 : T44) : Option T44 :=
  (tidewrackref13_near p0.From).bind fun t51 => ((tidewrackref13_near p0.To).bind fun t59 => (some (⟨t51, t59⟩ : T44)))

/-! tidewrack/tidewrackref13.one -/
noncomputable def tidewrackref13_one (p0 : T44) : Option (List T44) :=
  (tidewrackref13_Fit p0).bind fun t9 => (bif (decide (t9.To ≤ t9.From)) then (some ([] : List T44)) else (some ([t9] : List T44)))

/-! tidewrack/tidewrackref13.Has -/
noncomputable def tidewrackref13_Has_j1 : Option Bool :=
  some false
noncomputable def tidewrackref13_Has_l2 (p0 : List T44) (p1 : Int) : Nat → Int → Option Bool
  | 0, _ => none
  | k86 + 1, x71 => bif (decide (x71 < ((p0).length : Int))) then (if 0 ≤ x71 ∧ x71 < ((p0).length : Int) then (bif (decide (p1 ≥ ((rdD zT44 p0 x71).From))) then (bif (decide (p1 < ((rdD zT44 p0 x71).To))) then (some true) else ((tidewrackref13_Has_l2 p0 p1 k86) (IntKind.wrap .i64 (x71 + 1)))) else ((tidewrackref13_Has_l2 p0 p1 k86) (IntKind.wrap .i64 (x71 + 1)))) else none) else (tidewrackref13_Has_j1)
noncomputable def tidewrackref13_Has (K : Nat) (p0 : List T44) (p1 : Int) : Option Bool :=
  tidewrackref13_Has_l2 p0 p1 K 0

/-! tidewrack/tidewrackref13.keep -/
noncomputable def tidewrackref13_keep (p0 : Int) (p1 : Bool) (p2 : Bool) : Option Bool :=
  bif (p0 == (0 : Int)) then (bif p1 then (some true) else (some p2)) else (bif (p0 == (1 : Int)) then (bif p1 then (some (!p2)) else (some false)) else (bif (p0 == (2 : Int)) then (bif p1 then (some p2) else (some false)) else (bif (!p1) then (some p2) else (some false))))

/-! tidewrack/tidewrackref13.build -/
noncomputable def tidewrackref13_build_j2 (l7290 : List T44) : Option (List T44) :=
  some l7290
noncomputable def tidewrackref13_build_j4 (l7058 : List Int) (l7363 : List T44) (x7366 : Int) (lp7435 : (List T44) → Int → Option (List T44)) (x7475 : Bool) : Option (List T44) :=
  bif x7475 then (if 0 ≤ (IntKind.wrap .i64 (x7366 + 1)) ∧ (IntKind.wrap .i64 (x7366 + 1)) < ((l7058).length : Int) then (if 0 ≤ (IntKind.wrap .i64 (((l7363).length : Int) - 1)) ∧ (IntKind.wrap .i64 (((l7363).length : Int) - 1)) < ((l7363).length : Int) then (lp7435 (List.set l7363 (Int.toNat (IntKind.wrap .i64 (((l7363).length : Int) - 1))) (⟨(rdD zT44 l7363 (IntKind.wrap .i64 (((l7363).length : Int) - 1))).From, (rdD 0 l7058 (IntKind.wrap .i64 (x7366 + 1)))⟩ : T44)) (IntKind.wrap .i64 (x7366 + 1))) else none) else none) else (if 0 ≤ (IntKind.wrap .i64 (x7366 + 1)) ∧ (IntKind.wrap .i64 (x7366 + 1)) < ((l7058).length : Int) then (if (l7363).length + (([(⟨(rdD 0 l7058 x7366), (rdD 0 l7058 (IntKind.wrap .i64 (x7366 + 1)))⟩ : T44)] : List T44)).length ≤ 1000000000 then (lp7435 (l7363 ++ ([(⟨(rdD 0 l7058 x7366), (rdD 0 l7058 (IntKind.wrap .i64 (x7366 + 1)))⟩ : T44)] : List T44)) (IntKind.wrap .i64 (x7366 + 1))) else none) else none)
noncomputable def tidewrackref13_build_l3 (K : Nat) (p0 : List T44) (p1 : List T44) (p2 : Int) (l7058 : List Int) : Nat → (List T44) → Int → Option (List T44)
  | 0, _, _ => none
  | k7434 + 1, l7363, x7366 => bif (decide ((IntKind.wrap .i64 (x7366 + 1)) < ((l7058).length : Int))) then (if 0 ≤ x7366 ∧ x7366 < ((l7058).length : Int) then ((tidewrackref13_Has K p0 (rdD 0 l7058 x7366)).bind fun t7443 => ((tidewrackref13_Has K p1 (rdD 0 l7058 x7366)).bind fun t7451 => ((tidewrackref13_keep p2 t7443 t7451).bind fun t7459 => (bif (!t7459) then ((tidewrackref13_build_l3 K p0 p1 p2 l7058 k7434) l7363 (IntKind.wrap .i64 (x7366 + 1))) else (bif (decide (((l7363).length : Int) > (0 : Int))) then (if 0 ≤ (IntKind.wrap .i64 (((l7363).length : Int) - 1)) ∧ (IntKind.wrap .i64 (((l7363).length : Int) - 1)) < ((l7363).length : Int) then (tidewrackref13_build_j4 l7058 l7363 x7366 (tidewrackref13_build_l3 K p0 p1 p2 l7058 k7434) (((rdD zT44 l7363 (IntKind.wrap .i64 (((l7363).length : Int) - 1))).To) == (rdD 0 l7058 x7366))) else none) else (tidewrackref13_build_j4 l7058 l7363 x7366 (tidewrackref13_build_l3 K p0 p1 p2 l7058 k7434) false)))))) else none) else (tidewrackref13_build_j2 l7363)
noncomputable def tidewrackref13_build_j1 (K : Nat) (p0 : List T44) (p1 : List T44) (p2 : Int) (l7058 : List Int) : Option (List T44) :=
  tidewrackref13_build_l3 K p0 p1 p2 l7058 K ([] : List T44) 0
noncomputable def tidewrackref13_build_j6 (x9828 : Int) (lp12185 : (List Int) → Int → Option (List T44)) (l13369 : List Int) : Option (List T44) :=
  lp12185 l13369 (IntKind.wrap .i64 (x9828 + 1))
noncomputable def tidewrackref13_build_j8 (x13780 : Int) (lp14161 : (List Int) → Int → Option (List T44)) (l14357 : List Int) : Option (List T44) :=
  lp14161 l14357 (IntKind.wrap .i64 (x13780 + 1))
noncomputable def tidewrackref13_build_j10 (p0 : List T44) (p1 : List T44) (x9828 : Int) (l13777 : List Int) (x13780 : Int) (lp14161 : (List Int) → Int → Option (List T44)) (x14390 : Int) (x14410 : Bool) : Option (List T44) :=
  bif x14410 then (if 0 ≤ x14390 then (if x14390 ≤ ((l13777).length : Int) then (if (([(rdD 0 ([(rdD zT44 ((([] : List T44) ++ p0) ++ p1) x9828).From, (rdD zT44 ((([] : List T44) ++ p0) ++ p1) x9828).To] : List Int) x13780)] : List Int)).length + ((List.drop (Int.toNat x14390) (List.take (l13777).length l13777))).length ≤ 1000000000 then (if ((List.take (Int.toNat x14390) l13777)).length + ((([(rdD 0 ([(rdD zT44 ((([] : List T44) ++ p0) ++ p1) x9828).From, (rdD zT44 ((([] : List T44) ++ p0) ++ p1) x9828).To] : List Int) x13780)] : List Int) ++ (List.drop (Int.toNat x14390) (List.take (l13777).length l13777)))).length ≤ 1000000000 then (tidewrackref13_build_j8 x13780 lp14161 ((List.take (Int.toNat x14390) l13777) ++ (([(rdD 0 ([(rdD zT44 ((([] : List T44) ++ p0) ++ p1) x9828).From, (rdD zT44 ((([] : List T44) ++ p0) ++ p1) x9828).To] : List Int) x13780)] : List Int) ++ (List.drop (Int.toNat x14390) (List.take (l13777).length l13777))))) else none) else none) else none) else none) else (tidewrackref13_build_j8 x13780 lp14161 l13777)
noncomputable def tidewrackref13_build_j9 (p0 : List T44) (p1 : List T44) (x9828 : Int) (l13777 : List Int) (x13780 : Int) (lp14161 : (List Int) → Int → Option (List T44)) (x14390 : Int) : Option (List T44) :=
  bif (x14390 == ((l13777).length : Int)) then (tidewrackref13_build_j10 p0 p1 x9828 l13777 x13780 lp14161 x14390 true) else (if 0 ≤ x14390 ∧ x14390 < ((l13777).length : Int) then (tidewrackref13_build_j10 p0 p1 x9828 l13777 x13780 lp14161 x14390 ((rdD 0 l13777 x14390) != (rdD 0 ([(rdD zT44 ((([] : List T44) ++ p0) ++ p1) x9828).From, (rdD zT44 ((([] : List T44) ++ p0) ++ p1) x9828).To] : List Int) x13780))) else none)
noncomputable def tidewrackref13_build_l11 (p0 : List T44) (p1 : List T44) (x9828 : Int) (l13777 : List Int) (x13780 : Int) (lp14161 : (List Int) → Int → Option (List T44)) : Nat → Int → Option (List T44)
  | 0, _ => none
  | k14534 + 1, x14528 => bif (decide (x14528 < ((l13777).length : Int))) then (if 0 ≤ x14528 ∧ x14528 < ((l13777).length : Int) then (bif (decide ((rdD 0 l13777 x14528) < (rdD 0 ([(rdD zT44 ((([] : List T44) ++ p0) ++ p1) x9828).From, (rdD zT44 ((([] : List T44) ++ p0) ++ p1) x9828).To] : List Int) x13780))) then ((tidewrackref13_build_l11 p0 p1 x9828 l13777 x13780 lp14161 k14534) (IntKind.wrap .i64 (x14528 + 1))) else (tidewrackref13_build_j9 p0 p1 x9828 l13777 x13780 lp14161 x14528)) else none) else (tidewrackref13_build_j9 p0 p1 x9828 l13777 x13780 lp14161 x14528)
noncomputable def tidewrackref13_build_l7 (K : Nat) (p0 : List T44) (p1 : List T44) (x9828 : Int) (lp12185 : (List Int) → Int → Option (List T44)) : Nat → (List Int) → Int → Option (List T44)
  | 0, _, _ => none
  | k14160 + 1, l13777, x13780 => bif (decide (x13780 < ((([(rdD zT44 ((([] : List T44) ++ p0) ++ p1) x9828).From, (rdD zT44 ((([] : List T44) ++ p0) ++ p1) x9828).To] : List Int)).length : Int))) then (if 0 ≤ x13780 ∧ x13780 < ((([(rdD zT44 ((([] : List T44) ++ p0) ++ p1) x9828).From, (rdD zT44 ((([] : List T44) ++ p0) ++ p1) x9828).To] : List Int)).length : Int) then (tidewrackref13_build_l11 p0 p1 x9828 l13777 x13780 (tidewrackref13_build_l7 K p0 p1 x9828 lp12185 k14160) K 0) else none) else (tidewrackref13_build_j6 x9828 lp12185 l13777)
noncomputable def tidewrackref13_build_l5 (K : Nat) (p0 : List T44) (p1 : List T44) (p2 : Int) : Nat → (List Int) → Int → Option (List T44)
  | 0, _, _ => none
  | k12184 + 1, l9821, x9828 => bif (decide (x9828 < ((((([] : List T44) ++ p0) ++ p1)).length : Int))) then (if 0 ≤ x9828 ∧ x9828 < ((((([] : List T44) ++ p0) ++ p1)).length : Int) then (tidewrackref13_build_l7 K p0 p1 x9828 (tidewrackref13_build_l5 K p0 p1 p2 k12184) K l9821 0) else none) else (tidewrackref13_build_j1 K p0 p1 p2 l9821)
noncomputable def tidewrackref13_build (K : Nat) (p0 : List T44) (p1 : List T44) (p2 : Int) : Option (List T44) :=
  if (([] : List T44)).length + (p0).length ≤ 1000000000 then (if ((([] : List T44) ++ p0)).length + (p1).length ≤ 1000000000 then (tidewrackref13_build_l5 K p0 p1 p2 K ([] : List Int) 0) else none) else none

/-! tidewrack/tidewrackref13.Add -/
noncomputable def tidewrackref13_Add (K : Nat) (p0 : List T44) (p1 : T44) : Option (List T44) :=
  (tidewrackref13_one p1).bind fun t9 => ((tidewrackref13_build K p0 t9 0).bind fun t21 => (some t21))

/-! tidewrack/tidewrackref14.Spans -/
noncomputable def tidewrackref14_Spans_j1 (l123 : List T44) : Option (List T44) :=
  some l123
noncomputable def tidewrackref14_Spans_l2 (K : Nat) (p0 : T50) : Nat → (List T44) → Int → Option (List T44)
  | 0, _, _ => none
  | k194 + 1, l161, x164 => bif (decide (x164 < ((p0.L).length : Int))) then (if 0 ≤ x164 ∧ x164 < ((p0.L).length : Int) then ((tidewrackref13_Add K l161 (⟨(rdD zT87 p0.L x164).I, (IntKind.wrap .i64 (((rdD zT87 p0.L x164).I) + 1))⟩ : T44)).bind fun t216 => ((tidewrackref14_Spans_l2 K p0 k194) t216 (IntKind.wrap .i64 (x164 + 1)))) else none) else (tidewrackref14_Spans_j1 l161)
noncomputable def tidewrackref14_Spans (K : Nat) (p0 : T50) : Option (List T44) :=
  tidewrackref14_Spans_l2 K p0 K ([] : List T44) 0

/-! tidewrack/tidewracklaw13.Same -/
noncomputable def tidewracklaw13_Same_j1 : Option Bool :=
  some true
noncomputable def tidewracklaw13_Same_l2 (p0 : List T44) (p1 : List T44) : Nat → Int → Option Bool
  | 0, _ => none
  | k102 + 1, x84 => bif (decide (x84 < ((p1).length : Int))) then (if 0 ≤ x84 ∧ x84 < ((p0).length : Int) then (if 0 ≤ x84 ∧ x84 < ((p1).length : Int) then (bif (!(eqT44 (rdD zT44 p0 x84) (rdD zT44 p1 x84))) then (some false) else ((tidewracklaw13_Same_l2 p0 p1 k102) (IntKind.wrap .i64 (x84 + 1)))) else none) else none) else (tidewracklaw13_Same_j1)
noncomputable def tidewracklaw13_Same (K : Nat) (p0 : List T44) (p1 : List T44) : Option Bool :=
  bif (((p0).length : Int) != ((p1).length : Int)) then (some false) else (tidewracklaw13_Same_l2 p0 p1 K 0)

/-! tidewrack/tidewracklaw14.Is -/
noncomputable def tidewracklaw14_Is_j1 (K : Nat) (p0 : T62) (p1 : T50) (l189 : List Int) : Option Bool :=
  (cache_Cache_Len p0).bind fun t258 => (bif (t258 == ((p1.L).length : Int)) then ((cache_Cache_Order p0).bind fun t281 => ((tidewracklaw01_Same K t281 l189).bind fun t293 => (bif t293 then ((cache_Cache_Spans K p0).bind fun t348 => ((tidewrackref14_Spans K p1).bind fun t360 => ((tidewracklaw13_Same K t348 t360).bind fun t372 => (some t372)))) else (some false)))) else (some false))
noncomputable def tidewracklaw14_Is_l2 (K : Nat) (p0 : T62) (p1 : T50) : Nat → (List Int) → Int → Option Bool
  | 0, _, _ => none
  | k590 + 1, l533, x536 => bif (decide (x536 < ((p1.L).length : Int))) then (if 0 ≤ x536 ∧ x536 < ((p1.L).length : Int) then (if (l533).length + (([(rdD zT87 p1.L x536).I] : List Int)).length ≤ 1000000000 then ((cache_Cache_Peek p0 ((rdD zT87 p1.L x536).I)).bind fun t626 => (bif (!t626.2) then (some false) else ((tidewracklaw09_Glyphs K t626.1 ((rdD zT87 p1.L x536).L)).bind fun t639 => (bif (!t639) then (some false) else ((tidewracklaw14_Is_l2 K p0 p1 k590) (l533 ++ ([(rdD zT87 p1.L x536).I] : List Int)) (IntKind.wrap .i64 (x536 + 1))))))) else none) else none) else (tidewracklaw14_Is_j1 K p0 p1 l533)
noncomputable def tidewracklaw14_Is (K : Nat) (p0 : T62) (p1 : T50) : Option Bool :=
  tidewracklaw14_Is_l2 K p0 p1 K ([] : List Int) 0

/-! tidewrack/tidewracklaw14.CachePlays -/
noncomputable def tidewracklaw14_CachePlays_j1 : Option Bool :=
  some true
noncomputable def tidewracklaw14_CachePlays_j3 (K : Nat) (p0 : Int) (p1 : List T29) (x555 : Int) (x556 : Int) (l559 : M T71) (x562 : Int) (l565 : List T87) (x568 : Int) (lp691 : Int → Int → (M T71) → Int → (List T87) → Int → Option Bool) : Option Bool :=
  if 0 ≤ x568 ∧ x568 < ((p1).length : Int) then ((tidewracklaw14_do K (⟨x555, x556, l559⟩ : T62) (⟨x562, l565⟩ : T50) (rdD zT29 p1 x568)).bind fun t737 => (bif (!t737.2.1) then (some false) else ((tidewracklaw14_Is K t737.2.2 t737.1).bind fun t796 => (bif (!t796) then (some false) else ((cache_Cache_Len t737.2.2).bind fun t805 => (bif (decide (t805 > (mxI 1 (mnI p0 65536)))) then (some false) else (lp691 t737.2.2.most t737.2.2.now t737.2.2.l t737.1.Most t737.1.L (IntKind.wrap .i64 (x568 + 1))))))))) else none
noncomputable def tidewracklaw14_CachePlays_l2 (K : Nat) (p0 : Int) (p1 : List T29) : Nat → Int → Int → (M T71) → Int → (List T87) → Int → Option Bool
  | 0, _, _, _, _, _, _ => none
  | k690 + 1, x555, x556, l559, x562, l565, x568 => bif (decide (x568 < ((p1).length : Int))) then (bif (decide (x568 < (40 : Int))) then (tidewracklaw14_CachePlays_j3 K p0 p1 x555 x556 l559 x562 l565 x568 (tidewracklaw14_CachePlays_l2 K p0 p1 k690)) else (tidewracklaw14_CachePlays_j1)) else (tidewracklaw14_CachePlays_j1)
noncomputable def tidewracklaw14_CachePlays (K : Nat) (p0 : Int) (p1 : List T29) : Option Bool :=
  (tidewracklaw14_awake K).bind fun t4 => (bif (!t4) then (some false) else ((cache_New p0).bind fun t13 => ((tidewrackref14_New p0).bind fun t27 => (tidewracklaw14_CachePlays_l2 K p0 p1 K t13.most t13.now t13.l t27.Most t27.L 0))))

/-! maps.Clone[map[int]tidewrack/cache.entry,int,tidewrack/cache.entry] -/
noncomputable def maps_Clone (p0 : M T71) : Option (M T71) :=
  bif (M.isNil p0) then (some (M.nil : M T71)) else (some p0)

/-! (*tidewrack/cache.Cache).Clone -/
noncomputable def cache_Cache_Clone (p0 : T62) : Option T62 :=
  (maps_Clone p0.l).bind fun t21 => (some (⟨p0.most, p0.now, t21⟩ : T62))

/-! tidewrack/tidewracklaw14.CacheClones -/
noncomputable def tidewracklaw14_CacheClones_j3 (K : Nat) (x391 : Int) (x392 : Int) (l395 : M T71) (x398 : Int) (l401 : List T87) (x956 : Int) (x957 : Int) (l960 : M T71) (x963 : Int) (l966 : List T87) : Option Bool :=
  (tidewracklaw14_Is K (⟨x391, x392, l395⟩ : T62) (⟨x398, l401⟩ : T50)).bind fun t973 => (bif t973 then ((tidewracklaw14_Is K (⟨x956, x957, l960⟩ : T62) (⟨x963, l966⟩ : T50)).bind fun t982 => (some t982)) else (some false))
noncomputable def tidewracklaw14_CacheClones_j5 (K : Nat) (p1 : List T29) (x1094 : Int) (x1095 : Int) (l1098 : M T71) (x1101 : Int) (l1104 : List T87) (x1107 : Int) (lp1212 : Int → Int → (M T71) → Int → (List T87) → Int → Option Bool) : Option Bool :=
  if 0 ≤ x1107 ∧ x1107 < ((p1).length : Int) then ((tidewracklaw14_do K (⟨x1094, x1095, l1098⟩ : T62) (⟨x1101, l1104⟩ : T50) (rdD zT29 p1 x1107)).bind fun t1258 => (bif (!t1258.2.1) then (some false) else (lp1212 t1258.2.2.most t1258.2.2.now t1258.2.2.l t1258.1.Most t1258.1.L (IntKind.wrap .i64 (x1107 + 1))))) else none
noncomputable def tidewracklaw14_CacheClones_l4 (K : Nat) (p1 : List T29) (x391 : Int) (x392 : Int) (l395 : M T71) (x398 : Int) (l401 : List T87) : Nat → Int → Int → (M T71) → Int → (List T87) → Int → Option Bool
  | 0, _, _, _, _, _, _ => none
  | k1211 + 1, x1094, x1095, l1098, x1101, l1104, x1107 => bif (decide (x1107 < ((p1).length : Int))) then (bif (decide (x1107 < (15 : Int))) then (tidewracklaw14_CacheClones_j5 K p1 x1094 x1095 l1098 x1101 l1104 x1107 (tidewracklaw14_CacheClones_l4 K p1 x391 x392 l395 x398 l401 k1211)) else (tidewracklaw14_CacheClones_j3 K x391 x392 l395 x398 l401 x1094 x1095 l1098 x1101 l1104)) else (tidewracklaw14_CacheClones_j3 K x391 x392 l395 x398 l401 x1094 x1095 l1098 x1101 l1104)
noncomputable def tidewracklaw14_CacheClones_j2 (K : Nat) (p1 : List T29) (x391 : Int) (x392 : Int) (l395 : M T71) (x398 : Int) (l401 : List T87) (x598 : Int) (x599 : Int) (l602 : M T71) : Option Bool :=
  tidewracklaw14_CacheClones_l4 K p1 x391 x392 l395 x398 l401 K x598 x599 l602 x398 l401 0
noncomputable def tidewracklaw14_CacheClones_j1 (K : Nat) (p1 : List T29) (x391 : Int) (x392 : Int) (l395 : M T71) (x398 : Int) (l401 : List T87) : Option Bool :=
  (cache_Cache_Clone (⟨x391, x392, l395⟩ : T62)).bind fun t1338 => (tidewracklaw14_CacheClones_j2 K p1 x391 x392 l395 x398 l401 t1338.most t1338.now t1338.l)
noncomputable def tidewracklaw14_CacheClones_j7 (K : Nat) (p0 : List T29) (x1577 : Int) (x1578 : Int) (l1581 : M T71) (x1584 : Int) (l1587 : List T87) (x1590 : Int) (lp1695 : Int → Int → (M T71) → Int → (List T87) → Int → Option Bool) : Option Bool :=
  if 0 ≤ x1590 ∧ x1590 < ((p0).length : Int) then ((tidewracklaw14_do K (⟨x1577, x1578, l1581⟩ : T62) (⟨x1584, l1587⟩ : T50) (rdD zT29 p0 x1590)).bind fun t1741 => (bif (!t1741.2.1) then (some false) else (lp1695 t1741.2.2.most t1741.2.2.now t1741.2.2.l t1741.1.Most t1741.1.L (IntKind.wrap .i64 (x1590 + 1))))) else none
noncomputable def tidewracklaw14_CacheClones_l6 (K : Nat) (p0 : List T29) (p1 : List T29) : Nat → Int → Int → (M T71) → Int → (List T87) → Int → Option Bool
  | 0, _, _, _, _, _, _ => none
  | k1694 + 1, x1577, x1578, l1581, x1584, l1587, x1590 => bif (decide (x1590 < ((p0).length : Int))) then (bif (decide (x1590 < (20 : Int))) then (tidewracklaw14_CacheClones_j7 K p0 x1577 x1578 l1581 x1584 l1587 x1590 (tidewracklaw14_CacheClones_l6 K p0 p1 k1694)) else (tidewracklaw14_CacheClones_j1 K p1 x1577 x1578 l1581 x1584 l1587)) else (tidewracklaw14_CacheClones_j1 K p1 x1577 x1578 l1581 x1584 l1587)
noncomputable def tidewracklaw14_CacheClones (K : Nat) (p0 : List T29) (p1 : List T29) : Option Bool :=
  (tidewracklaw14_awake K).bind fun t4 => (bif (!t4) then (some false) else ((cache_New 4).bind fun t13 => ((tidewrackref14_New 4).bind fun t27 => (tidewracklaw14_CacheClones_l6 K p0 p1 K t13.most t13.now t13.l t27.Most t27.L 0))))

end Go.Proofs.Ythmlldkmgdjeoaa
