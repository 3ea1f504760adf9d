/- Plain functions, printed by an own program: what the walked code computes. -/
import Derived.Test.YtpciioffkjpieaaZ4
set_option linter.unusedVariables false
set_option linter.unusedSimpArgs false
namespace Go.Proofs.Ytpciioffkjpieaa
open Go Go.Proofs.XC
structure T45 where
  Rune : Int
  Style : Int
abbrev zT45 : T45 := ⟨0, 0⟩
structure T52 where
  l : List T45
  at_ : Int
abbrev zT52 : T52 := ⟨[], 0⟩
structure T41 where
  most : Int
  now : Int
  l : M T52
structure T27 where
  From : Int
  To : Int
abbrev zT27 : T27 := ⟨0, 0⟩
structure T30 where
  l : List T27
namespace WF
def wfBool (_ : Bool) : Prop := True
def wfStr (x : ByteArray) : Prop := x.size ≤ maxLen
def wfi64 (x : Int) : Prop := (Lit.int .i64 x).wf = true
def wfi32 (x : Int) : Prop := (Lit.int .i32 x).wf = true
def wfu8 (x : Int) : Prop := (Lit.int .u8 x).wf = true
def wfu32 (x : Int) : Prop := (Lit.int .u32 x).wf = true
def wfu64 (x : Int) : Prop := (Lit.int .u64 x).wf = true
def wfi8 (x : Int) : Prop := (Lit.int .i8 x).wf = true
def wfi16 (x : Int) : Prop := (Lit.int .i16 x).wf = true
def wfu16 (x : Int) : Prop := (Lit.int .u16 x).wf = true
def wfT45 (x : T45) : Prop := (Lit.int .i32 x.Rune).wf = true ∧ (Lit.int .i64 x.Style).wf = true
def wfT52 (x : T52) : Prop := (∀ y ∈ x.l, wfT45 y) ∧ x.l.length ≤ maxLen ∧ (Lit.int .i64 x.at_).wf = true
def wfT27 (x : T27) : Prop := (Lit.int .i64 x.From).wf = true ∧ (Lit.int .i64 x.To).wf = true
def wfT30 (x : T30) : Prop := (∀ y ∈ x.l, wfT27 y) ∧ x.l.length ≤ maxLen
end WF
/-! tidewrack/cache.New -/
noncomputable def cache_New (p0 : Int) : Option T41 :=
  some (⟨(mxI 1 (mnI p0 65536)), 0, (M.new : M T52)⟩ : T41)

/-! slices.Clone[[]tidewrack/row.Glyph,tidewrack/row.Glyph] -/
noncomputable def slices_Clone (p0 : List T45) : Option (List T45) :=
  if (([] : List T45)).length + (p0).length ≤ 1000000000 then (some (([] : List T45) ++ p0)) else none

/-! (*tidewrack/cache.Cache).touch -/
noncomputable def cache_Cache_touch (p0 : T41) (p1 : Int) (p2 : List T45) : Option T41 :=
  if M.isNil p0.l = false then (some (⟨p0.most, (IntKind.wrap .i64 (p0.now + 1)), (M.put p0.l p1 (⟨p2, (IntKind.wrap .i64 (p0.now + 1))⟩ : T52))⟩ : T41)) else none

/-! maps.Keys[map[int]tidewrack/cache.entry,int,tidewrack/cache.entry] -/
noncomputable def maps_Keys' (p0 : M T52) : Option Unit :=
  some ()

/-! cmp.isNaN[int] -/
noncomputable def cmp_isNaN (p0 : Int) : Option Bool :=
  some (p0 != p0)

/-! cmp.Compare[int] -/
noncomputable def cmp_Compare (p0 : Int) (p1 : Int) : Option Int :=
  (cmp_isNaN p0).bind fun t4 => ((cmp_isNaN p1).bind fun t12 => (bif t4 then (bif t12 then (some 0) else (some (-1))) else (bif t12 then (some 1) else (bif (decide (p0 < p1)) then (some (-1)) else (bif (decide (p0 > p1)) then (some 1) else (some 0))))))

/-! (*tidewrack/cache.Cache).Put$1 -/
noncomputable def cache_Cache_Put_1 (p0 : Int) (p1 : Int) (p2 : T41) : Option Int :=
  (cmp_Compare ((M.get zT52 p2.l p0).at_) ((M.get zT52 p2.l p1).at_)).bind fun t32 => (some t32)

/-! slices.MinFunc[[]int,int] -/
noncomputable def slices_MinFunc_of18_j2 (x59 : Int) : Option Int :=
  some x59
noncomputable def slices_MinFunc_of18_l3 (p0 : List Int) (p1_0 : T41) : Nat → Int → Int → Option Int
  | 0, _, _ => none
  | k90 + 1, x76, x77 => bif (decide (x77 < ((p0).length : Int))) then (if 0 ≤ x77 ∧ x77 < ((p0).length : Int) then ((cache_Cache_Put_1 (rdD 0 p0 x77) x76 p1_0).bind fun t98 => (bif (decide (t98 < (0 : Int))) then ((slices_MinFunc_of18_l3 p0 p1_0 k90) (rdD 0 p0 x77) (IntKind.wrap .i64 (x77 + 1))) else ((slices_MinFunc_of18_l3 p0 p1_0 k90) x76 (IntKind.wrap .i64 (x77 + 1))))) else none) else (slices_MinFunc_of18_j2 x76)
noncomputable def slices_MinFunc_of18_j1 (K : Nat) (p0 : List Int) (p1_0 : T41) : Option Int :=
  if 0 ≤ (0 : Int) ∧ (0 : Int) < ((p0).length : Int) then (slices_MinFunc_of18_l3 p0 p1_0 K (rdD 0 p0 0) 1) else none
noncomputable def slices_MinFunc_of18 (K : Nat) (p0 : List Int) (p1_0 : T41) : Option Int :=
  bif (decide (((p0).length : Int) < (1 : Int))) then (none) else (slices_MinFunc_of18_j1 K p0 p1_0)

/-! (*tidewrack/cache.Cache).Put -/
noncomputable def cache_Cache_Put_j1 (K : Nat) (p0 : T41) (p1 : Int) (p2 : List T45) : Option (Int × Bool × T41) :=
  (slices_Clone p2).bind fun t82 => ((cache_Cache_touch p0 p1 t82).bind fun t96 => (bif (decide (((t96.l).length : Int) ≤ t96.most)) then (some (0, false, t96)) else ((maps_Keys' t96.l).bind fun t114 => (if KeysOK t96.l then (ordP (fun l_ => List.Perm l_ (M.keys t96.l)) fun ks127 => ((slices_MinFunc_of18 K ks127 t96).bind fun t137 => (some (t137, true, (⟨t96.most, t96.now, (M.del t96.l t137)⟩ : T41))))) else none))))
noncomputable def cache_Cache_Put_j2 (K : Nat) (p0 : T41) (p1 : Int) (p2 : List T45) (x153 : Bool) : Option (Int × Bool × T41) :=
  bif x153 then (some (0, false, p0)) else (cache_Cache_Put_j1 K p0 p1 p2)
noncomputable def cache_Cache_Put (K : Nat) (p0 : T41) (p1 : Int) (p2 : List T45) : Option (Int × Bool × T41) :=
  bif (decide (p1 < (0 : Int))) then (cache_Cache_Put_j2 K p0 p1 p2 true) else (cache_Cache_Put_j2 K p0 p1 p2 (decide (p1 > (1152921504606846976 : Int))))

/-! (tidewrack/spans.Span).fit -/
noncomputable def spans_Span_fit (p0 : T27) : Option T27 :=
  some (⟨(mxI (-1152921504606846976) (mnI p0.From 1152921504606846976)), (mxI (-1152921504606846976) (mnI p0.To 1152921504606846976))⟩ : T27)

/-! (tidewrack/spans.Span).empty -/
noncomputable def spans_Span_empty (p0 : T27) : Option Bool :=
  some (decide (p0.To ≤ p0.From))

/-! slices.Grow[[]tidewrack/spans.Span,tidewrack/spans.Span] -/
noncomputable def slices_Grow_j1 (p1 : Int) : Option (List T27) :=
  bif (decide ((IntKind.wrap .i64 (p1 - (IntKind.wrap .i64 (0 - ((([] : List T27)).length : Int))))) > (0 : Int))) then (if 0 < (IntKind.wrap .i64 (p1 - (IntKind.wrap .i64 (0 - ((([] : List T27)).length : Int))))) then (if (IntKind.wrap .i64 (p1 - (IntKind.wrap .i64 (0 - ((([] : List T27)).length : Int))))) ≤ 1000000000 then (some ([] : List T27)) else none) else none) else (some ([] : List T27))
noncomputable def slices_Grow (p1 : Int) : Option (List T27) :=
  bif (decide (p1 < (0 : Int))) then (none) else (slices_Grow_j1 p1)

/-! slices.Concat[[]tidewrack/spans.Span,tidewrack/spans.Span] -/
noncomputable def slices_Concat_j2 (l134 : List T27) : Option (List T27) :=
  some l134
noncomputable def slices_Concat_l3 (p0 : List (List T27)) : Nat → (List T27) → Int → Option (List T27)
  | 0, _, _ => none
  | k181 + 1, l160, x163 => bif (decide (x163 < ((p0).length : Int))) then (if 0 ≤ x163 ∧ x163 < ((p0).length : Int) then (if (l160).length + ((rdD [] p0 x163)).length ≤ 1000000000 then ((slices_Concat_l3 p0 k181) (l160 ++ (rdD [] p0 x163)) (IntKind.wrap .i64 (x163 + 1))) else none) else none) else (slices_Concat_j2 l160)
noncomputable def slices_Concat_j1 (K : Nat) (p0 : List (List T27)) (x45 : Int) : Option (List T27) :=
  (slices_Grow x45).bind fun t50 => (slices_Concat_l3 p0 K t50 0)
noncomputable def slices_Concat_l4 (K : Nat) (p0 : List (List T27)) : Nat → Int → Int → Option (List T27)
  | 0, _, _ => none
  | k225 + 1, x213, x214 => bif (decide (x214 < ((p0).length : Int))) then (if 0 ≤ x214 ∧ x214 < ((p0).length : Int) then (bif (decide ((IntKind.wrap .i64 (x213 + (((rdD [] p0 x214)).length : Int))) < (0 : Int))) then (none) else ((slices_Concat_l4 K p0 k225) (IntKind.wrap .i64 (x213 + (((rdD [] p0 x214)).length : Int))) (IntKind.wrap .i64 (x214 + 1)))) else none) else (slices_Concat_j1 K p0 x213)
noncomputable def slices_Concat (K : Nat) (p0 : List (List T27)) : Option (List T27) :=
  slices_Concat_l4 K p0 K 0 0

/-! (*tidewrack/spans.Set).Add -/
noncomputable def spans_Set_Add_j2 (x6584 : Int) (lp13157 : (List T27) → Int → Option T30) (l16449 : List T27) : Option T30 :=
  lp13157 l16449 (IntKind.wrap .i64 (x6584 + 1))
noncomputable def spans_Set_Add_j3 (x6584 : Int) (lp13157 : (List T27) → Int → Option T30) (x18102 : T27) (l18105 : List T27) : Option T30 :=
  if (l18105).length + (([x18102] : List T27)).length ≤ 1000000000 then (spans_Set_Add_j2 x6584 lp13157 (l18105 ++ ([x18102] : List T27))) else none
noncomputable def spans_Set_Add_j5 (x6584 : Int) (lp13157 : (List T27) → Int → Option T30) (l19487 : List T27) : Option T30 :=
  spans_Set_Add_j2 x6584 lp13157 l19487
noncomputable def spans_Set_Add_l4 (K : Nat) (l6577 : List T27) (x6584 : Int) (lp13157 : (List T27) → Int → Option T30) : Nat → T27 → (List T27) → Int → Option T30
  | 0, _, _, _ => none
  | k19195 + 1, x18656, l18659, x18662 => bif (decide (x18662 < ((l6577).length : Int))) then (if 0 ≤ x18662 ∧ x18662 < ((l6577).length : Int) then (bif (decide (((rdD zT27 l6577 x18662).To) < x18656.From)) then (if (l18659).length + (([(rdD zT27 l6577 x18662)] : List T27)).length ≤ 1000000000 then ((spans_Set_Add_l4 K l6577 x6584 lp13157 k19195) x18656 (l18659 ++ ([(rdD zT27 l6577 x18662)] : List T27)) (IntKind.wrap .i64 (x18662 + 1))) else none) else (bif (decide (((rdD zT27 l6577 x18662).From) > x18656.To)) then (if 0 ≤ x18662 then (if x18662 ≤ ((l6577).length : Int) then ((slices_Concat K ([l18659, ([x18656] : List T27), (List.drop (Int.toNat x18662) (List.take (l6577).length l6577))] : List (List T27))).bind fun t19549 => (spans_Set_Add_j5 x6584 lp13157 t19549)) else none) else none) else ((spans_Set_Add_l4 K l6577 x6584 lp13157 k19195) (⟨(mnI x18656.From ((rdD zT27 l6577 x18662).From)), (mxI x18656.To ((rdD zT27 l6577 x18662).To))⟩ : T27) l18659 (IntKind.wrap .i64 (x18662 + 1))))) else none) else (spans_Set_Add_j3 x6584 lp13157 x18656 l18659)
noncomputable def spans_Set_Add_l1 (K : Nat) (p1 : List T27) : Nat → (List T27) → Int → Option T30
  | 0, _, _ => none
  | k13156 + 1, l6577, x6584 => bif (decide (x6584 < ((p1).length : Int))) then (if 0 ≤ x6584 ∧ x6584 < ((p1).length : Int) then ((spans_Span_fit (rdD zT27 p1 x6584)).bind fun t16470 => ((spans_Span_empty t16470).bind fun t16481 => (bif t16481 then (spans_Set_Add_j2 x6584 (spans_Set_Add_l1 K p1 k13156) l6577) else (spans_Set_Add_l4 K l6577 x6584 (spans_Set_Add_l1 K p1 k13156) K t16470 ([] : List T27) 0)))) else none) else (some (⟨l6577⟩ : T30))
noncomputable def spans_Set_Add (K : Nat) (p0 : T30) (p1 : List T27) : Option T30 :=
  spans_Set_Add_l1 K p1 K p0.l 0

/-! slices.Clone[[]tidewrack/spans.Span,tidewrack/spans.Span] -/
noncomputable def slices_Clone' (p0 : List T27) : Option (List T27) :=
  if (([] : List T27)).length + (p0).length ≤ 1000000000 then (some (([] : List T27) ++ p0)) else none

/-! (*tidewrack/spans.Set).Spans -/
noncomputable def spans_Set_Spans (p0 : T30) : Option (List T27) :=
  (slices_Clone' p0.l).bind fun t4 => (some t4)

/-! (*tidewrack/cache.Cache).Spans -/
noncomputable def cache_Cache_Spans_j1 (l124 : List T27) : Option (List T27) :=
  (spans_Set_Spans (⟨l124⟩ : T30)).bind fun t131 => (some t131)
noncomputable def cache_Cache_Spans_l2 (K : Nat) : Nat → (List T27) → (List Int) → Option (List T27)
  | 0, _, _ => none
  | k215 + 1, l179, l184 => bif (List.isEmpty l184) then (cache_Cache_Spans_j1 l179) else (anyP l184 fun kk218 => ((spans_Set_Add K (⟨l179⟩ : T30) ([(⟨kk218, (IntKind.wrap .i64 (kk218 + 1))⟩ : T27)] : List T27)).bind fun t235 => ((cache_Cache_Spans_l2 K k215) t235.l (List.erase l184 kk218))))
noncomputable def cache_Cache_Spans (K : Nat) (p0 : T41) : Option (List T27) :=
  if KeysOK p0.l then (cache_Cache_Spans_l2 K K ([] : List T27) (M.keys p0.l)) else none

/-! tidewrack/spans.without$1 -/
noncomputable def spans_without_1_j2 (x246 : Int) (lp472 : Int → Option (List T27)) : Option (List T27) :=
  lp472 (IntKind.wrap .i64 (x246 + 1))
noncomputable def spans_without_1_l3 (p1 : List T27) (p2 : T27) (x246 : Int) (lp472 : Int → Option (List T27)) : Nat → Int → Option (List T27)
  | 0, _ => none
  | k669 + 1, x642 => bif (decide (x642 < ((([(⟨(rdD zT27 p1 x246).From, (mnI ((rdD zT27 p1 x246).To) p2.From)⟩ : T27), (⟨(mxI ((rdD zT27 p1 x246).From) p2.To), (rdD zT27 p1 x246).To⟩ : T27)] : List T27)).length : Int))) then (if 0 ≤ x642 ∧ x642 < ((([(⟨(rdD zT27 p1 x246).From, (mnI ((rdD zT27 p1 x246).To) p2.From)⟩ : T27), (⟨(mxI ((rdD zT27 p1 x246).From) p2.To), (rdD zT27 p1 x246).To⟩ : T27)] : List T27)).length : Int) then ((spans_Span_empty (rdD zT27 ([(⟨(rdD zT27 p1 x246).From, (mnI ((rdD zT27 p1 x246).To) p2.From)⟩ : T27), (⟨(mxI ((rdD zT27 p1 x246).From) p2.To), (rdD zT27 p1 x246).To⟩ : T27)] : List T27) x642)).bind fun t685 => (bif (!t685) then (Option.map (List.cons (rdD zT27 ([(⟨(rdD zT27 p1 x246).From, (mnI ((rdD zT27 p1 x246).To) p2.From)⟩ : T27), (⟨(mxI ((rdD zT27 p1 x246).From) p2.To), (rdD zT27 p1 x246).To⟩ : T27)] : List T27) x642)) ((spans_without_1_l3 p1 p2 x246 lp472 k669) (IntKind.wrap .i64 (x642 + 1)))) else ((spans_without_1_l3 p1 p2 x246 lp472 k669) (IntKind.wrap .i64 (x642 + 1))))) else none) else (spans_without_1_j2 x246 lp472)
noncomputable def spans_without_1_l1 (K : Nat) (p1 : List T27) (p2 : T27) : Nat → Int → Option (List T27)
  | 0, _ => none
  | k471 + 1, x246 => bif (decide (x246 < ((p1).length : Int))) then (if 0 ≤ x246 ∧ x246 < ((p1).length : Int) then (spans_without_1_l3 p1 p2 x246 (spans_without_1_l1 K p1 p2 k471) K 0) else none) else (some [])
noncomputable def spans_without_1 (K : Nat) (p1 : List T27) (p2 : T27) : Option (List T27) :=
  spans_without_1_l1 K p1 p2 K 0

/-! tidewrack/spans.without -/
noncomputable def spans_without (p0 : List T27) (p1 : T27) : Option T27 :=
  some p1

/-! (*tidewrack/spans.Set).Cut -/
noncomputable def spans_Set_Cut_j2 (x743 : Int) (lp1473 : (List T27) → Int → Option T30) (l1846 : List T27) : Option T30 :=
  lp1473 l1846 (IntKind.wrap .i64 (x743 + 1))
noncomputable def spans_Set_Cut_j3 (x743 : Int) (lp1473 : (List T27) → Int → Option T30) (l2050 : List T27) : Option T30 :=
  spans_Set_Cut_j2 x743 lp1473 l2050
noncomputable def spans_Set_Cut_r4 (x743 : Int) (lp1473 : (List T27) → Int → Option T30) : List T27 → (List T27) → Option T30
  | [], l2141 => spans_Set_Cut_j3 x743 lp1473 l2141
  | x2097 :: rest2098, l2141 => if (l2141).length + (([x2097] : List T27)).length ≤ 1000000000 then ((spans_Set_Cut_r4 x743 lp1473 rest2098) (l2141 ++ ([x2097] : List T27))) else none
noncomputable def spans_Set_Cut_l1 (K : Nat) (p1 : List T27) : Nat → (List T27) → Int → Option T30
  | 0, _, _ => none
  | k1472 + 1, l736, x743 => bif (decide (x743 < ((p1).length : Int))) then (if 0 ≤ x743 ∧ x743 < ((p1).length : Int) then ((spans_Span_fit (rdD zT27 p1 x743)).bind fun t1867 => ((spans_Span_empty t1867).bind fun t1878 => (bif t1878 then (spans_Set_Cut_j2 x743 (spans_Set_Cut_l1 K p1 k1472) l736) else ((spans_without l736 t1867).bind fun t2086 => ((spans_without_1 K l736 t2086).bind fun ys2095 => (spans_Set_Cut_r4 x743 (spans_Set_Cut_l1 K p1 k1472) ys2095 ([] : List T27))))))) else none) else (some (⟨l736⟩ : T30))
noncomputable def spans_Set_Cut (K : Nat) (p0 : T30) (p1 : List T27) : Option T30 :=
  spans_Set_Cut_l1 K p1 K p0.l 0

/-! (*tidewrack/spans.Set).Missing -/
noncomputable def spans_Set_Missing (K : Nat) (p0 : T30) (p1 : T27) : Option (List T27) :=
  (spans_Set_Add K (⟨([] : List T27)⟩ : T30) ([p1] : List T27)).bind fun t20 => ((spans_Set_Cut K t20 p0.l).bind fun t33 => (some t33.l))

/-! (*tidewrack/cache.Cache).Peek -/
noncomputable def cache_Cache_Peek (p0 : T41) (p1 : Int) : Option ((List T45) × Bool) :=
  (slices_Clone ((M.get zT52 p0.l p1).l)).bind fun t17 => (some (t17, (M.has p0.l p1)))

/-! (tidewrack/spans.Span).both -/
noncomputable def spans_Span_both (p0 : T27) (p1 : T27) : Option T27 :=
  some (⟨(mxI p0.From p1.From), (mnI p0.To p1.To)⟩ : T27)

/-! (*tidewrack/spans.Set).In -/
noncomputable def spans_Set_In_j1 (l1383 : List T27) : Option (List T27) :=
  some l1383
noncomputable def spans_Set_In_j3 (l1843 : List T27) (x1846 : Int) (lp2299 : (List T27) → Int → Option (List T27)) (x2535 : T27) : Option (List T27) :=
  (spans_Span_empty x2535).bind fun t2540 => (bif (!t2540) then (if (l1843).length + (([x2535] : List T27)).length ≤ 1000000000 then (lp2299 (l1843 ++ ([x2535] : List T27)) (IntKind.wrap .i64 (x1846 + 1))) else none) else (lp2299 l1843 (IntKind.wrap .i64 (x1846 + 1))))
noncomputable def spans_Set_In_l2 (p0 : T30) (p1 : T27) : Nat → (List T27) → Int → Option (List T27)
  | 0, _, _ => none
  | k2298 + 1, l1843, x1846 => bif (decide (x1846 < ((p0.l).length : Int))) then (if 0 ≤ x1846 ∧ x1846 < ((p0.l).length : Int) then ((spans_Span_fit p1).bind fun t2584 => ((spans_Span_both (rdD zT27 p0.l x1846) t2584).bind fun t2592 => (spans_Set_In_j3 l1843 x1846 (spans_Set_In_l2 p0 p1 k2298) t2592))) else none) else (spans_Set_In_j1 l1843)
noncomputable def spans_Set_In (K : Nat) (p0 : T30) (p1 : T27) : Option (List T27) :=
  spans_Set_In_l2 p0 p1 K ([] : List T27) 0

/-! (*tidewrack/cache.Cache).Len -/
noncomputable def cache_Cache_Len (p0 : T41) : Option Int :=
  some ((p0.l).length : Int)

/-! (*tidewrack/spans.Set).Len -/
noncomputable def spans_Set_Len_j1 (x51 : Int) : Option Int :=
  some x51
noncomputable def spans_Set_Len_l2 (p0 : T30) : Nat → Int → Int → Option Int
  | 0, _, _ => none
  | k82 + 1, x68, x69 => bif (decide (x69 < ((p0.l).length : Int))) then (if 0 ≤ x69 ∧ x69 < ((p0.l).length : Int) then ((spans_Set_Len_l2 p0 k82) (IntKind.wrap .i64 (x68 + (IntKind.wrap .i64 (((rdD zT27 p0.l x69).To) - ((rdD zT27 p0.l x69).From))))) (IntKind.wrap .i64 (x69 + 1))) else none) else (spans_Set_Len_j1 x68)
noncomputable def spans_Set_Len (K : Nat) (p0 : T30) : Option Int :=
  spans_Set_Len_l2 p0 K 0 0

/-! tidewrack/tidewracktop.TidewrackMissing -/
noncomputable def tidewracktop_TidewrackMissing_j3 (K : Nat) (p1 : Int) (p2 : Int) (x1367 : Int) (x1368 : Int) (l1371 : M T52) (x1374 : Int) (t1396 : T30) (x1468 : Int) : Option Bool :=
  bif ((IntKind.wrap .i64 (x1374 + x1468)) == (bits .and .i64 p2 15)) then ((spans_Set_Missing K t1396 (⟨(bits .and .i64 p1 31), (IntKind.wrap .i64 ((bits .and .i64 p1 31) + (bits .and .i64 p2 15)))⟩ : T27)).bind fun t1474 => (bif (((t1474).length : Int) == (0 : Int)) then ((cache_Cache_Len (⟨x1367, x1368, l1371⟩ : T41)).bind fun t1487 => ((spans_Set_Len K t1396).bind fun t1495 => (some (t1487 == t1495)))) else (some false))) else (some false)
noncomputable def tidewracktop_TidewrackMissing_l4 (K : Nat) (p1 : Int) (p2 : Int) (x1367 : Int) (x1368 : Int) (l1371 : M T52) (x1374 : Int) (t1396 : T30) (t1503 : List T27) : Nat → Int → Int → Option Bool
  | 0, _, _ => none
  | k1541 + 1, x1527, x1528 => bif (decide (x1528 < ((t1503).length : Int))) then (if 0 ≤ x1528 ∧ x1528 < ((t1503).length : Int) then ((tidewracktop_TidewrackMissing_l4 K p1 p2 x1367 x1368 l1371 x1374 t1396 t1503 k1541) (IntKind.wrap .i64 (x1527 + (IntKind.wrap .i64 (((rdD zT27 t1503 x1528).To) - ((rdD zT27 t1503 x1528).From))))) (IntKind.wrap .i64 (x1528 + 1))) else none) else (tidewracktop_TidewrackMissing_j3 K p1 p2 x1367 x1368 l1371 x1374 t1396 x1527)
noncomputable def tidewracktop_TidewrackMissing_j2 (K : Nat) (p1 : Int) (p2 : Int) (t152 : T30) (x1367 : Int) (x1368 : Int) (l1371 : M T52) (x1374 : Int) : Option Bool :=
  (cache_Cache_Spans K (⟨x1367, x1368, l1371⟩ : T41)).bind fun t1384 => ((spans_Set_Add K (⟨([] : List T27)⟩ : T30) t1384).bind fun t1396 => ((spans_Set_In K t152 (⟨(bits .and .i64 p1 31), (IntKind.wrap .i64 ((bits .and .i64 p1 31) + (bits .and .i64 p2 15)))⟩ : T27)).bind fun t1503 => (tidewracktop_TidewrackMissing_l4 K p1 p2 x1367 x1368 l1371 x1374 t1396 t1503 K 0 0)))
noncomputable def tidewracktop_TidewrackMissing_j6 (x1969 : Int) (lp2358 : Int → Int → (M T52) → Int → Int → Option Bool) (x2556 : Int) (x2557 : Int) (l2560 : M T52) (x2563 : Int) : Option Bool :=
  lp2358 x2556 x2557 l2560 x2563 (IntKind.wrap .i64 (x1969 + 1))
noncomputable def tidewracktop_TidewrackMissing_j8 (K : Nat) (x2633 : Int) (x2634 : Int) (l2637 : M T52) (x2640 : Int) (x2641 : Int) (lp2694 : Int → Int → (M T52) → Int → Int → Option Bool) : Option Bool :=
  (cache_Cache_Put K (⟨x2633, x2634, l2637⟩ : T41) x2641 ([] : List T45)).bind fun t2720 => (bif t2720.2.1 then (some false) else (lp2694 t2720.2.2.most t2720.2.2.now t2720.2.2.l (IntKind.wrap .i64 (x2640 + 1)) (IntKind.wrap .i64 (x2641 + 1))))
noncomputable def tidewracktop_TidewrackMissing_l7 (K : Nat) (p1 : Int) (p2 : Int) (t1558 : List T27) (x1969 : Int) (lp2358 : Int → Int → (M T52) → Int → Int → Option Bool) : Nat → Int → Int → (M T52) → Int → Int → Option Bool
  | 0, _, _, _, _, _ => none
  | k2693 + 1, x2633, x2634, l2637, x2640, x2641 => bif (decide (x2641 < ((rdD zT27 t1558 x1969).To))) then ((cache_Cache_Peek (⟨x2633, x2634, l2637⟩ : T41) x2641).bind fun t2734 => (bif t2734.2 then (some false) else (bif (decide (x2641 < (bits .and .i64 p1 31))) then (some false) else (bif (decide (x2641 ≥ (IntKind.wrap .i64 ((bits .and .i64 p1 31) + (bits .and .i64 p2 15))))) then (some false) else (tidewracktop_TidewrackMissing_j8 K x2633 x2634 l2637 x2640 x2641 (tidewracktop_TidewrackMissing_l7 K p1 p2 t1558 x1969 lp2358 k2693)))))) else (tidewracktop_TidewrackMissing_j6 x1969 lp2358 x2633 x2634 l2637 x2640)
noncomputable def tidewracktop_TidewrackMissing_l5 (K : Nat) (p1 : Int) (p2 : Int) (t152 : T30) (t1558 : List T27) : Nat → Int → Int → (M T52) → Int → Int → Option Bool
  | 0, _, _, _, _, _ => none
  | k2357 + 1, x1957, x1958, l1961, x1964, x1969 => bif (decide (x1969 < ((t1558).length : Int))) then (if 0 ≤ x1969 ∧ x1969 < ((t1558).length : Int) then (tidewracktop_TidewrackMissing_l7 K p1 p2 t1558 x1969 (tidewracktop_TidewrackMissing_l5 K p1 p2 t152 t1558 k2357) K x1957 x1958 l1961 x1964 ((rdD zT27 t1558 x1969).From)) else none) else (tidewracktop_TidewrackMissing_j2 K p1 p2 t152 x1957 x1958 l1961 x1964)
noncomputable def tidewracktop_TidewrackMissing_j1 (K : Nat) (p1 : Int) (p2 : Int) (x116 : Int) (x117 : Int) (l120 : M T52) : Option Bool :=
  (cache_Cache_Spans K (⟨x116, x117, l120⟩ : T41)).bind fun t140 => ((spans_Set_Add K (⟨([] : List T27)⟩ : T30) t140).bind fun t152 => ((spans_Set_Missing K t152 (⟨(bits .and .i64 p1 31), (IntKind.wrap .i64 ((bits .and .i64 p1 31) + (bits .and .i64 p2 15)))⟩ : T27)).bind fun t1558 => (tidewracktop_TidewrackMissing_l5 K p1 p2 t152 t1558 K x116 x117 l120 0 0)))
noncomputable def tidewracktop_TidewrackMissing_j10 (K : Nat) (p0 : List Int) (x2774 : Int) (x2775 : Int) (l2778 : M T52) (x2781 : Int) (lp2808 : Int → Int → (M T52) → Int → Option Bool) : Option Bool :=
  if 0 ≤ x2781 ∧ x2781 < ((p0).length : Int) then ((cache_Cache_Put K (⟨x2774, x2775, l2778⟩ : T41) (bits .and .i64 (rdD 0 p0 x2781) 31) ([] : List T45)).bind fun t2822 => (lp2808 t2822.2.2.most t2822.2.2.now t2822.2.2.l (IntKind.wrap .i64 (x2781 + 1)))) else none
noncomputable def tidewracktop_TidewrackMissing_l9 (K : Nat) (p0 : List Int) (p1 : Int) (p2 : Int) : Nat → Int → Int → (M T52) → Int → Option Bool
  | 0, _, _, _, _ => none
  | k2807 + 1, x2774, x2775, l2778, x2781 => bif (decide (x2781 < ((p0).length : Int))) then (bif (decide (x2781 < (40 : Int))) then (tidewracktop_TidewrackMissing_j10 K p0 x2774 x2775 l2778 x2781 (tidewracktop_TidewrackMissing_l9 K p0 p1 p2 k2807)) else (tidewracktop_TidewrackMissing_j1 K p1 p2 x2774 x2775 l2778)) else (tidewracktop_TidewrackMissing_j1 K p1 p2 x2774 x2775 l2778)
noncomputable def tidewracktop_TidewrackMissing (K : Nat) (p0 : List Int) (p1 : Int) (p2 : Int) : Option Bool :=
  (cache_New 64).bind fun t4 => (tidewracktop_TidewrackMissing_l9 K p0 p1 p2 K t4.most t4.now t4.l 0)

end Go.Proofs.Ytpciioffkjpieaa
