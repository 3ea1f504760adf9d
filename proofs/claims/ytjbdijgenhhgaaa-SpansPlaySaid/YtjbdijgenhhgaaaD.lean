/- Plain functions, printed by an own program: what the walked code computes. -/
import Derived.Test.YtjbdijgenhhgaaaY30
set_option linter.unusedVariables false
set_option linter.unusedSimpArgs false
namespace Go.Proofs.Ytjbdijgenhhgaaa
open Go Go.Proofs.XC
structure T28 where
  From : Int
  To : Int
abbrev zT28 : T28 := ⟨0, 0⟩
structure T25 where
  l : List T28
structure T35 where
  Cut : Bool
  Span_From : Int
  Span_To : Int
abbrev zT35 : T35 := ⟨false, 0, 0⟩
def eqT28 (x y : T28) : Bool := ((x.From == y.From) && ((x.To == y.To) && true))
namespace WF
def wfBool (_ : Bool) : Prop := True
def wfStr (x : ByteArray) : Prop := x.size ≤ maxLen
def wfi64 (x : Int) : Prop := (Lit.int .i64 x).wf = true
def wfi32 (x : Int) : Prop := (Lit.int .i32 x).wf = true
def wfu8 (x : Int) : Prop := (Lit.int .u8 x).wf = true
def wfu32 (x : Int) : Prop := (Lit.int .u32 x).wf = true
def wfu64 (x : Int) : Prop := (Lit.int .u64 x).wf = true
def wfi8 (x : Int) : Prop := (Lit.int .i8 x).wf = true
def wfi16 (x : Int) : Prop := (Lit.int .i16 x).wf = true
def wfu16 (x : Int) : Prop := (Lit.int .u16 x).wf = true
def wfT28 (x : T28) : Prop := (Lit.int .i64 x.From).wf = true ∧ (Lit.int .i64 x.To).wf = true
def wfT25 (x : T25) : Prop := (∀ y ∈ x.l, wfT28 y) ∧ x.l.length ≤ maxLen
def wfT35 (x : T35) : Prop := (Lit.int .i64 x.Span_From).wf = true ∧ (Lit.int .i64 x.Span_To).wf = true
end WF
/-! (tidewrack/spans.Span).fit -/
def spans_Span_fit (p0 : T28) : Option T28 :=
  some (⟨(mxI (-1152921504606846976) (mnI p0.From 1152921504606846976)), (mxI (-1152921504606846976) (mnI p0.To 1152921504606846976))⟩ : T28)

/-! (tidewrack/spans.Span).empty -/
def spans_Span_empty (p0 : T28) : Option Bool :=
  some (decide (p0.To ≤ p0.From))

/-! slices.Grow[[]tidewrack/spans.Span,tidewrack/spans.Span] -/
def slices_Grow_j1 (p1 : Int) : Option (List T28) :=
  bif (decide ((IntKind.wrap .i64 (p1 - (IntKind.wrap .i64 (0 - ((([] : List T28)).length : Int))))) > (0 : Int))) then (if 0 < (IntKind.wrap .i64 (p1 - (IntKind.wrap .i64 (0 - ((([] : List T28)).length : Int))))) then (if (IntKind.wrap .i64 (p1 - (IntKind.wrap .i64 (0 - ((([] : List T28)).length : Int))))) ≤ 1000000000 then (some ([] : List T28)) else none) else none) else (some ([] : List T28))
def slices_Grow (p1 : Int) : Option (List T28) :=
  bif (decide (p1 < (0 : Int))) then (none) else (slices_Grow_j1 p1)

/-! slices.Concat[[]tidewrack/spans.Span,tidewrack/spans.Span] -/
def slices_Concat_j2 (l134 : List T28) : Option (List T28) :=
  some l134
def slices_Concat_l3 (p0 : List (List T28)) : Nat → (List T28) → Int → Option (List T28)
  | 0, _, _ => none
  | k181 + 1, l160, x163 => bif (decide (x163 < ((p0).length : Int))) then (if 0 ≤ x163 ∧ x163 < ((p0).length : Int) then (if (l160).length + ((rdD [] p0 x163)).length ≤ 1000000000 then ((slices_Concat_l3 p0 k181) (l160 ++ (rdD [] p0 x163)) (IntKind.wrap .i64 (x163 + 1))) else none) else none) else (slices_Concat_j2 l160)
def slices_Concat_j1 (K : Nat) (p0 : List (List T28)) (x45 : Int) : Option (List T28) :=
  (slices_Grow x45).bind fun t50 => (slices_Concat_l3 p0 K t50 0)
def slices_Concat_l4 (K : Nat) (p0 : List (List T28)) : Nat → Int → Int → Option (List T28)
  | 0, _, _ => none
  | k225 + 1, x213, x214 => bif (decide (x214 < ((p0).length : Int))) then (if 0 ≤ x214 ∧ x214 < ((p0).length : Int) then (bif (decide ((IntKind.wrap .i64 (x213 + (((rdD [] p0 x214)).length : Int))) < (0 : Int))) then (none) else ((slices_Concat_l4 K p0 k225) (IntKind.wrap .i64 (x213 + (((rdD [] p0 x214)).length : Int))) (IntKind.wrap .i64 (x214 + 1)))) else none) else (slices_Concat_j1 K p0 x213)
def slices_Concat (K : Nat) (p0 : List (List T28)) : Option (List T28) :=
  slices_Concat_l4 K p0 K 0 0

/-! (*tidewrack/spans.Set).Add -/
def spans_Set_Add_j2 (x6584 : Int) (lp13157 : (List T28) → Int → Option T25) (l16449 : List T28) : Option T25 :=
  lp13157 l16449 (IntKind.wrap .i64 (x6584 + 1))
def spans_Set_Add_j3 (x6584 : Int) (lp13157 : (List T28) → Int → Option T25) (x18102 : T28) (l18105 : List T28) : Option T25 :=
  if (l18105).length + (([x18102] : List T28)).length ≤ 1000000000 then (spans_Set_Add_j2 x6584 lp13157 (l18105 ++ ([x18102] : List T28))) else none
def spans_Set_Add_j5 (x6584 : Int) (lp13157 : (List T28) → Int → Option T25) (l19487 : List T28) : Option T25 :=
  spans_Set_Add_j2 x6584 lp13157 l19487
def spans_Set_Add_l4 (K : Nat) (l6577 : List T28) (x6584 : Int) (lp13157 : (List T28) → Int → Option T25) : Nat → T28 → (List T28) → Int → Option T25
  | 0, _, _, _ => none
  | k19195 + 1, x18656, l18659, x18662 => bif (decide (x18662 < ((l6577).length : Int))) then (if 0 ≤ x18662 ∧ x18662 < ((l6577).length : Int) then (bif (decide (((rdD zT28 l6577 x18662).To) < x18656.From)) then (if (l18659).length + (([(rdD zT28 l6577 x18662)] : List T28)).length ≤ 1000000000 then ((spans_Set_Add_l4 K l6577 x6584 lp13157 k19195) x18656 (l18659 ++ ([(rdD zT28 l6577 x18662)] : List T28)) (IntKind.wrap .i64 (x18662 + 1))) else none) else (bif (decide (((rdD zT28 l6577 x18662).From) > x18656.To)) then (if 0 ≤ x18662 then (if x18662 ≤ ((l6577).length : Int) then ((slices_Concat K ([l18659, ([x18656] : List T28), (List.drop (Int.toNat x18662) (List.take (l6577).length l6577))] : List (List T28))).bind fun t19549 => (spans_Set_Add_j5 x6584 lp13157 t19549)) else none) else none) else ((spans_Set_Add_l4 K l6577 x6584 lp13157 k19195) (⟨(mnI x18656.From ((rdD zT28 l6577 x18662).From)), (mxI x18656.To ((rdD zT28 l6577 x18662).To))⟩ : T28) l18659 (IntKind.wrap .i64 (x18662 + 1))))) else none) else (spans_Set_Add_j3 x6584 lp13157 x18656 l18659)
def spans_Set_Add_l1 (K : Nat) (p1 : List T28) : Nat → (List T28) → Int → Option T25
  | 0, _, _ => none
  | k13156 + 1, l6577, x6584 => bif (decide (x6584 < ((p1).length : Int))) then (if 0 ≤ x6584 ∧ x6584 < ((p1).length : Int) then ((spans_Span_fit (rdD zT28 p1 x6584)).bind fun t16470 => ((spans_Span_empty t16470).bind fun t16481 => (bif t16481 then (spans_Set_Add_j2 x6584 (spans_Set_Add_l1 K p1 k13156) l6577) else (spans_Set_Add_l4 K l6577 x6584 (spans_Set_Add_l1 K p1 k13156) K t16470 ([] : List T28) 0)))) else none) else (some (⟨l6577⟩ : T25))
def spans_Set_Add (K : Nat) (p0 : T25) (p1 : List T28) : Option T25 :=
  spans_Set_Add_l1 K p1 K p0.l 0

/-! tidewrack/spans.without$1 -/
def spans_without_1_j2 (x246 : Int) (lp472 : Int → Option (List T28)) : Option (List T28) :=
  lp472 (IntKind.wrap .i64 (x246 + 1))
def spans_without_1_l3 (p1 : List T28) (p2 : T28) (x246 : Int) (lp472 : Int → Option (List T28)) : Nat → Int → Option (List T28)
  | 0, _ => none
  | k669 + 1, x642 => bif (decide (x642 < ((([(⟨(rdD zT28 p1 x246).From, (mnI ((rdD zT28 p1 x246).To) p2.From)⟩ : T28), (⟨(mxI ((rdD zT28 p1 x246).From) p2.To), (rdD zT28 p1 x246).To⟩ : T28)] : List T28)).length : Int))) then (if 0 ≤ x642 ∧ x642 < ((([(⟨(rdD zT28 p1 x246).From, (mnI ((rdD zT28 p1 x246).To) p2.From)⟩ : T28), (⟨(mxI ((rdD zT28 p1 x246).From) p2.To), (rdD zT28 p1 x246).To⟩ : T28)] : List T28)).length : Int) then ((spans_Span_empty (rdD zT28 ([(⟨(rdD zT28 p1 x246).From, (mnI ((rdD zT28 p1 x246).To) p2.From)⟩ : T28), (⟨(mxI ((rdD zT28 p1 x246).From) p2.To), (rdD zT28 p1 x246).To⟩ : T28)] : List T28) x642)).bind fun t685 => (bif (!t685) then (Option.map (List.cons (rdD zT28 ([(⟨(rdD zT28 p1 x246).From, (mnI ((rdD zT28 p1 x246).To) p2.From)⟩ : T28), (⟨(mxI ((rdD zT28 p1 x246).From) p2.To), (rdD zT28 p1 x246).To⟩ : T28)] : List T28) x642)) ((spans_without_1_l3 p1 p2 x246 lp472 k669) (IntKind.wrap .i64 (x642 + 1)))) else ((spans_without_1_l3 p1 p2 x246 lp472 k669) (IntKind.wrap .i64 (x642 + 1))))) else none) else (spans_without_1_j2 x246 lp472)
def spans_without_1_l1 (K : Nat) (p1 : List T28) (p2 : T28) : Nat → Int → Option (List T28)
  | 0, _ => none
  | k471 + 1, x246 => bif (decide (x246 < ((p1).length : Int))) then (if 0 ≤ x246 ∧ x246 < ((p1).length : Int) then (spans_without_1_l3 p1 p2 x246 (spans_without_1_l1 K p1 p2 k471) K 0) else none) else (some [])
def spans_without_1 (K : Nat) (p1 : List T28) (p2 : T28) : Option (List T28) :=
  spans_without_1_l1 K p1 p2 K 0

/-! tidewrack/spans.without -/
def spans_without (p0 : List T28) (p1 : T28) : Option T28 :=
  some p1

/-! (*tidewrack/spans.Set).Cut -/
def spans_Set_Cut_j2 (x743 : Int) (lp1473 : (List T28) → Int → Option T25) (l1846 : List T28) : Option T25 :=
  lp1473 l1846 (IntKind.wrap .i64 (x743 + 1))
def spans_Set_Cut_j3 (x743 : Int) (lp1473 : (List T28) → Int → Option T25) (l2050 : List T28) : Option T25 :=
  spans_Set_Cut_j2 x743 lp1473 l2050
def spans_Set_Cut_r4 (x743 : Int) (lp1473 : (List T28) → Int → Option T25) : List T28 → (List T28) → Option T25
  | [], l2141 => spans_Set_Cut_j3 x743 lp1473 l2141
  | x2097 :: rest2098, l2141 => if (l2141).length + (([x2097] : List T28)).length ≤ 1000000000 then ((spans_Set_Cut_r4 x743 lp1473 rest2098) (l2141 ++ ([x2097] : List T28))) else none
def spans_Set_Cut_l1 (K : Nat) (p1 : List T28) : Nat → (List T28) → Int → Option T25
  | 0, _, _ => none
  | k1472 + 1, l736, x743 => bif (decide (x743 < ((p1).length : Int))) then (if 0 ≤ x743 ∧ x743 < ((p1).length : Int) then ((spans_Span_fit (rdD zT28 p1 x743)).bind fun t1867 => ((spans_Span_empty t1867).bind fun t1878 => (bif t1878 then (spans_Set_Cut_j2 x743 (spans_Set_Cut_l1 K p1 k1472) l736) else ((spans_without l736 t1867).bind fun t2086 => ((spans_without_1 K l736 t2086).bind fun ys2095 => (spans_Set_Cut_r4 x743 (spans_Set_Cut_l1 K p1 k1472) ys2095 ([] : List T28))))))) else none) else (some (⟨l736⟩ : T25))
def spans_Set_Cut (K : Nat) (p0 : T25) (p1 : List T28) : Option T25 :=
  spans_Set_Cut_l1 K p1 K p0.l 0

/-! slices.Clone[[]tidewrack/spans.Span,tidewrack/spans.Span] -/
def slices_Clone (p0 : List T28) : Option (List T28) :=
  if (([] : List T28)).length + (p0).length ≤ 1000000000 then (some (([] : List T28) ++ p0)) else none

/-! (*tidewrack/spans.Set).Spans -/
def spans_Set_Spans (p0 : T25) : Option (List T28) :=
  (slices_Clone p0.l).bind fun t4 => (some t4)

/-! tidewrack/tidewracklaw13.Same -/
def tidewracklaw13_Same_j1 : Option Bool :=
  some true
def tidewracklaw13_Same_l2 (p0 : List T28) (p1 : List T28) : Nat → Int → Option Bool
  | 0, _ => none
  | k102 + 1, x84 => bif (decide (x84 < ((p1).length : Int))) then (if 0 ≤ x84 ∧ x84 < ((p0).length : Int) then (if 0 ≤ x84 ∧ x84 < ((p1).length : Int) then (bif (!(eqT28 (rdD zT28 p0 x84) (rdD zT28 p1 x84))) then (some false) else ((tidewracklaw13_Same_l2 p0 p1 k102) (IntKind.wrap .i64 (x84 + 1)))) else none) else none) else (tidewracklaw13_Same_j1)
def tidewracklaw13_Same (K : Nat) (p0 : List T28) (p1 : List T28) : Option Bool :=
  bif (((p0).length : Int) != ((p1).length : Int)) then (some false) else (tidewracklaw13_Same_l2 p0 p1 K 0)

/-! (*tidewrack/spans.Set).Len -/
def spans_Set_Len_j1 (x51 : Int) : Option Int :=
  some x51
def spans_Set_Len_l2 (p0 : T25) : Nat → Int → Int → Option Int
  | 0, _, _ => none
  | k82 + 1, x68, x69 => bif (decide (x69 < ((p0.l).length : Int))) then (if 0 ≤ x69 ∧ x69 < ((p0.l).length : Int) then ((spans_Set_Len_l2 p0 k82) (IntKind.wrap .i64 (x68 + (IntKind.wrap .i64 (((rdD zT28 p0.l x69).To) - ((rdD zT28 p0.l x69).From))))) (IntKind.wrap .i64 (x69 + 1))) else none) else (spans_Set_Len_j1 x68)
def spans_Set_Len (K : Nat) (p0 : T25) : Option Int :=
  spans_Set_Len_l2 p0 K 0 0

/-! (*tidewrack/spans.Set).Has$1 -/
def spans_Set_Has_1 (p0 : T28) (p1 : Int) : Option Bool :=
  bif (decide (p1 ≥ p0.From)) then (some (decide (p1 < p0.To))) else (some false)

/-! slices.IndexFunc[[]tidewrack/spans.Span,tidewrack/spans.Span] -/
def slices_IndexFunc_of30_j1 : Option Int :=
  some (-1)
def slices_IndexFunc_of30_l2 (p0 : List T28) (p1_0 : Int) : Nat → Int → Option Int
  | 0, _ => none
  | k81 + 1, x67 => bif (decide (x67 < ((p0).length : Int))) then (if 0 ≤ x67 ∧ x67 < ((p0).length : Int) then ((spans_Set_Has_1 (rdD zT28 p0 x67) p1_0).bind fun t90 => (bif t90 then (some x67) else ((slices_IndexFunc_of30_l2 p0 p1_0 k81) (IntKind.wrap .i64 (x67 + 1))))) else none) else (slices_IndexFunc_of30_j1)
def slices_IndexFunc_of30 (K : Nat) (p0 : List T28) (p1_0 : Int) : Option Int :=
  slices_IndexFunc_of30_l2 p0 p1_0 K 0

/-! slices.ContainsFunc[[]tidewrack/spans.Span,tidewrack/spans.Span] -/
def slices_ContainsFunc_of30 (K : Nat) (p0 : List T28) (p1_0 : Int) : Option Bool :=
  (slices_IndexFunc_of30 K p0 p1_0).bind fun t4 => (some (decide (t4 ≥ (0 : Int))))

/-! (*tidewrack/spans.Set).Has -/
def spans_Set_Has (K : Nat) (p0 : T25) (p1 : Int) : Option Bool :=
  (slices_ContainsFunc_of30 K p0.l p1).bind fun t9 => (some t9)

/-! tidewrack/tidewracklaw13.awake -/
def tidewracklaw13_awake (K : Nat)  : Option Bool :=
  (spans_Set_Add K (⟨([] : List T28)⟩ : T25) ([(⟨2, 5⟩ : T28), (⟨5, 7⟩ : T28)] : List T28)).bind fun t15 => ((spans_Set_Cut K t15 ([(⟨3, 4⟩ : T28)] : List T28)).bind fun t34 => ((spans_Set_Spans t34).bind fun t47 => ((tidewracklaw13_Same K t47 ([(⟨2, 3⟩ : T28), (⟨4, 7⟩ : T28)] : List T28)).bind fun t65 => (bif t65 then ((spans_Set_Len K t34).bind fun t74 => (bif (t74 == (4 : Int)) then ((spans_Set_Has K t34 2).bind fun t83 => (bif t83 then ((spans_Set_Has K t34 3).bind fun t92 => (some (!t92))) else (some false))) else (some false))) else (some false)))))

/-! tidewrack/tidewracklaw13.SpansOrder -/
def tidewracklaw13_SpansOrder_j3 : Option Bool :=
  some true
def tidewracklaw13_SpansOrder_l4 (t202 : List T28) (t214 : List T28) : Nat → Int → Option Bool
  | 0, _ => none
  | k406 + 1, x376 => bif (decide (x376 < ((t202).length : Int))) then (if 0 ≤ x376 ∧ x376 < ((t202).length : Int) then (if 0 ≤ x376 ∧ x376 < ((t214).length : Int) then (bif (!(eqT28 (rdD zT28 t202 x376) (rdD zT28 t214 x376))) then (some false) else (bif (decide (((rdD zT28 t202 x376).To) ≤ ((rdD zT28 t202 x376).From))) then (some false) else (bif (decide (x376 > (0 : Int))) then (if 0 ≤ (IntKind.wrap .i64 (x376 - 1)) ∧ (IntKind.wrap .i64 (x376 - 1)) < ((t202).length : Int) then (bif (decide (((rdD zT28 t202 x376).From) ≤ ((rdD zT28 t202 (IntKind.wrap .i64 (x376 - 1))).To))) then (some false) else ((tidewracklaw13_SpansOrder_l4 t202 t214 k406) (IntKind.wrap .i64 (x376 + 1)))) else none) else ((tidewracklaw13_SpansOrder_l4 t202 t214 k406) (IntKind.wrap .i64 (x376 + 1)))))) else none) else none) else (tidewracklaw13_SpansOrder_j3)
def tidewracklaw13_SpansOrder_j2 (K : Nat) (t202 : List T28) (t214 : List T28) : Option Bool :=
  tidewracklaw13_SpansOrder_l4 t202 t214 K 0
def tidewracklaw13_SpansOrder_j1 (K : Nat) (l190 : List T28) (l195 : List T28) : Option Bool :=
  (spans_Set_Spans (⟨l190⟩ : T25)).bind fun t202 => ((spans_Set_Spans (⟨l195⟩ : T25)).bind fun t214 => (bif (((t202).length : Int) != ((t214).length : Int)) then (some false) else ((spans_Set_Len K (⟨l190⟩ : T25)).bind fun t441 => ((spans_Set_Len K (⟨l195⟩ : T25)).bind fun t449 => (bif (t441 != t449) then (some false) else (tidewracklaw13_SpansOrder_j2 K t202 t214))))))
def tidewracklaw13_SpansOrder_l5 (K : Nat) (p0 : List T28) : Nat → (List T28) → (List T28) → Int → Option Bool
  | 0, _, _, _ => none
  | k555 + 1, l503, l508, x511 => bif (decide (x511 < (((List.drop 0 (List.take (Int.toNat (mnI ((p0).length : Int) 20)) p0))).length : Int))) then (if 0 ≤ x511 ∧ x511 < (((List.drop 0 (List.take (Int.toNat (mnI ((p0).length : Int) 20)) p0))).length : Int) then ((spans_Set_Add K (⟨l503⟩ : T25) ([(rdD zT28 (List.drop 0 (List.take (Int.toNat (mnI ((p0).length : Int) 20)) p0)) x511)] : List T28)).bind fun t570 => (if 0 ≤ (IntKind.wrap .i64 ((IntKind.wrap .i64 ((((List.drop 0 (List.take (Int.toNat (mnI ((p0).length : Int) 20)) p0))).length : Int) - 1)) - x511)) ∧ (IntKind.wrap .i64 ((IntKind.wrap .i64 ((((List.drop 0 (List.take (Int.toNat (mnI ((p0).length : Int) 20)) p0))).length : Int) - 1)) - x511)) < (((List.drop 0 (List.take (Int.toNat (mnI ((p0).length : Int) 20)) p0))).length : Int) then ((spans_Set_Add K (⟨l508⟩ : T25) ([(rdD zT28 (List.drop 0 (List.take (Int.toNat (mnI ((p0).length : Int) 20)) p0)) (IntKind.wrap .i64 ((IntKind.wrap .i64 ((((List.drop 0 (List.take (Int.toNat (mnI ((p0).length : Int) 20)) p0))).length : Int) - 1)) - x511)))] : List T28)).bind fun t590 => ((tidewracklaw13_SpansOrder_l5 K p0 k555) t570.l t590.l (IntKind.wrap .i64 (x511 + 1)))) else none)) else none) else (tidewracklaw13_SpansOrder_j1 K l503 l508)
def tidewracklaw13_SpansOrder (K : Nat) (p0 : List T28) : Option Bool :=
  (tidewracklaw13_awake K).bind fun t4 => (bif (!t4) then (some false) else (if 0 ≤ (mnI ((p0).length : Int) 20) then (if (mnI ((p0).length : Int) 20) ≤ ((p0).length : Int) then (tidewracklaw13_SpansOrder_l5 K p0 K ([] : List T28) ([] : List T28) 0) else none) else none))

/-! tidewrack/tidewracklaw13.SpansCounts -/
def tidewracklaw13_SpansCounts_j2 (K : Nat) (l240 : List T28) (x291 : Int) : Option Bool :=
  (spans_Set_Len K (⟨l240⟩ : T25)).bind fun t296 => (bif (x291 == t296) then ((spans_Set_Has K (⟨l240⟩ : T25) (-1)).bind fun t305 => (bif (!t305) then ((spans_Set_Has K (⟨l240⟩ : T25) 63).bind fun t314 => (some (!t314))) else (some false))) else (some false))
def tidewracklaw13_SpansCounts_l3 (K : Nat) (l240 : List T28) : Nat → Int → Int → Option Bool
  | 0, _, _ => none
  | k346 + 1, x333, x334 => bif (decide (x334 ≤ (64 : Int))) then ((spans_Set_Has K (⟨l240⟩ : T25) x334).bind fun t353 => (bif t353 then ((tidewracklaw13_SpansCounts_l3 K l240 k346) (IntKind.wrap .i64 (x333 + 1)) (IntKind.wrap .i64 (x334 + 1))) else ((tidewracklaw13_SpansCounts_l3 K l240 k346) x333 (IntKind.wrap .i64 (x334 + 1))))) else (tidewracklaw13_SpansCounts_j2 K l240 x333)
def tidewracklaw13_SpansCounts_j1 (K : Nat) (l240 : List T28) : Option Bool :=
  tidewracklaw13_SpansCounts_l3 K l240 K 0 (-1)
def tidewracklaw13_SpansCounts_j5 (K : Nat) (p0 : List T35) (l431 : List T28) (x434 : Int) (lp503 : (List T28) → Int → Option Bool) : Option Bool :=
  if 0 ≤ x434 ∧ x434 < ((p0).length : Int) then (bif (rdD zT35 p0 x434).Cut then ((spans_Set_Cut K (⟨l431⟩ : T25) ([(⟨(bits .and .i64 ((rdD zT35 p0 x434).Span_From) 63), (bits .and .i64 ((rdD zT35 p0 x434).Span_To) 63)⟩ : T28)] : List T28)).bind fun t559 => (lp503 t559.l (IntKind.wrap .i64 (x434 + 1)))) else ((spans_Set_Add K (⟨l431⟩ : T25) ([(⟨(bits .and .i64 ((rdD zT35 p0 x434).Span_From) 63), (bits .and .i64 ((rdD zT35 p0 x434).Span_To) 63)⟩ : T28)] : List T28)).bind fun t540 => (lp503 t540.l (IntKind.wrap .i64 (x434 + 1))))) else none
def tidewracklaw13_SpansCounts_l4 (K : Nat) (p0 : List T35) : Nat → (List T28) → Int → Option Bool
  | 0, _, _ => none
  | k502 + 1, l431, x434 => bif (decide (x434 < ((p0).length : Int))) then (bif (decide (x434 < (20 : Int))) then (tidewracklaw13_SpansCounts_j5 K p0 l431 x434 (tidewracklaw13_SpansCounts_l4 K p0 k502)) else (tidewracklaw13_SpansCounts_j1 K l431)) else (tidewracklaw13_SpansCounts_j1 K l431)
def tidewracklaw13_SpansCounts (K : Nat) (p0 : List T35) : Option Bool :=
  (tidewracklaw13_awake K).bind fun t4 => (bif (!t4) then (some false) else (tidewracklaw13_SpansCounts_l4 K p0 K ([] : List T28) 0))

/-! (tidewrack/spans.Span).both -/
def spans_Span_both (p0 : T28) (p1 : T28) : Option T28 :=
  some (⟨(mxI p0.From p1.From), (mnI p0.To p1.To)⟩ : T28)

/-! (*tidewrack/spans.Set).In -/
def spans_Set_In_j1 (l1383 : List T28) : Option (List T28) :=
  some l1383
def spans_Set_In_j3 (l1843 : List T28) (x1846 : Int) (lp2299 : (List T28) → Int → Option (List T28)) (x2535 : T28) : Option (List T28) :=
  (spans_Span_empty x2535).bind fun t2540 => (bif (!t2540) then (if (l1843).length + (([x2535] : List T28)).length ≤ 1000000000 then (lp2299 (l1843 ++ ([x2535] : List T28)) (IntKind.wrap .i64 (x1846 + 1))) else none) else (lp2299 l1843 (IntKind.wrap .i64 (x1846 + 1))))
def spans_Set_In_l2 (p0 : T25) (p1 : T28) : Nat → (List T28) → Int → Option (List T28)
  | 0, _, _ => none
  | k2298 + 1, l1843, x1846 => bif (decide (x1846 < ((p0.l).length : Int))) then (if 0 ≤ x1846 ∧ x1846 < ((p0.l).length : Int) then ((spans_Span_fit p1).bind fun t2584 => ((spans_Span_both (rdD zT28 p0.l x1846) t2584).bind fun t2592 => (spans_Set_In_j3 l1843 x1846 (spans_Set_In_l2 p0 p1 k2298) t2592))) else none) else (spans_Set_In_j1 l1843)
def spans_Set_In (K : Nat) (p0 : T25) (p1 : T28) : Option (List T28) :=
  spans_Set_In_l2 p0 p1 K ([] : List T28) 0

/-! tidewrack/tidewracklaw13.SpansCutBack -/
def tidewracklaw13_SpansCutBack_j2 : Option Bool :=
  some true
def tidewracklaw13_SpansCutBack_l3 (t278 : List T28) (t290 : List T28) : Nat → Int → Option Bool
  | 0, _ => none
  | k400 + 1, x382 => bif (decide (x382 < ((t278).length : Int))) then (if 0 ≤ x382 ∧ x382 < ((t278).length : Int) then (if 0 ≤ x382 ∧ x382 < ((t290).length : Int) then (bif (!(eqT28 (rdD zT28 t278 x382) (rdD zT28 t290 x382))) then (some false) else ((tidewracklaw13_SpansCutBack_l3 t278 t290 k400) (IntKind.wrap .i64 (x382 + 1)))) else none) else none) else (tidewracklaw13_SpansCutBack_j2)
def tidewracklaw13_SpansCutBack_j1 (K : Nat) (p1 : T28) (l209 : List T28) (l214 : List T28) : Option Bool :=
  (spans_Set_In K (⟨l209⟩ : T25) p1).bind fun t221 => ((spans_Set_Cut K (⟨l209⟩ : T25) ([p1] : List T28)).bind fun t239 => ((spans_Set_In K t239 p1).bind fun t252 => (bif (((t252).length : Int) != (0 : Int)) then (some false) else ((spans_Set_Add K t239 t221).bind fun t265 => ((spans_Set_Spans t265).bind fun t278 => ((spans_Set_Spans (⟨l214⟩ : T25)).bind fun t290 => (bif (((t278).length : Int) != ((t290).length : Int)) then (some false) else (tidewracklaw13_SpansCutBack_l3 t278 t290 K 0))))))))
def tidewracklaw13_SpansCutBack_j5 (K : Nat) (p0 : List T28) (l474 : List T28) (l479 : List T28) (x482 : Int) (lp534 : (List T28) → (List T28) → Int → Option Bool) : Option Bool :=
  if 0 ≤ x482 ∧ x482 < ((p0).length : Int) then ((spans_Set_Add K (⟨l474⟩ : T25) ([(rdD zT28 p0 x482)] : List T28)).bind fun t554 => ((spans_Set_Add K (⟨l479⟩ : T25) ([(rdD zT28 p0 x482)] : List T28)).bind fun t573 => (lp534 t554.l t573.l (IntKind.wrap .i64 (x482 + 1))))) else none
def tidewracklaw13_SpansCutBack_l4 (K : Nat) (p0 : List T28) (p1 : T28) : Nat → (List T28) → (List T28) → Int → Option Bool
  | 0, _, _, _ => none
  | k533 + 1, l474, l479, x482 => bif (decide (x482 < ((p0).length : Int))) then (bif (decide (x482 < (15 : Int))) then (tidewracklaw13_SpansCutBack_j5 K p0 l474 l479 x482 (tidewracklaw13_SpansCutBack_l4 K p0 p1 k533)) else (tidewracklaw13_SpansCutBack_j1 K p1 l474 l479)) else (tidewracklaw13_SpansCutBack_j1 K p1 l474 l479)
def tidewracklaw13_SpansCutBack (K : Nat) (p0 : List T28) (p1 : T28) : Option Bool :=
  (tidewracklaw13_awake K).bind fun t9 => (bif (!t9) then (some false) else (tidewracklaw13_SpansCutBack_l4 K p0 p1 K ([] : List T28) ([] : List T28) 0))

/-! (*tidewrack/spans.Set).Missing -/
def spans_Set_Missing (K : Nat) (p0 : T25) (p1 : T28) : Option (List T28) :=
  (spans_Set_Add K (⟨([] : List T28)⟩ : T25) ([p1] : List T28)).bind fun t20 => ((spans_Set_Cut K t20 p0.l).bind fun t33 => (some t33.l))

/-! tidewrack/tidewrackref13.near -/
def tidewrackref13_near (p0 : Int) : Option Int :=
  bif (decide (p0 < (-1152921504606846976))) then (some (-1152921504606846976)) else (bif (decide (p0 > (1152921504606846976 : Int))) then (some 1152921504606846976) else (some p0))

/-! tidewrack/tidewrackref13.Fit -/
def tidewrackref13_Fit (p0 : T28) : Option T28 :=
  (tidewrackref13_near p0.From).bind fun t51 => ((tidewrackref13_near p0.To).bind fun t59 => (some (⟨t51, t59⟩ : T28)))

/-! tidewrack/tidewracklaw13.SpansAll -/
def tidewracklaw13_SpansAll_j3 (x549 : Bool) : Option Bool :=
  some x549
def tidewracklaw13_SpansAll_j2 (K : Nat) (p1 : T28) (t199 : List T28) (t211 : List T28) (x292 : Int) : Option Bool :=
  (spans_Set_Add K (⟨([] : List T28)⟩ : T25) t199).bind fun t297 => ((spans_Set_Add K t297 t211).bind fun t310 => ((tidewrackref13_Fit p1).bind fun t323 => (bif (decide (t323.To ≤ t323.From)) then (bif (x292 == (0 : Int)) then ((spans_Set_Len K t310).bind fun t733 => (some (t733 == (0 : Int)))) else (some false)) else (bif (x292 == (IntKind.wrap .i64 (t323.To - t323.From))) then ((spans_Set_Spans t310).bind fun t584 => ((tidewracklaw13_Same K t584 ([t323] : List T28)).bind fun t602 => (tidewracklaw13_SpansAll_j3 t602))) else (tidewracklaw13_SpansAll_j3 false)))))
def tidewracklaw13_SpansAll_l4 (K : Nat) (p1 : T28) (t199 : List T28) (t211 : List T28) : Nat → Int → Int → Option Bool
  | 0, _, _ => none
  | k789 + 1, x775, x776 => bif (decide (x776 < ((((([] : List T28) ++ t199) ++ t211)).length : Int))) then (if 0 ≤ x776 ∧ x776 < ((((([] : List T28) ++ t199) ++ t211)).length : Int) then ((tidewracklaw13_SpansAll_l4 K p1 t199 t211 k789) (IntKind.wrap .i64 (x775 + (IntKind.wrap .i64 (((rdD zT28 ((([] : List T28) ++ t199) ++ t211) x776).To) - ((rdD zT28 ((([] : List T28) ++ t199) ++ t211) x776).From))))) (IntKind.wrap .i64 (x776 + 1))) else none) else (tidewracklaw13_SpansAll_j2 K p1 t199 t211 x775)
def tidewracklaw13_SpansAll_j1 (K : Nat) (p1 : T28) (l142 : List T28) : Option Bool :=
  (spans_Set_In K (⟨l142⟩ : T25) p1).bind fun t199 => ((spans_Set_Missing K (⟨l142⟩ : T25) p1).bind fun t211 => (if (([] : List T28)).length + (t199).length ≤ 1000000000 then (if ((([] : List T28) ++ t199)).length + (t211).length ≤ 1000000000 then (tidewracklaw13_SpansAll_l4 K p1 t199 t211 K 0 0) else none) else none))
def tidewracklaw13_SpansAll_j6 (K : Nat) (p0 : List T28) (l839 : List T28) (x842 : Int) (lp875 : (List T28) → Int → Option Bool) : Option Bool :=
  if 0 ≤ x842 ∧ x842 < ((p0).length : Int) then ((spans_Set_Add K (⟨l839⟩ : T25) ([(rdD zT28 p0 x842)] : List T28)).bind fun t895 => (lp875 t895.l (IntKind.wrap .i64 (x842 + 1)))) else none
def tidewracklaw13_SpansAll_l5 (K : Nat) (p0 : List T28) (p1 : T28) : Nat → (List T28) → Int → Option Bool
  | 0, _, _ => none
  | k874 + 1, l839, x842 => bif (decide (x842 < ((p0).length : Int))) then (bif (decide (x842 < (20 : Int))) then (tidewracklaw13_SpansAll_j6 K p0 l839 x842 (tidewracklaw13_SpansAll_l5 K p0 p1 k874)) else (tidewracklaw13_SpansAll_j1 K p1 l839)) else (tidewracklaw13_SpansAll_j1 K p1 l839)
def tidewracklaw13_SpansAll (K : Nat) (p0 : List T28) (p1 : T28) : Option Bool :=
  (tidewracklaw13_awake K).bind fun t9 => (bif (!t9) then (some false) else (tidewracklaw13_SpansAll_l5 K p0 p1 K ([] : List T28) 0))

/-! (*tidewrack/spans.Set).Clone -/
def spans_Set_Clone (p0 : T25) : Option T25 :=
  (slices_Clone p0.l).bind fun t4 => (some (⟨t4⟩ : T25))

/-! tidewrack/tidewrackref13.one -/
def tidewrackref13_one (p0 : T28) : Option (List T28) :=
  (tidewrackref13_Fit p0).bind fun t9 => (bif (decide (t9.To ≤ t9.From)) then (some ([] : List T28)) else (some ([t9] : List T28)))

/-! tidewrack/tidewrackref13.Has -/
def tidewrackref13_Has_j1 : Option Bool :=
  some false
def tidewrackref13_Has_l2 (p0 : List T28) (p1 : Int) : Nat → Int → Option Bool
  | 0, _ => none
  | k86 + 1, x71 => bif (decide (x71 < ((p0).length : Int))) then (if 0 ≤ x71 ∧ x71 < ((p0).length : Int) then (bif (decide (p1 ≥ ((rdD zT28 p0 x71).From))) then (bif (decide (p1 < ((rdD zT28 p0 x71).To))) then (some true) else ((tidewrackref13_Has_l2 p0 p1 k86) (IntKind.wrap .i64 (x71 + 1)))) else ((tidewrackref13_Has_l2 p0 p1 k86) (IntKind.wrap .i64 (x71 + 1)))) else none) else (tidewrackref13_Has_j1)
def tidewrackref13_Has (K : Nat) (p0 : List T28) (p1 : Int) : Option Bool :=
  tidewrackref13_Has_l2 p0 p1 K 0

/-! tidewrack/tidewrackref13.keep -/
def tidewrackref13_keep (p0 : Int) (p1 : Bool) (p2 : Bool) : Option Bool :=
  bif (p0 == (0 : Int)) then (bif p1 then (some true) else (some p2)) else (bif (p0 == (1 : Int)) then (bif p1 then (some (!p2)) else (some false)) else (bif (p0 == (2 : Int)) then (bif p1 then (some p2) else (some false)) else (bif (!p1) then (some p2) else (some false))))

/-! tidewrack/tidewrackref13.build -/
def tidewrackref13_build_j2 (l7290 : List T28) : Option (List T28) :=
  some l7290
def tidewrackref13_build_j4 (l7058 : List Int) (l7363 : List T28) (x7366 : Int) (lp7435 : (List T28) → Int → Option (List T28)) (x7475 : Bool) : Option (List T28) :=
  bif x7475 then (if 0 ≤ (IntKind.wrap .i64 (x7366 + 1)) ∧ (IntKind.wrap .i64 (x7366 + 1)) < ((l7058).length : Int) then (if 0 ≤ (IntKind.wrap .i64 (((l7363).length : Int) - 1)) ∧ (IntKind.wrap .i64 (((l7363).length : Int) - 1)) < ((l7363).length : Int) then (lp7435 (List.set l7363 (Int.toNat (IntKind.wrap .i64 (((l7363).length : Int) - 1))) (⟨(rdD zT28 l7363 (IntKind.wrap .i64 (((l7363).length : Int) - 1))).From, (rdD 0 l7058 (IntKind.wrap .i64 (x7366 + 1)))⟩ : T28)) (IntKind.wrap .i64 (x7366 + 1))) else none) else none) else (if 0 ≤ (IntKind.wrap .i64 (x7366 + 1)) ∧ (IntKind.wrap .i64 (x7366 + 1)) < ((l7058).length : Int) then (if (l7363).length + (([(⟨(rdD 0 l7058 x7366), (rdD 0 l7058 (IntKind.wrap .i64 (x7366 + 1)))⟩ : T28)] : List T28)).length ≤ 1000000000 then (lp7435 (l7363 ++ ([(⟨(rdD 0 l7058 x7366), (rdD 0 l7058 (IntKind.wrap .i64 (x7366 + 1)))⟩ : T28)] : List T28)) (IntKind.wrap .i64 (x7366 + 1))) else none) else none)
def tidewrackref13_build_l3 (K : Nat) (p0 : List T28) (p1 : List T28) (p2 : Int) (l7058 : List Int) : Nat → (List T28) → Int → Option (List T28)
  | 0, _, _ => none
  | k7434 + 1, l7363, x7366 => bif (decide ((IntKind.wrap .i64 (x7366 + 1)) < ((l7058).length : Int))) then (if 0 ≤ x7366 ∧ x7366 < ((l7058).length : Int) then ((tidewrackref13_Has K p0 (rdD 0 l7058 x7366)).bind fun t7443 => ((tidewrackref13_Has K p1 (rdD 0 l7058 x7366)).bind fun t7451 => ((tidewrackref13_keep p2 t7443 t7451).bind fun t7459 => (bif (!t7459) then ((tidewrackref13_build_l3 K p0 p1 p2 l7058 k7434) l7363 (IntKind.wrap .i64 (x7366 + 1))) else (bif (decide (((l7363).length : Int) > (0 : Int))) then (if 0 ≤ (IntKind.wrap .i64 (((l7363).length : Int) - 1)) ∧ (IntKind.wrap .i64 (((l7363).length : Int) - 1)) < ((l7363).length : Int) then (tidewrackref13_build_j4 l7058 l7363 x7366 (tidewrackref13_build_l3 K p0 p1 p2 l7058 k7434) (((rdD zT28 l7363 (IntKind.wrap .i64 (((l7363).length : Int) - 1))).To) == (rdD 0 l7058 x7366))) else none) else (tidewrackref13_build_j4 l7058 l7363 x7366 (tidewrackref13_build_l3 K p0 p1 p2 l7058 k7434) false)))))) else none) else (tidewrackref13_build_j2 l7363)
def tidewrackref13_build_j1 (K : Nat) (p0 : List T28) (p1 : List T28) (p2 : Int) (l7058 : List Int) : Option (List T28) :=
  tidewrackref13_build_l3 K p0 p1 p2 l7058 K ([] : List T28) 0
def tidewrackref13_build_j6 (x9828 : Int) (lp12185 : (List Int) → Int → Option (List T28)) (l13369 : List Int) : Option (List T28) :=
  lp12185 l13369 (IntKind.wrap .i64 (x9828 + 1))
def tidewrackref13_build_j8 (x13780 : Int) (lp14161 : (List Int) → Int → Option (List T28)) (l14357 : List Int) : Option (List T28) :=
  lp14161 l14357 (IntKind.wrap .i64 (x13780 + 1))
def tidewrackref13_build_j10 (p0 : List T28) (p1 : List T28) (x9828 : Int) (l13777 : List Int) (x13780 : Int) (lp14161 : (List Int) → Int → Option (List T28)) (x14390 : Int) (x14410 : Bool) : Option (List T28) :=
  bif x14410 then (if 0 ≤ x14390 then (if x14390 ≤ ((l13777).length : Int) then (if (([(rdD 0 ([(rdD zT28 ((([] : List T28) ++ p0) ++ p1) x9828).From, (rdD zT28 ((([] : List T28) ++ p0) ++ p1) x9828).To] : List Int) x13780)] : List Int)).length + ((List.drop (Int.toNat x14390) (List.take (l13777).length l13777))).length ≤ 1000000000 then (if ((List.take (Int.toNat x14390) l13777)).length + ((([(rdD 0 ([(rdD zT28 ((([] : List T28) ++ p0) ++ p1) x9828).From, (rdD zT28 ((([] : List T28) ++ p0) ++ p1) x9828).To] : List Int) x13780)] : List Int) ++ (List.drop (Int.toNat x14390) (List.take (l13777).length l13777)))).length ≤ 1000000000 then (tidewrackref13_build_j8 x13780 lp14161 ((List.take (Int.toNat x14390) l13777) ++ (([(rdD 0 ([(rdD zT28 ((([] : List T28) ++ p0) ++ p1) x9828).From, (rdD zT28 ((([] : List T28) ++ p0) ++ p1) x9828).To] : List Int) x13780)] : List Int) ++ (List.drop (Int.toNat x14390) (List.take (l13777).length l13777))))) else none) else none) else none) else none) else (tidewrackref13_build_j8 x13780 lp14161 l13777)
def tidewrackref13_build_j9 (p0 : List T28) (p1 : List T28) (x9828 : Int) (l13777 : List Int) (x13780 : Int) (lp14161 : (List Int) → Int → Option (List T28)) (x14390 : Int) : Option (List T28) :=
  bif (x14390 == ((l13777).length : Int)) then (tidewrackref13_build_j10 p0 p1 x9828 l13777 x13780 lp14161 x14390 true) else (if 0 ≤ x14390 ∧ x14390 < ((l13777).length : Int) then (tidewrackref13_build_j10 p0 p1 x9828 l13777 x13780 lp14161 x14390 ((rdD 0 l13777 x14390) != (rdD 0 ([(rdD zT28 ((([] : List T28) ++ p0) ++ p1) x9828).From, (rdD zT28 ((([] : List T28) ++ p0) ++ p1) x9828).To] : List Int) x13780))) else none)
def tidewrackref13_build_l11 (p0 : List T28) (p1 : List T28) (x9828 : Int) (l13777 : List Int) (x13780 : Int) (lp14161 : (List Int) → Int → Option (List T28)) : Nat → Int → Option (List T28)
  | 0, _ => none
  | k14534 + 1, x14528 => bif (decide (x14528 < ((l13777).length : Int))) then (if 0 ≤ x14528 ∧ x14528 < ((l13777).length : Int) then (bif (decide ((rdD 0 l13777 x14528) < (rdD 0 ([(rdD zT28 ((([] : List T28) ++ p0) ++ p1) x9828).From, (rdD zT28 ((([] : List T28) ++ p0) ++ p1) x9828).To] : List Int) x13780))) then ((tidewrackref13_build_l11 p0 p1 x9828 l13777 x13780 lp14161 k14534) (IntKind.wrap .i64 (x14528 + 1))) else (tidewrackref13_build_j9 p0 p1 x9828 l13777 x13780 lp14161 x14528)) else none) else (tidewrackref13_build_j9 p0 p1 x9828 l13777 x13780 lp14161 x14528)
def tidewrackref13_build_l7 (K : Nat) (p0 : List T28) (p1 : List T28) (x9828 : Int) (lp12185 : (List Int) → Int → Option (List T28)) : Nat → (List Int) → Int → Option (List T28)
  | 0, _, _ => none
  | k14160 + 1, l13777, x13780 => bif (decide (x13780 < ((([(rdD zT28 ((([] : List T28) ++ p0) ++ p1) x9828).From, (rdD zT28 ((([] : List T28) ++ p0) ++ p1) x9828).To] : List Int)).length : Int))) then (if 0 ≤ x13780 ∧ x13780 < ((([(rdD zT28 ((([] : List T28) ++ p0) ++ p1) x9828).From, (rdD zT28 ((([] : List T28) ++ p0) ++ p1) x9828).To] : List Int)).length : Int) then (tidewrackref13_build_l11 p0 p1 x9828 l13777 x13780 (tidewrackref13_build_l7 K p0 p1 x9828 lp12185 k14160) K 0) else none) else (tidewrackref13_build_j6 x9828 lp12185 l13777)
def tidewrackref13_build_l5 (K : Nat) (p0 : List T28) (p1 : List T28) (p2 : Int) : Nat → (List Int) → Int → Option (List T28)
  | 0, _, _ => none
  | k12184 + 1, l9821, x9828 => bif (decide (x9828 < ((((([] : List T28) ++ p0) ++ p1)).length : Int))) then (if 0 ≤ x9828 ∧ x9828 < ((((([] : List T28) ++ p0) ++ p1)).length : Int) then (tidewrackref13_build_l7 K p0 p1 x9828 (tidewrackref13_build_l5 K p0 p1 p2 k12184) K l9821 0) else none) else (tidewrackref13_build_j1 K p0 p1 p2 l9821)
def tidewrackref13_build (K : Nat) (p0 : List T28) (p1 : List T28) (p2 : Int) : Option (List T28) :=
  if (([] : List T28)).length + (p0).length ≤ 1000000000 then (if ((([] : List T28) ++ p0)).length + (p1).length ≤ 1000000000 then (tidewrackref13_build_l5 K p0 p1 p2 K ([] : List Int) 0) else none) else none

/-! tidewrack/tidewrackref13.Cut -/
def tidewrackref13_Cut (K : Nat) (p0 : List T28) (p1 : T28) : Option (List T28) :=
  (tidewrackref13_one p1).bind fun t9 => ((tidewrackref13_build K p0 t9 1).bind fun t21 => (some t21))

/-! tidewrack/tidewrackref13.Add -/
def tidewrackref13_Add (K : Nat) (p0 : List T28) (p1 : T28) : Option (List T28) :=
  (tidewrackref13_one p1).bind fun t9 => ((tidewrackref13_build K p0 t9 0).bind fun t21 => (some t21))

/-! tidewrack/tidewrackref13.In -/
def tidewrackref13_In (K : Nat) (p0 : List T28) (p1 : T28) : Option (List T28) :=
  (tidewrackref13_one p1).bind fun t9 => ((tidewrackref13_build K p0 t9 2).bind fun t21 => (some t21))

/-! tidewrack/tidewrackref13.Missing -/
def tidewrackref13_Missing (K : Nat) (p0 : List T28) (p1 : T28) : Option (List T28) :=
  (tidewrackref13_one p1).bind fun t9 => ((tidewrackref13_build K p0 t9 3).bind fun t21 => (some t21))

/-! tidewrack/tidewracklaw13.SpansPlay -/
def tidewracklaw13_SpansPlay_j1 : Option Bool :=
  some true
def tidewracklaw13_SpansPlay_j4 (x5522 : Int) (lp6889 : (List T28) → (List T28) → Int → Option Bool) (l7584 : List T28) (l7589 : List T28) : Option Bool :=
  lp6889 l7584 l7589 (IntKind.wrap .i64 (x5522 + 1))
def tidewracklaw13_SpansPlay_j7 (K : Nat) (p1 : T28) (p2 : Int) (x5522 : Int) (lp6889 : (List T28) → (List T28) → Int → Option Bool) (l7724 : List T28) (l7729 : List T28) (x7784 : Int) : Option Bool :=
  (spans_Set_Spans (⟨l7724⟩ : T25)).bind fun t8015 => ((tidewracklaw13_Same K t8015 l7729).bind fun t8027 => (bif (!t8027) then (some false) else ((spans_Set_Len K (⟨l7724⟩ : T25)).bind fun t8036 => (bif (t8036 != x7784) then (some false) else ((spans_Set_Has K (⟨l7724⟩ : T25) p2).bind fun t8045 => ((tidewrackref13_Has K l7729 p2).bind fun t8053 => (bif (!(t8045 == t8053)) then (some false) else ((spans_Set_In K (⟨l7724⟩ : T25) p1).bind fun t8062 => ((tidewrackref13_In K l7729 p1).bind fun t8074 => ((tidewracklaw13_Same K t8062 t8074).bind fun t8086 => (bif (!t8086) then (some false) else ((spans_Set_Missing K (⟨l7724⟩ : T25) p1).bind fun t8095 => ((tidewrackref13_Missing K l7729 p1).bind fun t8107 => ((tidewracklaw13_Same K t8095 t8107).bind fun t8119 => (bif (!t8119) then (some false) else (tidewracklaw13_SpansPlay_j4 x5522 lp6889 l7724 l7729))))))))))))))))
def tidewracklaw13_SpansPlay_l8 (K : Nat) (p1 : T28) (p2 : Int) (x5522 : Int) (lp6889 : (List T28) → (List T28) → Int → Option Bool) (l7724 : List T28) (l7729 : List T28) : Nat → Int → Int → Option Bool
  | 0, _, _ => none
  | k8155 + 1, x8141, x8142 => bif (decide (x8142 < ((l7729).length : Int))) then (if 0 ≤ x8142 ∧ x8142 < ((l7729).length : Int) then ((tidewracklaw13_SpansPlay_l8 K p1 p2 x5522 lp6889 l7724 l7729 k8155) (IntKind.wrap .i64 (x8141 + (IntKind.wrap .i64 (((rdD zT28 l7729 x8142).To) - ((rdD zT28 l7729 x8142).From))))) (IntKind.wrap .i64 (x8142 + 1))) else none) else (tidewracklaw13_SpansPlay_j7 K p1 p2 x5522 lp6889 l7724 l7729 x8141)
def tidewracklaw13_SpansPlay_j6 (K : Nat) (p1 : T28) (p2 : Int) (x5522 : Int) (lp6889 : (List T28) → (List T28) → Int → Option Bool) (l7724 : List T28) (l7729 : List T28) : Option Bool :=
  tidewracklaw13_SpansPlay_l8 K p1 p2 x5522 lp6889 l7724 l7729 K 0 0
def tidewracklaw13_SpansPlay_j5 (K : Nat) (p0 : List T35) (p1 : T28) (p2 : Int) (l5514 : List T28) (l5519 : List T28) (x5522 : Int) (lp6889 : (List T28) → (List T28) → Int → Option Bool) : Option Bool :=
  bif (rdD zT35 p0 x5522).Cut then ((tidewrackref13_Cut K l5519 (⟨(rdD zT35 p0 x5522).Span_From, (rdD zT35 p0 x5522).Span_To⟩ : T28)).bind fun t8204 => ((spans_Set_Cut K (⟨l5514⟩ : T25) ([(⟨(rdD zT35 p0 x5522).Span_From, (rdD zT35 p0 x5522).Span_To⟩ : T28)] : List T28)).bind fun t8222 => (tidewracklaw13_SpansPlay_j6 K p1 p2 x5522 lp6889 t8222.l t8204))) else ((tidewrackref13_Add K l5519 (⟨(rdD zT35 p0 x5522).Span_From, (rdD zT35 p0 x5522).Span_To⟩ : T28)).bind fun t8173 => ((spans_Set_Add K (⟨l5514⟩ : T25) ([(⟨(rdD zT35 p0 x5522).Span_From, (rdD zT35 p0 x5522).Span_To⟩ : T28)] : List T28)).bind fun t8191 => (tidewracklaw13_SpansPlay_j6 K p1 p2 x5522 lp6889 t8191.l t8173)))
def tidewracklaw13_SpansPlay_j3 (K : Nat) (p0 : List T35) (p1 : T28) (p2 : Int) (l5514 : List T28) (l5519 : List T28) (x5522 : Int) (lp6889 : (List T28) → (List T28) → Int → Option Bool) : Option Bool :=
  if 0 ≤ x5522 ∧ x5522 < ((p0).length : Int) then ((spans_Set_Clone (⟨l5514⟩ : T25)).bind fun t7606 => ((spans_Set_Spans t7606).bind fun t8235 => ((tidewracklaw13_Same K t8235 l5519).bind fun t8247 => (bif (!t8247) then (some false) else (tidewracklaw13_SpansPlay_j5 K p0 p1 p2 l5514 l5519 x5522 lp6889))))) else none
def tidewracklaw13_SpansPlay_l2 (K : Nat) (p0 : List T35) (p1 : T28) (p2 : Int) : Nat → (List T28) → (List T28) → Int → Option Bool
  | 0, _, _, _ => none
  | k6888 + 1, l5514, l5519, x5522 => bif (decide (x5522 < ((p0).length : Int))) then (bif (decide (x5522 < (25 : Int))) then (tidewracklaw13_SpansPlay_j3 K p0 p1 p2 l5514 l5519 x5522 (tidewracklaw13_SpansPlay_l2 K p0 p1 p2 k6888)) else (tidewracklaw13_SpansPlay_j1)) else (tidewracklaw13_SpansPlay_j1)
def tidewracklaw13_SpansPlay (K : Nat) (p0 : List T35) (p1 : T28) (p2 : Int) : Option Bool :=
  (tidewracklaw13_awake K).bind fun t9 => (bif (!t9) then (some false) else (tidewracklaw13_SpansPlay_l2 K p0 p1 p2 K ([] : List T28) ([] : List T28) 0))

end Go.Proofs.Ytjbdijgenhhgaaa
