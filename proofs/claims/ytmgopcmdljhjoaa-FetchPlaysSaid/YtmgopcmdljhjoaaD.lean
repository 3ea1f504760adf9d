/- Plain functions, printed by an own program: what the walked code computes. -/
import Derived.Test.YtmgopcmdljhjoaaY35
set_option linter.unusedVariables false
set_option linter.unusedSimpArgs false
namespace Go.Proofs.Ytmgopcmdljhjoaa
open Go Go.Proofs.XC
structure T30 where
  From : Int
  To : Int
abbrev zT30 : T30 := ⟨0, 0⟩
structure T50 where
  most : Int
  every : Int
  due : Int
  want_l : List T30
structure T48 where
  l : List T30
structure T27 where
  Most : Int
  Every : Int
  Due : Int
  L : List T30
structure T32 where
  Kind : Int
  N : Int
  Later : Int
  Span_From : Int
  Span_To : Int
  Have : List T30
abbrev zT32 : T32 := ⟨0, 0, 0, 0, 0, []⟩
def eqT30 (x y : T30) : Bool := ((x.From == y.From) && ((x.To == y.To) && true))
namespace WF
def wfBool (_ : Bool) : Prop := True
def wfStr (x : ByteArray) : Prop := x.size ≤ maxLen
def wfi64 (x : Int) : Prop := (Lit.int .i64 x).wf = true
def wfi32 (x : Int) : Prop := (Lit.int .i32 x).wf = true
def wfu8 (x : Int) : Prop := (Lit.int .u8 x).wf = true
def wfu32 (x : Int) : Prop := (Lit.int .u32 x).wf = true
def wfu64 (x : Int) : Prop := (Lit.int .u64 x).wf = true
def wfi8 (x : Int) : Prop := (Lit.int .i8 x).wf = true
def wfi16 (x : Int) : Prop := (Lit.int .i16 x).wf = true
def wfu16 (x : Int) : Prop := (Lit.int .u16 x).wf = true
def wfT30 (x : T30) : Prop := (Lit.int .i64 x.From).wf = true ∧ (Lit.int .i64 x.To).wf = true
def wfT48 (x : T48) : Prop := (∀ y ∈ x.l, wfT30 y) ∧ x.l.length ≤ maxLen
def wfT27 (x : T27) : Prop := (Lit.int .i64 x.Most).wf = true ∧ (Lit.int .i64 x.Every).wf = true ∧ (Lit.int .i64 x.Due).wf = true ∧ (∀ y ∈ x.L, wfT30 y) ∧ x.L.length ≤ maxLen
def wfT32 (x : T32) : Prop := (Lit.int .i64 x.Kind).wf = true ∧ (Lit.int .i64 x.N).wf = true ∧ (Lit.int .i64 x.Later).wf = true ∧ (Lit.int .i64 x.Span_From).wf = true ∧ (Lit.int .i64 x.Span_To).wf = true ∧ (∀ y ∈ x.Have, wfT30 y) ∧ x.Have.length ≤ maxLen
end WF
/-! tidewrack/fetch.clip -/
def fetch_clip (p0 : Int) (p1 : Int) (p2 : Int) : Option Int :=
  some (mxI p1 (mnI p0 p2))

/-! tidewrack/fetch.New -/
def fetch_New (p0 : Int) (p1 : Int) : Option T50 :=
  (fetch_clip p0 1 65536).bind fun t4 => ((fetch_clip p1 1 1048576).bind fun t12 => (some (⟨t4, t12, 0, ([] : List T30)⟩ : T50)))

/-! (*tidewrack/fetch.Fetch).Reset -/
def fetch_Fetch_Reset (p0 : T50) : Option T50 :=
  some (⟨p0.most, p0.every, 0, ([] : List T30)⟩ : T50)

/-! (tidewrack/spans.Span).fit -/
def spans_Span_fit (p0 : T30) : Option T30 :=
  some (⟨(mxI (-1152921504606846976) (mnI p0.From 1152921504606846976)), (mxI (-1152921504606846976) (mnI p0.To 1152921504606846976))⟩ : T30)

/-! (tidewrack/spans.Span).empty -/
def spans_Span_empty (p0 : T30) : Option Bool :=
  some (decide (p0.To ≤ p0.From))

/-! slices.Grow[[]tidewrack/spans.Span,tidewrack/spans.Span] -/
def slices_Grow_j1 (p1 : Int) : Option (List T30) :=
  bif (decide ((IntKind.wrap .i64 (p1 - (IntKind.wrap .i64 (0 - ((([] : List T30)).length : Int))))) > (0 : Int))) then (if 0 < (IntKind.wrap .i64 (p1 - (IntKind.wrap .i64 (0 - ((([] : List T30)).length : Int))))) then (if (IntKind.wrap .i64 (p1 - (IntKind.wrap .i64 (0 - ((([] : List T30)).length : Int))))) ≤ 1000000000 then (some ([] : List T30)) else none) else none) else (some ([] : List T30))
def slices_Grow (p1 : Int) : Option (List T30) :=
  bif (decide (p1 < (0 : Int))) then (none) else (slices_Grow_j1 p1)

/-! slices.Concat[[]tidewrack/spans.Span,tidewrack/spans.Span] -/
def slices_Concat_j2 (l134 : List T30) : Option (List T30) :=
  some l134
def slices_Concat_l3 (p0 : List (List T30)) : Nat → (List T30) → Int → Option (List T30)
  | 0, _, _ => none
  | k181 + 1, l160, x163 => bif (decide (x163 < ((p0).length : Int))) then (if 0 ≤ x163 ∧ x163 < ((p0).length : Int) then (if (l160).length + ((rdD [] p0 x163)).length ≤ 1000000000 then ((slices_Concat_l3 p0 k181) (l160 ++ (rdD [] p0 x163)) (IntKind.wrap .i64 (x163 + 1))) else none) else none) else (slices_Concat_j2 l160)
def slices_Concat_j1 (K : Nat) (p0 : List (List T30)) (x45 : Int) : Option (List T30) :=
  (slices_Grow x45).bind fun t50 => (slices_Concat_l3 p0 K t50 0)
def slices_Concat_l4 (K : Nat) (p0 : List (List T30)) : Nat → Int → Int → Option (List T30)
  | 0, _, _ => none
  | k225 + 1, x213, x214 => bif (decide (x214 < ((p0).length : Int))) then (if 0 ≤ x214 ∧ x214 < ((p0).length : Int) then (bif (decide ((IntKind.wrap .i64 (x213 + (((rdD [] p0 x214)).length : Int))) < (0 : Int))) then (none) else ((slices_Concat_l4 K p0 k225) (IntKind.wrap .i64 (x213 + (((rdD [] p0 x214)).length : Int))) (IntKind.wrap .i64 (x214 + 1)))) else none) else (slices_Concat_j1 K p0 x213)
def slices_Concat (K : Nat) (p0 : List (List T30)) : Option (List T30) :=
  slices_Concat_l4 K p0 K 0 0

/-! (*tidewrack/spans.Set).Add -/
def spans_Set_Add_j2 (x6584 : Int) (lp13157 : (List T30) → Int → Option T48) (l16449 : List T30) : Option T48 :=
  lp13157 l16449 (IntKind.wrap .i64 (x6584 + 1))
def spans_Set_Add_j3 (x6584 : Int) (lp13157 : (List T30) → Int → Option T48) (x18102 : T30) (l18105 : List T30) : Option T48 :=
  if (l18105).length + (([x18102] : List T30)).length ≤ 1000000000 then (spans_Set_Add_j2 x6584 lp13157 (l18105 ++ ([x18102] : List T30))) else none
def spans_Set_Add_j5 (x6584 : Int) (lp13157 : (List T30) → Int → Option T48) (l19487 : List T30) : Option T48 :=
  spans_Set_Add_j2 x6584 lp13157 l19487
def spans_Set_Add_l4 (K : Nat) (l6577 : List T30) (x6584 : Int) (lp13157 : (List T30) → Int → Option T48) : Nat → T30 → (List T30) → Int → Option T48
  | 0, _, _, _ => none
  | k19195 + 1, x18656, l18659, x18662 => bif (decide (x18662 < ((l6577).length : Int))) then (if 0 ≤ x18662 ∧ x18662 < ((l6577).length : Int) then (bif (decide (((rdD zT30 l6577 x18662).To) < x18656.From)) then (if (l18659).length + (([(rdD zT30 l6577 x18662)] : List T30)).length ≤ 1000000000 then ((spans_Set_Add_l4 K l6577 x6584 lp13157 k19195) x18656 (l18659 ++ ([(rdD zT30 l6577 x18662)] : List T30)) (IntKind.wrap .i64 (x18662 + 1))) else none) else (bif (decide (((rdD zT30 l6577 x18662).From) > x18656.To)) then (if 0 ≤ x18662 then (if x18662 ≤ ((l6577).length : Int) then ((slices_Concat K ([l18659, ([x18656] : List T30), (List.drop (Int.toNat x18662) (List.take (l6577).length l6577))] : List (List T30))).bind fun t19549 => (spans_Set_Add_j5 x6584 lp13157 t19549)) else none) else none) else ((spans_Set_Add_l4 K l6577 x6584 lp13157 k19195) (⟨(mnI x18656.From ((rdD zT30 l6577 x18662).From)), (mxI x18656.To ((rdD zT30 l6577 x18662).To))⟩ : T30) l18659 (IntKind.wrap .i64 (x18662 + 1))))) else none) else (spans_Set_Add_j3 x6584 lp13157 x18656 l18659)
def spans_Set_Add_l1 (K : Nat) (p1 : List T30) : Nat → (List T30) → Int → Option T48
  | 0, _, _ => none
  | k13156 + 1, l6577, x6584 => bif (decide (x6584 < ((p1).length : Int))) then (if 0 ≤ x6584 ∧ x6584 < ((p1).length : Int) then ((spans_Span_fit (rdD zT30 p1 x6584)).bind fun t16470 => ((spans_Span_empty t16470).bind fun t16481 => (bif t16481 then (spans_Set_Add_j2 x6584 (spans_Set_Add_l1 K p1 k13156) l6577) else (spans_Set_Add_l4 K l6577 x6584 (spans_Set_Add_l1 K p1 k13156) K t16470 ([] : List T30) 0)))) else none) else (some (⟨l6577⟩ : T48))
def spans_Set_Add (K : Nat) (p0 : T48) (p1 : List T30) : Option T48 :=
  spans_Set_Add_l1 K p1 K p0.l 0

/-! tidewrack/spans.without$1 -/
def spans_without_1_j2 (x246 : Int) (lp472 : Int → Option (List T30)) : Option (List T30) :=
  lp472 (IntKind.wrap .i64 (x246 + 1))
def spans_without_1_l3 (p1 : List T30) (p2 : T30) (x246 : Int) (lp472 : Int → Option (List T30)) : Nat → Int → Option (List T30)
  | 0, _ => none
  | k669 + 1, x642 => bif (decide (x642 < ((([(⟨(rdD zT30 p1 x246).From, (mnI ((rdD zT30 p1 x246).To) p2.From)⟩ : T30), (⟨(mxI ((rdD zT30 p1 x246).From) p2.To), (rdD zT30 p1 x246).To⟩ : T30)] : List T30)).length : Int))) then (if 0 ≤ x642 ∧ x642 < ((([(⟨(rdD zT30 p1 x246).From, (mnI ((rdD zT30 p1 x246).To) p2.From)⟩ : T30), (⟨(mxI ((rdD zT30 p1 x246).From) p2.To), (rdD zT30 p1 x246).To⟩ : T30)] : List T30)).length : Int) then ((spans_Span_empty (rdD zT30 ([(⟨(rdD zT30 p1 x246).From, (mnI ((rdD zT30 p1 x246).To) p2.From)⟩ : T30), (⟨(mxI ((rdD zT30 p1 x246).From) p2.To), (rdD zT30 p1 x246).To⟩ : T30)] : List T30) x642)).bind fun t685 => (bif (!t685) then (Option.map (List.cons (rdD zT30 ([(⟨(rdD zT30 p1 x246).From, (mnI ((rdD zT30 p1 x246).To) p2.From)⟩ : T30), (⟨(mxI ((rdD zT30 p1 x246).From) p2.To), (rdD zT30 p1 x246).To⟩ : T30)] : List T30) x642)) ((spans_without_1_l3 p1 p2 x246 lp472 k669) (IntKind.wrap .i64 (x642 + 1)))) else ((spans_without_1_l3 p1 p2 x246 lp472 k669) (IntKind.wrap .i64 (x642 + 1))))) else none) else (spans_without_1_j2 x246 lp472)
def spans_without_1_l1 (K : Nat) (p1 : List T30) (p2 : T30) : Nat → Int → Option (List T30)
  | 0, _ => none
  | k471 + 1, x246 => bif (decide (x246 < ((p1).length : Int))) then (if 0 ≤ x246 ∧ x246 < ((p1).length : Int) then (spans_without_1_l3 p1 p2 x246 (spans_without_1_l1 K p1 p2 k471) K 0) else none) else (some [])
def spans_without_1 (K : Nat) (p1 : List T30) (p2 : T30) : Option (List T30) :=
  spans_without_1_l1 K p1 p2 K 0

/-! tidewrack/spans.without -/
def spans_without (p0 : List T30) (p1 : T30) : Option T30 :=
  some p1

/-! (*tidewrack/spans.Set).Cut -/
def spans_Set_Cut_j2 (x743 : Int) (lp1473 : (List T30) → Int → Option T48) (l1846 : List T30) : Option T48 :=
  lp1473 l1846 (IntKind.wrap .i64 (x743 + 1))
def spans_Set_Cut_j3 (x743 : Int) (lp1473 : (List T30) → Int → Option T48) (l2050 : List T30) : Option T48 :=
  spans_Set_Cut_j2 x743 lp1473 l2050
def spans_Set_Cut_r4 (x743 : Int) (lp1473 : (List T30) → Int → Option T48) : List T30 → (List T30) → Option T48
  | [], l2141 => spans_Set_Cut_j3 x743 lp1473 l2141
  | x2097 :: rest2098, l2141 => if (l2141).length + (([x2097] : List T30)).length ≤ 1000000000 then ((spans_Set_Cut_r4 x743 lp1473 rest2098) (l2141 ++ ([x2097] : List T30))) else none
def spans_Set_Cut_l1 (K : Nat) (p1 : List T30) : Nat → (List T30) → Int → Option T48
  | 0, _, _ => none
  | k1472 + 1, l736, x743 => bif (decide (x743 < ((p1).length : Int))) then (if 0 ≤ x743 ∧ x743 < ((p1).length : Int) then ((spans_Span_fit (rdD zT30 p1 x743)).bind fun t1867 => ((spans_Span_empty t1867).bind fun t1878 => (bif t1878 then (spans_Set_Cut_j2 x743 (spans_Set_Cut_l1 K p1 k1472) l736) else ((spans_without l736 t1867).bind fun t2086 => ((spans_without_1 K l736 t2086).bind fun ys2095 => (spans_Set_Cut_r4 x743 (spans_Set_Cut_l1 K p1 k1472) ys2095 ([] : List T30))))))) else none) else (some (⟨l736⟩ : T48))
def spans_Set_Cut (K : Nat) (p0 : T48) (p1 : List T30) : Option T48 :=
  spans_Set_Cut_l1 K p1 K p0.l 0

/-! (*tidewrack/spans.Set).Len -/
def spans_Set_Len_j1 (x51 : Int) : Option Int :=
  some x51
def spans_Set_Len_l2 (p0 : T48) : Nat → Int → Int → Option Int
  | 0, _, _ => none
  | k82 + 1, x68, x69 => bif (decide (x69 < ((p0.l).length : Int))) then (if 0 ≤ x69 ∧ x69 < ((p0.l).length : Int) then ((spans_Set_Len_l2 p0 k82) (IntKind.wrap .i64 (x68 + (IntKind.wrap .i64 (((rdD zT30 p0.l x69).To) - ((rdD zT30 p0.l x69).From))))) (IntKind.wrap .i64 (x69 + 1))) else none) else (spans_Set_Len_j1 x68)
def spans_Set_Len (K : Nat) (p0 : T48) : Option Int :=
  spans_Set_Len_l2 p0 K 0 0

/-! (*tidewrack/fetch.Fetch).Want -/
def fetch_Fetch_Want (K : Nat) (p0 : T50) (p1 : T30) (p2 : List T30) : Option (Int × T50) :=
  (fetch_clip p1.From 0 1152921504606846976).bind fun t46 => ((fetch_clip p1.To 0 1152921504606846976).bind fun t54 => ((fetch_Fetch_Reset p0).bind fun t73 => ((spans_Set_Add K (⟨t73.want_l⟩ : T48) ([(⟨t46, (mnI t54 (IntKind.wrap .i64 (t46 + p0.most)))⟩ : T30)] : List T30)).bind fun t134 => ((spans_Set_Cut K t134 p2).bind fun t147 => ((spans_Set_Len K t147).bind fun t160 => (some (t160, (⟨t73.most, t73.every, t73.due, t147.l⟩ : T50))))))))

/-! (tidewrack/spans.Span).both -/
def spans_Span_both (p0 : T30) (p1 : T30) : Option T30 :=
  some (⟨(mxI p0.From p1.From), (mnI p0.To p1.To)⟩ : T30)

/-! (*tidewrack/spans.Set).In -/
def spans_Set_In_j1 (l1383 : List T30) : Option (List T30) :=
  some l1383
def spans_Set_In_j3 (l1843 : List T30) (x1846 : Int) (lp2299 : (List T30) → Int → Option (List T30)) (x2535 : T30) : Option (List T30) :=
  (spans_Span_empty x2535).bind fun t2540 => (bif (!t2540) then (if (l1843).length + (([x2535] : List T30)).length ≤ 1000000000 then (lp2299 (l1843 ++ ([x2535] : List T30)) (IntKind.wrap .i64 (x1846 + 1))) else none) else (lp2299 l1843 (IntKind.wrap .i64 (x1846 + 1))))
def spans_Set_In_l2 (p0 : T48) (p1 : T30) : Nat → (List T30) → Int → Option (List T30)
  | 0, _, _ => none
  | k2298 + 1, l1843, x1846 => bif (decide (x1846 < ((p0.l).length : Int))) then (if 0 ≤ x1846 ∧ x1846 < ((p0.l).length : Int) then ((spans_Span_fit p1).bind fun t2584 => ((spans_Span_both (rdD zT30 p0.l x1846) t2584).bind fun t2592 => (spans_Set_In_j3 l1843 x1846 (spans_Set_In_l2 p0 p1 k2298) t2592))) else none) else (spans_Set_In_j1 l1843)
def spans_Set_In (K : Nat) (p0 : T48) (p1 : T30) : Option (List T30) :=
  spans_Set_In_l2 p0 p1 K ([] : List T30) 0

/-! (*tidewrack/fetch.Fetch).Ask -/
def fetch_Fetch_Ask_j1 (p0 : T50) (p1 : Int) (t4 : List T30) : Option ((List T30) × T50) :=
  if 0 ≤ (mnI ((t4).length : Int) 8) then (if (mnI ((t4).length : Int) 8) ≤ ((t4).length : Int) then (some ((List.take (Int.toNat (mnI ((t4).length : Int) 8)) t4), (⟨p0.most, p0.every, (IntKind.wrap .i64 (p1 + p0.every)), p0.want_l⟩ : T50))) else none) else none
def fetch_Fetch_Ask (K : Nat) (p0 : T50) (p1 : Int) (p2 : Int) : Option ((List T30) × T50) :=
  (spans_Set_In K (⟨p0.want_l⟩ : T48) (⟨0, p2⟩ : T30)).bind fun t4 => (bif (((t4).length : Int) == (0 : Int)) then (some (([] : List T30), p0)) else (bif (decide (p1 < p0.due)) then (some (([] : List T30), p0)) else (fetch_Fetch_Ask_j1 p0 p1 t4)))

/-! (*tidewrack/spans.Set).Has$1 -/
def spans_Set_Has_1 (p0 : T30) (p1 : Int) : Option Bool :=
  bif (decide (p1 ≥ p0.From)) then (some (decide (p1 < p0.To))) else (some false)

/-! slices.IndexFunc[[]tidewrack/spans.Span,tidewrack/spans.Span] -/
def slices_IndexFunc_of39_j1 : Option Int :=
  some (-1)
def slices_IndexFunc_of39_l2 (p0 : List T30) (p1_0 : Int) : Nat → Int → Option Int
  | 0, _ => none
  | k81 + 1, x67 => bif (decide (x67 < ((p0).length : Int))) then (if 0 ≤ x67 ∧ x67 < ((p0).length : Int) then ((spans_Set_Has_1 (rdD zT30 p0 x67) p1_0).bind fun t90 => (bif t90 then (some x67) else ((slices_IndexFunc_of39_l2 p0 p1_0 k81) (IntKind.wrap .i64 (x67 + 1))))) else none) else (slices_IndexFunc_of39_j1)
def slices_IndexFunc_of39 (K : Nat) (p0 : List T30) (p1_0 : Int) : Option Int :=
  slices_IndexFunc_of39_l2 p0 p1_0 K 0

/-! slices.ContainsFunc[[]tidewrack/spans.Span,tidewrack/spans.Span] -/
def slices_ContainsFunc_of39 (K : Nat) (p0 : List T30) (p1_0 : Int) : Option Bool :=
  (slices_IndexFunc_of39 K p0 p1_0).bind fun t4 => (some (decide (t4 ≥ (0 : Int))))

/-! (*tidewrack/spans.Set).Has -/
def spans_Set_Has (K : Nat) (p0 : T48) (p1 : Int) : Option Bool :=
  (slices_ContainsFunc_of39 K p0.l p1).bind fun t9 => (some t9)

/-! tidewrack/fetch.bit -/
def fetch_bit (p0 : Bool) : Option Int :=
  bif p0 then (some 1) else (some 0)

/-! (*tidewrack/fetch.Fetch).Got -/
def fetch_Fetch_Got (K : Nat) (p0 : T50) (p1 : Int) : Option (Bool × T50) :=
  (spans_Set_Has K (⟨p0.want_l⟩ : T48) p1).bind fun t4 => ((fetch_bit (decide (p1 < (1152921504606846976 : Int)))).bind fun t68 => ((spans_Set_Cut K (⟨p0.want_l⟩ : T48) ([(⟨p1, (IntKind.wrap .i64 (p1 + t68))⟩ : T30)] : List T30)).bind fun t82 => (some (t4, (⟨p0.most, p0.every, p0.due, t82.l⟩ : T50)))))

/-! tidewrack/tidewracklaw21.awake -/
def tidewracklaw21_awake (K : Nat)  : Option Bool :=
  (fetch_New 5 9).bind fun t4 => ((fetch_Fetch_Want K t4 (⟨3, 20⟩ : T30) ([] : List T30)).bind fun t20 => ((fetch_Fetch_Ask K t20.2 0 6).bind fun t35 => (bif (t20.1 == (5 : Int)) then (bif (((t35.1).length : Int) == (1 : Int)) then (if 0 ≤ (0 : Int) ∧ (0 : Int) < ((t35.1).length : Int) then (bif (eqT30 (rdD zT30 t35.1 0) (⟨3, 6⟩ : T30)) then ((fetch_Fetch_Ask K t35.2 8 6).bind fun t59 => (bif (((t59.1).length : Int) == (0 : Int)) then ((fetch_Fetch_Got K t59.2 3).bind fun t79 => (bif t79.1 then ((fetch_Fetch_Got K t79.2 3).bind fun t95 => (some (!t95.1))) else (some false))) else (some false))) else (some false)) else none) else (some false)) else (some false))))

/-! tidewrack/tidewrackref21.New -/
def tidewrackref21_New (p0 : Int) (p1 : Int) : Option T27 :=
  some (⟨(mxI 1 (mnI p0 65536)), (mxI 1 (mnI p1 1048576)), 0, ([] : List T30)⟩ : T27)

/-! slices.Clone[[]tidewrack/spans.Span,tidewrack/spans.Span] -/
def slices_Clone (p0 : List T30) : Option (List T30) :=
  if (([] : List T30)).length + (p0).length ≤ 1000000000 then (some (([] : List T30) ++ p0)) else none

/-! (*tidewrack/spans.Set).Clone -/
def spans_Set_Clone (p0 : T48) : Option T48 :=
  (slices_Clone p0.l).bind fun t4 => (some (⟨t4⟩ : T48))

/-! (*tidewrack/fetch.Fetch).Clone -/
def fetch_Fetch_Clone (p0 : T50) : Option T50 :=
  (spans_Set_Clone (⟨p0.want_l⟩ : T48)).bind fun t12 => (some (⟨p0.most, p0.every, p0.due, t12.l⟩ : T50))

/-! tidewrack/tidewrackref13.near -/
def tidewrackref13_near (p0 : Int) : Option Int :=
  bif (decide (p0 < (-1152921504606846976))) then (some (-1152921504606846976)) else (bif (decide (p0 > (1152921504606846976 : Int))) then (some 1152921504606846976) else (some p0))

/-! tidewrack/tidewrackref13.Fit -/
def tidewrackref13_Fit (p0 : T30) : Option T30 :=
  (tidewrackref13_near p0.From).bind fun t51 => ((tidewrackref13_near p0.To).bind fun t59 => (some (⟨t51, t59⟩ : T30)))

/-! tidewrack/tidewrackref13.one -/
def tidewrackref13_one (p0 : T30) : Option (List T30) :=
  (tidewrackref13_Fit p0).bind fun t9 => (bif (decide (t9.To ≤ t9.From)) then (some ([] : List T30)) else (some ([t9] : List T30)))

/-! tidewrack/tidewrackref13.Has -/
def tidewrackref13_Has_j1 : Option Bool :=
  some false
def tidewrackref13_Has_l2 (p0 : List T30) (p1 : Int) : Nat → Int → Option Bool
  | 0, _ => none
  | k86 + 1, x71 => bif (decide (x71 < ((p0).length : Int))) then (if 0 ≤ x71 ∧ x71 < ((p0).length : Int) then (bif (decide (p1 ≥ ((rdD zT30 p0 x71).From))) then (bif (decide (p1 < ((rdD zT30 p0 x71).To))) then (some true) else ((tidewrackref13_Has_l2 p0 p1 k86) (IntKind.wrap .i64 (x71 + 1)))) else ((tidewrackref13_Has_l2 p0 p1 k86) (IntKind.wrap .i64 (x71 + 1)))) else none) else (tidewrackref13_Has_j1)
def tidewrackref13_Has (K : Nat) (p0 : List T30) (p1 : Int) : Option Bool :=
  tidewrackref13_Has_l2 p0 p1 K 0

/-! tidewrack/tidewrackref13.keep -/
def tidewrackref13_keep (p0 : Int) (p1 : Bool) (p2 : Bool) : Option Bool :=
  bif (p0 == (0 : Int)) then (bif p1 then (some true) else (some p2)) else (bif (p0 == (1 : Int)) then (bif p1 then (some (!p2)) else (some false)) else (bif (p0 == (2 : Int)) then (bif p1 then (some p2) else (some false)) else (bif (!p1) then (some p2) else (some false))))

/-! tidewrack/tidewrackref13.build -/
def tidewrackref13_build_j2 (l7290 : List T30) : Option (List T30) :=
  some l7290
def tidewrackref13_build_j4 (l7058 : List Int) (l7363 : List T30) (x7366 : Int) (lp7435 : (List T30) → Int → Option (List T30)) (x7475 : Bool) : Option (List T30) :=
  bif x7475 then (if 0 ≤ (IntKind.wrap .i64 (x7366 + 1)) ∧ (IntKind.wrap .i64 (x7366 + 1)) < ((l7058).length : Int) then (if 0 ≤ (IntKind.wrap .i64 (((l7363).length : Int) - 1)) ∧ (IntKind.wrap .i64 (((l7363).length : Int) - 1)) < ((l7363).length : Int) then (lp7435 (List.set l7363 (Int.toNat (IntKind.wrap .i64 (((l7363).length : Int) - 1))) (⟨(rdD zT30 l7363 (IntKind.wrap .i64 (((l7363).length : Int) - 1))).From, (rdD 0 l7058 (IntKind.wrap .i64 (x7366 + 1)))⟩ : T30)) (IntKind.wrap .i64 (x7366 + 1))) else none) else none) else (if 0 ≤ (IntKind.wrap .i64 (x7366 + 1)) ∧ (IntKind.wrap .i64 (x7366 + 1)) < ((l7058).length : Int) then (if (l7363).length + (([(⟨(rdD 0 l7058 x7366), (rdD 0 l7058 (IntKind.wrap .i64 (x7366 + 1)))⟩ : T30)] : List T30)).length ≤ 1000000000 then (lp7435 (l7363 ++ ([(⟨(rdD 0 l7058 x7366), (rdD 0 l7058 (IntKind.wrap .i64 (x7366 + 1)))⟩ : T30)] : List T30)) (IntKind.wrap .i64 (x7366 + 1))) else none) else none)
def tidewrackref13_build_l3 (K : Nat) (p0 : List T30) (p1 : List T30) (p2 : Int) (l7058 : List Int) : Nat → (List T30) → Int → Option (List T30)
  | 0, _, _ => none
  | k7434 + 1, l7363, x7366 => bif (decide ((IntKind.wrap .i64 (x7366 + 1)) < ((l7058).length : Int))) then (if 0 ≤ x7366 ∧ x7366 < ((l7058).length : Int) then ((tidewrackref13_Has K p0 (rdD 0 l7058 x7366)).bind fun t7443 => ((tidewrackref13_Has K p1 (rdD 0 l7058 x7366)).bind fun t7451 => ((tidewrackref13_keep p2 t7443 t7451).bind fun t7459 => (bif (!t7459) then ((tidewrackref13_build_l3 K p0 p1 p2 l7058 k7434) l7363 (IntKind.wrap .i64 (x7366 + 1))) else (bif (decide (((l7363).length : Int) > (0 : Int))) then (if 0 ≤ (IntKind.wrap .i64 (((l7363).length : Int) - 1)) ∧ (IntKind.wrap .i64 (((l7363).length : Int) - 1)) < ((l7363).length : Int) then (tidewrackref13_build_j4 l7058 l7363 x7366 (tidewrackref13_build_l3 K p0 p1 p2 l7058 k7434) (((rdD zT30 l7363 (IntKind.wrap .i64 (((l7363).length : Int) - 1))).To) == (rdD 0 l7058 x7366))) else none) else (tidewrackref13_build_j4 l7058 l7363 x7366 (tidewrackref13_build_l3 K p0 p1 p2 l7058 k7434) false)))))) else none) else (tidewrackref13_build_j2 l7363)
def tidewrackref13_build_j1 (K : Nat) (p0 : List T30) (p1 : List T30) (p2 : Int) (l7058 : List Int) : Option (List T30) :=
  tidewrackref13_build_l3 K p0 p1 p2 l7058 K ([] : List T30) 0
def tidewrackref13_build_j6 (x9828 : Int) (lp12185 : (List Int) → Int → Option (List T30)) (l13369 : List Int) : Option (List T30) :=
  lp12185 l13369 (IntKind.wrap .i64 (x9828 + 1))
def tidewrackref13_build_j8 (x13780 : Int) (lp14161 : (List Int) → Int → Option (List T30)) (l14357 : List Int) : Option (List T30) :=
  lp14161 l14357 (IntKind.wrap .i64 (x13780 + 1))
def tidewrackref13_build_j10 (p0 : List T30) (p1 : List T30) (x9828 : Int) (l13777 : List Int) (x13780 : Int) (lp14161 : (List Int) → Int → Option (List T30)) (x14390 : Int) (x14410 : Bool) : Option (List T30) :=
  bif x14410 then (if 0 ≤ x14390 then (if x14390 ≤ ((l13777).length : Int) then (if (([(rdD 0 ([(rdD zT30 ((([] : List T30) ++ p0) ++ p1) x9828).From, (rdD zT30 ((([] : List T30) ++ p0) ++ p1) x9828).To] : List Int) x13780)] : List Int)).length + ((List.drop (Int.toNat x14390) (List.take (l13777).length l13777))).length ≤ 1000000000 then (if ((List.take (Int.toNat x14390) l13777)).length + ((([(rdD 0 ([(rdD zT30 ((([] : List T30) ++ p0) ++ p1) x9828).From, (rdD zT30 ((([] : List T30) ++ p0) ++ p1) x9828).To] : List Int) x13780)] : List Int) ++ (List.drop (Int.toNat x14390) (List.take (l13777).length l13777)))).length ≤ 1000000000 then (tidewrackref13_build_j8 x13780 lp14161 ((List.take (Int.toNat x14390) l13777) ++ (([(rdD 0 ([(rdD zT30 ((([] : List T30) ++ p0) ++ p1) x9828).From, (rdD zT30 ((([] : List T30) ++ p0) ++ p1) x9828).To] : List Int) x13780)] : List Int) ++ (List.drop (Int.toNat x14390) (List.take (l13777).length l13777))))) else none) else none) else none) else none) else (tidewrackref13_build_j8 x13780 lp14161 l13777)
def tidewrackref13_build_j9 (p0 : List T30) (p1 : List T30) (x9828 : Int) (l13777 : List Int) (x13780 : Int) (lp14161 : (List Int) → Int → Option (List T30)) (x14390 : Int) : Option (List T30) :=
  bif (x14390 == ((l13777).length : Int)) then (tidewrackref13_build_j10 p0 p1 x9828 l13777 x13780 lp14161 x14390 true) else (if 0 ≤ x14390 ∧ x14390 < ((l13777).length : Int) then (tidewrackref13_build_j10 p0 p1 x9828 l13777 x13780 lp14161 x14390 ((rdD 0 l13777 x14390) != (rdD 0 ([(rdD zT30 ((([] : List T30) ++ p0) ++ p1) x9828).From, (rdD zT30 ((([] : List T30) ++ p0) ++ p1) x9828).To] : List Int) x13780))) else none)
def tidewrackref13_build_l11 (p0 : List T30) (p1 : List T30) (x9828 : Int) (l13777 : List Int) (x13780 : Int) (lp14161 : (List Int) → Int → Option (List T30)) : Nat → Int → Option (List T30)
  | 0, _ => none
  | k14534 + 1, x14528 => bif (decide (x14528 < ((l13777).length : Int))) then (if 0 ≤ x14528 ∧ x14528 < ((l13777).length : Int) then (bif (decide ((rdD 0 l13777 x14528) < (rdD 0 ([(rdD zT30 ((([] : List T30) ++ p0) ++ p1) x9828).From, (rdD zT30 ((([] : List T30) ++ p0) ++ p1) x9828).To] : List Int) x13780))) then ((tidewrackref13_build_l11 p0 p1 x9828 l13777 x13780 lp14161 k14534) (IntKind.wrap .i64 (x14528 + 1))) else (tidewrackref13_build_j9 p0 p1 x9828 l13777 x13780 lp14161 x14528)) else none) else (tidewrackref13_build_j9 p0 p1 x9828 l13777 x13780 lp14161 x14528)
def tidewrackref13_build_l7 (K : Nat) (p0 : List T30) (p1 : List T30) (x9828 : Int) (lp12185 : (List Int) → Int → Option (List T30)) : Nat → (List Int) → Int → Option (List T30)
  | 0, _, _ => none
  | k14160 + 1, l13777, x13780 => bif (decide (x13780 < ((([(rdD zT30 ((([] : List T30) ++ p0) ++ p1) x9828).From, (rdD zT30 ((([] : List T30) ++ p0) ++ p1) x9828).To] : List Int)).length : Int))) then (if 0 ≤ x13780 ∧ x13780 < ((([(rdD zT30 ((([] : List T30) ++ p0) ++ p1) x9828).From, (rdD zT30 ((([] : List T30) ++ p0) ++ p1) x9828).To] : List Int)).length : Int) then (tidewrackref13_build_l11 p0 p1 x9828 l13777 x13780 (tidewrackref13_build_l7 K p0 p1 x9828 lp12185 k14160) K 0) else none) else (tidewrackref13_build_j6 x9828 lp12185 l13777)
def tidewrackref13_build_l5 (K : Nat) (p0 : List T30) (p1 : List T30) (p2 : Int) : Nat → (List Int) → Int → Option (List T30)
  | 0, _, _ => none
  | k12184 + 1, l9821, x9828 => bif (decide (x9828 < ((((([] : List T30) ++ p0) ++ p1)).length : Int))) then (if 0 ≤ x9828 ∧ x9828 < ((((([] : List T30) ++ p0) ++ p1)).length : Int) then (tidewrackref13_build_l7 K p0 p1 x9828 (tidewrackref13_build_l5 K p0 p1 p2 k12184) K l9821 0) else none) else (tidewrackref13_build_j1 K p0 p1 p2 l9821)
def tidewrackref13_build (K : Nat) (p0 : List T30) (p1 : List T30) (p2 : Int) : Option (List T30) :=
  if (([] : List T30)).length + (p0).length ≤ 1000000000 then (if ((([] : List T30) ++ p0)).length + (p1).length ≤ 1000000000 then (tidewrackref13_build_l5 K p0 p1 p2 K ([] : List Int) 0) else none) else none

/-! tidewrack/tidewrackref13.Add -/
def tidewrackref13_Add (K : Nat) (p0 : List T30) (p1 : T30) : Option (List T30) :=
  (tidewrackref13_one p1).bind fun t9 => ((tidewrackref13_build K p0 t9 0).bind fun t21 => (some t21))

/-! tidewrack/tidewrackref13.Cut -/
def tidewrackref13_Cut (K : Nat) (p0 : List T30) (p1 : T30) : Option (List T30) :=
  (tidewrackref13_one p1).bind fun t9 => ((tidewrackref13_build K p0 t9 1).bind fun t21 => (some t21))

/-! tidewrack/tidewrackref21.Want -/
def tidewrackref21_Want_j1 (p0 : T27) (l139 : List T30) : Option T27 :=
  some (⟨p0.Most, p0.Every, 0, l139⟩ : T27)
def tidewrackref21_Want_l2 (K : Nat) (p0 : T27) (p2 : List T30) : Nat → (List T30) → Int → Option T27
  | 0, _, _ => none
  | k209 + 1, l178, x181 => bif (decide (x181 < ((p2).length : Int))) then (if 0 ≤ x181 ∧ x181 < ((p2).length : Int) then ((tidewrackref13_Cut K l178 (rdD zT30 p2 x181)).bind fun t226 => ((tidewrackref21_Want_l2 K p0 p2 k209) t226 (IntKind.wrap .i64 (x181 + 1)))) else none) else (tidewrackref21_Want_j1 p0 l178)
def tidewrackref21_Want (K : Nat) (p0 : T27) (p1 : T30) (p2 : List T30) : Option T27 :=
  (tidewrackref13_Add K ([] : List T30) (⟨(mxI 0 (mnI p1.From 1152921504606846976)), (mnI (mxI 0 (mnI p1.To 1152921504606846976)) (IntKind.wrap .i64 ((mxI 0 (mnI p1.From 1152921504606846976)) + p0.Most)))⟩ : T30)).bind fun t22 => (tidewrackref21_Want_l2 K p0 p2 K t22 0)

/-! tidewrack/tidewrackref21.Count -/
def tidewrackref21_Count_j1 (x51 : Int) : Option Int :=
  some x51
def tidewrackref21_Count_l2 (p0 : List T30) : Nat → Int → Int → Option Int
  | 0, _, _ => none
  | k82 + 1, x68, x69 => bif (decide (x69 < ((p0).length : Int))) then (if 0 ≤ x69 ∧ x69 < ((p0).length : Int) then ((tidewrackref21_Count_l2 p0 k82) (IntKind.wrap .i64 (x68 + (IntKind.wrap .i64 (((rdD zT30 p0 x69).To) - ((rdD zT30 p0 x69).From))))) (IntKind.wrap .i64 (x69 + 1))) else none) else (tidewrackref21_Count_j1 x68)
def tidewrackref21_Count (K : Nat) (p0 : List T30) : Option Int :=
  tidewrackref21_Count_l2 p0 K 0 0

/-! tidewrack/tidewrackref21.Got -/
def tidewrackref21_Got (K : Nat) (p0 : T27) (p1 : Int) : Option (T27 × Bool) :=
  (tidewrackref13_Has K p0.L p1).bind fun t14 => (bif (!t14) then (some (p0, false)) else ((tidewrackref13_Cut K p0.L (⟨p1, (IntKind.wrap .i64 (p1 + 1))⟩ : T30)).bind fun t23 => (some ((⟨p0.Most, p0.Every, p0.Due, t23⟩ : T27), true))))

/-! tidewrack/tidewrackref13.In -/
def tidewrackref13_In (K : Nat) (p0 : List T30) (p1 : T30) : Option (List T30) :=
  (tidewrackref13_one p1).bind fun t9 => ((tidewrackref13_build K p0 t9 2).bind fun t21 => (some t21))

/-! tidewrack/tidewrackref21.Ask -/
def tidewrackref21_Ask_j1 (p0 : T27) (p1 : Int) (t14 : List T30) : Option (T27 × (List T30)) :=
  bif (decide (((t14).length : Int) > (8 : Int))) then (if (8 : Int) ≤ ((t14).length : Int) then (some ((⟨p0.Most, p0.Every, (IntKind.wrap .i64 (p1 + p0.Every)), p0.L⟩ : T27), (List.take (Int.toNat 8) t14))) else none) else (some ((⟨p0.Most, p0.Every, (IntKind.wrap .i64 (p1 + p0.Every)), p0.L⟩ : T27), t14))
def tidewrackref21_Ask_j2 (p0 : T27) (p1 : Int) (t14 : List T30) (x67 : Bool) : Option (T27 × (List T30)) :=
  bif x67 then (some (p0, ([] : List T30))) else (tidewrackref21_Ask_j1 p0 p1 t14)
def tidewrackref21_Ask (K : Nat) (p0 : T27) (p1 : Int) (p2 : Int) : Option (T27 × (List T30)) :=
  (tidewrackref13_In K p0.L (⟨0, p2⟩ : T30)).bind fun t14 => (bif (((t14).length : Int) == (0 : Int)) then (tidewrackref21_Ask_j2 p0 p1 t14 true) else (tidewrackref21_Ask_j2 p0 p1 t14 (decide (p1 < p0.Due))))

/-! tidewrack/tidewracklaw13.Same -/
def tidewracklaw13_Same_j1 : Option Bool :=
  some true
def tidewracklaw13_Same_l2 (p0 : List T30) (p1 : List T30) : Nat → Int → Option Bool
  | 0, _ => none
  | k102 + 1, x84 => bif (decide (x84 < ((p1).length : Int))) then (if 0 ≤ x84 ∧ x84 < ((p0).length : Int) then (if 0 ≤ x84 ∧ x84 < ((p1).length : Int) then (bif (!(eqT30 (rdD zT30 p0 x84) (rdD zT30 p1 x84))) then (some false) else ((tidewracklaw13_Same_l2 p0 p1 k102) (IntKind.wrap .i64 (x84 + 1)))) else none) else none) else (tidewracklaw13_Same_j1)
def tidewracklaw13_Same (K : Nat) (p0 : List T30) (p1 : List T30) : Option Bool :=
  bif (((p0).length : Int) != ((p1).length : Int)) then (some false) else (tidewracklaw13_Same_l2 p0 p1 K 0)

/-! tidewrack/tidewracklaw21.do -/
def tidewracklaw21_do_j1 (p0 : T50) (p1 : T27) : Option (T27 × Bool × T50) :=
  (fetch_Fetch_Reset p0).bind fun t521 => (some ((⟨p1.Most, p1.Every, 0, ([] : List T30)⟩ : T27), true, t521))
def tidewracklaw21_do_j2 (K : Nat) (p0 : T50) (p1 : T27) (p2 : T32) (l840 : List T30) : Option (T27 × Bool × T50) :=
  (tidewrackref21_Want K p1 (⟨p2.Span_From, p2.Span_To⟩ : T30) (List.drop 0 (List.take (Int.toNat (mnI ((p2.Have).length : Int) 6)) p2.Have))).bind fun t847 => ((fetch_Fetch_Want K p0 (⟨p2.Span_From, p2.Span_To⟩ : T30) l840).bind fun t921 => ((tidewrackref21_Count K t847.L).bind fun t936 => (some (t847, (t921.1 == t936), t921.2))))
def tidewracklaw21_do_l3 (K : Nat) (p0 : T50) (p1 : T27) (p2 : T32) : Nat → (List T30) → Int → Option (T27 × Bool × T50)
  | 0, _, _ => none
  | k1005 + 1, l975, x978 => bif (decide (x978 < (((List.drop 0 (List.take (Int.toNat (mnI ((p2.Have).length : Int) 6)) p2.Have))).length : Int))) then (if 0 ≤ x978 ∧ x978 < (((List.drop 0 (List.take (Int.toNat (mnI ((p2.Have).length : Int) 6)) p2.Have))).length : Int) then (if (l975).length + (([(rdD zT30 (List.drop 0 (List.take (Int.toNat (mnI ((p2.Have).length : Int) 6)) p2.Have)) x978)] : List T30)).length ≤ 1000000000 then ((tidewracklaw21_do_l3 K p0 p1 p2 k1005) (l975 ++ ([(rdD zT30 (List.drop 0 (List.take (Int.toNat (mnI ((p2.Have).length : Int) 6)) p2.Have)) x978)] : List T30)) (IntKind.wrap .i64 (x978 + 1))) else none) else none) else (tidewracklaw21_do_j2 K p0 p1 p2 l975)
def tidewracklaw21_do (K : Nat) (p0 : T50) (p1 : T27) (p2 : T32) (p3 : Int) : Option (T27 × Bool × T50) :=
  bif (p2.Kind == (0 : Int)) then (if 0 ≤ (mnI ((p2.Have).length : Int) 6) then (if (mnI ((p2.Have).length : Int) 6) ≤ ((p2.Have).length : Int) then (tidewracklaw21_do_l3 K p0 p1 p2 K ([] : List T30) 0) else none) else none) else (bif (p2.Kind == (1 : Int)) then ((tidewrackref21_Got K p1 p2.N).bind fun t658 => ((fetch_Fetch_Got K p0 p2.N).bind fun t716 => (some (t658.1, (t716.1 == t658.2), t716.2)))) else (bif (p2.Kind == (2 : Int)) then ((tidewrackref21_Ask K p1 p3 p2.N).bind fun t542 => ((fetch_Fetch_Ask K p0 p3 p2.N).bind fun t628 => ((tidewracklaw13_Same K t628.1 t542.2).bind fun t647 => (some (t542.1, t647, t628.2))))) else (tidewracklaw21_do_j1 p0 p1)))

/-! (*tidewrack/spans.Set).Spans -/
def spans_Set_Spans (p0 : T48) : Option (List T30) :=
  (slices_Clone p0.l).bind fun t4 => (some t4)

/-! (*tidewrack/fetch.Fetch).Wanted -/
def fetch_Fetch_Wanted (p0 : T50) : Option (List T30) :=
  (spans_Set_Spans (⟨p0.want_l⟩ : T48)).bind fun t4 => (some t4)

/-! tidewrack/tidewracklaw21.FetchPlays -/
def tidewracklaw21_FetchPlays_j1 : Option Bool :=
  some true
def tidewracklaw21_FetchPlays_j4 (K : Nat) (p2 : List T32) (x3337 : Int) (l3342 : List T30) (x3345 : Int) (x3346 : Int) (lp4160 : Int → Int → Int → (List T30) → Int → Int → Int → (List T30) → Int → Int → Option Bool) (t4179 : T50) (x4457 : Int) (x4458 : Int) (x4459 : Int) (l4464 : List T30) (x4469 : Int) (x4470 : Int) (x4471 : Int) (l4474 : List T30) (x4477 : Bool) : Option Bool :=
  bif (!x4477) then (some false) else ((fetch_Fetch_Wanted t4179).bind fun t4534 => ((tidewracklaw13_Same K t4534 l3342).bind fun t4546 => (bif (!t4546) then (some false) else ((fetch_Fetch_Wanted (⟨x4457, x4458, x4459, l4464⟩ : T50)).bind fun t4555 => ((tidewracklaw13_Same K t4555 l4474).bind fun t4567 => (bif (!t4567) then (some false) else ((tidewrackref21_Count K l4474).bind fun t4576 => (bif (decide (t4576 > x3337)) then (some false) else (lp4160 x4457 x4458 x4459 l4464 x4469 x4470 x4471 l4474 (IntKind.wrap .i64 (x3345 + (bits .and .i64 ((rdD zT32 p2 x3346).Later) 255))) (IntKind.wrap .i64 (x3346 + 1)))))))))))
def tidewracklaw21_FetchPlays_j3 (K : Nat) (p2 : List T32) (x3327 : Int) (x3328 : Int) (x3329 : Int) (l3334 : List T30) (x3337 : Int) (x3338 : Int) (x3339 : Int) (l3342 : List T30) (x3345 : Int) (x3346 : Int) (lp4160 : Int → Int → Int → (List T30) → Int → Int → Int → (List T30) → Int → Int → Option Bool) : Option Bool :=
  if 0 ≤ x3346 ∧ x3346 < ((p2).length : Int) then ((fetch_Fetch_Clone (⟨x3327, x3328, x3329, l3334⟩ : T50)).bind fun t4179 => ((tidewracklaw21_do K (⟨x3327, x3328, x3329, l3334⟩ : T50) (⟨x3337, x3338, x3339, l3342⟩ : T27) (rdD zT32 p2 x3346) (IntKind.wrap .i64 (x3345 + (bits .and .i64 ((rdD zT32 p2 x3346).Later) 255)))).bind fun t4805 => (tidewracklaw21_FetchPlays_j4 K p2 x3337 l3342 x3345 x3346 lp4160 t4179 t4805.2.2.most t4805.2.2.every t4805.2.2.due t4805.2.2.want_l t4805.1.Most t4805.1.Every t4805.1.Due t4805.1.L t4805.2.1))) else none
def tidewracklaw21_FetchPlays_l2 (K : Nat) (p2 : List T32) : Nat → Int → Int → Int → (List T30) → Int → Int → Int → (List T30) → Int → Int → Option Bool
  | 0, _, _, _, _, _, _, _, _, _, _ => none
  | k4159 + 1, x3327, x3328, x3329, l3334, x3337, x3338, x3339, l3342, x3345, x3346 => bif (decide (x3346 < ((p2).length : Int))) then (bif (decide (x3346 < (30 : Int))) then (tidewracklaw21_FetchPlays_j3 K p2 x3327 x3328 x3329 l3334 x3337 x3338 x3339 l3342 x3345 x3346 (tidewracklaw21_FetchPlays_l2 K p2 k4159)) else (tidewracklaw21_FetchPlays_j1)) else (tidewracklaw21_FetchPlays_j1)
def tidewracklaw21_FetchPlays (K : Nat) (p0 : Int) (p1 : Int) (p2 : List T32) : Option Bool :=
  (tidewracklaw21_awake K).bind fun t4 => (bif (!t4) then (some false) else ((fetch_New p0 p1).bind fun t13 => ((tidewrackref21_New p0 p1).bind fun t29 => (tidewracklaw21_FetchPlays_l2 K p2 K t13.most t13.every t13.due t13.want_l t29.Most t29.Every t29.Due t29.L 0 0))))

end Go.Proofs.Ytmgopcmdljhjoaa
