/- Plain functions, printed by an own program: what the walked code computes. -/
import Derived.Test.YtpciioffkjpieaaDoorZ4
set_option linter.unusedVariables false
set_option linter.unusedSimpArgs false
namespace Go.Proofs.YtpciioffkjpieaaDoor
open Go Go.Proofs.XC
structure T36 where
  Rune : Int
  Style : Int
abbrev zT36 : T36 := ⟨0, 0⟩
structure T129 where
  l : List T36
  at_ : Int
abbrev zT129 : T129 := ⟨[], 0⟩
structure T118 where
  most : Int
  now : Int
  l : M T129
structure T97 where
  from_ : Int
  to : Int
abbrev zT97 : T97 := ⟨0, 0⟩
structure T67 where
  From : Int
  To : Int
abbrev zT67 : T67 := ⟨0, 0⟩
structure T63 where
  l : List T67
structure T54 where
  Lines : List (List T36)
  From : Int
  To : Int
  W : Int
def eqT36 (x y : T36) : Bool := ((x.Rune == y.Rune) && ((x.Style == y.Style) && true))
namespace WF
def wfBool (_ : Bool) : Prop := True
def wfStr (x : ByteArray) : Prop := x.size ≤ maxLen
def wfi64 (x : Int) : Prop := (Lit.int .i64 x).wf = true
def wfi32 (x : Int) : Prop := (Lit.int .i32 x).wf = true
def wfu8 (x : Int) : Prop := (Lit.int .u8 x).wf = true
def wfu32 (x : Int) : Prop := (Lit.int .u32 x).wf = true
def wfu64 (x : Int) : Prop := (Lit.int .u64 x).wf = true
def wfi8 (x : Int) : Prop := (Lit.int .i8 x).wf = true
def wfi16 (x : Int) : Prop := (Lit.int .i16 x).wf = true
def wfu16 (x : Int) : Prop := (Lit.int .u16 x).wf = true
def wfT36 (x : T36) : Prop := (Lit.int .i32 x.Rune).wf = true ∧ (Lit.int .i64 x.Style).wf = true
def wfT129 (x : T129) : Prop := (∀ y ∈ x.l, wfT36 y) ∧ x.l.length ≤ maxLen ∧ (Lit.int .i64 x.at_).wf = true
def wfT97 (x : T97) : Prop := (Lit.int .i32 x.from_).wf = true ∧ (Lit.int .i32 x.to).wf = true
def wfT67 (x : T67) : Prop := (Lit.int .i64 x.From).wf = true ∧ (Lit.int .i64 x.To).wf = true
def wfT63 (x : T63) : Prop := (∀ y ∈ x.l, wfT67 y) ∧ x.l.length ≤ maxLen
def wfT54 (x : T54) : Prop := (∀ y ∈ x.Lines, (∀ z ∈ y, wfT36 z) ∧ y.length ≤ maxLen) ∧ x.Lines.length ≤ maxLen ∧ (Lit.int .i64 x.From).wf = true ∧ (Lit.int .i64 x.To).wf = true ∧ (Lit.int .i64 x.W).wf = true
end WF
def glob0 : List T97 := [⟨(-2147483648), 31⟩, ⟨127, 159⟩, ⟨768, 879⟩, ⟨6832, 6911⟩, ⟨7616, 7679⟩, ⟨8203, 8207⟩, ⟨8400, 8447⟩, ⟨55296, 57343⟩, ⟨65024, 65039⟩, ⟨65056, 65071⟩, ⟨65279, 65279⟩, ⟨917760, 917999⟩, ⟨1114112, 2147483647⟩]
def glob1 : List T97 := [⟨4352, 4447⟩, ⟨11904, 12350⟩, ⟨12353, 13311⟩, ⟨13312, 19903⟩, ⟨19968, 40959⟩, ⟨40960, 42191⟩, ⟨44032, 55203⟩, ⟨63744, 64255⟩, ⟨65072, 65135⟩, ⟨65280, 65376⟩, ⟨65504, 65510⟩, ⟨127744, 128591⟩, ⟨129280, 129535⟩, ⟨131072, 262141⟩]
/-! tidewrack/cache.New -/
noncomputable def cache_New (p0 : Int) : Option T118 :=
  some (⟨(mxI 1 (mnI p0 65536)), 0, (M.new : M T129)⟩ : T118)

/-! tidewrack/flow.runes -/
noncomputable def flow_runes_j1 (l103 : List Int) : Option (List Int) :=
  some l103
noncomputable def flow_runes_l2 (p0 : List T36) : Nat → (List Int) → Int → Option (List Int)
  | 0, _, _ => none
  | k168 + 1, l138, x141 => bif (decide (x141 < ((p0).length : Int))) then (if 0 ≤ x141 ∧ x141 < ((p0).length : Int) then (if (l138).length + (([(rdD zT36 p0 x141).Rune] : List Int)).length ≤ 1000000000 then ((flow_runes_l2 p0 k168) (l138 ++ ([(rdD zT36 p0 x141).Rune] : List Int)) (IntKind.wrap .i64 (x141 + 1))) else none) else none) else (flow_runes_j1 l138)
noncomputable def flow_runes (K : Nat) (p0 : List T36) : Option (List Int) :=
  flow_runes_l2 p0 K ([] : List Int) 0

/-! tidewrack/wide.in -/
noncomputable def wide_in_j1 (p0 : List T97) (p1 : Int) (x30 : Int) : Option Bool :=
  bif (decide (x30 < ((p0).length : Int))) then (if 0 ≤ x30 ∧ x30 < ((p0).length : Int) then (some (decide (((rdD zT97 p0 x30).from_) ≤ p1))) else none) else (some false)
noncomputable def wide_in_l2 (p0 : List T97) (p1 : Int) : Nat → Int → Int → Option Bool
  | 0, _, _ => none
  | k50 + 1, x43, x44 => bif (decide (x43 < x44)) then (if 0 ≤ (IntKind.wrap .i64 (Int.tdiv (IntKind.wrap .i64 (x43 + x44)) 2)) ∧ (IntKind.wrap .i64 (Int.tdiv (IntKind.wrap .i64 (x43 + x44)) 2)) < ((p0).length : Int) then (bif (decide (((rdD zT97 p0 (IntKind.wrap .i64 (Int.tdiv (IntKind.wrap .i64 (x43 + x44)) 2))).to) < p1)) then ((wide_in_l2 p0 p1 k50) (IntKind.wrap .i64 ((IntKind.wrap .i64 (Int.tdiv (IntKind.wrap .i64 (x43 + x44)) 2)) + 1)) x44) else ((wide_in_l2 p0 p1 k50) x43 (IntKind.wrap .i64 (Int.tdiv (IntKind.wrap .i64 (x43 + x44)) 2)))) else none) else (wide_in_j1 p0 p1 x43)
noncomputable def wide_in (K : Nat) (p0 : List T97) (p1 : Int) : Option Bool :=
  wide_in_l2 p0 p1 K 0 ((p0).length : Int)

/-! tidewrack/wide.Of -/
noncomputable def wide_Of (K : Nat) (p0 : Int) : Option Int :=
  (wide_in K glob0 p0).bind fun t4 => (bif t4 then (some 0) else ((wide_in K glob1 p0).bind fun t13 => (bif t13 then (some 2) else (some 1))))

/-! tidewrack/wide.columns$1 -/
noncomputable def wide_columns_1_l1 (K : Nat) (p1 : List Int) : Nat → Int → Int → Option (List (Int × Int))
  | 0, _, _ => none
  | k44 + 1, x24, x25 => bif (decide (x25 < ((p1).length : Int))) then (if 0 ≤ x25 ∧ x25 < ((p1).length : Int) then ((wide_Of K (rdD 0 p1 x25)).bind fun t53 => (Option.map (List.cons (x25, (IntKind.wrap .i64 (x24 + t53)))) ((wide_columns_1_l1 K p1 k44) (IntKind.wrap .i64 (x24 + t53)) (IntKind.wrap .i64 (x25 + 1))))) else none) else (some [])
noncomputable def wide_columns_1 (K : Nat) (p1 : List Int) : Option (List (Int × Int)) :=
  wide_columns_1_l1 K p1 K 0 0

/-! tidewrack/wide.columns -/
noncomputable def wide_columns (p0 : List Int) : Option Unit :=
  some ()

/-! tidewrack/wide.Fit -/
noncomputable def wide_Fit_j1 (x83 : Int) : Option Int :=
  some x83
noncomputable def wide_Fit_x3 (x137 : Int) : Option Int :=
  wide_Fit_j1 x137
noncomputable def wide_Fit_r2 (p0 : Int) : List (Int × Int) → Int → Option Int
  | [], x120 => wide_Fit_j1 x120
  | x99 :: rest100, x120 => bif (decide (x99.2 > p0)) then (wide_Fit_x3 x120) else ((wide_Fit_r2 p0 rest100) (IntKind.wrap .i64 (x99.1 + 1)))
noncomputable def wide_Fit (K : Nat) (p0 : Int) (p1 : List Int) : Option Int :=
  (wide_columns p1).bind fun t90 => ((wide_columns_1 K p1).bind fun ys97 => (wide_Fit_r2 p0 ys97 0))

/-! tidewrack/flow.rows$1 -/
noncomputable def flow_rows_1_l1 (K : Nat) (p1 : Int) : Nat → (List T36) → Option (List (List T36))
  | 0, _ => none
  | k193 + 1, l99 => (flow_runes K l99).bind fun t241 => ((wide_Fit K p1 t241).bind fun t253 => (bif (decide ((mxI 1 t253) ≥ ((l99).length : Int))) then (Option.map (List.cons l99) (some [])) else (if 0 ≤ (mxI 1 t253) then (if (mxI 1 t253) ≤ ((l99).length : Int) then (Option.map (List.cons (List.drop 0 (List.take (Int.toNat (mxI 1 t253)) l99))) ((flow_rows_1_l1 K p1 k193) (List.drop (Int.toNat (mxI 1 t253)) (List.take (l99).length l99)))) else none) else none)))
noncomputable def flow_rows_1 (K : Nat) (p1 : Int) (p2 : List T36) : Option (List (List T36)) :=
  flow_rows_1_l1 K p1 K p2

/-! tidewrack/flow.rows -/
noncomputable def flow_rows (p0 : List T36) (p1 : Int) : Option Int :=
  some (mxI 2 (mnI p1 1000))

/-! slices.Clone[[]tidewrack/row.Glyph,tidewrack/row.Glyph] -/
noncomputable def slices_Clone (p0 : List T36) : Option (List T36) :=
  if (([] : List T36)).length + (p0).length ≤ 1000000000 then (some (([] : List T36) ++ p0)) else none

/-! tidewrack/flow.Cut -/
noncomputable def flow_Cut_j1 (l417 : List (List T36)) : Option (List (List T36)) :=
  some l417
noncomputable def flow_Cut_r2 : List (List T36) → (List (List T36)) → Option (List (List T36))
  | [], l573 => flow_Cut_j1 l573
  | x437 :: rest438, l573 => (slices_Clone x437).bind fun t731 => (if (l573).length + (([t731] : List (List T36))).length ≤ 1000000000 then ((flow_Cut_r2 rest438) (l573 ++ ([t731] : List (List T36)))) else none)
noncomputable def flow_Cut (K : Nat) (p0 : List T36) (p1 : Int) : Option (List (List T36)) :=
  (flow_rows p0 p1).bind fun t426 => ((flow_rows_1 K t426 p0).bind fun ys435 => (flow_Cut_r2 ys435 ([] : List (List T36))))

/-! (*tidewrack/cache.Cache).touch -/
noncomputable def cache_Cache_touch (p0 : T118) (p1 : Int) (p2 : List T36) : Option T118 :=
  if M.isNil p0.l = false then (some (⟨p0.most, (IntKind.wrap .i64 (p0.now + 1)), (M.put p0.l p1 (⟨p2, (IntKind.wrap .i64 (p0.now + 1))⟩ : T129))⟩ : T118)) else none

/-! maps.Keys[map[int]tidewrack/cache.entry,int,tidewrack/cache.entry] -/
noncomputable def maps_Keys' (p0 : M T129) : Option Unit :=
  some ()

/-! cmp.isNaN[int] -/
noncomputable def cmp_isNaN (p0 : Int) : Option Bool :=
  some (p0 != p0)

/-! cmp.Compare[int] -/
noncomputable def cmp_Compare (p0 : Int) (p1 : Int) : Option Int :=
  (cmp_isNaN p0).bind fun t4 => ((cmp_isNaN p1).bind fun t12 => (bif t4 then (bif t12 then (some 0) else (some (-1))) else (bif t12 then (some 1) else (bif (decide (p0 < p1)) then (some (-1)) else (bif (decide (p0 > p1)) then (some 1) else (some 0))))))

/-! (*tidewrack/cache.Cache).Put$1 -/
noncomputable def cache_Cache_Put_1 (p0 : Int) (p1 : Int) (p2 : T118) : Option Int :=
  (cmp_Compare ((M.get zT129 p2.l p0).at_) ((M.get zT129 p2.l p1).at_)).bind fun t32 => (some t32)

/-! slices.MinFunc[[]int,int] -/
noncomputable def slices_MinFunc_of52_j2 (x59 : Int) : Option Int :=
  some x59
noncomputable def slices_MinFunc_of52_l3 (p0 : List Int) (p1_0 : T118) : Nat → Int → Int → Option Int
  | 0, _, _ => none
  | k90 + 1, x76, x77 => bif (decide (x77 < ((p0).length : Int))) then (if 0 ≤ x77 ∧ x77 < ((p0).length : Int) then ((cache_Cache_Put_1 (rdD 0 p0 x77) x76 p1_0).bind fun t98 => (bif (decide (t98 < (0 : Int))) then ((slices_MinFunc_of52_l3 p0 p1_0 k90) (rdD 0 p0 x77) (IntKind.wrap .i64 (x77 + 1))) else ((slices_MinFunc_of52_l3 p0 p1_0 k90) x76 (IntKind.wrap .i64 (x77 + 1))))) else none) else (slices_MinFunc_of52_j2 x76)
noncomputable def slices_MinFunc_of52_j1 (K : Nat) (p0 : List Int) (p1_0 : T118) : Option Int :=
  if 0 ≤ (0 : Int) ∧ (0 : Int) < ((p0).length : Int) then (slices_MinFunc_of52_l3 p0 p1_0 K (rdD 0 p0 0) 1) else none
noncomputable def slices_MinFunc_of52 (K : Nat) (p0 : List Int) (p1_0 : T118) : Option Int :=
  bif (decide (((p0).length : Int) < (1 : Int))) then (none) else (slices_MinFunc_of52_j1 K p0 p1_0)

/-! (*tidewrack/cache.Cache).Put -/
noncomputable def cache_Cache_Put_j1 (K : Nat) (p0 : T118) (p1 : Int) (p2 : List T36) : Option (Int × Bool × T118) :=
  (slices_Clone p2).bind fun t82 => ((cache_Cache_touch p0 p1 t82).bind fun t96 => (bif (decide (((t96.l).length : Int) ≤ t96.most)) then (some (0, false, t96)) else ((maps_Keys' t96.l).bind fun t114 => (if KeysOK t96.l then (ordP (fun l_ => List.Perm l_ (M.keys t96.l)) fun ks127 => ((slices_MinFunc_of52 K ks127 t96).bind fun t137 => (some (t137, true, (⟨t96.most, t96.now, (M.del t96.l t137)⟩ : T118))))) else none))))
noncomputable def cache_Cache_Put_j2 (K : Nat) (p0 : T118) (p1 : Int) (p2 : List T36) (x153 : Bool) : Option (Int × Bool × T118) :=
  bif x153 then (some (0, false, p0)) else (cache_Cache_Put_j1 K p0 p1 p2)
noncomputable def cache_Cache_Put (K : Nat) (p0 : T118) (p1 : Int) (p2 : List T36) : Option (Int × Bool × T118) :=
  bif (decide (p1 < (0 : Int))) then (cache_Cache_Put_j2 K p0 p1 p2 true) else (cache_Cache_Put_j2 K p0 p1 p2 (decide (p1 > (1152921504606846976 : Int))))

/-! (tidewrack/spans.Span).fit -/
noncomputable def spans_Span_fit (p0 : T67) : Option T67 :=
  some (⟨(mxI (-1152921504606846976) (mnI p0.From 1152921504606846976)), (mxI (-1152921504606846976) (mnI p0.To 1152921504606846976))⟩ : T67)

/-! (tidewrack/spans.Span).empty -/
noncomputable def spans_Span_empty (p0 : T67) : Option Bool :=
  some (decide (p0.To ≤ p0.From))

/-! slices.Grow[[]tidewrack/spans.Span,tidewrack/spans.Span] -/
noncomputable def slices_Grow_j1 (p1 : Int) : Option (List T67) :=
  bif (decide ((IntKind.wrap .i64 (p1 - (IntKind.wrap .i64 (0 - ((([] : List T67)).length : Int))))) > (0 : Int))) then (if 0 < (IntKind.wrap .i64 (p1 - (IntKind.wrap .i64 (0 - ((([] : List T67)).length : Int))))) then (if (IntKind.wrap .i64 (p1 - (IntKind.wrap .i64 (0 - ((([] : List T67)).length : Int))))) ≤ 1000000000 then (some ([] : List T67)) else none) else none) else (some ([] : List T67))
noncomputable def slices_Grow (p1 : Int) : Option (List T67) :=
  bif (decide (p1 < (0 : Int))) then (none) else (slices_Grow_j1 p1)

/-! slices.Concat[[]tidewrack/spans.Span,tidewrack/spans.Span] -/
noncomputable def slices_Concat_j2 (l134 : List T67) : Option (List T67) :=
  some l134
noncomputable def slices_Concat_l3 (p0 : List (List T67)) : Nat → (List T67) → Int → Option (List T67)
  | 0, _, _ => none
  | k181 + 1, l160, x163 => bif (decide (x163 < ((p0).length : Int))) then (if 0 ≤ x163 ∧ x163 < ((p0).length : Int) then (if (l160).length + ((rdD [] p0 x163)).length ≤ 1000000000 then ((slices_Concat_l3 p0 k181) (l160 ++ (rdD [] p0 x163)) (IntKind.wrap .i64 (x163 + 1))) else none) else none) else (slices_Concat_j2 l160)
noncomputable def slices_Concat_j1 (K : Nat) (p0 : List (List T67)) (x45 : Int) : Option (List T67) :=
  (slices_Grow x45).bind fun t50 => (slices_Concat_l3 p0 K t50 0)
noncomputable def slices_Concat_l4 (K : Nat) (p0 : List (List T67)) : Nat → Int → Int → Option (List T67)
  | 0, _, _ => none
  | k225 + 1, x213, x214 => bif (decide (x214 < ((p0).length : Int))) then (if 0 ≤ x214 ∧ x214 < ((p0).length : Int) then (bif (decide ((IntKind.wrap .i64 (x213 + (((rdD [] p0 x214)).length : Int))) < (0 : Int))) then (none) else ((slices_Concat_l4 K p0 k225) (IntKind.wrap .i64 (x213 + (((rdD [] p0 x214)).length : Int))) (IntKind.wrap .i64 (x214 + 1)))) else none) else (slices_Concat_j1 K p0 x213)
noncomputable def slices_Concat (K : Nat) (p0 : List (List T67)) : Option (List T67) :=
  slices_Concat_l4 K p0 K 0 0

/-! (*tidewrack/spans.Set).Add -/
noncomputable def spans_Set_Add_j2 (x6584 : Int) (lp13157 : (List T67) → Int → Option T63) (l16449 : List T67) : Option T63 :=
  lp13157 l16449 (IntKind.wrap .i64 (x6584 + 1))
noncomputable def spans_Set_Add_j3 (x6584 : Int) (lp13157 : (List T67) → Int → Option T63) (x18102 : T67) (l18105 : List T67) : Option T63 :=
  if (l18105).length + (([x18102] : List T67)).length ≤ 1000000000 then (spans_Set_Add_j2 x6584 lp13157 (l18105 ++ ([x18102] : List T67))) else none
noncomputable def spans_Set_Add_j5 (x6584 : Int) (lp13157 : (List T67) → Int → Option T63) (l19487 : List T67) : Option T63 :=
  spans_Set_Add_j2 x6584 lp13157 l19487
noncomputable def spans_Set_Add_l4 (K : Nat) (l6577 : List T67) (x6584 : Int) (lp13157 : (List T67) → Int → Option T63) : Nat → T67 → (List T67) → Int → Option T63
  | 0, _, _, _ => none
  | k19195 + 1, x18656, l18659, x18662 => bif (decide (x18662 < ((l6577).length : Int))) then (if 0 ≤ x18662 ∧ x18662 < ((l6577).length : Int) then (bif (decide (((rdD zT67 l6577 x18662).To) < x18656.From)) then (if (l18659).length + (([(rdD zT67 l6577 x18662)] : List T67)).length ≤ 1000000000 then ((spans_Set_Add_l4 K l6577 x6584 lp13157 k19195) x18656 (l18659 ++ ([(rdD zT67 l6577 x18662)] : List T67)) (IntKind.wrap .i64 (x18662 + 1))) else none) else (bif (decide (((rdD zT67 l6577 x18662).From) > x18656.To)) then (if 0 ≤ x18662 then (if x18662 ≤ ((l6577).length : Int) then ((slices_Concat K ([l18659, ([x18656] : List T67), (List.drop (Int.toNat x18662) (List.take (l6577).length l6577))] : List (List T67))).bind fun t19549 => (spans_Set_Add_j5 x6584 lp13157 t19549)) else none) else none) else ((spans_Set_Add_l4 K l6577 x6584 lp13157 k19195) (⟨(mnI x18656.From ((rdD zT67 l6577 x18662).From)), (mxI x18656.To ((rdD zT67 l6577 x18662).To))⟩ : T67) l18659 (IntKind.wrap .i64 (x18662 + 1))))) else none) else (spans_Set_Add_j3 x6584 lp13157 x18656 l18659)
noncomputable def spans_Set_Add_l1 (K : Nat) (p1 : List T67) : Nat → (List T67) → Int → Option T63
  | 0, _, _ => none
  | k13156 + 1, l6577, x6584 => bif (decide (x6584 < ((p1).length : Int))) then (if 0 ≤ x6584 ∧ x6584 < ((p1).length : Int) then ((spans_Span_fit (rdD zT67 p1 x6584)).bind fun t16470 => ((spans_Span_empty t16470).bind fun t16481 => (bif t16481 then (spans_Set_Add_j2 x6584 (spans_Set_Add_l1 K p1 k13156) l6577) else (spans_Set_Add_l4 K l6577 x6584 (spans_Set_Add_l1 K p1 k13156) K t16470 ([] : List T67) 0)))) else none) else (some (⟨l6577⟩ : T63))
noncomputable def spans_Set_Add (K : Nat) (p0 : T63) (p1 : List T67) : Option T63 :=
  spans_Set_Add_l1 K p1 K p0.l 0

/-! slices.Clone[[]tidewrack/spans.Span,tidewrack/spans.Span] -/
noncomputable def slices_Clone' (p0 : List T67) : Option (List T67) :=
  if (([] : List T67)).length + (p0).length ≤ 1000000000 then (some (([] : List T67) ++ p0)) else none

/-! (*tidewrack/spans.Set).Spans -/
noncomputable def spans_Set_Spans (p0 : T63) : Option (List T67) :=
  (slices_Clone' p0.l).bind fun t4 => (some t4)

/-! (*tidewrack/cache.Cache).Spans -/
noncomputable def cache_Cache_Spans_j1 (l124 : List T67) : Option (List T67) :=
  (spans_Set_Spans (⟨l124⟩ : T63)).bind fun t131 => (some t131)
noncomputable def cache_Cache_Spans_l2 (K : Nat) : Nat → (List T67) → (List Int) → Option (List T67)
  | 0, _, _ => none
  | k215 + 1, l179, l184 => bif (List.isEmpty l184) then (cache_Cache_Spans_j1 l179) else (anyP l184 fun kk218 => ((spans_Set_Add K (⟨l179⟩ : T63) ([(⟨kk218, (IntKind.wrap .i64 (kk218 + 1))⟩ : T67)] : List T67)).bind fun t235 => ((cache_Cache_Spans_l2 K k215) t235.l (List.erase l184 kk218))))
noncomputable def cache_Cache_Spans (K : Nat) (p0 : T118) : Option (List T67) :=
  if KeysOK p0.l then (cache_Cache_Spans_l2 K K ([] : List T67) (M.keys p0.l)) else none

/-! (tidewrack/spans.Span).both -/
noncomputable def spans_Span_both (p0 : T67) (p1 : T67) : Option T67 :=
  some (⟨(mxI p0.From p1.From), (mnI p0.To p1.To)⟩ : T67)

/-! (*tidewrack/spans.Set).In -/
noncomputable def spans_Set_In_j1 (l1383 : List T67) : Option (List T67) :=
  some l1383
noncomputable def spans_Set_In_j3 (l1843 : List T67) (x1846 : Int) (lp2299 : (List T67) → Int → Option (List T67)) (x2535 : T67) : Option (List T67) :=
  (spans_Span_empty x2535).bind fun t2540 => (bif (!t2540) then (if (l1843).length + (([x2535] : List T67)).length ≤ 1000000000 then (lp2299 (l1843 ++ ([x2535] : List T67)) (IntKind.wrap .i64 (x1846 + 1))) else none) else (lp2299 l1843 (IntKind.wrap .i64 (x1846 + 1))))
noncomputable def spans_Set_In_l2 (p0 : T63) (p1 : T67) : Nat → (List T67) → Int → Option (List T67)
  | 0, _, _ => none
  | k2298 + 1, l1843, x1846 => bif (decide (x1846 < ((p0.l).length : Int))) then (if 0 ≤ x1846 ∧ x1846 < ((p0.l).length : Int) then ((spans_Span_fit p1).bind fun t2584 => ((spans_Span_both (rdD zT67 p0.l x1846) t2584).bind fun t2592 => (spans_Set_In_j3 l1843 x1846 (spans_Set_In_l2 p0 p1 k2298) t2592))) else none) else (spans_Set_In_j1 l1843)
noncomputable def spans_Set_In (K : Nat) (p0 : T63) (p1 : T67) : Option (List T67) :=
  spans_Set_In_l2 p0 p1 K ([] : List T67) 0

/-! (*tidewrack/cache.Cache).Peek -/
noncomputable def cache_Cache_Peek (p0 : T118) (p1 : Int) : Option ((List T36) × Bool) :=
  (slices_Clone ((M.get zT129 p0.l p1).l)).bind fun t17 => (some (t17, (M.has p0.l p1)))

/-! (*tidewrack/cache.Cache).Get -/
noncomputable def cache_Cache_Get (p0 : T118) (p1 : Int) : Option ((List T36) × Bool × T118) :=
  bif (M.has p0.l p1) then ((cache_Cache_touch p0 p1 ((M.get zT129 p0.l p1).l)).bind fun t30 => ((cache_Cache_Peek t30 p1).bind fun t43 => (some (t43.1, t43.2, t30)))) else ((cache_Cache_Peek p0 p1).bind fun t18 => (some (t18.1, t18.2, p0)))

/-! slices.Grow[[]tidewrack/row.Glyph,tidewrack/row.Glyph] -/
noncomputable def slices_Grow'_j1 (p1 : Int) : Option (List T36) :=
  bif (decide ((IntKind.wrap .i64 (p1 - (IntKind.wrap .i64 (0 - ((([] : List T36)).length : Int))))) > (0 : Int))) then (if 0 < (IntKind.wrap .i64 (p1 - (IntKind.wrap .i64 (0 - ((([] : List T36)).length : Int))))) then (if (IntKind.wrap .i64 (p1 - (IntKind.wrap .i64 (0 - ((([] : List T36)).length : Int))))) ≤ 1000000000 then (some ([] : List T36)) else none) else none) else (some ([] : List T36))
noncomputable def slices_Grow' (p1 : Int) : Option (List T36) :=
  bif (decide (p1 < (0 : Int))) then (none) else (slices_Grow'_j1 p1)

/-! slices.Concat[[]tidewrack/row.Glyph,tidewrack/row.Glyph] -/
noncomputable def slices_Concat'_j2 (l134 : List T36) : Option (List T36) :=
  some l134
noncomputable def slices_Concat'_l3 (p0 : List (List T36)) : Nat → (List T36) → Int → Option (List T36)
  | 0, _, _ => none
  | k181 + 1, l160, x163 => bif (decide (x163 < ((p0).length : Int))) then (if 0 ≤ x163 ∧ x163 < ((p0).length : Int) then (if (l160).length + ((rdD [] p0 x163)).length ≤ 1000000000 then ((slices_Concat'_l3 p0 k181) (l160 ++ (rdD [] p0 x163)) (IntKind.wrap .i64 (x163 + 1))) else none) else none) else (slices_Concat'_j2 l160)
noncomputable def slices_Concat'_j1 (K : Nat) (p0 : List (List T36)) (x45 : Int) : Option (List T36) :=
  (slices_Grow' x45).bind fun t50 => (slices_Concat'_l3 p0 K t50 0)
noncomputable def slices_Concat'_l4 (K : Nat) (p0 : List (List T36)) : Nat → Int → Int → Option (List T36)
  | 0, _, _ => none
  | k225 + 1, x213, x214 => bif (decide (x214 < ((p0).length : Int))) then (if 0 ≤ x214 ∧ x214 < ((p0).length : Int) then (bif (decide ((IntKind.wrap .i64 (x213 + (((rdD [] p0 x214)).length : Int))) < (0 : Int))) then (none) else ((slices_Concat'_l4 K p0 k225) (IntKind.wrap .i64 (x213 + (((rdD [] p0 x214)).length : Int))) (IntKind.wrap .i64 (x214 + 1)))) else none) else (slices_Concat'_j1 K p0 x213)
noncomputable def slices_Concat' (K : Nat) (p0 : List (List T36)) : Option (List T36) :=
  slices_Concat'_l4 K p0 K 0 0

/-! tidewrack/flow.Join -/
noncomputable def flow_Join (K : Nat) (p0 : List (List T36)) : Option (List T36) :=
  (slices_Concat' K p0).bind fun t4 => (some t4)

/-! (*tidewrack/cache.Cache).Len -/
noncomputable def cache_Cache_Len (p0 : T118) : Option Int :=
  some ((p0.l).length : Int)

/-! tidewrack/tidewracktop.TidewrackHand -/
noncomputable def tidewracktop_TidewrackHand_j3 (p0 : T54) (x9128 : Int) (x9129 : Int) (l9132 : M T129) (x9135 : Int) : Option Bool :=
  bif (x9135 == (mxI 0 (IntKind.wrap .i64 ((mnI (bits .and .i64 p0.To 31) (mnI ((p0.Lines).length : Int) 20)) - (bits .and .i64 p0.From 31))))) then ((cache_Cache_Len (⟨x9128, x9129, l9132⟩ : T118)).bind fun t9141 => (some (t9141 == (mnI ((p0.Lines).length : Int) 20)))) else (some false)
noncomputable def tidewracktop_TidewrackHand_j5 (x12064 : Int) (lp14953 : Int → Int → (M T129) → Int → Int → Option Bool) (x16405 : Int) (x16406 : Int) (l16409 : M T129) (x16412 : Int) : Option Bool :=
  lp14953 x16405 x16406 l16409 x16412 (IntKind.wrap .i64 (x12064 + 1))
noncomputable def tidewracktop_TidewrackHand_j7 (x16907 : Int) (x16908 : Int) (lp17375 : Int → Int → (M T129) → Int → Int → Option Bool) (x17616 : Int) (x17617 : Int) (l17620 : M T129) : Option Bool :=
  lp17375 x17616 x17617 l17620 (IntKind.wrap .i64 (x16907 + 1)) (IntKind.wrap .i64 (x16908 + 1))
noncomputable def tidewracktop_TidewrackHand_j8 (x16907 : Int) (x16908 : Int) (lp17375 : Int → Int → (M T129) → Int → Int → Option Bool) (t17627 : (List T36) × Bool × T118) : Option Bool :=
  tidewracktop_TidewrackHand_j7 x16907 x16908 lp17375 t17627.2.2.most t17627.2.2.now t17627.2.2.l
noncomputable def tidewracktop_TidewrackHand_l9 (p0 : T54) (x16907 : Int) (x16908 : Int) (lp17375 : Int → Int → (M T129) → Int → Int → Option Bool) (t17627 : (List T36) × Bool × T118) (t17657 : List T36) : Nat → Int → Option Bool
  | 0, _ => none
  | k17814 + 1, x17788 => bif (decide (x17788 < ((t17657).length : Int))) then (if 0 ≤ x17788 ∧ x17788 < ((t17657).length : Int) then (if 0 ≤ x17788 ∧ x17788 < (((rdD [] p0.Lines x16908)).length : Int) then (bif (!(eqT36 (rdD zT36 t17657 x17788) (rdD zT36 (rdD [] p0.Lines x16908) x17788))) then (some false) else ((tidewracktop_TidewrackHand_l9 p0 x16907 x16908 lp17375 t17627 t17657 k17814) (IntKind.wrap .i64 (x17788 + 1)))) else none) else none) else (tidewracktop_TidewrackHand_j8 x16907 x16908 lp17375 t17627)
noncomputable def tidewracktop_TidewrackHand_l6 (K : Nat) (p0 : T54) (t9149 : List T67) (x12064 : Int) (lp14953 : Int → Int → (M T129) → Int → Int → Option Bool) : Nat → Int → Int → (M T129) → Int → Int → Option Bool
  | 0, _, _, _, _, _ => none
  | k17374 + 1, x16900, x16901, l16904, x16907, x16908 => bif (decide (x16908 < ((rdD zT67 t9149 x12064).To))) then ((cache_Cache_Get (⟨x16900, x16901, l16904⟩ : T118) x16908).bind fun t17627 => (bif (!t17627.2.1) then (some false) else ((flow_Cut K t17627.1 p0.W).bind fun t17645 => ((flow_Join K t17645).bind fun t17657 => (if 0 ≤ x16908 ∧ x16908 < ((p0.Lines).length : Int) then (bif (((t17657).length : Int) != (mnI (((rdD [] p0.Lines x16908)).length : Int) 30)) then (some false) else (tidewracktop_TidewrackHand_l9 p0 x16907 x16908 (tidewracktop_TidewrackHand_l6 K p0 t9149 x12064 lp14953 k17374) t17627 t17657 K 0)) else none))))) else (tidewracktop_TidewrackHand_j5 x12064 lp14953 x16900 x16901 l16904 x16907)
noncomputable def tidewracktop_TidewrackHand_l4 (K : Nat) (p0 : T54) (t9149 : List T67) : Nat → Int → Int → (M T129) → Int → Int → Option Bool
  | 0, _, _, _, _, _ => none
  | k14952 + 1, x12052, x12053, l12056, x12059, x12064 => bif (decide (x12064 < ((t9149).length : Int))) then (if 0 ≤ x12064 ∧ x12064 < ((t9149).length : Int) then (tidewracktop_TidewrackHand_l6 K p0 t9149 x12064 (tidewracktop_TidewrackHand_l4 K p0 t9149 k14952) K x12052 x12053 l12056 x12059 ((rdD zT67 t9149 x12064).From)) else none) else (tidewracktop_TidewrackHand_j3 p0 x12052 x12053 l12056 x12059)
noncomputable def tidewracktop_TidewrackHand_j2 (K : Nat) (p0 : T54) (x373 : Int) (x374 : Int) (l377 : M T129) : Option Bool :=
  (cache_Cache_Spans K (⟨x373, x374, l377⟩ : T118)).bind fun t389 => ((spans_Set_Add K (⟨([] : List T67)⟩ : T63) t389).bind fun t401 => ((spans_Set_In K t401 (⟨(bits .and .i64 p0.From 31), (bits .and .i64 p0.To 31)⟩ : T67)).bind fun t9149 => (tidewracktop_TidewrackHand_l4 K p0 t9149 K x373 x374 l377 0 0)))
noncomputable def tidewracktop_TidewrackHand_l10 (K : Nat) (p0 : T54) : Nat → Int → Int → (M T129) → Int → Option Bool
  | 0, _, _, _, _ => none
  | k18037 + 1, x17939, x17940, l17943, x17946 => bif (decide (x17946 < (mnI ((p0.Lines).length : Int) 20))) then (if 0 ≤ x17946 ∧ x17946 < ((p0.Lines).length : Int) then (if 0 ≤ (mnI (((rdD [] p0.Lines x17946)).length : Int) 30) then (if (mnI (((rdD [] p0.Lines x17946)).length : Int) 30) ≤ (((rdD [] p0.Lines x17946)).length : Int) then ((cache_Cache_Put K (⟨x17939, x17940, l17943⟩ : T118) x17946 (List.drop 0 (List.take (Int.toNat (mnI (((rdD [] p0.Lines x17946)).length : Int) 30)) (rdD [] p0.Lines x17946)))).bind fun t18085 => ((tidewracktop_TidewrackHand_l10 K p0 k18037) t18085.2.2.most t18085.2.2.now t18085.2.2.l (IntKind.wrap .i64 (x17946 + 1)))) else none) else none) else none) else (tidewracktop_TidewrackHand_j2 K p0 x17939 x17940 l17943)
noncomputable def tidewracktop_TidewrackHand_j1 (K : Nat) (p0 : T54) (t43 : T118) : Option Bool :=
  tidewracktop_TidewrackHand_l10 K p0 K t43.most t43.now t43.l 0
noncomputable def tidewracktop_TidewrackHand (K : Nat) (p0 : T54) : Option Bool :=
  (cache_New 30).bind fun t43 => ((flow_Cut K ([] : List T36) 2).bind fun t18132 => (bif (((t18132).length : Int) != (1 : Int)) then (some false) else (tidewracktop_TidewrackHand_j1 K p0 t43)))

end Go.Proofs.YtpciioffkjpieaaDoor
