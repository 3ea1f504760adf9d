/- Plain functions, printed by an own program: what the walked code computes. -/
import Derived.Test.YtbdocgjhidalfaaX7
set_option linter.unusedVariables false
set_option linter.unusedSimpArgs false
namespace Go.Proofs.Ytbdocgjhidalfaa
open Go Go.Proofs.XC
structure T22 where
  Fore : Int
  Back : Int
  Bold : Bool
  Under : Bool
  Inverse : Bool
abbrev zT22 : T22 := ⟨0, 0, false, false, false⟩
structure T43 where
  is : Bool
  n : Int
abbrev zT43 : T43 := ⟨false, 0⟩
def eqT22 (x y : T22) : Bool := ((x.Fore == y.Fore) && ((x.Back == y.Back) && ((x.Bold == y.Bold) && ((x.Under == y.Under) && ((x.Inverse == y.Inverse) && true)))))
namespace WF
def wfBool (_ : Bool) : Prop := True
def wfStr (x : ByteArray) : Prop := x.size ≤ maxLen
def wfi64 (x : Int) : Prop := (Lit.int .i64 x).wf = true
def wfi32 (x : Int) : Prop := (Lit.int .i32 x).wf = true
def wfu8 (x : Int) : Prop := (Lit.int .u8 x).wf = true
def wfu32 (x : Int) : Prop := (Lit.int .u32 x).wf = true
def wfu64 (x : Int) : Prop := (Lit.int .u64 x).wf = true
def wfi8 (x : Int) : Prop := (Lit.int .i8 x).wf = true
def wfi16 (x : Int) : Prop := (Lit.int .i16 x).wf = true
def wfu16 (x : Int) : Prop := (Lit.int .u16 x).wf = true
def wfT22 (x : T22) : Prop := (Lit.int .i64 x.Fore).wf = true ∧ (Lit.int .i64 x.Back).wf = true
def wfT43 (x : T43) : Prop := (Lit.int .i64 x.n).wf = true
end WF
/-! tidewrack/style.skip -/
def style_skip_j2 (p0 : List Int) (x24 : Bool) : Option Int :=
  bif x24 then (some (if ((p0).length : Int) < 4 then ((p0).length : Int) else 4)) else (some 0)
def style_skip_j1 (p0 : List Int) (x11 : Bool) : Option Int :=
  bif x11 then (some (if ((p0).length : Int) < 2 then ((p0).length : Int) else 2)) else (bif (decide (((p0).length : Int) > (0 : Int))) then (if 0 ≤ (0 : Int) ∧ (0 : Int) < ((p0).length : Int) then (style_skip_j2 p0 ((rdD 0 p0 0) == (2 : Int))) else none) else (style_skip_j2 p0 false))
def style_skip (p0 : List Int) : Option Int :=
  bif (decide (((p0).length : Int) > (0 : Int))) then (if 0 ≤ (0 : Int) ∧ (0 : Int) < ((p0).length : Int) then (style_skip_j1 p0 ((rdD 0 p0 0) == (5 : Int))) else none) else (style_skip_j1 p0 false)

/-! (tidewrack/style.Style).one -/
def style_Style_one_j5 (p0 : T22) (p1 : Int) (x65 : Bool) : Option T22 :=
  bif x65 then (some (⟨p0.Fore, (IntKind.wrap .i64 ((IntKind.wrap .i64 (p1 - 40)) + 1)), p0.Bold, p0.Under, p0.Inverse⟩ : T22)) else (bif (p1 == (49 : Int)) then (some (⟨p0.Fore, 0, p0.Bold, p0.Under, p0.Inverse⟩ : T22)) else (some p0))
def style_Style_one_j4 (p0 : T22) (p1 : Int) (x53 : Bool) : Option T22 :=
  bif x53 then (some (⟨(IntKind.wrap .i64 ((IntKind.wrap .i64 (p1 - 30)) + 1)), p0.Back, p0.Bold, p0.Under, p0.Inverse⟩ : T22)) else (bif (p1 == (39 : Int)) then (some (⟨0, p0.Back, p0.Bold, p0.Under, p0.Inverse⟩ : T22)) else (bif (decide (p1 ≥ (40 : Int))) then (style_Style_one_j5 p0 p1 (decide (p1 < (48 : Int)))) else (style_Style_one_j5 p0 p1 false)))
def style_Style_one_j3 (p0 : T22) (p1 : Int) (x42 : Bool) : Option T22 :=
  bif x42 then (some (⟨p0.Fore, p0.Back, p0.Bold, p0.Under, (p1 == (7 : Int))⟩ : T22)) else (bif (decide (p1 ≥ (30 : Int))) then (style_Style_one_j4 p0 p1 (decide (p1 < (38 : Int)))) else (style_Style_one_j4 p0 p1 false))
def style_Style_one_j2 (p0 : T22) (p1 : Int) (x31 : Bool) : Option T22 :=
  bif x31 then (some (⟨p0.Fore, p0.Back, p0.Bold, (p1 == (4 : Int)), p0.Inverse⟩ : T22)) else (bif (p1 == (7 : Int)) then (style_Style_one_j3 p0 p1 true) else (style_Style_one_j3 p0 p1 (p1 == (27 : Int))))
def style_Style_one_j1 (p0 : T22) (p1 : Int) (x20 : Bool) : Option T22 :=
  bif x20 then (some (⟨p0.Fore, p0.Back, (p1 == (1 : Int)), p0.Under, p0.Inverse⟩ : T22)) else (bif (p1 == (4 : Int)) then (style_Style_one_j2 p0 p1 true) else (style_Style_one_j2 p0 p1 (p1 == (24 : Int))))
def style_Style_one (p0 : T22) (p1 : Int) : Option T22 :=
  bif (p1 == (0 : Int)) then (some (⟨0, 0, false, false, false⟩ : T22)) else (bif (p1 == (1 : Int)) then (style_Style_one_j1 p0 p1 true) else (style_Style_one_j1 p0 p1 (p1 == (22 : Int))))

/-! (tidewrack/style.Style).Set -/
def style_Style_Set_j1 (x191 : T22) : Option T22 :=
  some x191
def style_Style_Set_j3 (p1 : List Int) (x254 : T22) (x255 : Int) (lp312 : T22 → Int → Option T22) (x325 : Bool) : Option T22 :=
  bif x325 then (if 0 ≤ (IntKind.wrap .i64 (x255 + 1)) then (if (IntKind.wrap .i64 (x255 + 1)) ≤ ((p1).length : Int) then ((style_skip (List.drop (Int.toNat (IntKind.wrap .i64 (x255 + 1))) (List.take (p1).length p1))).bind fun t362 => (lp312 x254 (IntKind.wrap .i64 ((IntKind.wrap .i64 (x255 + t362)) + 1)))) else none) else none) else ((style_Style_one x254 (rdD 0 p1 x255)).bind fun t344 => (lp312 t344 (IntKind.wrap .i64 (x255 + 1))))
def style_Style_Set_l2 (p1 : List Int) : Nat → T22 → Int → Option T22
  | 0, _, _ => none
  | k311 + 1, x254, x255 => bif (decide (x255 < ((p1).length : Int))) then (if 0 ≤ x255 ∧ x255 < ((p1).length : Int) then (bif ((rdD 0 p1 x255) == (38 : Int)) then (style_Style_Set_j3 p1 x254 x255 (style_Style_Set_l2 p1 k311) true) else (style_Style_Set_j3 p1 x254 x255 (style_Style_Set_l2 p1 k311) ((rdD 0 p1 x255) == (48 : Int)))) else none) else (style_Style_Set_j1 x254)
def style_Style_Set (K : Nat) (p0 : T22) (p1 : List Int) : Option T22 :=
  bif (((p1).length : Int) == (0 : Int)) then (some (⟨0, 0, false, false, false⟩ : T22)) else (style_Style_Set_l2 p1 K p0 0)

/-! (tidewrack/style.Style).may -/
def style_Style_may (p0 : T22) : Option Bool :=
  bif (decide (p0.Fore ≥ (0 : Int))) then (bif (decide (p0.Fore < (9 : Int))) then (bif (decide (p0.Back ≥ (0 : Int))) then (some (decide (p0.Back < (9 : Int)))) else (some false)) else (some false)) else (some false)

/-! tidewrack/style.bit -/
def style_bit (p0 : Bool) (p1 : Int) : Option Int :=
  bif p0 then (some p1) else (some 0)

/-! (tidewrack/style.Style).Num -/
def style_Style_Num (p0 : T22) : Option Int :=
  (style_Style_may p0).bind fun t9 => (bif (!t9) then (some 0) else ((style_bit p0.Bold 81).bind fun t44 => ((style_bit p0.Under 162).bind fun t52 => ((style_bit p0.Inverse 324).bind fun t60 => (some (IntKind.wrap .i64 ((IntKind.wrap .i64 ((IntKind.wrap .i64 ((IntKind.wrap .i64 (p0.Fore + (IntKind.wrap .i64 (9 * p0.Back)))) + t44)) + t52)) + t60)))))))

/-! tidewrack/tidewracklaw08.awake -/
def tidewracklaw08_awake (K : Nat)  : Option Bool :=
  (style_Style_Set K (⟨0, 0, false, false, false⟩ : T22) ([1, 31] : List Int)).bind fun t10 => (bif (eqT22 t10 (⟨2, 0, true, false, false⟩ : T22)) then ((style_Style_Num t10).bind fun t27 => (bif (t27 == (83 : Int)) then ((style_Style_Set K (⟨0, 0, true, false, false⟩ : T22) ([] : List Int)).bind fun t36 => (some (eqT22 t36 (⟨0, 0, false, false, false⟩ : T22)))) else (some false))) else (some false))

/-! tidewrack/tidewrackref08.Set -/
def tidewrackref08_Set_j1 (x937 : T22) : Option T22 :=
  some x937
def tidewrackref08_Set_j10 (p1 : List Int) (x1250 : Int) (x1251 : Int) (lp1556 : T22 → Int → Int → Option T22) (x1741 : T22) : Option T22 :=
  bif ((rdD 0 p1 x1251) == (49 : Int)) then (lp1556 (⟨x1741.Fore, 0, x1741.Bold, x1741.Under, x1741.Inverse⟩ : T22) x1250 (IntKind.wrap .i64 (x1251 + 1))) else (lp1556 x1741 x1250 (IntKind.wrap .i64 (x1251 + 1)))
def tidewrackref08_Set_j11 (p1 : List Int) (x1250 : Int) (x1251 : Int) (lp1556 : T22 → Int → Int → Option T22) (x1717 : T22) (x1755 : Bool) : Option T22 :=
  bif x1755 then (tidewrackref08_Set_j10 p1 x1250 x1251 lp1556 (⟨x1717.Fore, (IntKind.wrap .i64 ((rdD 0 p1 x1251) - 39)), x1717.Bold, x1717.Under, x1717.Inverse⟩ : T22)) else (tidewrackref08_Set_j10 p1 x1250 x1251 lp1556 x1717)
def tidewrackref08_Set_j9 (p1 : List Int) (x1250 : Int) (x1251 : Int) (lp1556 : T22 → Int → Int → Option T22) (x1717 : T22) : Option T22 :=
  bif (decide ((rdD 0 p1 x1251) ≥ (40 : Int))) then (tidewrackref08_Set_j11 p1 x1250 x1251 lp1556 x1717 (decide ((rdD 0 p1 x1251) ≤ (47 : Int)))) else (tidewrackref08_Set_j11 p1 x1250 x1251 lp1556 x1717 false)
def tidewrackref08_Set_j8 (p1 : List Int) (x1250 : Int) (x1251 : Int) (lp1556 : T22 → Int → Int → Option T22) (x1704 : T22) : Option T22 :=
  bif ((rdD 0 p1 x1251) == (39 : Int)) then (tidewrackref08_Set_j9 p1 x1250 x1251 lp1556 (⟨0, x1704.Back, x1704.Bold, x1704.Under, x1704.Inverse⟩ : T22)) else (tidewrackref08_Set_j9 p1 x1250 x1251 lp1556 x1704)
def tidewrackref08_Set_j12 (p1 : List Int) (x1250 : Int) (x1251 : Int) (lp1556 : T22 → Int → Int → Option T22) (x1680 : T22) (x1774 : Bool) : Option T22 :=
  bif x1774 then (tidewrackref08_Set_j8 p1 x1250 x1251 lp1556 (⟨(IntKind.wrap .i64 ((rdD 0 p1 x1251) - 29)), x1680.Back, x1680.Bold, x1680.Under, x1680.Inverse⟩ : T22)) else (tidewrackref08_Set_j8 p1 x1250 x1251 lp1556 x1680)
def tidewrackref08_Set_j7 (p1 : List Int) (x1250 : Int) (x1251 : Int) (lp1556 : T22 → Int → Int → Option T22) (x1680 : T22) : Option T22 :=
  bif (decide ((rdD 0 p1 x1251) ≥ (30 : Int))) then (tidewrackref08_Set_j12 p1 x1250 x1251 lp1556 x1680 (decide ((rdD 0 p1 x1251) ≤ (37 : Int)))) else (tidewrackref08_Set_j12 p1 x1250 x1251 lp1556 x1680 false)
def tidewrackref08_Set_j13 (p1 : List Int) (x1250 : Int) (x1251 : Int) (lp1556 : T22 → Int → Int → Option T22) (x1656 : T22) (x1789 : Bool) : Option T22 :=
  bif x1789 then (tidewrackref08_Set_j7 p1 x1250 x1251 lp1556 (⟨x1656.Fore, x1656.Back, x1656.Bold, x1656.Under, (decide ((rdD 0 p1 x1251) < (10 : Int)))⟩ : T22)) else (tidewrackref08_Set_j7 p1 x1250 x1251 lp1556 x1656)
def tidewrackref08_Set_j6 (p1 : List Int) (x1250 : Int) (x1251 : Int) (lp1556 : T22 → Int → Int → Option T22) (x1656 : T22) : Option T22 :=
  bif ((rdD 0 p1 x1251) == (7 : Int)) then (tidewrackref08_Set_j13 p1 x1250 x1251 lp1556 x1656 true) else (tidewrackref08_Set_j13 p1 x1250 x1251 lp1556 x1656 ((rdD 0 p1 x1251) == (27 : Int)))
def tidewrackref08_Set_j14 (p1 : List Int) (x1250 : Int) (x1251 : Int) (lp1556 : T22 → Int → Int → Option T22) (x1632 : T22) (x1804 : Bool) : Option T22 :=
  bif x1804 then (tidewrackref08_Set_j6 p1 x1250 x1251 lp1556 (⟨x1632.Fore, x1632.Back, x1632.Bold, (decide ((rdD 0 p1 x1251) < (10 : Int))), x1632.Inverse⟩ : T22)) else (tidewrackref08_Set_j6 p1 x1250 x1251 lp1556 x1632)
def tidewrackref08_Set_j5 (p1 : List Int) (x1250 : Int) (x1251 : Int) (lp1556 : T22 → Int → Int → Option T22) (x1632 : T22) : Option T22 :=
  bif ((rdD 0 p1 x1251) == (4 : Int)) then (tidewrackref08_Set_j14 p1 x1250 x1251 lp1556 x1632 true) else (tidewrackref08_Set_j14 p1 x1250 x1251 lp1556 x1632 ((rdD 0 p1 x1251) == (24 : Int)))
def tidewrackref08_Set_j15 (p1 : List Int) (x1250 : Int) (x1251 : Int) (lp1556 : T22 → Int → Int → Option T22) (x1608 : T22) (x1819 : Bool) : Option T22 :=
  bif x1819 then (tidewrackref08_Set_j5 p1 x1250 x1251 lp1556 (⟨x1608.Fore, x1608.Back, (decide ((rdD 0 p1 x1251) < (10 : Int))), x1608.Under, x1608.Inverse⟩ : T22)) else (tidewrackref08_Set_j5 p1 x1250 x1251 lp1556 x1608)
def tidewrackref08_Set_j4 (p1 : List Int) (x1250 : Int) (x1251 : Int) (lp1556 : T22 → Int → Int → Option T22) (x1608 : T22) : Option T22 :=
  bif ((rdD 0 p1 x1251) == (1 : Int)) then (tidewrackref08_Set_j15 p1 x1250 x1251 lp1556 x1608 true) else (tidewrackref08_Set_j15 p1 x1250 x1251 lp1556 x1608 ((rdD 0 p1 x1251) == (22 : Int)))
def tidewrackref08_Set_j3 (p1 : List Int) (x1249 : T22) (x1250 : Int) (x1251 : Int) (lp1556 : T22 → Int → Int → Option T22) : Option T22 :=
  bif ((rdD 0 p1 x1251) == (0 : Int)) then (tidewrackref08_Set_j4 p1 x1250 x1251 lp1556 (⟨0, 0, false, false, false⟩ : T22)) else (tidewrackref08_Set_j4 p1 x1250 x1251 lp1556 x1249)
def tidewrackref08_Set_j17 (p1 : List Int) (x1249 : T22) (x1251 : Int) (lp1556 : T22 → Int → Int → Option T22) (x1851 : Int) : Option T22 :=
  bif (decide ((IntKind.wrap .i64 (x1251 + 1)) < ((p1).length : Int))) then (if 0 ≤ (IntKind.wrap .i64 (x1251 + 1)) ∧ (IntKind.wrap .i64 (x1251 + 1)) < ((p1).length : Int) then (bif ((rdD 0 p1 (IntKind.wrap .i64 (x1251 + 1))) == (2 : Int)) then (lp1556 x1249 4 (IntKind.wrap .i64 (x1251 + 1))) else (lp1556 x1249 x1851 (IntKind.wrap .i64 (x1251 + 1)))) else none) else (lp1556 x1249 x1851 (IntKind.wrap .i64 (x1251 + 1)))
def tidewrackref08_Set_j16 (p1 : List Int) (x1249 : T22) (x1250 : Int) (x1251 : Int) (lp1556 : T22 → Int → Int → Option T22) (x1838 : Bool) : Option T22 :=
  bif x1838 then (bif (decide ((IntKind.wrap .i64 (x1251 + 1)) < ((p1).length : Int))) then (if 0 ≤ (IntKind.wrap .i64 (x1251 + 1)) ∧ (IntKind.wrap .i64 (x1251 + 1)) < ((p1).length : Int) then (bif ((rdD 0 p1 (IntKind.wrap .i64 (x1251 + 1))) == (5 : Int)) then (tidewrackref08_Set_j17 p1 x1249 x1251 lp1556 2) else (tidewrackref08_Set_j17 p1 x1249 x1251 lp1556 x1250)) else none) else (tidewrackref08_Set_j17 p1 x1249 x1251 lp1556 x1250)) else (tidewrackref08_Set_j3 p1 x1249 x1250 x1251 lp1556)
def tidewrackref08_Set_l2 (p1 : List Int) : Nat → T22 → Int → Int → Option T22
  | 0, _, _, _ => none
  | k1555 + 1, x1249, x1250, x1251 => bif (decide (x1251 < ((p1).length : Int))) then (if 0 ≤ x1251 ∧ x1251 < ((p1).length : Int) then (bif (decide (x1250 > (0 : Int))) then ((tidewrackref08_Set_l2 p1 k1555) x1249 (IntKind.wrap .i64 (x1250 - 1)) (IntKind.wrap .i64 (x1251 + 1))) else (bif ((rdD 0 p1 x1251) == (38 : Int)) then (tidewrackref08_Set_j16 p1 x1249 x1250 x1251 (tidewrackref08_Set_l2 p1 k1555) true) else (tidewrackref08_Set_j16 p1 x1249 x1250 x1251 (tidewrackref08_Set_l2 p1 k1555) ((rdD 0 p1 x1251) == (48 : Int))))) else none) else (tidewrackref08_Set_j1 x1249)
def tidewrackref08_Set (K : Nat) (p0 : T22) (p1 : List Int) : Option T22 :=
  bif (((p1).length : Int) == (0 : Int)) then (some (⟨0, 0, false, false, false⟩ : T22)) else (tidewrackref08_Set_l2 p1 K p0 0 0)

/-! tidewrack/tidewracklaw08.StyleSets -/
def tidewracklaw08_StyleSets (K : Nat) (p0 : T22) (p1 : List Int) : Option Bool :=
  (tidewracklaw08_awake K).bind fun t9 => (bif (!t9) then (some false) else (if 0 ≤ (if 30 < ((p1).length : Int) then 30 else ((p1).length : Int)) then (if (if 30 < ((p1).length : Int) then 30 else ((p1).length : Int)) ≤ ((p1).length : Int) then ((style_Style_Set K p0 (List.drop 0 (List.take (Int.toNat (if 30 < ((p1).length : Int) then 30 else ((p1).length : Int))) p1))).bind fun t43 => ((tidewrackref08_Set K p0 (List.drop 0 (List.take (Int.toNat (if 30 < ((p1).length : Int) then 30 else ((p1).length : Int))) p1))).bind fun t51 => (some (eqT22 t43 t51)))) else none) else none))

/-! tidewrack/tidewracklaw08.StyleTwice -/
def tidewracklaw08_StyleTwice_j4 (x719 : Bool) : Option Bool :=
  some x719
def tidewracklaw08_StyleTwice_j3 (K : Nat) (p0 : T22) (l212 : List Int) (l444 : List Int) : Option Bool :=
  (style_Style_Set K p0 l212).bind fun t724 => ((style_Style_Set K t724 l444).bind fun t732 => (if (([] : List Int)).length + (l212).length ≤ 1000000000 then (if ((([] : List Int) ++ l212)).length + (l444).length ≤ 1000000000 then ((style_Style_Set K p0 ((([] : List Int) ++ l212) ++ l444)).bind fun t762 => (tidewracklaw08_StyleTwice_j4 (eqT22 t732 t762))) else none) else none))
def tidewracklaw08_StyleTwice_j2 (K : Nat) (p0 : T22) (l212 : List Int) (l414 : List Int) : Option Bool :=
  if (1 : Int) ≤ ((l414).length : Int) then (bif ((((List.drop (Int.toNat 1) (List.take (l414).length l414))).length : Int) == (0 : Int)) then (tidewracklaw08_StyleTwice_j3 K p0 l212 ([4] : List Int)) else (tidewracklaw08_StyleTwice_j3 K p0 l212 (List.drop (Int.toNat 1) (List.take (l414).length l414)))) else none
def tidewracklaw08_StyleTwice_j6 (p2 : List Int) (l1055 : List Int) (x1058 : Int) (lp1118 : (List Int) → Int → Option Bool) : Option Bool :=
  if 0 ≤ (if ((l1055).length : Int) > 1 then ((l1055).length : Int) else 1) then (if (if ((l1055).length : Int) > 1 then ((l1055).length : Int) else 1) ≤ ((l1055).length : Int) then (if 0 ≤ x1058 ∧ x1058 < ((p2).length : Int) then (if ((List.take (Int.toNat (if ((l1055).length : Int) > 1 then ((l1055).length : Int) else 1)) l1055)).length + (([(rdD 0 p2 x1058)] : List Int)).length ≤ 1000000000 then (lp1118 ((List.take (Int.toNat (if ((l1055).length : Int) > 1 then ((l1055).length : Int) else 1)) l1055) ++ ([(rdD 0 p2 x1058)] : List Int)) (IntKind.wrap .i64 (x1058 + 1))) else none) else none) else none) else none
def tidewracklaw08_StyleTwice_l5 (K : Nat) (p0 : T22) (p2 : List Int) (l212 : List Int) : Nat → (List Int) → Int → Option Bool
  | 0, _, _ => none
  | k1117 + 1, l1055, x1058 => bif (decide (x1058 < ((p2).length : Int))) then (bif (decide (x1058 < (12 : Int))) then (tidewracklaw08_StyleTwice_j6 p2 l1055 x1058 (tidewracklaw08_StyleTwice_l5 K p0 p2 l212 k1117)) else (tidewracklaw08_StyleTwice_j2 K p0 l212 l1055)) else (tidewracklaw08_StyleTwice_j2 K p0 l212 l1055)
def tidewracklaw08_StyleTwice_j1 (K : Nat) (p0 : T22) (p2 : List Int) (l212 : List Int) : Option Bool :=
  tidewracklaw08_StyleTwice_l5 K p0 p2 l212 K ([0] : List Int) 0
def tidewracklaw08_StyleTwice_j9 (l1239 : List Int) (x1242 : Int) (lp1296 : (List Int) → (List Int) → Int → Option Bool) (l1322 : List Int) (x1325 : Bool) : Option Bool :=
  bif x1325 then (if 0 ≤ x1242 ∧ x1242 < ((l1322).length : Int) then (if (l1239).length + (([(rdD 0 l1322 x1242)] : List Int)).length ≤ 1000000000 then (lp1296 l1322 (l1239 ++ ([(rdD 0 l1322 x1242)] : List Int)) (IntKind.wrap .i64 (x1242 + 1))) else none) else none) else (lp1296 l1322 l1239 (IntKind.wrap .i64 (x1242 + 1)))
def tidewracklaw08_StyleTwice_j8 (l1234 : List Int) (l1239 : List Int) (x1242 : Int) (lp1296 : (List Int) → (List Int) → Int → Option Bool) : Option Bool :=
  if 0 ≤ x1242 ∧ x1242 < ((l1234).length : Int) then (bif ((rdD 0 l1234 x1242) != (38 : Int)) then (tidewracklaw08_StyleTwice_j9 l1239 x1242 lp1296 l1234 ((rdD 0 l1234 x1242) != (48 : Int))) else (tidewracklaw08_StyleTwice_j9 l1239 x1242 lp1296 l1234 false)) else none
def tidewracklaw08_StyleTwice_l7 (K : Nat) (p0 : T22) (p2 : List Int) : Nat → (List Int) → (List Int) → Int → Option Bool
  | 0, _, _, _ => none
  | k1295 + 1, l1234, l1239, x1242 => bif (decide (x1242 < ((l1234).length : Int))) then (bif (decide (x1242 < (12 : Int))) then (tidewracklaw08_StyleTwice_j8 l1234 l1239 x1242 (tidewracklaw08_StyleTwice_l7 K p0 p2 k1295)) else (tidewracklaw08_StyleTwice_j1 K p0 p2 l1239)) else (tidewracklaw08_StyleTwice_j1 K p0 p2 l1239)
def tidewracklaw08_StyleTwice (K : Nat) (p0 : T22) (p1 : List Int) (p2 : List Int) : Option Bool :=
  (tidewracklaw08_awake K).bind fun t9 => (bif (!t9) then (some false) else (tidewracklaw08_StyleTwice_l7 K p0 p2 K p1 ([7] : List Int) 0))

/-! tidewrack/style.Of -/
def style_Of_j1 (p0 : Int) : Option (T22 × Int) :=
  some ((⟨(Int.tmod p0 9), (Int.tmod (IntKind.wrap .i64 (Int.tdiv p0 9)) 9), ((Int.tmod (IntKind.wrap .i64 (Int.tdiv p0 81)) 2) == (1 : Int)), ((Int.tmod (IntKind.wrap .i64 (Int.tdiv p0 162)) 2) == (1 : Int)), ((Int.tmod (IntKind.wrap .i64 (Int.tdiv p0 324)) 2) == (1 : Int))⟩ : T22), 0)
def style_Of_j2 (p0 : Int) (x37 : Bool) : Option (T22 × Int) :=
  bif x37 then (some ((⟨0, 0, false, false, false⟩ : T22), 1)) else (style_Of_j1 p0)
def style_Of (p0 : Int) : Option (T22 × Int) :=
  bif (decide (p0 < (0 : Int))) then (style_Of_j2 p0 true) else (style_Of_j2 p0 (decide (p0 > (647 : Int))))

/-! tidewrack/tidewrackref08.May -/
def tidewrackref08_May (p0 : T22) : Option Bool :=
  bif (decide (p0.Fore ≥ (0 : Int))) then (bif (decide (p0.Fore ≤ (8 : Int))) then (bif (decide (p0.Back ≥ (0 : Int))) then (some (decide (p0.Back ≤ (8 : Int)))) else (some false)) else (some false)) else (some false)

/-! tidewrack/tidewrackref08.Num -/
def tidewrackref08_Num_j2 (x36 : T22) (x37 : Int) : Option Int :=
  bif x36.Inverse then (some (IntKind.wrap .i64 (x37 + 324))) else (some x37)
def tidewrackref08_Num_j1 (x24 : T22) (x25 : Int) : Option Int :=
  bif x24.Under then (tidewrackref08_Num_j2 (⟨x24.Fore, x24.Back, x24.Bold, true, x24.Inverse⟩ : T22) (IntKind.wrap .i64 (x25 + 162))) else (tidewrackref08_Num_j2 (⟨x24.Fore, x24.Back, x24.Bold, false, x24.Inverse⟩ : T22) x25)
def tidewrackref08_Num (p0 : T22) : Option Int :=
  (tidewrackref08_May p0).bind fun t9 => (bif (!t9) then (some 0) else (bif p0.Bold then (tidewrackref08_Num_j1 (⟨p0.Fore, p0.Back, true, p0.Under, p0.Inverse⟩ : T22) (IntKind.wrap .i64 ((IntKind.wrap .i64 (p0.Fore + (IntKind.wrap .i64 (9 * p0.Back)))) + 81))) else (tidewrackref08_Num_j1 (⟨p0.Fore, p0.Back, false, p0.Under, p0.Inverse⟩ : T22) (IntKind.wrap .i64 (p0.Fore + (IntKind.wrap .i64 (9 * p0.Back)))))))

/-! tidewrack/tidewracklaw08.StyleNums -/
def tidewracklaw08_StyleNums_j1 (p0 : T22) : Option Bool :=
  (style_Style_Num p0).bind fun t88 => ((style_Of t88).bind fun t96 => ((tidewrackref08_Num p0).bind fun t112 => (bif (t88 == t112) then (bif (t96.2 == (0 : Int)) then ((tidewrackref08_May p0).bind fun t122 => (bif (!t122) then (some true) else (some (eqT22 t96.1 p0)))) else (some false)) else (some false))))
def tidewracklaw08_StyleNums (K : Nat) (p0 : T22) (p1 : Int) : Option Bool :=
  (tidewracklaw08_awake K).bind fun t9 => (bif (!t9) then (some false) else ((style_Of p1).bind fun t18 => (bif (decide (p1 ≥ (0 : Int))) then (bif (!((t18.2 == (0 : Int)) == (decide (p1 ≤ (647 : Int))))) then (some false) else (bif (t18.2 != (0 : Int)) then (bif (t18.2 != (1 : Int)) then (some false) else (bif (!(eqT22 t18.1 (⟨0, 0, false, false, false⟩ : T22))) then (some false) else (bif (t18.2 == (0 : Int)) then ((style_Style_Num t18.1).bind fun t171 => (bif (t171 != p1) then (some false) else (tidewracklaw08_StyleNums_j1 p0))) else (tidewracklaw08_StyleNums_j1 p0)))) else (bif (t18.2 == (0 : Int)) then ((style_Style_Num t18.1).bind fun t159 => (bif (t159 != p1) then (some false) else (tidewracklaw08_StyleNums_j1 p0))) else (tidewracklaw08_StyleNums_j1 p0)))) else (bif (!((t18.2 == (0 : Int)) == false)) then (some false) else (bif (t18.2 != (0 : Int)) then (bif (t18.2 != (1 : Int)) then (some false) else (bif (!(eqT22 t18.1 (⟨0, 0, false, false, false⟩ : T22))) then (some false) else (bif (t18.2 == (0 : Int)) then ((style_Style_Num t18.1).bind fun t147 => (bif (t147 != p1) then (some false) else (tidewracklaw08_StyleNums_j1 p0))) else (tidewracklaw08_StyleNums_j1 p0)))) else (bif (t18.2 == (0 : Int)) then ((style_Style_Num t18.1).bind fun t135 => (bif (t135 != p1) then (some false) else (tidewracklaw08_StyleNums_j1 p0))) else (tidewracklaw08_StyleNums_j1 p0)))))))

/-! tidewrack/tidewracklaw08.StyleMay -/
def tidewracklaw08_StyleMay_j2 (x138 : T22) : Option Bool :=
  (style_Style_Num x138).bind fun t143 => ((style_Of t143).bind fun t151 => ((tidewrackref08_May x138).bind fun t167 => (bif t167 then (bif (t151.2 == (0 : Int)) then (some (eqT22 t151.1 x138)) else (some false)) else (some false))))
def tidewracklaw08_StyleMay_j1 (K : Nat) (p1 : List Int) (x34 : T22) : Option Bool :=
  if 0 ≤ (if 40 < ((p1).length : Int) then 40 else ((p1).length : Int)) then (if (if 40 < ((p1).length : Int) then 40 else ((p1).length : Int)) ≤ ((p1).length : Int) then ((style_Style_Set K x34 (List.drop 0 (List.take (Int.toNat (if 40 < ((p1).length : Int) then 40 else ((p1).length : Int))) p1))).bind fun t184 => (tidewracklaw08_StyleMay_j2 t184)) else none) else none
def tidewracklaw08_StyleMay (K : Nat) (p0 : T22) (p1 : List Int) : Option Bool :=
  (tidewracklaw08_awake K).bind fun t9 => (bif (!t9) then (some false) else ((tidewrackref08_May p0).bind fun t268 => (bif (!t268) then (tidewracklaw08_StyleMay_j1 K p1 (⟨0, 0, p0.Bold, p0.Under, p0.Inverse⟩ : T22)) else (tidewracklaw08_StyleMay_j1 K p1 p0))))

/-! (tidewrack/style.Style).Order -/
def style_Style_Order_j2 (l140 : List Int) : Option (List Int) :=
  some l140
def style_Style_Order_l3 (p0 : T22) : Nat → (List Int) → Int → Option (List Int)
  | 0, _, _ => none
  | k211 + 1, l181, x184 => bif (decide (x184 < ((([(⟨p0.Bold, 1⟩ : T43), (⟨p0.Under, 4⟩ : T43), (⟨p0.Inverse, 7⟩ : T43), (⟨(decide (p0.Fore > (0 : Int))), (IntKind.wrap .i64 ((IntKind.wrap .i64 (30 + p0.Fore)) - 1))⟩ : T43), (⟨(decide (p0.Back > (0 : Int))), (IntKind.wrap .i64 ((IntKind.wrap .i64 (40 + p0.Back)) - 1))⟩ : T43)] : List T43)).length : Int))) then (if 0 ≤ x184 ∧ x184 < ((([(⟨p0.Bold, 1⟩ : T43), (⟨p0.Under, 4⟩ : T43), (⟨p0.Inverse, 7⟩ : T43), (⟨(decide (p0.Fore > (0 : Int))), (IntKind.wrap .i64 ((IntKind.wrap .i64 (30 + p0.Fore)) - 1))⟩ : T43), (⟨(decide (p0.Back > (0 : Int))), (IntKind.wrap .i64 ((IntKind.wrap .i64 (40 + p0.Back)) - 1))⟩ : T43)] : List T43)).length : Int) then (bif (rdD zT43 ([(⟨p0.Bold, 1⟩ : T43), (⟨p0.Under, 4⟩ : T43), (⟨p0.Inverse, 7⟩ : T43), (⟨(decide (p0.Fore > (0 : Int))), (IntKind.wrap .i64 ((IntKind.wrap .i64 (30 + p0.Fore)) - 1))⟩ : T43), (⟨(decide (p0.Back > (0 : Int))), (IntKind.wrap .i64 ((IntKind.wrap .i64 (40 + p0.Back)) - 1))⟩ : T43)] : List T43) x184).is then (if (l181).length + (([(rdD zT43 ([(⟨p0.Bold, 1⟩ : T43), (⟨p0.Under, 4⟩ : T43), (⟨p0.Inverse, 7⟩ : T43), (⟨(decide (p0.Fore > (0 : Int))), (IntKind.wrap .i64 ((IntKind.wrap .i64 (30 + p0.Fore)) - 1))⟩ : T43), (⟨(decide (p0.Back > (0 : Int))), (IntKind.wrap .i64 ((IntKind.wrap .i64 (40 + p0.Back)) - 1))⟩ : T43)] : List T43) x184).n] : List Int)).length ≤ 1000000000 then ((style_Style_Order_l3 p0 k211) (l181 ++ ([(rdD zT43 ([(⟨p0.Bold, 1⟩ : T43), (⟨p0.Under, 4⟩ : T43), (⟨p0.Inverse, 7⟩ : T43), (⟨(decide (p0.Fore > (0 : Int))), (IntKind.wrap .i64 ((IntKind.wrap .i64 (30 + p0.Fore)) - 1))⟩ : T43), (⟨(decide (p0.Back > (0 : Int))), (IntKind.wrap .i64 ((IntKind.wrap .i64 (40 + p0.Back)) - 1))⟩ : T43)] : List T43) x184).n] : List Int)) (IntKind.wrap .i64 (x184 + 1))) else none) else ((style_Style_Order_l3 p0 k211) l181 (IntKind.wrap .i64 (x184 + 1)))) else none) else (style_Style_Order_j2 l181)
def style_Style_Order_j1 (K : Nat) (p0 : T22) : Option (List Int) :=
  style_Style_Order_l3 p0 K ([0] : List Int) 0
def style_Style_Order (K : Nat) (p0 : T22) (p1 : T22) : Option (List Int) :=
  (style_Style_may p0).bind fun t242 => (bif (!t242) then (some ([] : List Int)) else (bif (eqT22 p0 p1) then (some ([] : List Int)) else (style_Style_Order_j1 K p0)))

/-! tidewrack/tidewracklaw08.StyleOrders -/
def tidewracklaw08_StyleOrders_j2 : Option Bool :=
  some true
def tidewracklaw08_StyleOrders_l3 (l84 : List Int) : Nat → Int → Option Bool
  | 0, _ => none
  | k158 + 1, x146 => bif (decide (x146 < ((l84).length : Int))) then (if 0 ≤ x146 ∧ x146 < ((l84).length : Int) then (if 0 ≤ (IntKind.wrap .i64 (x146 - 1)) ∧ (IntKind.wrap .i64 (x146 - 1)) < ((l84).length : Int) then (bif (decide ((rdD 0 l84 x146) ≤ (rdD 0 l84 (IntKind.wrap .i64 (x146 - 1))))) then (some false) else ((tidewracklaw08_StyleOrders_l3 l84 k158) (IntKind.wrap .i64 (x146 + 1)))) else none) else none) else (tidewracklaw08_StyleOrders_j2)
def tidewracklaw08_StyleOrders_j1 (K : Nat) (l84 : List Int) : Option Bool :=
  tidewracklaw08_StyleOrders_l3 l84 K 2
def tidewracklaw08_StyleOrders (K : Nat) (p0 : T22) (p1 : T22) : Option Bool :=
  (tidewracklaw08_awake K).bind fun t14 => (bif (!t14) then (some false) else ((style_Style_Order K p0 p1).bind fun t23 => ((tidewrackref08_May p0).bind fun t35 => (bif (!t35) then (some (((t23).length : Int) == (0 : Int))) else (bif (eqT22 p0 p1) then (some (((t23).length : Int) == (0 : Int))) else (bif (decide (((t23).length : Int) < (1 : Int))) then (some false) else (bif (decide (((t23).length : Int) > (6 : Int))) then (some false) else (if 0 ≤ (0 : Int) ∧ (0 : Int) < ((t23).length : Int) then (bif ((rdD 0 t23 0) != (0 : Int)) then (some false) else ((tidewrackref08_Set K p1 t23).bind fun t194 => (bif (!(eqT22 t194 p0)) then (some false) else (tidewracklaw08_StyleOrders_j1 K t23)))) else none))))))))

end Go.Proofs.Ytbdocgjhidalfaa
