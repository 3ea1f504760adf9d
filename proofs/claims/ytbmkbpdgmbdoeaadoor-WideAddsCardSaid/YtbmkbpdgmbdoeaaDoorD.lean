/- Plain functions, printed by an own program: what the walked code computes. -/
import Derived.Test.YtbmkbpdgmbdoeaaDoorY24
set_option linter.unusedVariables false
set_option linter.unusedSimpArgs false
namespace Go.Proofs.YtbmkbpdgmbdoeaaDoor
open Go Go.Proofs.XC
structure T36 where
  from_ : Int
  to : Int
abbrev zT36 : T36 := ⟨0, 0⟩
structure T32 where
  a0 : Int
  a1 : Int
abbrev zT32 : T32 := ⟨0, 0⟩
namespace WF
def wfBool (_ : Bool) : Prop := True
def wfStr (x : ByteArray) : Prop := x.size ≤ maxLen
def wfi64 (x : Int) : Prop := (Lit.int .i64 x).wf = true
def wfi32 (x : Int) : Prop := (Lit.int .i32 x).wf = true
def wfu8 (x : Int) : Prop := (Lit.int .u8 x).wf = true
def wfu32 (x : Int) : Prop := (Lit.int .u32 x).wf = true
def wfu64 (x : Int) : Prop := (Lit.int .u64 x).wf = true
def wfi8 (x : Int) : Prop := (Lit.int .i8 x).wf = true
def wfi16 (x : Int) : Prop := (Lit.int .i16 x).wf = true
def wfu16 (x : Int) : Prop := (Lit.int .u16 x).wf = true
def wfT36 (x : T36) : Prop := (Lit.int .i32 x.from_).wf = true ∧ (Lit.int .i32 x.to).wf = true
def wfT32 (x : T32) : Prop := (Lit.int .i64 x.a0).wf = true ∧ (Lit.int .i64 x.a1).wf = true
end WF
def glob0 : List T36 := [⟨(-2147483648), 31⟩, ⟨127, 159⟩, ⟨768, 879⟩, ⟨6832, 6911⟩, ⟨7616, 7679⟩, ⟨8203, 8207⟩, ⟨8400, 8447⟩, ⟨55296, 57343⟩, ⟨65024, 65039⟩, ⟨65056, 65071⟩, ⟨65279, 65279⟩, ⟨917760, 917999⟩, ⟨1114112, 2147483647⟩]
def glob1 : List T36 := [⟨4352, 4447⟩, ⟨11904, 12350⟩, ⟨12353, 13311⟩, ⟨13312, 19903⟩, ⟨19968, 40959⟩, ⟨40960, 42191⟩, ⟨44032, 55203⟩, ⟨63744, 64255⟩, ⟨65072, 65135⟩, ⟨65280, 65376⟩, ⟨65504, 65510⟩, ⟨127744, 128591⟩, ⟨129280, 129535⟩, ⟨131072, 262141⟩]
/-! tidewrack/wide.in -/
def wide_in_j1 (p0 : List T36) (p1 : Int) (x30 : Int) : Option Bool :=
  bif (decide (x30 < ((p0).length : Int))) then (if 0 ≤ x30 ∧ x30 < ((p0).length : Int) then (some (decide (((rdD zT36 p0 x30).from_) ≤ p1))) else none) else (some false)
def wide_in_l2 (p0 : List T36) (p1 : Int) : Nat → Int → Int → Option Bool
  | 0, _, _ => none
  | k50 + 1, x43, x44 => bif (decide (x43 < x44)) then (if 0 ≤ (IntKind.wrap .i64 (Int.tdiv (IntKind.wrap .i64 (x43 + x44)) 2)) ∧ (IntKind.wrap .i64 (Int.tdiv (IntKind.wrap .i64 (x43 + x44)) 2)) < ((p0).length : Int) then (bif (decide (((rdD zT36 p0 (IntKind.wrap .i64 (Int.tdiv (IntKind.wrap .i64 (x43 + x44)) 2))).to) < p1)) then ((wide_in_l2 p0 p1 k50) (IntKind.wrap .i64 ((IntKind.wrap .i64 (Int.tdiv (IntKind.wrap .i64 (x43 + x44)) 2)) + 1)) x44) else ((wide_in_l2 p0 p1 k50) x43 (IntKind.wrap .i64 (Int.tdiv (IntKind.wrap .i64 (x43 + x44)) 2)))) else none) else (wide_in_j1 p0 p1 x43)
def wide_in (K : Nat) (p0 : List T36) (p1 : Int) : Option Bool :=
  wide_in_l2 p0 p1 K 0 ((p0).length : Int)

/-! tidewrack/wide.Of -/
def wide_Of (K : Nat) (p0 : Int) : Option Int :=
  (wide_in K glob0 p0).bind fun t4 => (bif t4 then (some 0) else ((wide_in K glob1 p0).bind fun t13 => (bif t13 then (some 2) else (some 1))))

/-! tidewrack/wide.columns$1 -/
def wide_columns_1_l1 (K : Nat) (p1 : List Int) : Nat → Int → Int → Option (List (Int × Int))
  | 0, _, _ => none
  | k44 + 1, x24, x25 => bif (decide (x25 < ((p1).length : Int))) then (if 0 ≤ x25 ∧ x25 < ((p1).length : Int) then ((wide_Of K (rdD 0 p1 x25)).bind fun t53 => (Option.map (List.cons (x25, (IntKind.wrap .i64 (x24 + t53)))) ((wide_columns_1_l1 K p1 k44) (IntKind.wrap .i64 (x24 + t53)) (IntKind.wrap .i64 (x25 + 1))))) else none) else (some [])
def wide_columns_1 (K : Nat) (p1 : List Int) : Option (List (Int × Int)) :=
  wide_columns_1_l1 K p1 K 0 0

/-! tidewrack/wide.columns -/
def wide_columns (p0 : List Int) : Option Unit :=
  some ()

/-! tidewrack/wide.Fit -/
def wide_Fit_j1 (x83 : Int) : Option Int :=
  some x83
def wide_Fit_x3 (x137 : Int) : Option Int :=
  wide_Fit_j1 x137
def wide_Fit_r2 (p0 : Int) : List (Int × Int) → Int → Option Int
  | [], x120 => wide_Fit_j1 x120
  | x99 :: rest100, x120 => bif (decide (x99.2 > p0)) then (wide_Fit_x3 x120) else ((wide_Fit_r2 p0 rest100) (IntKind.wrap .i64 (x99.1 + 1)))
def wide_Fit (K : Nat) (p0 : Int) (p1 : List Int) : Option Int :=
  (wide_columns p1).bind fun t90 => ((wide_columns_1 K p1).bind fun ys97 => (wide_Fit_r2 p0 ys97 0))

/-! tidewrack/tidewracklaw06.awake -/
def tidewracklaw06_awake (K : Nat)  : Option Bool :=
  (wide_Of K 97).bind fun t4 => (bif (t4 == (1 : Int)) then ((wide_Of K 20013).bind fun t13 => (bif (t13 == (2 : Int)) then ((wide_Of K 769).bind fun t22 => (bif (t22 == (0 : Int)) then ((wide_Fit K 2 ([97, 769, 20013] : List Int)).bind fun t37 => (some (t37 == (2 : Int)))) else (some false))) else (some false))) else (some false))

/-! tidewrack/tidewrackref06.Of -/
def tidewrackref06_Of_j3 : Option Int :=
  some 1
def tidewrackref06_Of_l4 (p0 : Int) : Nat → Int → Option Int
  | 0, _ => none
  | k150 + 1, x136 => bif (decide (x136 < ((([(⟨4352, 4447⟩ : T32), (⟨11904, 12350⟩ : T32), (⟨12353, 13311⟩ : T32), (⟨13312, 19903⟩ : T32), (⟨19968, 40959⟩ : T32), (⟨40960, 42191⟩ : T32), (⟨44032, 55203⟩ : T32), (⟨63744, 64255⟩ : T32), (⟨65072, 65135⟩ : T32), (⟨65280, 65376⟩ : T32), (⟨65504, 65510⟩ : T32), (⟨127744, 128591⟩ : T32), (⟨129280, 129535⟩ : T32), (⟨131072, 262141⟩ : T32)] : List T32)).length : Int))) then (if 0 ≤ x136 ∧ x136 < ((([(⟨4352, 4447⟩ : T32), (⟨11904, 12350⟩ : T32), (⟨12353, 13311⟩ : T32), (⟨13312, 19903⟩ : T32), (⟨19968, 40959⟩ : T32), (⟨40960, 42191⟩ : T32), (⟨44032, 55203⟩ : T32), (⟨63744, 64255⟩ : T32), (⟨65072, 65135⟩ : T32), (⟨65280, 65376⟩ : T32), (⟨65504, 65510⟩ : T32), (⟨127744, 128591⟩ : T32), (⟨129280, 129535⟩ : T32), (⟨131072, 262141⟩ : T32)] : List T32)).length : Int) then (bif (decide (p0 ≥ ((rdD zT32 ([(⟨4352, 4447⟩ : T32), (⟨11904, 12350⟩ : T32), (⟨12353, 13311⟩ : T32), (⟨13312, 19903⟩ : T32), (⟨19968, 40959⟩ : T32), (⟨40960, 42191⟩ : T32), (⟨44032, 55203⟩ : T32), (⟨63744, 64255⟩ : T32), (⟨65072, 65135⟩ : T32), (⟨65280, 65376⟩ : T32), (⟨65504, 65510⟩ : T32), (⟨127744, 128591⟩ : T32), (⟨129280, 129535⟩ : T32), (⟨131072, 262141⟩ : T32)] : List T32) x136).a0))) then (bif (decide (p0 ≤ ((rdD zT32 ([(⟨4352, 4447⟩ : T32), (⟨11904, 12350⟩ : T32), (⟨12353, 13311⟩ : T32), (⟨13312, 19903⟩ : T32), (⟨19968, 40959⟩ : T32), (⟨40960, 42191⟩ : T32), (⟨44032, 55203⟩ : T32), (⟨63744, 64255⟩ : T32), (⟨65072, 65135⟩ : T32), (⟨65280, 65376⟩ : T32), (⟨65504, 65510⟩ : T32), (⟨127744, 128591⟩ : T32), (⟨129280, 129535⟩ : T32), (⟨131072, 262141⟩ : T32)] : List T32) x136).a1))) then (some 2) else ((tidewrackref06_Of_l4 p0 k150) (IntKind.wrap .i64 (x136 + 1)))) else ((tidewrackref06_Of_l4 p0 k150) (IntKind.wrap .i64 (x136 + 1)))) else none) else (tidewrackref06_Of_j3)
def tidewrackref06_Of_j2 (K : Nat) (p0 : Int) : Option Int :=
  tidewrackref06_Of_l4 p0 K 0
def tidewrackref06_Of_l5 (K : Nat) (p0 : Int) : Nat → Int → Option Int
  | 0, _ => none
  | k195 + 1, x181 => bif (decide (x181 < ((([(⟨127, 159⟩ : T32), (⟨768, 879⟩ : T32), (⟨6832, 6911⟩ : T32), (⟨7616, 7679⟩ : T32), (⟨8203, 8207⟩ : T32), (⟨8400, 8447⟩ : T32), (⟨55296, 57343⟩ : T32), (⟨65024, 65039⟩ : T32), (⟨65056, 65071⟩ : T32), (⟨65279, 65279⟩ : T32), (⟨917760, 917999⟩ : T32)] : List T32)).length : Int))) then (if 0 ≤ x181 ∧ x181 < ((([(⟨127, 159⟩ : T32), (⟨768, 879⟩ : T32), (⟨6832, 6911⟩ : T32), (⟨7616, 7679⟩ : T32), (⟨8203, 8207⟩ : T32), (⟨8400, 8447⟩ : T32), (⟨55296, 57343⟩ : T32), (⟨65024, 65039⟩ : T32), (⟨65056, 65071⟩ : T32), (⟨65279, 65279⟩ : T32), (⟨917760, 917999⟩ : T32)] : List T32)).length : Int) then (bif (decide (p0 ≥ ((rdD zT32 ([(⟨127, 159⟩ : T32), (⟨768, 879⟩ : T32), (⟨6832, 6911⟩ : T32), (⟨7616, 7679⟩ : T32), (⟨8203, 8207⟩ : T32), (⟨8400, 8447⟩ : T32), (⟨55296, 57343⟩ : T32), (⟨65024, 65039⟩ : T32), (⟨65056, 65071⟩ : T32), (⟨65279, 65279⟩ : T32), (⟨917760, 917999⟩ : T32)] : List T32) x181).a0))) then (bif (decide (p0 ≤ ((rdD zT32 ([(⟨127, 159⟩ : T32), (⟨768, 879⟩ : T32), (⟨6832, 6911⟩ : T32), (⟨7616, 7679⟩ : T32), (⟨8203, 8207⟩ : T32), (⟨8400, 8447⟩ : T32), (⟨55296, 57343⟩ : T32), (⟨65024, 65039⟩ : T32), (⟨65056, 65071⟩ : T32), (⟨65279, 65279⟩ : T32), (⟨917760, 917999⟩ : T32)] : List T32) x181).a1))) then (some 0) else ((tidewrackref06_Of_l5 K p0 k195) (IntKind.wrap .i64 (x181 + 1)))) else ((tidewrackref06_Of_l5 K p0 k195) (IntKind.wrap .i64 (x181 + 1)))) else none) else (tidewrackref06_Of_j2 K p0)
def tidewrackref06_Of_j1 (K : Nat) (p0 : Int) : Option Int :=
  tidewrackref06_Of_l5 K p0 K 0
def tidewrackref06_Of (K : Nat) (p0 : Int) : Option Int :=
  bif (decide (p0 < (32 : Int))) then (some 0) else (bif (decide (p0 > (1114111 : Int))) then (some 0) else (tidewrackref06_Of_j1 K p0))

/-! tidewrack/wide.Sum -/
def wide_Sum_j1 (x66 : Int) : Option Int :=
  some x66
def wide_Sum_r2 : List (Int × Int) → Int → Option Int
  | [], x102 => wide_Sum_j1 x102
  | x82 :: rest83, x102 => (wide_Sum_r2 rest83) x82.2
def wide_Sum (K : Nat) (p0 : List Int) : Option Int :=
  (wide_columns p0).bind fun t73 => ((wide_columns_1 K p0).bind fun ys80 => (wide_Sum_r2 ys80 0))

/-! tidewrack/tidewrackref06.Fit -/
def tidewrackref06_Fit_j1 (p1 : List Int) : Option Int :=
  some ((p1).length : Int)
def tidewrackref06_Fit_l2 (K : Nat) (p0 : Int) (p1 : List Int) : Nat → Int → Int → Option Int
  | 0, _, _ => none
  | k83 + 1, x68, x69 => bif (decide (x69 < ((p1).length : Int))) then (if 0 ≤ x69 ∧ x69 < ((p1).length : Int) then ((tidewrackref06_Of K (rdD 0 p1 x69)).bind fun t92 => (bif (decide ((IntKind.wrap .i64 (x68 + t92)) > p0)) then (some x69) else ((tidewrackref06_Fit_l2 K p0 p1 k83) (IntKind.wrap .i64 (x68 + t92)) (IntKind.wrap .i64 (x69 + 1))))) else none) else (tidewrackref06_Fit_j1 p1)
def tidewrackref06_Fit (K : Nat) (p0 : Int) (p1 : List Int) : Option Int :=
  tidewrackref06_Fit_l2 K p0 p1 K 0 0

/-! tidewrack/tidewracklaw06.WideTells -/
def tidewracklaw06_WideTells_j1 (K : Nat) (p0 : List Int) (p1 : Int) (x146 : Int) (l149 : List Int) : Option Bool :=
  (wide_Fit K p1 (List.drop 0 (List.take (Int.toNat (mnI ((p0).length : Int) 40)) p0))).bind fun t156 => (bif (decide (p1 < (0 : Int))) then ((wide_Sum K (List.drop 0 (List.take (Int.toNat (mnI ((p0).length : Int) 40)) p0))).bind fun t182 => (bif (t182 == x146) then (some (t156 == (0 : Int))) else (some false))) else ((wide_Sum K (List.drop 0 (List.take (Int.toNat (mnI ((p0).length : Int) 40)) p0))).bind fun t165 => (bif (t165 == x146) then ((tidewrackref06_Fit K p1 l149).bind fun t174 => (some (t156 == t174))) else (some false))))
def tidewracklaw06_WideTells_l2 (K : Nat) (p0 : List Int) (p1 : Int) : Nat → Int → (List Int) → Int → Option Bool
  | 0, _, _, _ => none
  | k268 + 1, x226, l229, x232 => bif (decide (x232 < (((List.drop 0 (List.take (Int.toNat (mnI ((p0).length : Int) 40)) p0))).length : Int))) then (if 0 ≤ x232 ∧ x232 < (((List.drop 0 (List.take (Int.toNat (mnI ((p0).length : Int) 40)) p0))).length : Int) then ((tidewrackref06_Of K (IntKind.wrap .i64 (rdD 0 (List.drop 0 (List.take (Int.toNat (mnI ((p0).length : Int) 40)) p0)) x232))).bind fun t277 => ((wide_Of K (rdD 0 (List.drop 0 (List.take (Int.toNat (mnI ((p0).length : Int) 40)) p0)) x232)).bind fun t285 => (bif (t285 != t277) then (some false) else (if (l229).length + (([(IntKind.wrap .i64 (rdD 0 (List.drop 0 (List.take (Int.toNat (mnI ((p0).length : Int) 40)) p0)) x232))] : List Int)).length ≤ 1000000000 then ((tidewracklaw06_WideTells_l2 K p0 p1 k268) (IntKind.wrap .i64 (x226 + t277)) (l229 ++ ([(IntKind.wrap .i64 (rdD 0 (List.drop 0 (List.take (Int.toNat (mnI ((p0).length : Int) 40)) p0)) x232))] : List Int)) (IntKind.wrap .i64 (x232 + 1))) else none)))) else none) else (tidewracklaw06_WideTells_j1 K p0 p1 x226 l229)
def tidewracklaw06_WideTells (K : Nat) (p0 : List Int) (p1 : Int) : Option Bool :=
  (tidewracklaw06_awake K).bind fun t4 => (bif (!t4) then (some false) else (if 0 ≤ (mnI ((p0).length : Int) 40) then (if (mnI ((p0).length : Int) 40) ≤ ((p0).length : Int) then (tidewracklaw06_WideTells_l2 K p0 p1 K 0 ([] : List Int) 0) else none) else none))

/-! tidewrack/tidewracklaw06.WideFits -/
def tidewracklaw06_WideFits_j1 (K : Nat) (p0 : List Int) (p1 : Int) (t20 : Int) : Option Bool :=
  bif (t20 == (((List.drop 0 (List.take (Int.toNat (mnI ((p0).length : Int) 40)) p0))).length : Int)) then (some true) else (if 0 ≤ (IntKind.wrap .i64 (t20 + 1)) then (if (IntKind.wrap .i64 (t20 + 1)) ≤ (((List.drop 0 (List.take (Int.toNat (mnI ((p0).length : Int) 40)) p0))).length : Int) then ((wide_Sum K (List.drop 0 (List.take (Int.toNat (IntKind.wrap .i64 (t20 + 1))) (List.drop 0 (List.take (Int.toNat (mnI ((p0).length : Int) 40)) p0))))).bind fun t59 => (bif (decide (t59 > (bits .and .i64 p1 127))) then (if 0 ≤ t20 ∧ t20 < (((List.drop 0 (List.take (Int.toNat (mnI ((p0).length : Int) 40)) p0))).length : Int) then ((wide_Of K (rdD 0 (List.drop 0 (List.take (Int.toNat (mnI ((p0).length : Int) 40)) p0)) t20)).bind fun t70 => (some (decide (t70 > (0 : Int))))) else none) else (some false))) else none) else none)
def tidewracklaw06_WideFits (K : Nat) (p0 : List Int) (p1 : Int) : Option Bool :=
  (tidewracklaw06_awake K).bind fun t4 => (bif (!t4) then (some false) else (if 0 ≤ (mnI ((p0).length : Int) 40) then (if (mnI ((p0).length : Int) 40) ≤ ((p0).length : Int) then ((wide_Fit K (bits .and .i64 p1 127) (List.drop 0 (List.take (Int.toNat (mnI ((p0).length : Int) 40)) p0))).bind fun t20 => (bif (decide (t20 < (0 : Int))) then (some false) else (bif (decide (t20 > (((List.drop 0 (List.take (Int.toNat (mnI ((p0).length : Int) 40)) p0))).length : Int))) then (some false) else (if 0 ≤ t20 then (if t20 ≤ (((List.drop 0 (List.take (Int.toNat (mnI ((p0).length : Int) 40)) p0))).length : Int) then ((wide_Sum K (List.drop 0 (List.take (Int.toNat t20) (List.drop 0 (List.take (Int.toNat (mnI ((p0).length : Int) 40)) p0))))).bind fun t87 => (bif (decide (t87 > (bits .and .i64 p1 127))) then (some false) else (tidewracklaw06_WideFits_j1 K p0 p1 t20))) else none) else none)))) else none) else none))

/-! tidewrack/tidewracklaw06.WideAdds -/
def tidewracklaw06_WideAdds (K : Nat) (p0 : List Int) (p1 : List Int) (p2 : Int) : Option Bool :=
  (tidewracklaw06_awake K).bind fun t4 => (bif (!t4) then (some false) else (if 0 ≤ (mnI ((p0).length : Int) 30) then (if (mnI ((p0).length : Int) 30) ≤ ((p0).length : Int) then (if 0 ≤ (mnI ((p1).length : Int) 30) then (if (mnI ((p1).length : Int) 30) ≤ ((p1).length : Int) then (if (([] : List Int)).length + ((List.drop 0 (List.take (Int.toNat (mnI ((p0).length : Int) 30)) p0))).length ≤ 1000000000 then (if ((([] : List Int) ++ (List.drop 0 (List.take (Int.toNat (mnI ((p0).length : Int) 30)) p0)))).length + ((List.drop 0 (List.take (Int.toNat (mnI ((p1).length : Int) 30)) p1))).length ≤ 1000000000 then ((wide_Fit K (bits .and .i64 p2 63) ((([] : List Int) ++ (List.drop 0 (List.take (Int.toNat (mnI ((p0).length : Int) 30)) p0))) ++ (List.drop 0 (List.take (Int.toNat (mnI ((p1).length : Int) 30)) p1)))).bind fun t79 => ((wide_Fit K (IntKind.wrap .i64 ((bits .and .i64 p2 63) + 1)) ((([] : List Int) ++ (List.drop 0 (List.take (Int.toNat (mnI ((p0).length : Int) 30)) p0))) ++ (List.drop 0 (List.take (Int.toNat (mnI ((p1).length : Int) 30)) p1)))).bind fun t87 => ((wide_Sum K ((([] : List Int) ++ (List.drop 0 (List.take (Int.toNat (mnI ((p0).length : Int) 30)) p0))) ++ (List.drop 0 (List.take (Int.toNat (mnI ((p1).length : Int) 30)) p1)))).bind fun t95 => ((wide_Sum K (List.drop 0 (List.take (Int.toNat (mnI ((p0).length : Int) 30)) p0))).bind fun t103 => ((wide_Sum K (List.drop 0 (List.take (Int.toNat (mnI ((p1).length : Int) 30)) p1))).bind fun t111 => (bif (t95 == (IntKind.wrap .i64 (t103 + t111))) then (bif (decide (t79 ≤ t87)) then ((wide_Sum K ((([] : List Int) ++ (List.drop 0 (List.take (Int.toNat (mnI ((p0).length : Int) 30)) p0))) ++ (List.drop 0 (List.take (Int.toNat (mnI ((p1).length : Int) 30)) p1)))).bind fun t121 => (some ((decide (t121 > (bits .and .i64 p2 63))) == (decide (t79 < ((((([] : List Int) ++ (List.drop 0 (List.take (Int.toNat (mnI ((p0).length : Int) 30)) p0))) ++ (List.drop 0 (List.take (Int.toNat (mnI ((p1).length : Int) 30)) p1)))).length : Int)))))) else (some false)) else (some false))))))) else none) else none) else none) else none) else none) else none))

end Go.Proofs.YtbmkbpdgmbdoeaaDoor
