/- Plain functions, printed by an own program: what the walked code computes. -/
import Derived.Test.YtknddjjgidaedaaY27
set_option linter.unusedVariables false
set_option linter.unusedSimpArgs false
namespace Go.Proofs.Ytknddjjgidaedaa
open Go Go.Proofs.XC
structure T28 where
  From : Int
  To : Int
  Data : ByteArray
abbrev zT28 : T28 := ⟨0, 0, (⟨#[]⟩ : ByteArray)⟩
structure T55 where
  most : Int
  lost : Int
  l : List T28
structure T40 where
  Kind : Int
  I : Int
  At : Int
  Mask : Int
  Gram_From : Int
  Gram_To : Int
  Gram_Data : ByteArray
abbrev zT40 : T40 := ⟨0, 0, 0, 0, 0, 0, (⟨#[]⟩ : ByteArray)⟩
structure T46 where
  Most : Int
  Lost : Int
  L : List T28
def eqT28 (x y : T28) : Bool := ((x.From == y.From) && ((x.To == y.To) && ((x.Data == y.Data) && true)))
namespace WF
def wfBool (_ : Bool) : Prop := True
def wfStr (x : ByteArray) : Prop := x.size ≤ maxLen
def wfi64 (x : Int) : Prop := (Lit.int .i64 x).wf = true
def wfi32 (x : Int) : Prop := (Lit.int .i32 x).wf = true
def wfu8 (x : Int) : Prop := (Lit.int .u8 x).wf = true
def wfu32 (x : Int) : Prop := (Lit.int .u32 x).wf = true
def wfu64 (x : Int) : Prop := (Lit.int .u64 x).wf = true
def wfi8 (x : Int) : Prop := (Lit.int .i8 x).wf = true
def wfi16 (x : Int) : Prop := (Lit.int .i16 x).wf = true
def wfu16 (x : Int) : Prop := (Lit.int .u16 x).wf = true
def wfT28 (x : T28) : Prop := (Lit.int .i64 x.From).wf = true ∧ (Lit.int .i64 x.To).wf = true ∧ x.Data.size ≤ maxLen
def wfT55 (x : T55) : Prop := (Lit.int .i64 x.most).wf = true ∧ (Lit.int .i64 x.lost).wf = true ∧ (∀ y ∈ x.l, wfT28 y) ∧ x.l.length ≤ maxLen
def wfT40 (x : T40) : Prop := (Lit.int .i64 x.Kind).wf = true ∧ (Lit.int .i64 x.I).wf = true ∧ (Lit.int .i64 x.At).wf = true ∧ (Lit.int .u32 x.Mask).wf = true ∧ (Lit.int .i64 x.Gram_From).wf = true ∧ (Lit.int .i64 x.Gram_To).wf = true ∧ x.Gram_Data.size ≤ maxLen
def wfT46 (x : T46) : Prop := (Lit.int .i64 x.Most).wf = true ∧ (Lit.int .i64 x.Lost).wf = true ∧ (∀ y ∈ x.L, wfT28 y) ∧ x.L.length ≤ maxLen
end WF
/-! tidewrack/net.New -/
def net_New (p0 : Int) : Option T55 :=
  some (⟨(mxI 1 (mnI p0 4096)), 0, ([] : List T28)⟩ : T55)

/-! (*tidewrack/net.Net).put -/
def net_Net_put_j2 (p0 : T55) (p1 : T28) : Option (Bool × T55) :=
  some (true, (⟨p0.most, p0.lost, (p0.l ++ ([p1] : List T28))⟩ : T55))
def net_Net_put_j1 (p0 : T55) (p1 : T28) : Option (Bool × T55) :=
  if (p0.l).length + (([p1] : List T28)).length ≤ 1000000000 then (net_Net_put_j2 p0 p1) else none
def net_Net_put (p0 : T55) (p1 : T28) : Option (Bool × T55) :=
  bif (ByteArray.toList p1.Data == ByteArray.toList (⟨#[]⟩ : ByteArray)) then (some (false, p0)) else (bif (decide (((p1.Data).size : Int) > (8192 : Int))) then (some (false, p0)) else (bif (decide (((p0.l).length : Int) ≥ p0.most)) then (some (false, p0)) else (net_Net_put_j1 p0 p1)))

/-! (*tidewrack/net.Net).Send -/
def net_Net_Send_j1 (p1 : List T28) (x107 : Int) (x108 : Int) (l111 : List T28) (x114 : Int) : Option (Int × T55) :=
  some (x114, (⟨x107, (IntKind.wrap .i64 (x108 + (IntKind.wrap .i64 (((p1).length : Int) - x114)))), l111⟩ : T55))
def net_Net_Send_l2 (p1 : List T28) : Nat → Int → Int → (List T28) → Int → Int → Option (Int × T55)
  | 0, _, _, _, _, _ => none
  | k183 + 1, x148, x149, l152, x155, x156 => bif (decide (x156 < ((p1).length : Int))) then (if 0 ≤ x156 ∧ x156 < ((p1).length : Int) then ((net_Net_put (⟨x148, x149, l152⟩ : T55) (rdD zT28 p1 x156)).bind fun t200 => (bif t200.1 then ((net_Net_Send_l2 p1 k183) t200.2.most t200.2.lost t200.2.l (IntKind.wrap .i64 (x155 + 1)) (IntKind.wrap .i64 (x156 + 1))) else ((net_Net_Send_l2 p1 k183) t200.2.most t200.2.lost t200.2.l x155 (IntKind.wrap .i64 (x156 + 1))))) else none) else (net_Net_Send_j1 p1 x148 x149 l152 x155)
def net_Net_Send (K : Nat) (p0 : T55) (p1 : List T28) : Option (Int × T55) :=
  net_Net_Send_l2 p1 K p0.most p0.lost p0.l 0 0

/-! (*tidewrack/net.Net).is -/
def net_Net_is (p0 : T55) (p1 : Int) : Option Bool :=
  bif (decide (p1 ≥ (0 : Int))) then (some (decide (p1 < ((p0.l).length : Int)))) else (some false)

/-! slices.Delete[[]tidewrack/net.Gram,tidewrack/net.Gram] -/
def net_Gram (p0 : List T28) (p1 : Int) (p2 : Int) : Option (List T28) :=
  if 0 ≤ p1 then (if p1 ≤ p2 then (if p2 ≤ ((p0).length : Int) then (bif (p1 == p2) then (some p0) else (if p1 ≤ ((p0).length : Int) then (if 0 ≤ p2 then (some ((List.take (Int.toNat p1) p0) ++ (List.drop (Int.toNat p2) (List.take (p0).length p0)))) else none) else none)) else none) else none) else none

/-! (*tidewrack/net.Net).Take -/
def net_Net_Take (p0 : T55) (p1 : Int) : Option (T28 × Bool × T55) :=
  (net_Net_is p0 p1).bind fun t9 => (bif (!t9) then (some ((⟨0, 0, (⟨#[]⟩ : ByteArray)⟩ : T28), false, p0)) else (if 0 ≤ p1 ∧ p1 < ((p0.l).length : Int) then ((net_Gram p0.l p1 (IntKind.wrap .i64 (p1 + 1))).bind fun t28 => (some ((rdD zT28 p0.l p1), true, (⟨p0.most, p0.lost, t28⟩ : T55)))) else none))

/-! (*tidewrack/net.Net).Lost -/
def net_Net_Lost (p0 : T55) : Option Int :=
  some p0.lost

/-! (*tidewrack/net.Net).Len -/
def net_Net_Len (p0 : T55) : Option Int :=
  some ((p0.l).length : Int)

/-! tidewrack/tidewracklaw25.awake -/
def tidewracklaw25_awake (K : Nat)  : Option Bool :=
  (net_New 1).bind fun t4 => ((net_Net_Send K t4 ([(⟨1, 2, (⟨#[97]⟩ : ByteArray)⟩ : T28), (⟨0, 0, (⟨#[98]⟩ : ByteArray)⟩ : T28)] : List T28)).bind fun t24 => ((net_Net_Take t24.2 0).bind fun t37 => (bif (t24.1 == (1 : Int)) then ((net_Net_Lost t37.2.2).bind fun t59 => (bif (t59 == (1 : Int)) then (bif t37.2.1 then (bif (eqT28 t37.1 (⟨1, 2, (⟨#[97]⟩ : ByteArray)⟩ : T28)) then ((net_Net_Len t37.2.2).bind fun t70 => (some (t70 == (0 : Int)))) else (some false)) else (some false)) else (some false))) else (some false))))

/-! tidewrack/tidewracklaw01.Cut -/
def tidewracklaw01_Cut (p0 : ByteArray) (p1 : Int) : Option ByteArray :=
  bif (decide (((p0).size : Int) > p1)) then (if 0 ≤ p1 then (if p1 ≤ ((p0).size : Int) then (some (ByteArray.extract p0 0 (Int.toNat p1))) else none) else none) else (some p0)

/-! tidewrack/tidewracklaw25.bit -/
def tidewracklaw25_bit (p0 : Bool) : Option Int :=
  bif p0 then (some 1) else (some 0)

/-! (*tidewrack/net.Net).For -/
def net_Net_For_j1 (l106 : List Int) : Option (List Int) :=
  some l106
def net_Net_For_l2 (p0 : T55) (p1 : Int) : Nat → (List Int) → Int → Option (List Int)
  | 0, _, _ => none
  | k173 + 1, l142, x145 => bif (decide (x145 < ((p0.l).length : Int))) then (if 0 ≤ x145 ∧ x145 < ((p0.l).length : Int) then (bif (((rdD zT28 p0.l x145).To) == p1) then (if (l142).length + (([x145] : List Int)).length ≤ 1000000000 then ((net_Net_For_l2 p0 p1 k173) (l142 ++ ([x145] : List Int)) (IntKind.wrap .i64 (x145 + 1))) else none) else ((net_Net_For_l2 p0 p1 k173) l142 (IntKind.wrap .i64 (x145 + 1)))) else none) else (net_Net_For_j1 l142)
def net_Net_For (K : Nat) (p0 : T55) (p1 : Int) : Option (List Int) :=
  net_Net_For_l2 p0 p1 K ([] : List Int) 0

/-! tidewrack/tidewracklaw25.NetOrder -/
def tidewracklaw25_NetOrder_j2 (p0 : List ByteArray) (l291 : List ByteArray) (x428 : Int) (x429 : Int) (l432 : List T28) : Option Bool :=
  (net_Net_Len (⟨x428, x429, l432⟩ : T55)).bind fun t439 => (bif (t439 == (0 : Int)) then ((net_Net_Lost (⟨x428, x429, l432⟩ : T55)).bind fun t448 => (some (t448 == (IntKind.wrap .i64 ((mnI ((p0).length : Int) 40) - ((l291).length : Int)))))) else (some false))
def tidewracklaw25_NetOrder_l3 (p0 : List ByteArray) (l291 : List ByteArray) : Nat → Int → Int → (List T28) → Int → Option Bool
  | 0, _, _, _, _ => none
  | k519 + 1, x484, x485, l488, x491 => bif (decide (x491 < ((l291).length : Int))) then (if 0 ≤ x491 ∧ x491 < ((l291).length : Int) then ((net_Net_Take (⟨x484, x485, l488⟩ : T55) 0).bind fun t528 => (bif (!t528.2.1) then (some false) else (bif (!(ByteArray.toList t528.1.Data == ByteArray.toList (rdD (⟨#[]⟩ : ByteArray) l291 x491))) then (some false) else ((tidewracklaw25_NetOrder_l3 p0 l291 k519) t528.2.2.most t528.2.2.lost t528.2.2.l (IntKind.wrap .i64 (x491 + 1)))))) else none) else (tidewracklaw25_NetOrder_j2 p0 l291 x484 x485 l488)
def tidewracklaw25_NetOrder_j1 (K : Nat) (p0 : List ByteArray) (x282 : Int) (x283 : Int) (l286 : List T28) (l291 : List ByteArray) : Option Bool :=
  (net_Net_For K (⟨x282, x283, l286⟩ : T55) 0).bind fun t298 => ((net_Net_For K (⟨x282, x283, l286⟩ : T55) 1).bind fun t310 => (bif ((IntKind.wrap .i64 (((t298).length : Int) + ((t310).length : Int))) != ((l291).length : Int)) then (some false) else (tidewracklaw25_NetOrder_l3 p0 l291 K x282 x283 l286 0)))
def tidewracklaw25_NetOrder_j6 (K : Nat) (x625 : Int) (x626 : Int) (l629 : List T28) (l634 : List ByteArray) (x637 : Int) (lp713 : Int → Int → (List T28) → (List ByteArray) → Int → Option Bool) (t727 : ByteArray) (x740 : Bool) : Option Bool :=
  (net_Net_Send K (⟨x625, x626, l629⟩ : T55) ([(⟨x637, (bits .and .i64 x637 1), t727⟩ : T28)] : List T28)).bind fun t751 => ((tidewracklaw25_bit x740).bind fun t764 => (bif (t751.1 != t764) then (some false) else (bif x740 then (if (l634).length + (([t727] : List ByteArray)).length ≤ 1000000000 then (lp713 t751.2.most t751.2.lost t751.2.l (l634 ++ ([t727] : List ByteArray)) (IntKind.wrap .i64 (x637 + 1))) else none) else (lp713 t751.2.most t751.2.lost t751.2.l l634 (IntKind.wrap .i64 (x637 + 1))))))
def tidewracklaw25_NetOrder_j5 (K : Nat) (p0 : List ByteArray) (p1 : Int) (x625 : Int) (x626 : Int) (l629 : List T28) (l634 : List ByteArray) (x637 : Int) (lp713 : Int → Int → (List T28) → (List ByteArray) → Int → Option Bool) : Option Bool :=
  if 0 ≤ x637 ∧ x637 < ((p0).length : Int) then ((tidewracklaw01_Cut (rdD (⟨#[]⟩ : ByteArray) p0 x637) 30).bind fun t727 => (bif (!(ByteArray.toList t727 == ByteArray.toList (⟨#[]⟩ : ByteArray))) then (tidewracklaw25_NetOrder_j6 K x625 x626 l629 l634 x637 lp713 t727 (decide (((l634).length : Int) < (IntKind.wrap .i64 (1 + (bits .and .i64 p1 31)))))) else (tidewracklaw25_NetOrder_j6 K x625 x626 l629 l634 x637 lp713 t727 false))) else none
def tidewracklaw25_NetOrder_l4 (K : Nat) (p0 : List ByteArray) (p1 : Int) : Nat → Int → Int → (List T28) → (List ByteArray) → Int → Option Bool
  | 0, _, _, _, _, _ => none
  | k712 + 1, x625, x626, l629, l634, x637 => bif (decide (x637 < ((p0).length : Int))) then (bif (decide (x637 < (40 : Int))) then (tidewracklaw25_NetOrder_j5 K p0 p1 x625 x626 l629 l634 x637 (tidewracklaw25_NetOrder_l4 K p0 p1 k712)) else (tidewracklaw25_NetOrder_j1 K p0 x625 x626 l629 l634)) else (tidewracklaw25_NetOrder_j1 K p0 x625 x626 l629 l634)
def tidewracklaw25_NetOrder (K : Nat) (p0 : List ByteArray) (p1 : Int) : Option Bool :=
  (tidewracklaw25_awake K).bind fun t4 => (bif (!t4) then (some false) else ((net_New (IntKind.wrap .i64 (1 + (bits .and .i64 p1 31)))).bind fun t13 => (tidewracklaw25_NetOrder_l4 K p0 p1 K t13.most t13.lost t13.l ([] : List ByteArray) 0)))

/-! (*tidewrack/net.Net).Lose -/
def net_Net_Lose (p0 : T55) (p1 : Int) : Option (Bool × T55) :=
  (net_Net_Take p0 p1).bind fun t4 => (bif t4.2.1 then (some (true, (⟨t4.2.2.most, (IntKind.wrap .i64 (t4.2.2.lost + 1)), t4.2.2.l⟩ : T55))) else (some (false, t4.2.2)))

/-! (*tidewrack/net.Net).Twin -/
def net_Net_Twin (p0 : T55) (p1 : Int) : Option (Bool × T55) :=
  (net_Net_is p0 p1).bind fun t4 => (bif t4 then (if 0 ≤ p1 ∧ p1 < ((p0.l).length : Int) then ((net_Net_put p0 (rdD zT28 p0.l p1)).bind fun t15 => (some (t15.1, t15.2))) else none) else (some (false, p0)))

/-! tidewrack/sum.Turn -/
def sum_Turn_j1 (l120 : List Int) : Option ByteArray :=
  some (strOfNums l120)
def sum_Turn_j3 (x156 : Int) (l159 : List Int) (x162 : Int) (lp193 : Int → (List Int) → Int → Option ByteArray) : Option ByteArray :=
  if 0 ≤ (IntKind.wrap .i64 (Int.tdiv x162 8)) ∧ (IntKind.wrap .i64 (Int.tdiv x162 8)) < ((l159).length : Int) then (if 0 ≤ (Int.tmod x162 8) then (lp193 (Int.fdiv x156 (2 ^ min (Int.toNat 1) 32)) (List.set l159 (Int.toNat (IntKind.wrap .i64 (Int.tdiv x162 8))) (bits .xor .u8 (rdD 0 l159 (IntKind.wrap .i64 (Int.tdiv x162 8))) (IntKind.wrap .u8 ((IntKind.wrap .u8 (bits .and .u32 x156 1)) * 2 ^ min (Int.toNat (Int.tmod x162 8)) 8)))) (IntKind.wrap .i64 (x162 + 1))) else none) else none
def sum_Turn_l2 : Nat → Int → (List Int) → Int → Option ByteArray
  | 0, _, _, _ => none
  | k192 + 1, x156, l159, x162 => bif (x156 != (0 : Int)) then (bif (decide (x162 < (IntKind.wrap .i64 (8 * ((l159).length : Int))))) then (sum_Turn_j3 x156 l159 x162 (sum_Turn_l2 k192)) else (sum_Turn_j1 l159)) else (sum_Turn_j1 l159)
def sum_Turn (K : Nat) (p0 : ByteArray) (p1 : Int) (p2 : Int) : Option ByteArray :=
  sum_Turn_l2 K p2 (numsOf p0) (mxI 0 (mnI p1 (IntKind.wrap .i64 (8 * (((numsOf p0)).length : Int)))))

/-! (*tidewrack/net.Net).Turn -/
def net_Net_Turn_j1 (p0 : T55) (l183 : List T28) : Option (Bool × T55) :=
  some (true, (⟨p0.most, p0.lost, l183⟩ : T55))
def net_Net_Turn (K : Nat) (p0 : T55) (p1 : Int) (p2 : Int) (p3 : Int) : Option (Bool × T55) :=
  (net_Net_is p0 p1).bind fun t4 => (bif (!t4) then (some (false, p0)) else (if 0 ≤ p1 ∧ p1 < ((p0.l).length : Int) then ((sum_Turn K ((rdD zT28 p0.l p1).Data) p2 p3).bind fun t206 => (net_Net_Turn_j1 p0 (List.set p0.l (Int.toNat p1) (⟨(rdD zT28 p0.l p1).From, (rdD zT28 p0.l p1).To, t206⟩ : T28)))) else none))

/-! tidewrack/tidewracklaw25.NetCounts -/
def tidewracklaw25_NetCounts_j1 : Option Bool :=
  some true
def tidewracklaw25_NetCounts_j4 (x2928 : Int) (lp3648 : Int → Int → (List T28) → Int → Int → Int → Option Bool) (x4010 : Int) (x4011 : Int) (l4014 : List T28) (x4017 : Int) (x4018 : Int) : Option Bool :=
  (net_Net_Lost (⟨x4010, x4011, l4014⟩ : T55)).bind fun t4023 => ((net_Net_Len (⟨x4010, x4011, l4014⟩ : T55)).bind fun t4031 => (bif (x4017 != (IntKind.wrap .i64 ((IntKind.wrap .i64 (x4018 + t4023)) + t4031))) then (some false) else (lp3648 x4010 x4011 l4014 x4017 x4018 (IntKind.wrap .i64 (x2928 + 1)))))
def tidewracklaw25_NetCounts_j5 (K : Nat) (x2919 : Int) (x2920 : Int) (l2923 : List T28) (x2926 : Int) (x2927 : Int) (x2928 : Int) (lp3648 : Int → Int → (List T28) → Int → Int → Int → Option Bool) (x4239 : T28) : Option Bool :=
  (net_Net_Send K (⟨x2919, x2920, l2923⟩ : T55) ([x4239] : List T28)).bind fun t4250 => (tidewracklaw25_NetCounts_j4 x2928 lp3648 t4250.2.most t4250.2.lost t4250.2.l (IntKind.wrap .i64 (x2926 + 1)) x2927)
def tidewracklaw25_NetCounts_j3 (K : Nat) (p1 : List T40) (x2919 : Int) (x2920 : Int) (l2923 : List T28) (x2926 : Int) (x2927 : Int) (x2928 : Int) (lp3648 : Int → Int → (List T28) → Int → Int → Int → Option Bool) : Option Bool :=
  if 0 ≤ x2928 ∧ x2928 < ((p1).length : Int) then (bif (((rdD zT40 p1 x2928).Kind) == (0 : Int)) then ((tidewracklaw01_Cut ((rdD zT40 p1 x2928).Gram_Data) 30).bind fun t4276 => (tidewracklaw25_NetCounts_j5 K x2919 x2920 l2923 x2926 x2927 x2928 lp3648 (⟨(rdD zT40 p1 x2928).Gram_From, (rdD zT40 p1 x2928).Gram_To, t4276⟩ : T28))) else (bif (((rdD zT40 p1 x2928).Kind) == (1 : Int)) then ((net_Net_Take (⟨x2919, x2920, l2923⟩ : T55) ((rdD zT40 p1 x2928).I)).bind fun t4091 => (bif t4091.2.1 then (tidewracklaw25_NetCounts_j4 x2928 lp3648 t4091.2.2.most t4091.2.2.lost t4091.2.2.l x2926 (IntKind.wrap .i64 (x2927 + 1))) else (tidewracklaw25_NetCounts_j4 x2928 lp3648 t4091.2.2.most t4091.2.2.lost t4091.2.2.l x2926 x2927))) else (bif (((rdD zT40 p1 x2928).Kind) == (2 : Int)) then ((net_Net_Lose (⟨x2919, x2920, l2923⟩ : T55) ((rdD zT40 p1 x2928).I)).bind fun t4078 => (tidewracklaw25_NetCounts_j4 x2928 lp3648 t4078.2.most t4078.2.lost t4078.2.l x2926 x2927)) else (bif (((rdD zT40 p1 x2928).Kind) == (3 : Int)) then ((net_Net_Twin (⟨x2919, x2920, l2923⟩ : T55) ((rdD zT40 p1 x2928).I)).bind fun t4057 => ((tidewracklaw25_bit t4057.1).bind fun t4070 => (tidewracklaw25_NetCounts_j4 x2928 lp3648 t4057.2.most t4057.2.lost t4057.2.l (IntKind.wrap .i64 (x2926 + t4070)) x2927))) else ((net_Net_Turn K (⟨x2919, x2920, l2923⟩ : T55) ((rdD zT40 p1 x2928).I) ((rdD zT40 p1 x2928).At) ((rdD zT40 p1 x2928).Mask)).bind fun t4044 => (tidewracklaw25_NetCounts_j4 x2928 lp3648 t4044.2.most t4044.2.lost t4044.2.l x2926 x2927)))))) else none
def tidewracklaw25_NetCounts_l2 (K : Nat) (p1 : List T40) : Nat → Int → Int → (List T28) → Int → Int → Int → Option Bool
  | 0, _, _, _, _, _, _ => none
  | k3647 + 1, x2919, x2920, l2923, x2926, x2927, x2928 => bif (decide (x2928 < ((p1).length : Int))) then (bif (decide (x2928 < (40 : Int))) then (tidewracklaw25_NetCounts_j3 K p1 x2919 x2920 l2923 x2926 x2927 x2928 (tidewracklaw25_NetCounts_l2 K p1 k3647)) else (tidewracklaw25_NetCounts_j1)) else (tidewracklaw25_NetCounts_j1)
def tidewracklaw25_NetCounts (K : Nat) (p0 : Int) (p1 : List T40) : Option Bool :=
  (tidewracklaw25_awake K).bind fun t4 => (bif (!t4) then (some false) else ((net_New p0).bind fun t13 => (tidewracklaw25_NetCounts_l2 K p1 K t13.most t13.lost t13.l 0 0 0)))

/-! tidewrack/tidewrackref25.New -/
def tidewrackref25_New (p0 : Int) : Option T46 :=
  some (⟨(mxI 1 (mnI p0 4096)), 0, ([] : List T28)⟩ : T46)

/-! tidewrack/tidewrackref25.put -/
def tidewrackref25_put_j2 (p0 : T46) (p1 : T28) : Option (T46 × Bool) :=
  some ((⟨p0.Most, p0.Lost, ((([] : List T28) ++ p0.L) ++ ([p1] : List T28))⟩ : T46), true)
def tidewrackref25_put_j1 (p0 : T46) (p1 : T28) : Option (T46 × Bool) :=
  if (([] : List T28)).length + (p0.L).length ≤ 1000000000 then (if ((([] : List T28) ++ p0.L)).length + (([p1] : List T28)).length ≤ 1000000000 then (tidewrackref25_put_j2 p0 p1) else none) else none
def tidewrackref25_put_j3 (p0 : T46) (p1 : T28) (x683 : Bool) : Option (T46 × Bool) :=
  bif x683 then (some (p0, false)) else (tidewrackref25_put_j1 p0 p1)
def tidewrackref25_put (p0 : T46) (p1 : T28) : Option (T46 × Bool) :=
  bif (ByteArray.toList p1.Data == ByteArray.toList (⟨#[]⟩ : ByteArray)) then (tidewrackref25_put_j3 p0 p1 true) else (bif (decide (((p1.Data).size : Int) > (8192 : Int))) then (tidewrackref25_put_j3 p0 p1 true) else (tidewrackref25_put_j3 p0 p1 (decide (((p0.L).length : Int) ≥ p0.Most))))

/-! tidewrack/tidewrackref25.Send -/
def tidewrackref25_Send (p0 : T46) (p1 : T28) : Option (T46 × Bool) :=
  (tidewrackref25_put p0 p1).bind fun t19 => (bif (!t19.2) then (some ((⟨t19.1.Most, (IntKind.wrap .i64 (t19.1.Lost + 1)), t19.1.L⟩ : T46), t19.2)) else (some (t19.1, t19.2)))

/-! tidewrack/tidewrackref25.Take -/
def tidewrackref25_Take_j1 (p0 : T46) (p1 : Int) : Option (T46 × T28 × Bool) :=
  if 0 ≤ p1 ∧ p1 < ((p0.L).length : Int) then (if 0 ≤ p1 then (if p1 ≤ ((p0.L).length : Int) then (if 0 ≤ (IntKind.wrap .i64 (p1 + 1)) then (if (IntKind.wrap .i64 (p1 + 1)) ≤ ((p0.L).length : Int) then (if (([] : List T28)).length + ((List.drop 0 (List.take (Int.toNat p1) p0.L))).length ≤ 1000000000 then (if ((([] : List T28) ++ (List.drop 0 (List.take (Int.toNat p1) p0.L)))).length + ((List.drop (Int.toNat (IntKind.wrap .i64 (p1 + 1))) (List.take (p0.L).length p0.L))).length ≤ 1000000000 then (some ((⟨p0.Most, p0.Lost, ((([] : List T28) ++ (List.drop 0 (List.take (Int.toNat p1) p0.L))) ++ (List.drop (Int.toNat (IntKind.wrap .i64 (p1 + 1))) (List.take (p0.L).length p0.L)))⟩ : T46), (rdD zT28 p0.L p1), true)) else none) else none) else none) else none) else none) else none) else none
def tidewrackref25_Take_j2 (p0 : T46) (p1 : Int) (x193 : Bool) : Option (T46 × T28 × Bool) :=
  bif x193 then (some (p0, (⟨0, 0, (⟨#[]⟩ : ByteArray)⟩ : T28), false)) else (tidewrackref25_Take_j1 p0 p1)
def tidewrackref25_Take (p0 : T46) (p1 : Int) : Option (T46 × T28 × Bool) :=
  bif (decide (p1 < (0 : Int))) then (tidewrackref25_Take_j2 p0 p1 true) else (tidewrackref25_Take_j2 p0 p1 (decide (p1 ≥ ((p0.L).length : Int))))

/-! tidewrack/tidewrackref25.Lose -/
def tidewrackref25_Lose (p0 : T46) (p1 : Int) : Option (T46 × Bool) :=
  (tidewrackref25_Take p0 p1).bind fun t14 => (bif t14.2.2 then (some ((⟨t14.1.Most, (IntKind.wrap .i64 (t14.1.Lost + 1)), t14.1.L⟩ : T46), true)) else (some (t14.1, false)))

/-! tidewrack/tidewrackref25.Twin -/
def tidewrackref25_Twin_j1 (p0 : T46) (p1 : Int) : Option (T46 × Bool) :=
  if 0 ≤ p1 ∧ p1 < ((p0.L).length : Int) then ((tidewrackref25_put p0 (rdD zT28 p0.L p1)).bind fun t72 => (some (t72.1, t72.2))) else none
def tidewrackref25_Twin_j2 (p0 : T46) (p1 : Int) (x92 : Bool) : Option (T46 × Bool) :=
  bif x92 then (some (p0, false)) else (tidewrackref25_Twin_j1 p0 p1)
def tidewrackref25_Twin (p0 : T46) (p1 : Int) : Option (T46 × Bool) :=
  bif (decide (p1 < (0 : Int))) then (tidewrackref25_Twin_j2 p0 p1 true) else (tidewrackref25_Twin_j2 p0 p1 (decide (p1 ≥ ((p0.L).length : Int))))

/-! tidewrack/tidewrackref02.Turn -/
def tidewrackref02_Turn_j1 (l124 : List Int) : Option ByteArray :=
  some (strOfNums l124)
def tidewrackref02_Turn_j3 (p0 : ByteArray) (p1 : Int) (p2 : Int) (l163 : List Int) (x166 : Int) (lp199 : (List Int) → Int → Option ByteArray) : Option ByteArray :=
  if 0 ≤ x166 then (bif ((Int.tmod (Int.fdiv p2 (2 ^ min (Int.toNat x166) 32)) 2) == (1 : Int)) then (if 0 ≤ (IntKind.wrap .i64 (Int.tdiv (IntKind.wrap .i64 ((mxI 0 (mnI p1 (IntKind.wrap .i64 (8 * (((numsOf p0)).length : Int))))) + x166)) 8)) ∧ (IntKind.wrap .i64 (Int.tdiv (IntKind.wrap .i64 ((mxI 0 (mnI p1 (IntKind.wrap .i64 (8 * (((numsOf p0)).length : Int))))) + x166)) 8)) < ((l163).length : Int) then (if 0 ≤ (Int.tmod (IntKind.wrap .i64 ((mxI 0 (mnI p1 (IntKind.wrap .i64 (8 * (((numsOf p0)).length : Int))))) + x166)) 8) then (lp199 (List.set l163 (Int.toNat (IntKind.wrap .i64 (Int.tdiv (IntKind.wrap .i64 ((mxI 0 (mnI p1 (IntKind.wrap .i64 (8 * (((numsOf p0)).length : Int))))) + x166)) 8))) (bits .xor .u8 (rdD 0 l163 (IntKind.wrap .i64 (Int.tdiv (IntKind.wrap .i64 ((mxI 0 (mnI p1 (IntKind.wrap .i64 (8 * (((numsOf p0)).length : Int))))) + x166)) 8))) (IntKind.wrap .u8 (1 * 2 ^ min (Int.toNat (Int.tmod (IntKind.wrap .i64 ((mxI 0 (mnI p1 (IntKind.wrap .i64 (8 * (((numsOf p0)).length : Int))))) + x166)) 8)) 8)))) (IntKind.wrap .i64 (x166 + 1))) else none) else none) else (lp199 l163 (IntKind.wrap .i64 (x166 + 1)))) else none
def tidewrackref02_Turn_l2 (p0 : ByteArray) (p1 : Int) (p2 : Int) : Nat → (List Int) → Int → Option ByteArray
  | 0, _, _ => none
  | k198 + 1, l163, x166 => bif (decide (x166 < (32 : Int))) then (bif (decide ((IntKind.wrap .i64 ((mxI 0 (mnI p1 (IntKind.wrap .i64 (8 * (((numsOf p0)).length : Int))))) + x166)) < (IntKind.wrap .i64 (8 * ((l163).length : Int))))) then (tidewrackref02_Turn_j3 p0 p1 p2 l163 x166 (tidewrackref02_Turn_l2 p0 p1 p2 k198)) else (tidewrackref02_Turn_j1 l163)) else (tidewrackref02_Turn_j1 l163)
def tidewrackref02_Turn (K : Nat) (p0 : ByteArray) (p1 : Int) (p2 : Int) : Option ByteArray :=
  tidewrackref02_Turn_l2 p0 p1 p2 K (numsOf p0) 0

/-! tidewrack/tidewrackref25.Turn -/
def tidewrackref25_Turn_j1 (K : Nat) (p0 : T46) (p1 : Int) (p2 : Int) (p3 : Int) : Option (T46 × Bool) :=
  if (([] : List T28)).length + (p0.L).length ≤ 1000000000 then (if 0 ≤ p1 ∧ p1 < (((([] : List T28) ++ p0.L)).length : Int) then ((tidewrackref02_Turn K ((rdD zT28 (([] : List T28) ++ p0.L) p1).Data) p2 p3).bind fun t50 => (some ((⟨p0.Most, p0.Lost, (List.set (([] : List T28) ++ p0.L) (Int.toNat p1) (⟨(rdD zT28 (([] : List T28) ++ p0.L) p1).From, (rdD zT28 (([] : List T28) ++ p0.L) p1).To, t50⟩ : T28))⟩ : T46), true))) else none) else none
def tidewrackref25_Turn_j2 (K : Nat) (p0 : T46) (p1 : Int) (p2 : Int) (p3 : Int) (x73 : Bool) : Option (T46 × Bool) :=
  bif x73 then (some (p0, false)) else (tidewrackref25_Turn_j1 K p0 p1 p2 p3)
def tidewrackref25_Turn (K : Nat) (p0 : T46) (p1 : Int) (p2 : Int) (p3 : Int) : Option (T46 × Bool) :=
  bif (decide (p1 < (0 : Int))) then (tidewrackref25_Turn_j2 K p0 p1 p2 p3 true) else (tidewrackref25_Turn_j2 K p0 p1 p2 p3 (decide (p1 ≥ ((p0.L).length : Int))))

/-! tidewrack/tidewracklaw25.do -/
def tidewracklaw25_do (K : Nat) (p0 : T55) (p1 : T46) (p2 : T40) : Option (T46 × Bool × T55) :=
  bif (p2.Kind == (0 : Int)) then ((tidewracklaw01_Cut p2.Gram_Data 40).bind fun t313 => ((tidewrackref25_Send p1 (⟨p2.Gram_From, p2.Gram_To, t313⟩ : T28)).bind fun t324 => ((tidewrackref25_Send t324.1 (⟨p2.Gram_To, p2.Gram_From, t313⟩ : T28)).bind fun t344 => ((net_Net_Send K p0 ([(⟨p2.Gram_From, p2.Gram_To, t313⟩ : T28), (⟨p2.Gram_To, p2.Gram_From, t313⟩ : T28)] : List T28)).bind fun t370 => ((tidewracklaw25_bit t324.2).bind fun t423 => ((tidewracklaw25_bit t344.2).bind fun t431 => (some (t344.1, (t370.1 == (IntKind.wrap .i64 (t423 + t431))), t370.2)))))))) else (bif (p2.Kind == (1 : Int)) then ((tidewrackref25_Take p1 p2.I).bind fun t233 => ((net_Net_Take p0 p2.I).bind fun t261 => (bif (eqT28 t261.1 t233.2.1) then (some (t233.1, (t261.2.1 == t233.2.2), t261.2.2)) else (some (t233.1, false, t261.2.2))))) else (bif (p2.Kind == (2 : Int)) then ((tidewrackref25_Lose p1 p2.I).bind fun t163 => ((net_Net_Lose p0 p2.I).bind fun t217 => (some (t163.1, (t217.1 == t163.2), t217.2)))) else (bif (p2.Kind == (3 : Int)) then ((tidewrackref25_Twin p1 p2.I).bind fun t93 => ((net_Net_Twin p0 p2.I).bind fun t147 => (some (t93.1, (t147.1 == t93.2), t147.2)))) else ((tidewrackref25_Turn K p1 p2.I p2.At p2.Mask).bind fun t23 => ((net_Net_Turn K p0 p2.I p2.At p2.Mask).bind fun t77 => (some (t23.1, (t77.1 == t23.2), t77.2)))))))

/-! slices.Clone[[]tidewrack/net.Gram,tidewrack/net.Gram] -/
def net_Gram' (p0 : List T28) : Option (List T28) :=
  if (([] : List T28)).length + (p0).length ≤ 1000000000 then (some (([] : List T28) ++ p0)) else none

/-! (*tidewrack/net.Net).All -/
def net_Net_All (p0 : T55) : Option (List T28) :=
  (net_Gram' p0.l).bind fun t4 => (some t4)

/-! tidewrack/tidewracklaw01.Same -/
def tidewracklaw01_Same_j1 : Option Bool :=
  some true
def tidewracklaw01_Same_l2 (p0 : List Int) (p1 : List Int) : Nat → Int → Option Bool
  | 0, _ => none
  | k102 + 1, x84 => bif (decide (x84 < ((p0).length : Int))) then (if 0 ≤ x84 ∧ x84 < ((p0).length : Int) then (if 0 ≤ x84 ∧ x84 < ((p1).length : Int) then (bif ((rdD 0 p0 x84) != (rdD 0 p1 x84)) then (some false) else ((tidewracklaw01_Same_l2 p0 p1 k102) (IntKind.wrap .i64 (x84 + 1)))) else none) else none) else (tidewracklaw01_Same_j1)
def tidewracklaw01_Same (K : Nat) (p0 : List Int) (p1 : List Int) : Option Bool :=
  bif (((p0).length : Int) != ((p1).length : Int)) then (some false) else (tidewracklaw01_Same_l2 p0 p1 K 0)

/-! tidewrack/tidewracklaw25.Is -/
def tidewracklaw25_Is_j2 : Option Bool :=
  some true
def tidewracklaw25_Is_j4 (x2458 : Int) (lp3051 : Int → Option Bool) : Option Bool :=
  lp3051 (IntKind.wrap .i64 (x2458 + 1))
def tidewracklaw25_Is_j5 (K : Nat) (p0 : T55) (p1 : T46) (t9 : List T28) (x2458 : Int) (lp3051 : Int → Option Bool) (l3475 : List Int) : Option Bool :=
  if 0 ≤ x2458 ∧ x2458 < ((t9).length : Int) then (bif (!(eqT28 (rdD zT28 t9 x2458) (rdD zT28 p1.L x2458))) then (some false) else ((net_Net_For K p0 ((rdD zT28 p1.L x2458).To)).bind fun t3533 => ((tidewracklaw01_Same K t3533 l3475).bind fun t3545 => (bif (!t3545) then (some false) else (tidewracklaw25_Is_j4 x2458 lp3051))))) else none
def tidewracklaw25_Is_l6 (K : Nat) (p0 : T55) (p1 : T46) (t9 : List T28) (x2458 : Int) (lp3051 : Int → Option Bool) : Nat → (List Int) → Int → Option Bool
  | 0, _, _ => none
  | k3614 + 1, l3583, x3586 => bif (decide (x3586 < ((p1.L).length : Int))) then (if 0 ≤ x3586 ∧ x3586 < ((p1.L).length : Int) then (bif (((rdD zT28 p1.L x3586).To) == ((rdD zT28 p1.L x2458).To)) then (if (l3583).length + (([x3586] : List Int)).length ≤ 1000000000 then ((tidewracklaw25_Is_l6 K p0 p1 t9 x2458 lp3051 k3614) (l3583 ++ ([x3586] : List Int)) (IntKind.wrap .i64 (x3586 + 1))) else none) else ((tidewracklaw25_Is_l6 K p0 p1 t9 x2458 lp3051 k3614) l3583 (IntKind.wrap .i64 (x3586 + 1)))) else none) else (tidewracklaw25_Is_j5 K p0 p1 t9 x2458 lp3051 l3583)
def tidewracklaw25_Is_l3 (K : Nat) (p0 : T55) (p1 : T46) (t9 : List T28) : Nat → Int → Option Bool
  | 0, _ => none
  | k3050 + 1, x2458 => bif (decide (x2458 < ((p1.L).length : Int))) then (if 0 ≤ x2458 ∧ x2458 < ((p1.L).length : Int) then (tidewracklaw25_Is_l6 K p0 p1 t9 x2458 (tidewracklaw25_Is_l3 K p0 p1 t9 k3050) K ([] : List Int) 0) else none) else (tidewracklaw25_Is_j2)
def tidewracklaw25_Is_j1 (K : Nat) (p0 : T55) (p1 : T46) (t9 : List T28) : Option Bool :=
  tidewracklaw25_Is_l3 K p0 p1 t9 K 0
def tidewracklaw25_Is (K : Nat) (p0 : T55) (p1 : T46) : Option Bool :=
  (net_Net_All p0).bind fun t9 => (bif (((t9).length : Int) != ((p1.L).length : Int)) then (some false) else ((net_Net_Len p0).bind fun t3685 => (bif (t3685 != ((t9).length : Int)) then (some false) else ((net_Net_Lost p0).bind fun t3694 => (bif (t3694 != p1.Lost) then (some false) else (tidewracklaw25_Is_j1 K p0 p1 t9))))))

/-! (*tidewrack/net.Net).Clone -/
def net_Net_Clone (p0 : T55) : Option T55 :=
  (net_Gram' p0.l).bind fun t40 => (some (⟨p0.most, p0.lost, t40⟩ : T55))

/-! tidewrack/tidewracklaw25.NetPlays -/
def tidewracklaw25_NetPlays_j3 (K : Nat) (x375 : Int) (x376 : Int) (l379 : List T28) (x382 : Int) (x383 : Int) (l386 : List T28) (x871 : Int) (x872 : Int) (l875 : List T28) (x878 : Int) (x879 : Int) (l882 : List T28) : Option Bool :=
  (tidewracklaw25_Is K (⟨x375, x376, l379⟩ : T55) (⟨x382, x383, l386⟩ : T46)).bind fun t889 => (bif t889 then ((tidewracklaw25_Is K (⟨x871, x872, l875⟩ : T55) (⟨x878, x879, l882⟩ : T46)).bind fun t898 => (some t898)) else (some false))
def tidewracklaw25_NetPlays_j5 (K : Nat) (p2 : List T40) (x986 : Int) (x987 : Int) (l990 : List T28) (x993 : Int) (x994 : Int) (l997 : List T28) (x1000 : Int) (lp1081 : Int → Int → (List T28) → Int → Int → (List T28) → Int → Option Bool) : Option Bool :=
  if 0 ≤ x1000 ∧ x1000 < ((p2).length : Int) then ((tidewracklaw25_do K (⟨x986, x987, l990⟩ : T55) (⟨x993, x994, l997⟩ : T46) (rdD zT40 p2 x1000)).bind fun t1141 => (bif (!t1141.2.1) then (some false) else (lp1081 t1141.2.2.most t1141.2.2.lost t1141.2.2.l t1141.1.Most t1141.1.Lost t1141.1.L (IntKind.wrap .i64 (x1000 + 1))))) else none
def tidewracklaw25_NetPlays_l4 (K : Nat) (p2 : List T40) (x375 : Int) (x376 : Int) (l379 : List T28) (x382 : Int) (x383 : Int) (l386 : List T28) : Nat → Int → Int → (List T28) → Int → Int → (List T28) → Int → Option Bool
  | 0, _, _, _, _, _, _, _ => none
  | k1080 + 1, x986, x987, l990, x993, x994, l997, x1000 => bif (decide (x1000 < ((p2).length : Int))) then (bif (decide (x1000 < (15 : Int))) then (tidewracklaw25_NetPlays_j5 K p2 x986 x987 l990 x993 x994 l997 x1000 (tidewracklaw25_NetPlays_l4 K p2 x375 x376 l379 x382 x383 l386 k1080)) else (tidewracklaw25_NetPlays_j3 K x375 x376 l379 x382 x383 l386 x986 x987 l990 x993 x994 l997)) else (tidewracklaw25_NetPlays_j3 K x375 x376 l379 x382 x383 l386 x986 x987 l990 x993 x994 l997)
def tidewracklaw25_NetPlays_j2 (K : Nat) (p2 : List T40) (x375 : Int) (x376 : Int) (l379 : List T28) (x382 : Int) (x383 : Int) (l386 : List T28) (x583 : Int) (x584 : Int) (l587 : List T28) : Option Bool :=
  tidewracklaw25_NetPlays_l4 K p2 x375 x376 l379 x382 x383 l386 K x583 x584 l587 x382 x383 l386 0
def tidewracklaw25_NetPlays_j1 (K : Nat) (p2 : List T40) (x375 : Int) (x376 : Int) (l379 : List T28) (x382 : Int) (x383 : Int) (l386 : List T28) : Option Bool :=
  (net_Net_Clone (⟨x375, x376, l379⟩ : T55)).bind fun t1183 => (tidewracklaw25_NetPlays_j2 K p2 x375 x376 l379 x382 x383 l386 t1183.most t1183.lost t1183.l)
def tidewracklaw25_NetPlays_j7 (K : Nat) (p0 : Int) (p1 : List T40) (x1416 : Int) (x1417 : Int) (l1420 : List T28) (x1423 : Int) (x1424 : Int) (l1427 : List T28) (x1430 : Int) (lp1529 : Int → Int → (List T28) → Int → Int → (List T28) → Int → Option Bool) : Option Bool :=
  if 0 ≤ x1430 ∧ x1430 < ((p1).length : Int) then ((tidewracklaw25_do K (⟨x1416, x1417, l1420⟩ : T55) (⟨x1423, x1424, l1427⟩ : T46) (rdD zT40 p1 x1430)).bind fun t1589 => (bif (!t1589.2.1) then (some false) else ((tidewracklaw25_Is K t1589.2.2 t1589.1).bind fun t1610 => (bif (!t1610) then (some false) else ((net_Net_Len t1589.2.2).bind fun t1619 => (bif (decide (t1619 > (mxI 1 (mnI p0 4096)))) then (some false) else (lp1529 t1589.2.2.most t1589.2.2.lost t1589.2.2.l t1589.1.Most t1589.1.Lost t1589.1.L (IntKind.wrap .i64 (x1430 + 1))))))))) else none
def tidewracklaw25_NetPlays_l6 (K : Nat) (p0 : Int) (p1 : List T40) (p2 : List T40) : Nat → Int → Int → (List T28) → Int → Int → (List T28) → Int → Option Bool
  | 0, _, _, _, _, _, _, _ => none
  | k1528 + 1, x1416, x1417, l1420, x1423, x1424, l1427, x1430 => bif (decide (x1430 < ((p1).length : Int))) then (bif (decide (x1430 < (30 : Int))) then (tidewracklaw25_NetPlays_j7 K p0 p1 x1416 x1417 l1420 x1423 x1424 l1427 x1430 (tidewracklaw25_NetPlays_l6 K p0 p1 p2 k1528)) else (tidewracklaw25_NetPlays_j1 K p2 x1416 x1417 l1420 x1423 x1424 l1427)) else (tidewracklaw25_NetPlays_j1 K p2 x1416 x1417 l1420 x1423 x1424 l1427)
def tidewracklaw25_NetPlays (K : Nat) (p0 : Int) (p1 : List T40) (p2 : List T40) : Option Bool :=
  (tidewracklaw25_awake K).bind fun t4 => (bif (!t4) then (some false) else ((net_New p0).bind fun t13 => ((tidewrackref25_New p0).bind fun t27 => (tidewracklaw25_NetPlays_l6 K p0 p1 p2 K t13.most t13.lost t13.l t27.Most t27.Lost t27.L 0))))

end Go.Proofs.Ytknddjjgidaedaa
