/- Plain laws: what the plain functions answer, with no program in sight. -/
/- The library's slices.Collect over maps.Keys, at this seat's program: by the kit's shelf. -/
import Derived.Shelf.SlIterI.Collect
import Derived.Test.YtpciioffkjpieaaDoorProg
import Derived.Test.YtpciioffkjpieaaDoorZ4
set_option linter.unusedVariables false
namespace Go.Proofs
open Go.Shelf
def Tryd.collectA_ren : Go.Shelf.Ren := ⟨fun | 8 => 50 | 11 => 85 | n => n, fun | 26 => 3 | 28 => 127 | 24 => 40 | 0 => 0 | 33 => 162 | 4 => 4 | n => n, fun | n => n⟩
theorem Tryd.collectA : Go.Proofs.SlLaysZI.n8 Tryd.prog Tryd.collectA_ren := {
  mixed := by kernel_rfl
  f8 := ⟨Tryd.f50.name, by decide, Tryd.func50.trans (congrArg some (by kernel_rfl))⟩
  f11 := ⟨Tryd.f85.name, by decide, Tryd.func85.trans (congrArg some (by kernel_rfl))⟩
  t0 := Tryd.underlying0
  a0 := Tryd.isAgg0
  z0 := Tryd.sizeOf0
  v0 := Tryd.zeroValue0
  t24 := Tryd.underlying40
  a24 := Tryd.isAgg40
  z24 := Tryd.sizeOf40
  v24 := Tryd.zeroValue40
  t26 := Tryd.underlying3
  a26 := Tryd.isAgg3
  z26 := Tryd.sizeOf3
  v26 := Tryd.zeroValue3
  t28 := Tryd.underlying127
  a28 := Tryd.isAgg127
  z28 := Tryd.sizeOf127
  v28 := Tryd.zeroValue127
  i26 := by kernel_rfl }
def Tryd.keysI_ren : Go.Shelf.Ren := ⟨fun | 10 => 86 | n => n, fun | 33 => 162 | 23 => 117 | 0 => 0 | 4 => 4 | 26 => 3 | 3 => 130 | n => n, fun | n => n⟩
theorem Tryd.keysI : Go.Proofs.SlLaysZI.n10 Tryd.prog Tryd.keysI_ren := {
  mixed := by kernel_rfl
  f10 := ⟨Tryd.f86.name, by decide, Tryd.func86.trans (congrArg some (by kernel_rfl))⟩
  t0 := Tryd.underlying0
  a0 := Tryd.isAgg0
  z0 := Tryd.sizeOf0
  v0 := Tryd.zeroValue0
  t4 := Tryd.underlying4
  a4 := Tryd.isAgg4
  z4 := Tryd.sizeOf4
  v4 := Tryd.zeroValue4
  t23 := Tryd.underlying117
  a23 := Tryd.isAgg117
  z23 := Tryd.sizeOf117
  v23 := Tryd.zeroValue117
  t26 := Tryd.underlying3
  a26 := Tryd.isAgg3
  z26 := Tryd.sizeOf3
  v26 := Tryd.zeroValue3
  t33 := Tryd.underlying162
  a33 := Tryd.isAgg162
  z33 := Tryd.sizeOf162
  v33 := Tryd.zeroValue162 }
end Go.Proofs
namespace Go.Proofs.YtpciioffkjpieaaDoor
open Go Go.Proofs.XC
theorem collect50_calls {α : Type} {D : ND α} {ag : Bool} (bx tM : Nat) (A : Option Addr) (m : M α) (w : World) (o : Nat → Nat) {Lb Lm F : Nat} (hb : Ft (Bx bx tM [mv A]) w o Lb) (hm : MpN D ag A m w o Lm F) (hK : KeysOK m) (R0 : Nat) :
    Calls Tryd.prog 50 #[.func (.func 86) #[] #[.pointer (some ⟨bx, 0, none⟩)]] w (Ret fun v_ w' => ∃ o' : Nat → Nat, ∃ A' c, ∃ ks : List Int, v_ = .slice A' ks.length c ∧ St [] w o w' o' ∧ ks.Perm m.keys ∧ Ft (Own (encInt .i64) 3 (.slice A' ks.length c) ks) w' o' R0 ∧ ks.length ≤ c) :=
  collect_of Tryd.collectA Tryd.keysI (enters_of' Tryd.func86 (by kernel_rfl) rfl) rfl bx tM A m w o hb hm hK R0
end Go.Proofs.YtpciioffkjpieaaDoor
