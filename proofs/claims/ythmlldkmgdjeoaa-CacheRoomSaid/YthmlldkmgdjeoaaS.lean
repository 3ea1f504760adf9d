/- Plain laws: what the plain functions answer, with no program in sight. -/
/- The library's slices.Collect over maps.Keys, at this seat's program: by the kit's shelf. -/
import Derived.Shelf.SlIterI.Collect
import Derived.Test.YthmlldkmgdjeoaaProg
import Derived.Test.YthmlldkmgdjeoaaZ4
set_option linter.unusedVariables false
namespace Go.Proofs
open Go.Shelf
def Try.collectA_ren : Go.Shelf.Ren := ⟨fun | 8 => 25 | 11 => 41 | n => n, fun | 26 => 3 | 28 => 69 | 24 => 27 | 0 => 0 | 33 => 95 | 4 => 4 | n => n, fun | n => n⟩
theorem Try.collectA : Go.Proofs.SlLaysZI.n8 Try.prog Try.collectA_ren := {
  mixed := by kernel_rfl
  f8 := ⟨Try.f25.name, by decide, Try.func25.trans (congrArg some (by kernel_rfl))⟩
  f11 := ⟨Try.f41.name, by decide, Try.func41.trans (congrArg some (by kernel_rfl))⟩
  t0 := Try.underlying0
  a0 := Try.isAgg0
  z0 := Try.sizeOf0
  v0 := Try.zeroValue0
  t24 := Try.underlying27
  a24 := Try.isAgg27
  z24 := Try.sizeOf27
  v24 := Try.zeroValue27
  t26 := Try.underlying3
  a26 := Try.isAgg3
  z26 := Try.sizeOf3
  v26 := Try.zeroValue3
  t28 := Try.underlying69
  a28 := Try.isAgg69
  z28 := Try.sizeOf69
  v28 := Try.zeroValue69
  i26 := by kernel_rfl }
def Try.keysI_ren : Go.Shelf.Ren := ⟨fun | 10 => 42 | n => n, fun | 33 => 95 | 23 => 61 | 0 => 0 | 4 => 4 | 26 => 3 | 3 => 72 | n => n, fun | n => n⟩
theorem Try.keysI : Go.Proofs.SlLaysZI.n10 Try.prog Try.keysI_ren := {
  mixed := by kernel_rfl
  f10 := ⟨Try.f42.name, by decide, Try.func42.trans (congrArg some (by kernel_rfl))⟩
  t0 := Try.underlying0
  a0 := Try.isAgg0
  z0 := Try.sizeOf0
  v0 := Try.zeroValue0
  t4 := Try.underlying4
  a4 := Try.isAgg4
  z4 := Try.sizeOf4
  v4 := Try.zeroValue4
  t23 := Try.underlying61
  a23 := Try.isAgg61
  z23 := Try.sizeOf61
  v23 := Try.zeroValue61
  t26 := Try.underlying3
  a26 := Try.isAgg3
  z26 := Try.sizeOf3
  v26 := Try.zeroValue3
  t33 := Try.underlying95
  a33 := Try.isAgg95
  z33 := Try.sizeOf95
  v33 := Try.zeroValue95 }
end Go.Proofs
namespace Go.Proofs.Ythmlldkmgdjeoaa
open Go Go.Proofs.XC
theorem collect25_calls {α : Type} {D : ND α} {ag : Bool} (bx tM : Nat) (A : Option Addr) (m : M α) (w : World) (o : Nat → Nat) {Lb Lm F : Nat} (hb : Ft (Bx bx tM [mv A]) w o Lb) (hm : MpN D ag A m w o Lm F) (hK : KeysOK m) (R0 : Nat) :
    Calls Try.prog 25 #[.func (.func 42) #[] #[.pointer (some ⟨bx, 0, none⟩)]] w (Ret fun v_ w' => ∃ o' : Nat → Nat, ∃ A' c, ∃ ks : List Int, v_ = .slice A' ks.length c ∧ St [] w o w' o' ∧ ks.Perm m.keys ∧ Ft (Own (encInt .i64) 3 (.slice A' ks.length c) ks) w' o' R0 ∧ ks.length ≤ c) :=
  collect_of Try.collectA Try.keysI (enters_of' Try.func42 (by kernel_rfl) rfl) rfl bx tM A m w o hb hm hK R0
end Go.Proofs.Ythmlldkmgdjeoaa
