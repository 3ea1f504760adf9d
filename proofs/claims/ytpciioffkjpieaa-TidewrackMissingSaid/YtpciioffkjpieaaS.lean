/- Plain laws: what the plain functions answer, with no program in sight. -/
/- The library's slices.Collect over maps.Keys, at this seat's program: by the kit's shelf. -/
import Derived.Shelf.SlIterI.Collect
import Derived.Test.YtpciioffkjpieaaProg
import Derived.Test.YtpciioffkjpieaaZ4
set_option linter.unusedVariables false
namespace Go.Proofs
open Go.Shelf
def Try.collectA_ren : Go.Shelf.Ren := ⟨fun | 8 => 16 | 11 => 26 | n => n, fun | 26 => 3 | 28 => 50 | 24 => 22 | 0 => 0 | 33 => 62 | 4 => 4 | n => n, fun | n => n⟩
theorem Try.collectA : Go.Proofs.SlLaysZI.n8 Try.prog Try.collectA_ren := {
  mixed := by kernel_rfl
  f8 := ⟨Try.f16.name, by decide, Try.func16.trans (congrArg some (by kernel_rfl))⟩
  f11 := ⟨Try.f26.name, by decide, Try.func26.trans (congrArg some (by kernel_rfl))⟩
  t0 := Try.underlying0
  a0 := Try.isAgg0
  z0 := Try.sizeOf0
  v0 := Try.zeroValue0
  t24 := Try.underlying22
  a24 := Try.isAgg22
  z24 := Try.sizeOf22
  v24 := Try.zeroValue22
  t26 := Try.underlying3
  a26 := Try.isAgg3
  z26 := Try.sizeOf3
  v26 := Try.zeroValue3
  t28 := Try.underlying50
  a28 := Try.isAgg50
  z28 := Try.sizeOf50
  v28 := Try.zeroValue50
  i26 := by kernel_rfl }
def Try.keysI_ren : Go.Shelf.Ren := ⟨fun | 10 => 27 | n => n, fun | 33 => 62 | 23 => 40 | 0 => 0 | 4 => 4 | 26 => 3 | 3 => 53 | n => n, fun | n => n⟩
theorem Try.keysI : Go.Proofs.SlLaysZI.n10 Try.prog Try.keysI_ren := {
  mixed := by kernel_rfl
  f10 := ⟨Try.f27.name, by decide, Try.func27.trans (congrArg some (by kernel_rfl))⟩
  t0 := Try.underlying0
  a0 := Try.isAgg0
  z0 := Try.sizeOf0
  v0 := Try.zeroValue0
  t4 := Try.underlying4
  a4 := Try.isAgg4
  z4 := Try.sizeOf4
  v4 := Try.zeroValue4
  t23 := Try.underlying40
  a23 := Try.isAgg40
  z23 := Try.sizeOf40
  v23 := Try.zeroValue40
  t26 := Try.underlying3
  a26 := Try.isAgg3
  z26 := Try.sizeOf3
  v26 := Try.zeroValue3
  t33 := Try.underlying62
  a33 := Try.isAgg62
  z33 := Try.sizeOf62
  v33 := Try.zeroValue62 }
end Go.Proofs
namespace Go.Proofs.Ytpciioffkjpieaa
open Go Go.Proofs.XC
theorem collect16_calls {α : Type} {D : ND α} {ag : Bool} (bx tM : Nat) (A : Option Addr) (m : M α) (w : World) (o : Nat → Nat) {Lb Lm F : Nat} (hb : Ft (Bx bx tM [mv A]) w o Lb) (hm : MpN D ag A m w o Lm F) (hK : KeysOK m) (R0 : Nat) :
    Calls Try.prog 16 #[.func (.func 27) #[] #[.pointer (some ⟨bx, 0, none⟩)]] w (Ret fun v_ w' => ∃ o' : Nat → Nat, ∃ A' c, ∃ ks : List Int, v_ = .slice A' ks.length c ∧ St [] w o w' o' ∧ ks.Perm m.keys ∧ Ft (Own (encInt .i64) 3 (.slice A' ks.length c) ks) w' o' R0 ∧ ks.length ≤ c) :=
  collect_of Try.collectA Try.keysI (enters_of' Try.func27 (by kernel_rfl) rfl) rfl bx tM A m w o hb hm hK R0
end Go.Proofs.Ytpciioffkjpieaa
