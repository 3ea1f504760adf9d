/- The statement GramLongest, out of the walk and the plain law. -/
import Derived.Test.YticilepdpobheaaDoorRows
import Derived.Test.YticilepdpobheaaDoorCards
import Derived.Test.YticilepdpobheaaDoorTie
import Derived.SevenTiedAt
import Derived.LaidMore
import Derived.LaidHandle
import Derived.Stop.Joined
import Derived.Test.YticilepdpobheaaDoorW1
import Derived.Test.YticilepdpobheaaDoorW2
import Derived.Test.YticilepdpobheaaDoorW3
import Derived.Test.YticilepdpobheaaDoorPX
set_option linter.unusedVariables false
namespace Go.Proofs.YticilepdpobheaaDoor.gramLongest
open Go Go.Proofs.XC Go.ChangeShapes Go.WideShapes Go.ChangeAt Go.RowKit
open Go.ChangeMaps (open_string shut_string)
theorem own : ownKnob Tryd.prog.godebug = none := by kernel_rfl
theorem laidOut : laidOutB Tryd.prog = true := by kernel_rfl
theorem door_met (os : Os) (args : Array Value) : laidMetH Tryd.prog [("tidewrack/sum.half", Rows.laid_tidewrack_sum_half)] ((World.doorLaid Tryd.prog 400 os).forCall (fun _ _ => 0) ⟨#[], args, []⟩).memory :=
  laidMetH_of_parts3 (fuel := 8) (laidMet_of_run' 8 (by kernel_rfl) (by kernel_rfl)) (by kernel_rfl) (by kernel_rfl)
theorem row0 {W : World} {ps : List MemPlace} (h : DataW.LaidVars Tryd.prog W [("tidewrack/sum.half", Rows.laid_tidewrack_sum_half)] ps) : RdC (encInt .u32) (some ⟨0, 0, none⟩) glob0 W :=
  laid_row (E := (encInt .u32)) (xs := glob0) (d := 9) tab (show Tryd.prog.globalNamed "tidewrack/sum.half" = some 0 by kernel_rfl) (show (Tryd.prog.globals[0]?).map (·.type) = some 83 by kernel_rfl) (by kernel_rfl) (List.Mem.head _) h
set_option maxRecDepth 100000 in
theorem lifted (os : Os) (started : os.Started) (H : Type) (enc : TypeId × Value → H) :
    ReturnsInHanded {} Tryd.checked os 5 .any (fun w args => (Rows.gramLongestSpec.pre enc Tryd.prog Tryd.f5 [] false w args ∧ laidMetH Tryd.prog [("tidewrack/sum.half", Rows.laid_tidewrack_sum_half)] w) ∧ sizedMet enc Tryd.prog Tryd.f5 (OpenSpec.ofChange Rows.gramLongestSpec) false w args) (Rows.gramLongestSpec.post enc Tryd.prog Tryd.f5 false true false false) := by
  refine returnsInHanded_of_change_and (C := Tryd.checked) (X := fun w _ => laidMetH Tryd.prog [("tidewrack/sum.half", Rows.laid_tidewrack_sum_half)] w) (fun _ _ _ hh h => h.of_heap hh) own started (by kernel_rfl) Tryd.func5
    (ChangeSpec.witness_shaped (enc := enc) (C := Tryd.checked) (os := os) (X := fun w _ => laidMetH Tryd.prog [("tidewrack/sum.half", Rows.laid_tidewrack_sum_half)] w) false (World.doorLaid Tryd.prog 400 os) #[(.int .i64 0)] 8 rfl (World.shaped_of_RefB (by kernel_rfl) (by kernel_rfl)) (by kernel_rfl) (by kernel_rfl) (by kernel_rfl) (door_met os _)) ?_
  intro W base args ds gs before hval0 hW hcnd hsz0 hL _
  have hsz : (DataW.weightsEach Tryd.prog (Tryd.f5.params.toList ++ Rows.gramLongestSpec.plain.varTypes Tryd.prog) (ds ++ gs)).all (· ≤ reachBytes) = true := hsz0
  have hval : ∀ (j : Nat) t v, Tryd.f5.params[j]? = some t → args[j]? = some v → Value.okWide Tryd.prog W .any base t v := hval0
  have hW' := hW
  obtain ⟨p, q, hA0, hV, rfl, hfz, hnd⟩ := hW
  have hA : DataW.TrodAll enc Tryd.prog W 0 (fun _ => true) true Tryd.f5.params.toList args.toList ds p := hA0
  rw [Tryd.params5] at hA hval hsz
  obtain ⟨v0, vs0, d0, ds0, p0, q0, hargs, rfl, rfl, h0, r0⟩ := trodAll_cons hA
  obtain ⟨rfl, rfl, rfl⟩ := trodAll_nil r0
  obtain rfl : args = #[v0] := by cases args; simp_all
  obtain ⟨rfl, rfl⟩ := trodVars_none hV
  rw [MakeChecks.laidMetH_plain _ _ _ (by kernel_rfl)] at hL
  obtain ⟨ps_, hlv, _⟩ := hL
  have k0 := h0
  have lt0 : ∀ x ∈ p0, x.block < W.heap.size := by obtain ⟨m, hm⟩ := k0; exact DataW.trod_lt m _ _ _ hm
  obtain ⟨x0, rfl, rfl, rfl, w0⟩ := open_int Tryd.underlying3 (hval 0 3 v0 rfl rfl) h0
  have hg0 := row0 hlv
  clear hA0 hval0 hsz0 hsz
  obtain ⟨K, H⟩ := Pure.GramLongest x0 w0
  refine Calls.mono (tidewracklaw03_GramLongest_calls K x0 W (fun _ => 0) 0 hg0.ft true H) fun e W' ⟨v, he, o', hv, st⟩ => ?_
  subst he
  subst hv
  have bel := st_below st
  exact ⟨_, rfl, _, _, _, [], _, [], hW', trodAll_mk1 (shut_bool Tryd.underlying4 _), (trodAll_cons_mk (Below.trod laidOut (by kernel_rfl) (of_decide_eq_true (by kernel_rfl)) k0 bel lt0) trodAll_mk0), rfl, bel.frame _, fun h => by cases h⟩
theorem over : Rows.gramLongestRow.holds Tryd.pinned (OpenSpec.ofChange Rows.gramLongestSpec) :=
  OpenClaim.holds_of_wide 5 Tryd.f5 rfl rfl rfl rfl rfl rfl rfl ⟨rfl, rfl, rfl, rfl, rfl⟩ rfl rfl rfl rfl rfl (by kernel_rfl) Tryd.func5 (by kernel_rfl)
    (of_decide_eq_true (by kernel_rfl)) (by unfold Func.isWrapper; first | (rw [if_pos (by decide +kernel)]; kernel_rfl) | (rw [if_neg (by decide +kernel)]; exact ⟨rfl, rfl⟩))
    (fun os started H enc _ => lifted os started H enc)
theorem proved : Rows.GramLongestSaid := over
theorem card : Rows.GramLongestCardSaid :=
  Claim7.holds_tied_plain_at .later [] [.data] true (true, "da1d41b3f439a2519bbb2c19fb45009a45a12cea40eafb05c260d7f55805a64a") false
    proved (fun _ h => by cases h) (by kernel_rfl) (fun _ h => by cases h) gramLongest_row_tie rfl ⟨rfl, rfl⟩ (by kernel_rfl) rfl
    (fun f fn hf hfn => by
      obtain rfl : f = 5 := Option.some.inj ((show Tryd.prog.funcNamed Rows.gramLongestRow.func = some 5 by kernel_rfl).symm.trans hf) |>.symm
      obtain rfl : fn = Tryd.f5 := (Option.some.inj (Tryd.func5.symm.trans hfn)).symm
      exact ⟨by kernel_rfl, fun j t ht => by
        rw [Tryd.params5] at ht
        rcases j with _ | j
        · obtain rfl : 3 = t := by simpa using ht
          exact (show Tryd.prog.wantsStandIn 3 = false by kernel_rfl)
        · simp at ht⟩)
    (by kernel_rfl)
end Go.Proofs.YticilepdpobheaaDoor.gramLongest
namespace Go.Proofs.YticilepdpobheaaDoor
/-- The row, under a short name, for the claim. -/
theorem gramLongest_holds : Rows.GramLongestCardSaid := gramLongest.card
#print axioms gramLongest_holds
end Go.Proofs.YticilepdpobheaaDoor
