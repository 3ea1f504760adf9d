/- The statement FlowWidths, out of the walk and the plain law. -/
import Derived.Test.YteghllmaknenlaaDoorRows
import Derived.Test.YteghllmaknenlaaDoorCards
import Derived.Test.YteghllmaknenlaaDoorTie
import Derived.SevenTiedAt
import Derived.LaidMore
import Derived.LaidHandle
import Derived.Stop.Joined
import Derived.Test.YteghllmaknenlaaDoorW1
import Derived.Test.YteghllmaknenlaaDoorW2
import Derived.Test.YteghllmaknenlaaDoorW3
import Derived.Test.YteghllmaknenlaaDoorPY
set_option linter.unusedVariables false
namespace Go.Proofs.YteghllmaknenlaaDoor.flowWidths
open Go Go.Proofs.XC Go.ChangeShapes Go.WideShapes Go.ChangeAt Go.RowKit
open Go.ChangeMaps (open_string shut_string)
theorem own : ownKnob Tryd.prog.godebug = none := by kernel_rfl
theorem laidOut : laidOutB Tryd.prog = true := by kernel_rfl
theorem dec0 (cs : List Value) (h0 : AreC [.i .i32, .i .i64] cs) : ∃ y, cs = Enc.f ET24 y ∧ (WF.wfT24) y := by
  obtain ⟨v0, u0, rfl, ⟨a0, rfl, w0⟩, h1⟩ := h0.cons
  obtain ⟨v1, u1, rfl, ⟨a1, rfl, w1⟩, h2⟩ := h1.cons
  obtain rfl := h2.nil
  exact ⟨⟨a0, a1⟩, rfl, ⟨w0, w1⟩⟩
theorem door_met (os : Os) (args : Array Value) : laidMetH Tryd.prog [("tidewrack/wide.twos", Rows.laid_tidewrack_wide_twos), ("tidewrack/wide.nones", Rows.laid_tidewrack_wide_nones)] ((World.doorLaid Tryd.prog 400 os).forCall (fun _ _ => 0) ⟨#[], args, []⟩).memory :=
  laidMetH_of_parts3 (fuel := 8) (laidMet_of_run' 8 (by kernel_rfl) (by kernel_rfl)) (by kernel_rfl) (by kernel_rfl)
theorem row0 {W : World} {ps : List MemPlace} (h : DataW.LaidVars Tryd.prog W [("tidewrack/wide.twos", Rows.laid_tidewrack_wide_twos), ("tidewrack/wide.nones", Rows.laid_tidewrack_wide_nones)] ps) : RdC ET68 (some ⟨0, 0, none⟩) glob0 W :=
  laid_row (E := ET68) (xs := glob0) (d := 9) tab (show Tryd.prog.globalNamed "tidewrack/wide.nones" = some 0 by kernel_rfl) (show (Tryd.prog.globals[0]?).map (·.type) = some 70 by kernel_rfl) (by kernel_rfl) (List.Mem.tail _ (List.Mem.head _)) h
theorem row1 {W : World} {ps : List MemPlace} (h : DataW.LaidVars Tryd.prog W [("tidewrack/wide.twos", Rows.laid_tidewrack_wide_twos), ("tidewrack/wide.nones", Rows.laid_tidewrack_wide_nones)] ps) : RdC ET68 (some ⟨1, 0, none⟩) glob1 W :=
  laid_row (E := ET68) (xs := glob1) (d := 9) tab (show Tryd.prog.globalNamed "tidewrack/wide.twos" = some 1 by kernel_rfl) (show (Tryd.prog.globals[1]?).map (·.type) = some 71 by kernel_rfl) (by kernel_rfl) (List.Mem.head _) h
set_option maxRecDepth 100000 in
theorem lifted (os : Os) (started : os.Started) (H : Type) (enc : TypeId × Value → H) :
    ReturnsInHanded {} Tryd.checked os 7 .any (fun w args => (Rows.flowWidthsSpec.pre enc Tryd.prog Tryd.f7 [] false w args ∧ laidMetH Tryd.prog [("tidewrack/wide.twos", Rows.laid_tidewrack_wide_twos), ("tidewrack/wide.nones", Rows.laid_tidewrack_wide_nones)] w) ∧ sizedMet enc Tryd.prog Tryd.f7 (OpenSpec.ofChange Rows.flowWidthsSpec) false w args) (Rows.flowWidthsSpec.post enc Tryd.prog Tryd.f7 false true false false) := by
  refine returnsInHanded_of_change_and (C := Tryd.checked) (X := fun w _ => laidMetH Tryd.prog [("tidewrack/wide.twos", Rows.laid_tidewrack_wide_twos), ("tidewrack/wide.nones", Rows.laid_tidewrack_wide_nones)] w) (fun _ _ _ hh h => h.of_heap hh) own started (by kernel_rfl) Tryd.func7
    (ChangeSpec.witness_shaped (enc := enc) (C := Tryd.checked) (os := os) (X := fun w _ => laidMetH Tryd.prog [("tidewrack/wide.twos", Rows.laid_tidewrack_wide_twos), ("tidewrack/wide.nones", Rows.laid_tidewrack_wide_nones)] w) false (World.doorLaid Tryd.prog 400 os) #[(.slice none 0 0), (.int .i64 0), (.int .i64 0)] 8 rfl (World.shaped_of_RefB (by kernel_rfl) (by kernel_rfl)) (by kernel_rfl) (by kernel_rfl) (by kernel_rfl) (door_met os _)) ?_
  intro W base args ds gs before hval0 hW hcnd hsz0 hL _
  have hsz : (DataW.weightsEach Tryd.prog (Tryd.f7.params.toList ++ Rows.flowWidthsSpec.plain.varTypes Tryd.prog) (ds ++ gs)).all (· ≤ reachBytes) = true := hsz0
  have hval : ∀ (j : Nat) t v, Tryd.f7.params[j]? = some t → args[j]? = some v → Value.okWide Tryd.prog W .any base t v := hval0
  have hW' := hW
  obtain ⟨p, q, hA0, hV, rfl, hfz, hnd⟩ := hW
  have hA : DataW.TrodAll enc Tryd.prog W 0 (fun _ => true) true Tryd.f7.params.toList args.toList ds p := hA0
  rw [Tryd.params7] at hA hval hsz
  obtain ⟨v0, vs0, d0, ds0, p0, q0, hargs, rfl, rfl, h0, r0⟩ := trodAll_cons hA
  obtain ⟨v1, vs1, d1, ds1, p1, q1, rfl, rfl, rfl, h1, r1⟩ := trodAll_cons r0
  obtain ⟨v2, vs2, d2, ds2, p2, q2, rfl, rfl, rfl, h2, r2⟩ := trodAll_cons r1
  obtain ⟨rfl, rfl, rfl⟩ := trodAll_nil r2
  obtain rfl : args = #[v0, v1, v2] := by cases args; simp_all
  obtain ⟨rfl, rfl⟩ := trodVars_none hV
  rw [MakeChecks.laidMetH_plain _ _ _ (by kernel_rfl)] at hL
  obtain ⟨ps_, hlv, _⟩ := hL
  have k0 := h0
  have lt0 : ∀ x ∈ p0, x.block < W.heap.size := by obtain ⟨m, hm⟩ := k0; exact DataW.trod_lt m _ _ _ hm
  obtain ⟨A0, c0, x0, rfl, rd0, hc0, hm0, w0⟩ := open_rows (E := ET24) (WF := (WF.wfT24)) (d := 9) (t := 22) tab rfl rfl rfl dec0 (hval 0 22 v0 rfl rfl) h0
  have k1 := h1
  have lt1 : ∀ x ∈ p1, x.block < W.heap.size := by obtain ⟨m, hm⟩ := k1; exact DataW.trod_lt m _ _ _ hm
  obtain ⟨x1, rfl, rfl, rfl, w1⟩ := open_int Tryd.underlying3 (hval 1 3 v1 rfl rfl) h1
  have k2 := h2
  have lt2 : ∀ x ∈ p2, x.block < W.heap.size := by obtain ⟨m, hm⟩ := k2; exact DataW.trod_lt m _ _ _ hm
  obtain ⟨x2, rfl, rfl, rfl, w2⟩ := open_int Tryd.underlying3 (hval 2 3 v2 rfl rfl) h2
  have hg0 := row0 hlv
  have hg1 := row1 hlv
  clear hA0 hval0 hsz0 hsz
  obtain ⟨K, H⟩ := Pure.FlowWidths x0 w0 (Nat.le_trans hc0 hm0) x1 w1 x2 w2
  refine Calls.mono (tidewracklaw15_FlowWidths_calls K A0 c0 x0 x1 x2 W (fun _ => 0) 0 hg0.ft 0 hg1.ft 0 rd0.ft hc0 true H) fun e W' ⟨v, he, o', hv, st⟩ => ?_
  subst he
  subst hv
  have bel := st_below st
  exact ⟨_, rfl, _, _, _, [], _, [], hW', trodAll_mk1 (shut_bool Tryd.underlying4 _), (trodAll_cons_mk (Below.trod laidOut (by kernel_rfl) (of_decide_eq_true (by kernel_rfl)) k0 bel lt0) (trodAll_cons_mk (Below.trod laidOut (by kernel_rfl) (of_decide_eq_true (by kernel_rfl)) k1 bel lt1) (trodAll_cons_mk (Below.trod laidOut (by kernel_rfl) (of_decide_eq_true (by kernel_rfl)) k2 bel lt2) trodAll_mk0))), rfl, bel.frame _, fun h => by cases h⟩
theorem over : Rows.flowWidthsRow.holds Tryd.pinned (OpenSpec.ofChange Rows.flowWidthsSpec) :=
  OpenClaim.holds_of_wide 7 Tryd.f7 rfl rfl rfl rfl rfl rfl rfl ⟨rfl, rfl, rfl, rfl, rfl⟩ rfl rfl rfl rfl rfl (by kernel_rfl) Tryd.func7 (by kernel_rfl)
    (of_decide_eq_true (by kernel_rfl)) (by unfold Func.isWrapper; first | (rw [if_pos (by decide +kernel)]; kernel_rfl) | (rw [if_neg (by decide +kernel)]; exact ⟨rfl, rfl⟩))
    (fun os started H enc _ => lifted os started H enc)
theorem proved : Rows.FlowWidthsSaid := over
theorem card : Rows.FlowWidthsCardSaid :=
  Claim7.holds_tied_plain_at .later [] [.widerDeep, .widerDeep] true (true, "d2646567647129c7dcfde068ec2a1fb252f488245ce4b92a1dece38aef3e72d8") false
    proved (fun _ h => by cases h) (by kernel_rfl) (fun _ h => by cases h) flowWidths_row_tie rfl ⟨rfl, rfl⟩ (by kernel_rfl) rfl
    (fun f fn hf hfn => by
      obtain rfl : f = 7 := Option.some.inj ((show Tryd.prog.funcNamed Rows.flowWidthsRow.func = some 7 by kernel_rfl).symm.trans hf) |>.symm
      obtain rfl : fn = Tryd.f7 := (Option.some.inj (Tryd.func7.symm.trans hfn)).symm
      exact ⟨by kernel_rfl, fun j t ht => by
        rw [Tryd.params7] at ht
        rcases j with _ | _ | _ | j
        · obtain rfl : 22 = t := by simpa using ht
          exact (show Tryd.prog.wantsStandIn 22 = false by kernel_rfl)
        · obtain rfl : 3 = t := by simpa using ht
          exact (show Tryd.prog.wantsStandIn 3 = false by kernel_rfl)
        · obtain rfl : 3 = t := by simpa using ht
          exact (show Tryd.prog.wantsStandIn 3 = false by kernel_rfl)
        · simp at ht⟩)
    (by kernel_rfl)
end Go.Proofs.YteghllmaknenlaaDoor.flowWidths
namespace Go.Proofs.YteghllmaknenlaaDoor
/-- The row, under a short name, for the claim. -/
theorem flowWidths_holds : Rows.FlowWidthsCardSaid := flowWidths.card
#print axioms flowWidths_holds
end Go.Proofs.YteghllmaknenlaaDoor
