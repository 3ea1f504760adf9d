/- The statement GramTold, out of the walk and the plain law. -/
import Derived.Test.YticilepdpobheaaDoorRows
import Derived.Test.YticilepdpobheaaDoorCards
import Derived.Test.YticilepdpobheaaDoorTie
import Derived.SevenTiedAt
import Derived.LaidMore
import Derived.LaidHandle
import Derived.Stop.Joined
import Derived.Test.YticilepdpobheaaDoorW1
import Derived.Test.YticilepdpobheaaDoorW2
import Derived.Test.YticilepdpobheaaDoorW3
import Derived.Test.YticilepdpobheaaDoorPX
set_option linter.unusedVariables false
namespace Go.Proofs.YticilepdpobheaaDoor.gramTold
open Go Go.Proofs.XC Go.ChangeShapes Go.WideShapes Go.ChangeAt Go.RowKit
open Go.ChangeMaps (open_string shut_string)
theorem own : ownKnob Tryd.prog.godebug = none := by kernel_rfl
theorem laidOut : laidOutB Tryd.prog = true := by kernel_rfl
theorem dec0 (cs : List Value) (h0 : AreC [.i .i64] cs) : ∃ y, cs = Enc.f (encInt .i64) y ∧ (WF.wfi64) y := by
  obtain ⟨v0, u0, rfl, ⟨a0, rfl, w0⟩, h1⟩ := h0.cons
  obtain rfl := h1.nil
  exact ⟨a0, rfl, w0⟩
theorem door_met (os : Os) (args : Array Value) : laidMetH Tryd.prog [("tidewrack/sum.half", Rows.laid_tidewrack_sum_half)] ((World.doorLaid Tryd.prog 400 os).forCall (fun _ _ => 0) ⟨#[], args, []⟩).memory :=
  laidMetH_of_parts3 (fuel := 8) (laidMet_of_run' 8 (by kernel_rfl) (by kernel_rfl)) (by kernel_rfl) (by kernel_rfl)
theorem row0 {W : World} {ps : List MemPlace} (h : DataW.LaidVars Tryd.prog W [("tidewrack/sum.half", Rows.laid_tidewrack_sum_half)] ps) : RdC (encInt .u32) (some ⟨0, 0, none⟩) glob0 W :=
  laid_row (E := (encInt .u32)) (xs := glob0) (d := 9) tab (show Tryd.prog.globalNamed "tidewrack/sum.half" = some 0 by kernel_rfl) (show (Tryd.prog.globals[0]?).map (·.type) = some 83 by kernel_rfl) (by kernel_rfl) (List.Mem.head _) h
set_option maxRecDepth 100000 in
theorem lifted (os : Os) (started : os.Started) (H : Type) (enc : TypeId × Value → H) :
    ReturnsInHanded {} Tryd.checked os 7 .any (fun w args => (Rows.gramToldSpec.pre enc Tryd.prog Tryd.f7 [] false w args ∧ laidMetH Tryd.prog [("tidewrack/sum.half", Rows.laid_tidewrack_sum_half)] w) ∧ sizedMet enc Tryd.prog Tryd.f7 (OpenSpec.ofChange Rows.gramToldSpec) false w args) (Rows.gramToldSpec.post enc Tryd.prog Tryd.f7 false true false false) := by
  refine returnsInHanded_of_change_and (C := Tryd.checked) (X := fun w _ => laidMetH Tryd.prog [("tidewrack/sum.half", Rows.laid_tidewrack_sum_half)] w) (fun _ _ _ hh h => h.of_heap hh) own started (by kernel_rfl) Tryd.func7
    (ChangeSpec.witness_shaped (enc := enc) (C := Tryd.checked) (os := os) (X := fun w _ => laidMetH Tryd.prog [("tidewrack/sum.half", Rows.laid_tidewrack_sum_half)] w) false (World.doorLaid Tryd.prog 400 os) #[(.agg #[(.int .i64 0), (.int .i64 0), (.slice none 0 0), (.string ⟨#[]⟩)]), (.int .i64 0), (.int .u32 0)] 8 rfl (World.shaped_of_RefB (by kernel_rfl) (by kernel_rfl)) (by kernel_rfl) (by kernel_rfl) (by kernel_rfl) (door_met os _)) ?_
  intro W base args ds gs before hval0 hW hcnd hsz0 hL _
  have hsz : (DataW.weightsEach Tryd.prog (Tryd.f7.params.toList ++ Rows.gramToldSpec.plain.varTypes Tryd.prog) (ds ++ gs)).all (· ≤ reachBytes) = true := hsz0
  have hval : ∀ (j : Nat) t v, Tryd.f7.params[j]? = some t → args[j]? = some v → Value.okWide Tryd.prog W .any base t v := hval0
  have hW' := hW
  obtain ⟨p, q, hA0, hV, rfl, hfz, hnd⟩ := hW
  have hA : DataW.TrodAll enc Tryd.prog W 0 (fun _ => true) true Tryd.f7.params.toList args.toList ds p := hA0
  rw [Tryd.params7] at hA hval hsz
  obtain ⟨v0, vs0, d0, ds0, p0, q0, hargs, rfl, rfl, h0, r0⟩ := trodAll_cons hA
  obtain ⟨v1, vs1, d1, ds1, p1, q1, rfl, rfl, rfl, h1, r1⟩ := trodAll_cons r0
  obtain ⟨v2, vs2, d2, ds2, p2, q2, rfl, rfl, rfl, h2, r2⟩ := trodAll_cons r1
  obtain ⟨rfl, rfl, rfl⟩ := trodAll_nil r2
  obtain rfl : args = #[v0, v1, v2] := by cases args; simp_all
  obtain ⟨rfl, rfl⟩ := trodVars_none hV
  rw [MakeChecks.laidMetH_plain _ _ _ (by kernel_rfl)] at hL
  obtain ⟨ps_, hlv, _⟩ := hL
  have k0 := h0
  have lt0 : ∀ x ∈ p0, x.block < W.heap.size := by obtain ⟨m, hm⟩ := k0; exact DataW.trod_lt m _ _ _ hm
  obtain ⟨cs0, rfl, ar0⟩ := open_aggR (d := 9) (t := 24) tab rfl rfl (hval 0 24 v0 rfl rfl) h0
  obtain ⟨u0_0, us0_0, rfl, ⟨a0_0, rfl, w0_0⟩, ar0n⟩ := ar0.consC
  obtain ⟨u0_1, us0_1, rfl, ⟨a0_1, rfl, w0_1⟩, ar0nn⟩ := ar0n.consC
  obtain ⟨u0_2, us0_2, rfl, tr0_2, ar0nnn⟩ := ar0nn.consR
  obtain ⟨A0_2, c0_2, x0_2, rfl, rd0_2, hc0_2, hm0_2, w0_2⟩ := open_rowT (E := (encInt .i64)) (WF := (WF.wfi64)) (d := 9) tab rfl rfl rfl dec0 tr0_2
  obtain ⟨u0_3, us0_3, rfl, ⟨a0_3, rfl, w0_3⟩, ar0nnnn⟩ := ar0nnn.consC
  obtain rfl := ar0nnnn.nil
  have k1 := h1
  have lt1 : ∀ x ∈ p1, x.block < W.heap.size := by obtain ⟨m, hm⟩ := k1; exact DataW.trod_lt m _ _ _ hm
  obtain ⟨x1, rfl, rfl, rfl, w1⟩ := open_int Tryd.underlying3 (hval 1 3 v1 rfl rfl) h1
  have k2 := h2
  have lt2 : ∀ x ∈ p2, x.block < W.heap.size := by obtain ⟨m, hm⟩ := k2; exact DataW.trod_lt m _ _ _ hm
  obtain ⟨x2, rfl, rfl, rfl, w2⟩ := open_int Tryd.underlying47 (hval 2 47 v2 rfl rfl) h2
  have hg0 := row0 hlv
  clear hA0 hval0 hsz0 hsz
  obtain ⟨K, H⟩ := Pure.GramTold (⟨a0_0, a0_1, x0_2, a0_3⟩ : T23) ⟨w0_0, w0_1, w0_2, (Nat.le_trans hc0_2 hm0_2), w0_3⟩ x1 w1 x2 w2
  refine Calls.mono (tidewracklaw03_GramTold_calls K A0_2 c0_2 (⟨a0_0, a0_1, x0_2, a0_3⟩ : T23) x1 x2 W (fun _ => 0) 0 hg0.ft 0 rd0_2.ft hc0_2 true H) fun e W' ⟨v, he, o', hv, st⟩ => ?_
  subst he
  subst hv
  have bel := st_below st
  exact ⟨_, rfl, _, _, _, [], _, [], hW', trodAll_mk1 (shut_bool Tryd.underlying4 _), (trodAll_cons_mk (Below.trod laidOut (by kernel_rfl) (of_decide_eq_true (by kernel_rfl)) k0 bel lt0) (trodAll_cons_mk (Below.trod laidOut (by kernel_rfl) (of_decide_eq_true (by kernel_rfl)) k1 bel lt1) (trodAll_cons_mk (Below.trod laidOut (by kernel_rfl) (of_decide_eq_true (by kernel_rfl)) k2 bel lt2) trodAll_mk0))), rfl, bel.frame _, fun h => by cases h⟩
theorem over : Rows.gramToldRow.holds Tryd.pinned (OpenSpec.ofChange Rows.gramToldSpec) :=
  OpenClaim.holds_of_wide 7 Tryd.f7 rfl rfl rfl rfl rfl rfl rfl ⟨rfl, rfl, rfl, rfl, rfl⟩ rfl rfl rfl rfl rfl (by kernel_rfl) Tryd.func7 (by kernel_rfl)
    (of_decide_eq_true (by kernel_rfl)) (by unfold Func.isWrapper; first | (rw [if_pos (by decide +kernel)]; kernel_rfl) | (rw [if_neg (by decide +kernel)]; exact ⟨rfl, rfl⟩))
    (fun os started H enc _ => lifted os started H enc)
theorem proved : Rows.GramToldSaid := over
theorem card : Rows.GramToldCardSaid :=
  Claim7.holds_tied_plain_at .later [] [.data] true (true, "da1d41b3f439a2519bbb2c19fb45009a45a12cea40eafb05c260d7f55805a64a") false
    proved (fun _ h => by cases h) (by kernel_rfl) (fun _ h => by cases h) gramTold_row_tie rfl ⟨rfl, rfl⟩ (by kernel_rfl) rfl
    (fun f fn hf hfn => by
      obtain rfl : f = 7 := Option.some.inj ((show Tryd.prog.funcNamed Rows.gramToldRow.func = some 7 by kernel_rfl).symm.trans hf) |>.symm
      obtain rfl : fn = Tryd.f7 := (Option.some.inj (Tryd.func7.symm.trans hfn)).symm
      exact ⟨by kernel_rfl, fun j t ht => by
        rw [Tryd.params7] at ht
        rcases j with _ | _ | _ | j
        · obtain rfl : 24 = t := by simpa using ht
          exact (show Tryd.prog.wantsStandIn 24 = false by kernel_rfl)
        · obtain rfl : 3 = t := by simpa using ht
          exact (show Tryd.prog.wantsStandIn 3 = false by kernel_rfl)
        · obtain rfl : 47 = t := by simpa using ht
          exact (show Tryd.prog.wantsStandIn 47 = false by kernel_rfl)
        · simp at ht⟩)
    (by kernel_rfl)
end Go.Proofs.YticilepdpobheaaDoor.gramTold
namespace Go.Proofs.YticilepdpobheaaDoor
/-- The row, under a short name, for the claim. -/
theorem gramTold_holds : Rows.GramToldCardSaid := gramTold.card
#print axioms gramTold_holds
end Go.Proofs.YticilepdpobheaaDoor
