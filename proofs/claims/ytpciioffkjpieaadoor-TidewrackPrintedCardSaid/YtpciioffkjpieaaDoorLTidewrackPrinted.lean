/- The statement TidewrackPrinted, out of the walk and the plain law. -/
import Derived.Test.YtpciioffkjpieaaDoorRows
import Derived.Test.YtpciioffkjpieaaDoorCards
import Derived.Test.YtpciioffkjpieaaDoorTie
import Derived.SevenTiedAt
import Derived.LaidMore
import Derived.LaidHandle
import Derived.Stop.Joined
import Derived.Test.YtpciioffkjpieaaDoorW1
import Derived.Test.YtpciioffkjpieaaDoorW2
import Derived.Test.YtpciioffkjpieaaDoorW3
import Derived.Test.YtpciioffkjpieaaDoorSX
set_option linter.unusedVariables false
namespace Go.Proofs.YtpciioffkjpieaaDoor.tidewrackPrinted
open Go Go.Proofs.XC Go.ChangeShapes Go.WideShapes Go.ChangeAt Go.RowKit
open Go.ChangeMaps (open_string shut_string)
theorem own : ownKnob Tryd.prog.godebug = none := by kernel_rfl
theorem laidOut : laidOutB Tryd.prog = true := by kernel_rfl
theorem dec0 (cs : List Value) (h0 : AreC [.i .i32] cs) : ∃ y, cs = Enc.f (encInt .i32) y ∧ (WF.wfi32) y := by
  obtain ⟨v0, u0, rfl, ⟨a0, rfl, w0⟩, h1⟩ := h0.cons
  obtain rfl := h1.nil
  exact ⟨a0, rfl, w0⟩
theorem dec1 (cs : List Value) (h0 : AreC [.i .i64] cs) : ∃ y, cs = Enc.f (encInt .i64) y ∧ (WF.wfi64) y := by
  obtain ⟨v0, u0, rfl, ⟨a0, rfl, w0⟩, h1⟩ := h0.cons
  obtain rfl := h1.nil
  exact ⟨a0, rfl, w0⟩
theorem door_met (os : Os) (args : Array Value) : laidMetH Tryd.prog [("tidewrack/glyph.leads", Rows.laid_tidewrack_glyph_leads)] ((World.doorLaid Tryd.prog 400 os).forCall (fun _ _ => 0) ⟨#[], args, []⟩).memory :=
  laidMetH_of_parts3 (fuel := 8) (laidMet_of_run' 8 (by kernel_rfl) (by kernel_rfl)) (by kernel_rfl) (by kernel_rfl)
theorem row3 {W : World} {ps : List MemPlace} (h : DataW.LaidVars Tryd.prog W [("tidewrack/glyph.leads", Rows.laid_tidewrack_glyph_leads)] ps) : RdC ET192 (some ⟨3, 0, none⟩) glob3 W :=
  laid_row (E := ET192) (xs := glob3) (d := 9) tab (show Tryd.prog.globalNamed "tidewrack/glyph.leads" = some 3 by kernel_rfl) (show (Tryd.prog.globals[3]?).map (·.type) = some 203 by kernel_rfl) (by kernel_rfl) (List.Mem.head _) h
set_option maxRecDepth 100000 in
theorem lifted (os : Os) (started : os.Started) (H : Type) (enc : TypeId × Value → H) :
    ReturnsInHanded {} Tryd.checked os 5 .any (fun w args => (Rows.tidewrackPrintedSpec.pre enc Tryd.prog Tryd.f5 [] false w args ∧ laidMetH Tryd.prog [("tidewrack/glyph.leads", Rows.laid_tidewrack_glyph_leads)] w) ∧ sizedMet enc Tryd.prog Tryd.f5 (OpenSpec.ofChange Rows.tidewrackPrintedSpec) false w args) (Rows.tidewrackPrintedSpec.post enc Tryd.prog Tryd.f5 false true false false) := by
  refine returnsInHanded_of_change_and (C := Tryd.checked) (X := fun w _ => laidMetH Tryd.prog [("tidewrack/glyph.leads", Rows.laid_tidewrack_glyph_leads)] w) (fun _ _ _ hh h => h.of_heap hh) own started (by kernel_rfl) Tryd.func5
    (ChangeSpec.witness_shaped (enc := enc) (C := Tryd.checked) (os := os) (X := fun w _ => laidMetH Tryd.prog [("tidewrack/glyph.leads", Rows.laid_tidewrack_glyph_leads)] w) false (World.doorLaid Tryd.prog 400 os) #[(.slice none 0 0), (.slice none 0 0), (.int .i64 0)] 8 rfl (World.shaped_of_RefB (by kernel_rfl) (by kernel_rfl)) (by kernel_rfl) (by kernel_rfl) (by kernel_rfl) (door_met os _)) ?_
  intro W base args ds gs before hval0 hW hcnd hsz0 hL _
  have hsz : (DataW.weightsEach Tryd.prog (Tryd.f5.params.toList ++ Rows.tidewrackPrintedSpec.plain.varTypes Tryd.prog) (ds ++ gs)).all (· ≤ reachBytes) = true := hsz0
  have hval : ∀ (j : Nat) t v, Tryd.f5.params[j]? = some t → args[j]? = some v → Value.okWide Tryd.prog W .any base t v := hval0
  have hW' := hW
  obtain ⟨p, q, hA0, hV, rfl, hfz, hnd⟩ := hW
  have hA : DataW.TrodAll enc Tryd.prog W 0 (fun _ => true) true Tryd.f5.params.toList args.toList ds p := hA0
  rw [Tryd.params5] at hA hval hsz
  obtain ⟨v0, vs0, d0, ds0, p0, q0, hargs, rfl, rfl, h0, r0⟩ := trodAll_cons hA
  obtain ⟨v1, vs1, d1, ds1, p1, q1, rfl, rfl, rfl, h1, r1⟩ := trodAll_cons r0
  obtain ⟨v2, vs2, d2, ds2, p2, q2, rfl, rfl, rfl, h2, r2⟩ := trodAll_cons r1
  obtain ⟨rfl, rfl, rfl⟩ := trodAll_nil r2
  obtain rfl : args = #[v0, v1, v2] := by cases args; simp_all
  obtain ⟨rfl, rfl⟩ := trodVars_none hV
  rw [MakeChecks.laidMetH_plain _ _ _ (by kernel_rfl)] at hL
  obtain ⟨ps_, hlv, _⟩ := hL
  have k0 := h0
  have lt0 : ∀ x ∈ p0, x.block < W.heap.size := by obtain ⟨m, hm⟩ := k0; exact DataW.trod_lt m _ _ _ hm
  obtain ⟨A0, c0, x0, rfl, rd0, hc0, hm0, w0⟩ := open_rows (E := (encInt .i32)) (WF := (WF.wfi32)) (d := 9) (t := 23) tab rfl rfl rfl dec0 (hval 0 23 v0 rfl rfl) h0
  have k1 := h1
  have lt1 : ∀ x ∈ p1, x.block < W.heap.size := by obtain ⟨m, hm⟩ := k1; exact DataW.trod_lt m _ _ _ hm
  obtain ⟨A1, c1, x1, rfl, rd1, hc1, hm1, w1⟩ := open_rows (E := (encInt .i64)) (WF := (WF.wfi64)) (d := 9) (t := 40) tab rfl rfl rfl dec1 (hval 1 40 v1 rfl rfl) h1
  have k2 := h2
  have lt2 : ∀ x ∈ p2, x.block < W.heap.size := by obtain ⟨m, hm⟩ := k2; exact DataW.trod_lt m _ _ _ hm
  obtain ⟨x2, rfl, rfl, rfl, w2⟩ := open_int Tryd.underlying3 (hval 2 3 v2 rfl rfl) h2
  have hg3 := row3 hlv
  clear hA0 hval0 hsz0 hsz
  obtain ⟨K, H⟩ := Pure.TidewrackPrinted x0 w0 (Nat.le_trans hc0 hm0) x1 w1 (Nat.le_trans hc1 hm1) x2 w2
  refine Calls.mono (tidewracktop_TidewrackPrinted_calls K A0 c0 x0 A1 c1 x1 x2 W (fun _ => 0) 0 hg3.ft 0 rd0.ft hc0 0 rd1.ft hc1 true H) fun e W' ⟨v, he, o', hv, st⟩ => ?_
  subst he
  subst hv
  have bel := st_below st
  exact ⟨_, rfl, _, _, _, [], _, [], hW', trodAll_mk1 (shut_bool Tryd.underlying4 _), (trodAll_cons_mk (Below.trod laidOut (by kernel_rfl) (of_decide_eq_true (by kernel_rfl)) k0 bel lt0) (trodAll_cons_mk (Below.trod laidOut (by kernel_rfl) (of_decide_eq_true (by kernel_rfl)) k1 bel lt1) (trodAll_cons_mk (Below.trod laidOut (by kernel_rfl) (of_decide_eq_true (by kernel_rfl)) k2 bel lt2) trodAll_mk0))), rfl, bel.frame _, fun h => by cases h⟩
theorem over : Rows.tidewrackPrintedRow.holds Tryd.pinned (OpenSpec.ofChange Rows.tidewrackPrintedSpec) :=
  OpenClaim.holds_of_wide 5 Tryd.f5 rfl rfl rfl rfl rfl rfl rfl ⟨rfl, rfl, rfl, rfl, rfl⟩ rfl rfl rfl rfl rfl (by kernel_rfl) Tryd.func5 (by kernel_rfl)
    (of_decide_eq_true (by kernel_rfl)) (by unfold Func.isWrapper; first | (rw [if_pos (by decide +kernel)]; kernel_rfl) | (rw [if_neg (by decide +kernel)]; exact ⟨rfl, rfl⟩))
    (fun os started H enc _ => lifted os started H enc)
theorem proved : Rows.TidewrackPrintedSaid := over
theorem card : Rows.TidewrackPrintedCardSaid :=
  Claim7.holds_tied_plain_at .later [] [.data] true (true, "8829ca3423f0fb9f06545c1dbe7a36f3a087a419846f9814b5ea55767752de92") false
    proved (fun _ h => by cases h) (by kernel_rfl) (fun _ h => by cases h) tidewrackPrinted_row_tie rfl ⟨rfl, rfl⟩ (by kernel_rfl) rfl
    (fun f fn hf hfn => by
      obtain rfl : f = 5 := Option.some.inj ((show Tryd.prog.funcNamed Rows.tidewrackPrintedRow.func = some 5 by kernel_rfl).symm.trans hf) |>.symm
      obtain rfl : fn = Tryd.f5 := (Option.some.inj (Tryd.func5.symm.trans hfn)).symm
      exact ⟨by kernel_rfl, fun j t ht => by
        rw [Tryd.params5] at ht
        rcases j with _ | _ | _ | j
        · obtain rfl : 23 = t := by simpa using ht
          exact (show Tryd.prog.wantsStandIn 23 = false by kernel_rfl)
        · obtain rfl : 40 = t := by simpa using ht
          exact (show Tryd.prog.wantsStandIn 40 = false by kernel_rfl)
        · obtain rfl : 3 = t := by simpa using ht
          exact (show Tryd.prog.wantsStandIn 3 = false by kernel_rfl)
        · simp at ht⟩)
    (by kernel_rfl)
end Go.Proofs.YtpciioffkjpieaaDoor.tidewrackPrinted
namespace Go.Proofs.YtpciioffkjpieaaDoor
/-- The row, under a short name, for the claim. -/
theorem tidewrackPrinted_holds : Rows.TidewrackPrintedCardSaid := tidewrackPrinted.card
#print axioms tidewrackPrinted_holds
end Go.Proofs.YtpciioffkjpieaaDoor
