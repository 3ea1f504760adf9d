/- The statement TidewrackLines, out of the walk and the plain law. -/
import Derived.Test.YtpciioffkjpieaaGreatDoorRows
import Derived.Test.YtpciioffkjpieaaGreatDoorCards
import Derived.Test.YtpciioffkjpieaaGreatDoorTie
import Derived.SevenTiedAt
import Derived.LaidMore
import Derived.LaidHandle
import Derived.Stop.Joined
import Derived.Test.YtpciioffkjpieaaGreatDoorW1
import Derived.Test.YtpciioffkjpieaaGreatDoorW2
import Derived.Test.YtpciioffkjpieaaGreatDoorW3
import Derived.Test.YtpciioffkjpieaaGreatDoorW4
import Derived.Test.YtpciioffkjpieaaGreatDoorW5
import Derived.Test.YtpciioffkjpieaaGreatDoorPF
set_option linter.unusedVariables false
namespace Go.Proofs.YtpciioffkjpieaaGreatDoor.tidewrackLines
open Go Go.Proofs.XC Go.ChangeShapes Go.WideShapes Go.ChangeAt Go.RowKit
open Go.ChangeMaps (open_string shut_string)
theorem own : ownKnob Tryz.prog.godebug = none := by kernel_rfl
theorem laidOut : laidOutB Tryz.prog = true := by kernel_rfl
theorem dec0 (cs : List Value) (h0 : AreC [.s] cs) : ∃ y, cs = Enc.f encStr y ∧ (WF.wfStr) y := by
  obtain ⟨v0, u0, rfl, ⟨a0, rfl, w0⟩, h1⟩ := h0.cons
  obtain rfl := h1.nil
  exact ⟨a0, rfl, w0⟩
theorem door_met (os : Os) (args : Array Value) : laidMetH Tryz.prog [("tidewrack/glyph.leads", Rows.laid_tidewrack_glyph_leads), ("tidewrack/sum.half", Rows.laid_tidewrack_sum_half), ("tidewrack/wide.twos", Rows.laid_tidewrack_wide_twos), ("tidewrack/wide.nones", Rows.laid_tidewrack_wide_nones)] ((World.doorLaid Tryz.prog 400 os).forCall (fun _ _ => 0) ⟨#[], args, []⟩).memory :=
  laidMetH_of_parts3 (fuel := 8) (laidMet_of_run' 8 (by kernel_rfl) (by kernel_rfl)) (by kernel_rfl) (by kernel_rfl)
theorem row0 {W : World} {ps : List MemPlace} (h : DataW.LaidVars Tryz.prog W [("tidewrack/glyph.leads", Rows.laid_tidewrack_glyph_leads), ("tidewrack/sum.half", Rows.laid_tidewrack_sum_half), ("tidewrack/wide.twos", Rows.laid_tidewrack_wide_twos), ("tidewrack/wide.nones", Rows.laid_tidewrack_wide_nones)] ps) : RdC ET109 (some ⟨0, 0, none⟩) glob0 W :=
  laid_row (E := ET109) (xs := glob0) (d := 9) tab (show Tryz.prog.globalNamed "tidewrack/wide.nones" = some 0 by kernel_rfl) (show (Tryz.prog.globals[0]?).map (·.type) = some 111 by kernel_rfl) (by kernel_rfl) (List.Mem.tail _ (List.Mem.tail _ (List.Mem.tail _ (List.Mem.head _)))) h
theorem row1 {W : World} {ps : List MemPlace} (h : DataW.LaidVars Tryz.prog W [("tidewrack/glyph.leads", Rows.laid_tidewrack_glyph_leads), ("tidewrack/sum.half", Rows.laid_tidewrack_sum_half), ("tidewrack/wide.twos", Rows.laid_tidewrack_wide_twos), ("tidewrack/wide.nones", Rows.laid_tidewrack_wide_nones)] ps) : RdC ET109 (some ⟨1, 0, none⟩) glob1 W :=
  laid_row (E := ET109) (xs := glob1) (d := 9) tab (show Tryz.prog.globalNamed "tidewrack/wide.twos" = some 1 by kernel_rfl) (show (Tryz.prog.globals[1]?).map (·.type) = some 112 by kernel_rfl) (by kernel_rfl) (List.Mem.tail _ (List.Mem.tail _ (List.Mem.head _))) h
theorem row2 {W : World} {ps : List MemPlace} (h : DataW.LaidVars Tryz.prog W [("tidewrack/glyph.leads", Rows.laid_tidewrack_glyph_leads), ("tidewrack/sum.half", Rows.laid_tidewrack_sum_half), ("tidewrack/wide.twos", Rows.laid_tidewrack_wide_twos), ("tidewrack/wide.nones", Rows.laid_tidewrack_wide_nones)] ps) : RdC (encInt .u32) (some ⟨2, 0, none⟩) glob2 W :=
  laid_row (E := (encInt .u32)) (xs := glob2) (d := 9) tab (show Tryz.prog.globalNamed "tidewrack/sum.half" = some 2 by kernel_rfl) (show (Tryz.prog.globals[2]?).map (·.type) = some 146 by kernel_rfl) (by kernel_rfl) (List.Mem.tail _ (List.Mem.head _)) h
theorem row3 {W : World} {ps : List MemPlace} (h : DataW.LaidVars Tryz.prog W [("tidewrack/glyph.leads", Rows.laid_tidewrack_glyph_leads), ("tidewrack/sum.half", Rows.laid_tidewrack_sum_half), ("tidewrack/wide.twos", Rows.laid_tidewrack_wide_twos), ("tidewrack/wide.nones", Rows.laid_tidewrack_wide_nones)] ps) : RdC ET141 (some ⟨3, 0, none⟩) glob3 W :=
  laid_row (E := ET141) (xs := glob3) (d := 9) tab (show Tryz.prog.globalNamed "tidewrack/glyph.leads" = some 3 by kernel_rfl) (show (Tryz.prog.globals[3]?).map (·.type) = some 155 by kernel_rfl) (by kernel_rfl) (List.Mem.head _) h
set_option maxRecDepth 100000 in
theorem lifted (os : Os) (started : os.Started) (H : Type) (enc : TypeId × Value → H) :
    ReturnsInHanded {} Tryz.checked os 3 .any (fun w args => (Rows.tidewrackLinesSpec.pre enc Tryz.prog Tryz.f3 [] false w args ∧ laidMetH Tryz.prog [("tidewrack/glyph.leads", Rows.laid_tidewrack_glyph_leads), ("tidewrack/sum.half", Rows.laid_tidewrack_sum_half), ("tidewrack/wide.twos", Rows.laid_tidewrack_wide_twos), ("tidewrack/wide.nones", Rows.laid_tidewrack_wide_nones)] w) ∧ sizedMet enc Tryz.prog Tryz.f3 (OpenSpec.ofChange Rows.tidewrackLinesSpec) false w args) (Rows.tidewrackLinesSpec.post enc Tryz.prog Tryz.f3 false true false false) := by
  refine returnsInHanded_of_change_and (C := Tryz.checked) (X := fun w _ => laidMetH Tryz.prog [("tidewrack/glyph.leads", Rows.laid_tidewrack_glyph_leads), ("tidewrack/sum.half", Rows.laid_tidewrack_sum_half), ("tidewrack/wide.twos", Rows.laid_tidewrack_wide_twos), ("tidewrack/wide.nones", Rows.laid_tidewrack_wide_nones)] w) (fun _ _ _ hh h => h.of_heap hh) own started (by kernel_rfl) Tryz.func3
    (ChangeSpec.witness_shaped (enc := enc) (C := Tryz.checked) (os := os) (X := fun w _ => laidMetH Tryz.prog [("tidewrack/glyph.leads", Rows.laid_tidewrack_glyph_leads), ("tidewrack/sum.half", Rows.laid_tidewrack_sum_half), ("tidewrack/wide.twos", Rows.laid_tidewrack_wide_twos), ("tidewrack/wide.nones", Rows.laid_tidewrack_wide_nones)] w) false (World.doorLaid Tryz.prog 400 os) #[(.slice none 0 0), (.int .i64 0), (.int .i64 0)] 8 rfl (World.shaped_of_RefB (by kernel_rfl) (by kernel_rfl)) (by kernel_rfl) (by kernel_rfl) (by kernel_rfl) (door_met os _)) ?_
  intro W base args ds gs before hval0 hW hcnd hsz0 hL _
  have hsz : (DataW.weightsEach Tryz.prog (Tryz.f3.params.toList ++ Rows.tidewrackLinesSpec.plain.varTypes Tryz.prog) (ds ++ gs)).all (· ≤ reachBytes) = true := hsz0
  have hval : ∀ (j : Nat) t v, Tryz.f3.params[j]? = some t → args[j]? = some v → Value.okWide Tryz.prog W .any base t v := hval0
  have hW' := hW
  obtain ⟨p, q, hA0, hV, rfl, hfz, hnd⟩ := hW
  have hA : DataW.TrodAll enc Tryz.prog W 0 (fun _ => true) true Tryz.f3.params.toList args.toList ds p := hA0
  rw [Tryz.params3] at hA hval hsz
  obtain ⟨v0, vs0, d0, ds0, p0, q0, hargs, rfl, rfl, h0, r0⟩ := trodAll_cons hA
  obtain ⟨v1, vs1, d1, ds1, p1, q1, rfl, rfl, rfl, h1, r1⟩ := trodAll_cons r0
  obtain ⟨v2, vs2, d2, ds2, p2, q2, rfl, rfl, rfl, h2, r2⟩ := trodAll_cons r1
  obtain ⟨rfl, rfl, rfl⟩ := trodAll_nil r2
  obtain rfl : args = #[v0, v1, v2] := by cases args; simp_all
  obtain ⟨rfl, rfl⟩ := trodVars_none hV
  rw [MakeChecks.laidMetH_plain _ _ _ (by kernel_rfl)] at hL
  obtain ⟨ps_, hlv, _⟩ := hL
  have k0 := h0
  have lt0 : ∀ x ∈ p0, x.block < W.heap.size := by obtain ⟨m, hm⟩ := k0; exact DataW.trod_lt m _ _ _ hm
  obtain ⟨A0, c0, x0, rfl, rd0, hc0, hm0, w0⟩ := open_rows (E := encStr) (WF := (WF.wfStr)) (d := 9) (t := 22) tab rfl rfl rfl dec0 (hval 0 22 v0 rfl rfl) h0
  have k1 := h1
  have lt1 : ∀ x ∈ p1, x.block < W.heap.size := by obtain ⟨m, hm⟩ := k1; exact DataW.trod_lt m _ _ _ hm
  obtain ⟨x1, rfl, rfl, rfl, w1⟩ := open_int Tryz.underlying3 (hval 1 3 v1 rfl rfl) h1
  have k2 := h2
  have lt2 : ∀ x ∈ p2, x.block < W.heap.size := by obtain ⟨m, hm⟩ := k2; exact DataW.trod_lt m _ _ _ hm
  obtain ⟨x2, rfl, rfl, rfl, w2⟩ := open_int Tryz.underlying3 (hval 2 3 v2 rfl rfl) h2
  have hg0 := row0 hlv
  have hg1 := row1 hlv
  have hg2 := row2 hlv
  have hg3 := row3 hlv
  clear hA0 hval0 hsz0 hsz
  obtain ⟨K, H⟩ := Pure.TidewrackLines x0 w0 (Nat.le_trans hc0 hm0) x1 w1 x2 w2
  refine Calls.mono (tidewracktop_TidewrackLines_calls K A0 c0 x0 x1 x2 W (fun _ => 0) 0 hg0.ft 0 hg1.ft 0 hg2.ft 0 hg3.ft 0 rd0.ft hc0 true H) fun e W' ⟨v, he, o', hv, st⟩ => ?_
  subst he
  subst hv
  have bel := st_below st
  exact ⟨_, rfl, _, _, _, [], _, [], hW', trodAll_mk1 (shut_bool Tryz.underlying4 _), (trodAll_cons_mk (Below.trod laidOut (by kernel_rfl) (of_decide_eq_true (by kernel_rfl)) k0 bel lt0) (trodAll_cons_mk (Below.trod laidOut (by kernel_rfl) (of_decide_eq_true (by kernel_rfl)) k1 bel lt1) (trodAll_cons_mk (Below.trod laidOut (by kernel_rfl) (of_decide_eq_true (by kernel_rfl)) k2 bel lt2) trodAll_mk0))), rfl, bel.frame _, fun h => by cases h⟩
theorem over : Rows.tidewrackLinesRow.holds Tryz.pinned (OpenSpec.ofChange Rows.tidewrackLinesSpec) :=
  OpenClaim.holds_of_wide 3 Tryz.f3 rfl rfl rfl rfl rfl rfl rfl ⟨rfl, rfl, rfl, rfl, rfl⟩ rfl rfl rfl rfl rfl (by kernel_rfl) Tryz.func3 (by kernel_rfl)
    (of_decide_eq_true (by kernel_rfl)) (by unfold Func.isWrapper; first | (rw [if_pos (by decide +kernel)]; kernel_rfl) | (rw [if_neg (by decide +kernel)]; exact ⟨rfl, rfl⟩))
    (fun os started H enc _ => lifted os started H enc)
theorem proved : Rows.TidewrackLinesSaid := over
theorem card : Rows.TidewrackLinesCardSaid :=
  Claim7.holds_tied_plain_at .later [] [.data, .data, .widerDeep, .widerDeep] true (true, "50be3eda5a7d0bab7c78760bfab3263fc34bb764a05fba5f005afe63b34a346b") false
    proved (fun _ h => by cases h) (by kernel_rfl) (fun _ h => by cases h) tidewrackLines_row_tie rfl ⟨rfl, rfl⟩ (by kernel_rfl) rfl
    (fun f fn hf hfn => by
      obtain rfl : f = 3 := Option.some.inj ((show Tryz.prog.funcNamed Rows.tidewrackLinesRow.func = some 3 by kernel_rfl).symm.trans hf) |>.symm
      obtain rfl : fn = Tryz.f3 := (Option.some.inj (Tryz.func3.symm.trans hfn)).symm
      exact ⟨by kernel_rfl, fun j t ht => by
        rw [Tryz.params3] at ht
        rcases j with _ | _ | _ | j
        · obtain rfl : 22 = t := by simpa using ht
          exact (show Tryz.prog.wantsStandIn 22 = false by kernel_rfl)
        · obtain rfl : 3 = t := by simpa using ht
          exact (show Tryz.prog.wantsStandIn 3 = false by kernel_rfl)
        · obtain rfl : 3 = t := by simpa using ht
          exact (show Tryz.prog.wantsStandIn 3 = false by kernel_rfl)
        · simp at ht⟩)
    (by kernel_rfl)
end Go.Proofs.YtpciioffkjpieaaGreatDoor.tidewrackLines
namespace Go.Proofs.YtpciioffkjpieaaGreatDoor
/-- The row, under a short name, for the claim. -/
theorem tidewrackLines_holds : Rows.TidewrackLinesCardSaid := tidewrackLines.card
#print axioms tidewrackLines_holds
end Go.Proofs.YtpciioffkjpieaaGreatDoor
