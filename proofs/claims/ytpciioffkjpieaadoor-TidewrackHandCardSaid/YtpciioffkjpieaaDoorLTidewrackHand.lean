/- The statement TidewrackHand, out of the walk and the plain law. -/
import Derived.Test.YtpciioffkjpieaaDoorZ4
import Derived.Test.YtpciioffkjpieaaDoorRows
import Derived.Test.YtpciioffkjpieaaDoorCards
import Derived.Test.YtpciioffkjpieaaDoorTie
import Derived.SevenTiedAt
import Derived.LaidMore
import Derived.LaidHandle
import Derived.Stop.Joined
import Derived.Test.YtpciioffkjpieaaDoorW1
import Derived.Test.YtpciioffkjpieaaDoorW2
import Derived.Test.YtpciioffkjpieaaDoorPH
set_option linter.unusedVariables false
namespace Go.Proofs.YtpciioffkjpieaaDoor.tidewrackHand
open Go Go.Proofs.XC Go.ChangeShapes Go.WideShapes Go.ChangeAt Go.RowKit
open Go.ChangeMaps (open_string shut_string)
theorem own : ownKnob Tryd.prog.godebug = none := by kernel_rfl
theorem laidOut : laidOutB Tryd.prog = true := by kernel_rfl
theorem dec0 (cs : List Value) (h0 : AreC [.i .i32, .i .i64] cs) : ∃ y, cs = Enc.f ET36 y ∧ (WF.wfT36) y := by
  obtain ⟨v0, u0, rfl, ⟨a0, rfl, w0⟩, h1⟩ := h0.cons
  obtain ⟨v1, u1, rfl, ⟨a1, rfl, w1⟩, h2⟩ := h1.cons
  obtain rfl := h2.nil
  exact ⟨⟨a0, a1⟩, rfl, ⟨w0, w1⟩⟩
theorem door_met (os : Os) (args : Array Value) : laidMetH Tryd.prog [("tidewrack/wide.twos", Rows.laid_tidewrack_wide_twos), ("tidewrack/wide.nones", Rows.laid_tidewrack_wide_nones)] ((World.doorLaid Tryd.prog 400 os).forCall (fun _ _ => 0) ⟨#[], args, []⟩).memory :=
  laidMetH_of_parts3 (fuel := 8) (laidMet_of_run' 8 (by kernel_rfl) (by kernel_rfl)) (by kernel_rfl) (by kernel_rfl)
theorem row0 {W : World} {ps : List MemPlace} (h : DataW.LaidVars Tryd.prog W [("tidewrack/wide.twos", Rows.laid_tidewrack_wide_twos), ("tidewrack/wide.nones", Rows.laid_tidewrack_wide_nones)] ps) : RdC ET97 (some ⟨0, 0, none⟩) glob0 W :=
  laid_row (E := ET97) (xs := glob0) (d := 9) tab (show Tryd.prog.globalNamed "tidewrack/wide.nones" = some 0 by kernel_rfl) (show (Tryd.prog.globals[0]?).map (·.type) = some 99 by kernel_rfl) (by kernel_rfl) (List.Mem.tail _ (List.Mem.head _)) h
theorem row1 {W : World} {ps : List MemPlace} (h : DataW.LaidVars Tryd.prog W [("tidewrack/wide.twos", Rows.laid_tidewrack_wide_twos), ("tidewrack/wide.nones", Rows.laid_tidewrack_wide_nones)] ps) : RdC ET97 (some ⟨1, 0, none⟩) glob1 W :=
  laid_row (E := ET97) (xs := glob1) (d := 9) tab (show Tryd.prog.globalNamed "tidewrack/wide.twos" = some 1 by kernel_rfl) (show (Tryd.prog.globals[1]?).map (·.type) = some 100 by kernel_rfl) (by kernel_rfl) (List.Mem.head _) h
set_option maxRecDepth 100000 in
theorem lifted (os : Os) (started : os.Started) (H : Type) (enc : TypeId × Value → H) :
    ReturnsInHanded {} Tryd.checked os 6 .any (fun w args => (Rows.tidewrackHandSpec.pre enc Tryd.prog Tryd.f6 [] false w args ∧ laidMetH Tryd.prog [("tidewrack/wide.twos", Rows.laid_tidewrack_wide_twos), ("tidewrack/wide.nones", Rows.laid_tidewrack_wide_nones)] w) ∧ sizedMet enc Tryd.prog Tryd.f6 (OpenSpec.ofChange Rows.tidewrackHandSpec) false w args) (Rows.tidewrackHandSpec.post enc Tryd.prog Tryd.f6 false true false false) := by
  refine returnsInHanded_of_change_and (C := Tryd.checked) (X := fun w _ => laidMetH Tryd.prog [("tidewrack/wide.twos", Rows.laid_tidewrack_wide_twos), ("tidewrack/wide.nones", Rows.laid_tidewrack_wide_nones)] w) (fun _ _ _ hh h => h.of_heap hh) own started (by kernel_rfl) Tryd.func6
    (ChangeSpec.witness_shaped (enc := enc) (C := Tryd.checked) (os := os) (X := fun w _ => laidMetH Tryd.prog [("tidewrack/wide.twos", Rows.laid_tidewrack_wide_twos), ("tidewrack/wide.nones", Rows.laid_tidewrack_wide_nones)] w) false (World.doorLaid Tryd.prog 400 os) #[(.agg #[(.slice none 0 0), (.int .i64 0), (.int .i64 0), (.int .i64 0)])] 8 rfl (World.shaped_of_RefB (by kernel_rfl) (by kernel_rfl)) (by kernel_rfl) (by kernel_rfl) (by kernel_rfl) (door_met os _)) ?_
  intro W base args ds gs before hval0 hW hcnd hsz0 hL _
  have hsz : (DataW.weightsEach Tryd.prog (Tryd.f6.params.toList ++ Rows.tidewrackHandSpec.plain.varTypes Tryd.prog) (ds ++ gs)).all (· ≤ reachBytes) = true := hsz0
  have hval : ∀ (j : Nat) t v, Tryd.f6.params[j]? = some t → args[j]? = some v → Value.okWide Tryd.prog W .any base t v := hval0
  have hW' := hW
  obtain ⟨p, q, hA0, hV, rfl, hfz, hnd⟩ := hW
  have hA : DataW.TrodAll enc Tryd.prog W 0 (fun _ => true) true Tryd.f6.params.toList args.toList ds p := hA0
  rw [Tryd.params6] at hA hval hsz
  obtain ⟨v0, vs0, d0, ds0, p0, q0, hargs, rfl, rfl, h0, r0⟩ := trodAll_cons hA
  obtain ⟨rfl, rfl, rfl⟩ := trodAll_nil r0
  obtain rfl : args = #[v0] := by cases args; simp_all
  obtain ⟨rfl, rfl⟩ := trodVars_none hV
  rw [MakeChecks.laidMetH_plain _ _ _ (by kernel_rfl)] at hL
  obtain ⟨ps_, hlv, _⟩ := hL
  have k0 := h0
  have lt0 : ∀ x ∈ p0, x.block < W.heap.size := by obtain ⟨m, hm⟩ := k0; exact DataW.trod_lt m _ _ _ hm
  obtain ⟨cs0, rfl, ar0⟩ := open_aggR (d := 9) (t := 55) tab rfl rfl (hval 0 55 v0 rfl rfl) h0
  obtain ⟨u0_0, us0_0, rfl, tr0_0, ar0n⟩ := ar0.consR
  obtain ⟨A0_0, c0_0, x0_0, rfl, rd0_0, hc0_0, hm0_0, w0_0⟩ := open_rowTN (D := dRows ET36) (WF := (fun y => (∀ z ∈ y, (WF.wfT36) z) ∧ y.length ≤ maxLen)) (d := 9) tab rfl rfl rfl (fun cs ar0 => by obtain ⟨u0, us0, rfl, tr0, ar1⟩ := ar0.consR; obtain ⟨A0, c0, x0, rfl, rd0, hc0, hm0, w0⟩ := open_rowT (E := ET36) (WF := (WF.wfT36)) (d := 9) tab rfl rfl rfl dec0 tr0; obtain rfl := ar1.nil; exact ⟨(⟨A0, c0, x0⟩ : NR _), rfl, ⟨w0, Nat.le_trans hc0 hm0⟩, rd0, hc0⟩) (fun y hy => fun w' hw' => ⟨hy.1.ft w' hw', hy.2⟩) tr0_0
  obtain ⟨u0_1, us0_1, rfl, ⟨a0_1, rfl, w0_1⟩, ar0nn⟩ := ar0n.consC
  obtain ⟨u0_2, us0_2, rfl, ⟨a0_2, rfl, w0_2⟩, ar0nnn⟩ := ar0nn.consC
  obtain ⟨u0_3, us0_3, rfl, ⟨a0_3, rfl, w0_3⟩, ar0nnnn⟩ := ar0nnn.consC
  obtain rfl := ar0nnnn.nil
  have hg0 := row0 hlv
  have hg1 := row1 hlv
  clear hA0 hval0 hsz0 hsz
  obtain ⟨K, H⟩ := Pure.TidewrackHand (⟨x0_0, a0_1, a0_2, a0_3⟩ : T54) ⟨w0_0, (Nat.le_trans hc0_0 hm0_0), w0_1, w0_2, w0_3⟩
  refine Calls.mono (tidewracktop_TidewrackHand_calls K A0_0 c0_0 (⟨x0_0, a0_1, a0_2, a0_3⟩ : T54) W (fun _ => 0) 1 0 hg0.ft 0 hg1.ft 0 0 rd0_0 hc0_0 (by decide) (by decide) (by decide) (by decide) (by decide) true H) fun e W' ⟨v, he, o', hv, st⟩ => ?_
  subst he
  subst hv
  have bel := st_below st
  exact ⟨_, rfl, _, _, _, [], _, [], hW', trodAll_mk1 (shut_bool Tryd.underlying4 _), (trodAll_cons_mk (Below.trod laidOut (by kernel_rfl) (of_decide_eq_true (by kernel_rfl)) k0 bel lt0) trodAll_mk0), rfl, bel.frame _, fun h => by cases h⟩
theorem over : Rows.tidewrackHandRow.holds Tryd.pinned (OpenSpec.ofChange Rows.tidewrackHandSpec) :=
  OpenClaim.holds_of_wide 6 Tryd.f6 rfl rfl rfl rfl rfl rfl rfl ⟨rfl, rfl, rfl, rfl, rfl⟩ rfl rfl rfl rfl rfl (by kernel_rfl) Tryd.func6 (by kernel_rfl)
    (of_decide_eq_true (by kernel_rfl)) (by unfold Func.isWrapper; first | (rw [if_pos (by decide +kernel)]; kernel_rfl) | (rw [if_neg (by decide +kernel)]; exact ⟨rfl, rfl⟩))
    (fun os started H enc _ => lifted os started H enc)
theorem proved : Rows.TidewrackHandSaid := over
theorem card : Rows.TidewrackHandCardSaid :=
  Claim7.holds_tied_plain_at .later [] [.widerDeep, .widerDeep] true (true, "8829ca3423f0fb9f06545c1dbe7a36f3a087a419846f9814b5ea55767752de92") false
    proved (fun _ h => by cases h) (by kernel_rfl) (fun _ h => by cases h) tidewrackHand_row_tie rfl ⟨rfl, rfl⟩ (by kernel_rfl) rfl
    (fun f fn hf hfn => by
      obtain rfl : f = 6 := Option.some.inj ((show Tryd.prog.funcNamed Rows.tidewrackHandRow.func = some 6 by kernel_rfl).symm.trans hf) |>.symm
      obtain rfl : fn = Tryd.f6 := (Option.some.inj (Tryd.func6.symm.trans hfn)).symm
      exact ⟨by kernel_rfl, fun j t ht => by
        rw [Tryd.params6] at ht
        rcases j with _ | j
        · obtain rfl : 55 = t := by simpa using ht
          exact (show Tryd.prog.wantsStandIn 55 = false by kernel_rfl)
        · simp at ht⟩)
    (by kernel_rfl)
end Go.Proofs.YtpciioffkjpieaaDoor.tidewrackHand
namespace Go.Proofs.YtpciioffkjpieaaDoor
/-- The row, under a short name, for the claim. -/
theorem tidewrackHand_holds : Rows.TidewrackHandCardSaid := tidewrackHand.card
#print axioms tidewrackHand_holds
end Go.Proofs.YtpciioffkjpieaaDoor
