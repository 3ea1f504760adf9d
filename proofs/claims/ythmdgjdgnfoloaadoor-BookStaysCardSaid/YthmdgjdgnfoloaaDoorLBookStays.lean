/- The statement BookStays, out of the walk and the plain law. -/
import Derived.Test.YthmdgjdgnfoloaaDoorRows
import Derived.Test.YthmdgjdgnfoloaaDoorCards
import Derived.Test.YthmdgjdgnfoloaaDoorTie
import Derived.SevenTiedAt
import Derived.LaidMore
import Derived.LaidHandle
import Derived.Stop.Joined
import Derived.Test.YthmdgjdgnfoloaaDoorW1
import Derived.Test.YthmdgjdgnfoloaaDoorW2
import Derived.Test.YthmdgjdgnfoloaaDoorW3
import Derived.Test.YthmdgjdgnfoloaaDoorPJ
set_option linter.unusedVariables false
namespace Go.Proofs.YthmdgjdgnfoloaaDoor.bookStays
open Go Go.Proofs.XC Go.ChangeShapes Go.WideShapes Go.ChangeAt Go.RowKit
open Go.ChangeMaps (open_string shut_string)
theorem own : ownKnob Tryd.prog.godebug = none := by kernel_rfl
theorem laidOut : laidOutB Tryd.prog = true := by kernel_rfl
theorem dec0 (cs : List Value) (h0 : AreC [.i .i32, .i .i64, .i .i64] cs) : ∃ y, cs = Enc.f ET82 y ∧ (WF.wfT82) y := by
  obtain ⟨v0, u0, rfl, ⟨a0, rfl, w0⟩, h1⟩ := h0.cons
  obtain ⟨v1, u1, rfl, ⟨a1, rfl, w1⟩, h2⟩ := h1.cons
  obtain ⟨v2, u2, rfl, ⟨a2, rfl, w2⟩, h3⟩ := h2.cons
  obtain rfl := h3.nil
  exact ⟨⟨a0, a1, a2⟩, rfl, ⟨w0, w1, w2⟩⟩
theorem door_met (os : Os) (args : Array Value) : laidMetH Tryd.prog [("tidewrack/sum.half", Rows.laid_tidewrack_sum_half), ("tidewrack/wide.twos", Rows.laid_tidewrack_wide_twos), ("tidewrack/wide.nones", Rows.laid_tidewrack_wide_nones)] ((World.doorLaid Tryd.prog 400 os).forCall (fun _ _ => 0) ⟨#[], args, []⟩).memory :=
  laidMetH_of_parts3 (fuel := 8) (laidMet_of_run' 8 (by kernel_rfl) (by kernel_rfl)) (by kernel_rfl) (by kernel_rfl)
theorem row0 {W : World} {ps : List MemPlace} (h : DataW.LaidVars Tryd.prog W [("tidewrack/sum.half", Rows.laid_tidewrack_sum_half), ("tidewrack/wide.twos", Rows.laid_tidewrack_wide_twos), ("tidewrack/wide.nones", Rows.laid_tidewrack_wide_nones)] ps) : RdC ET111 (some ⟨0, 0, none⟩) glob0 W :=
  laid_row (E := ET111) (xs := glob0) (d := 9) tab (show Tryd.prog.globalNamed "tidewrack/wide.nones" = some 0 by kernel_rfl) (show (Tryd.prog.globals[0]?).map (·.type) = some 113 by kernel_rfl) (by kernel_rfl) (List.Mem.tail _ (List.Mem.tail _ (List.Mem.head _))) h
theorem row1 {W : World} {ps : List MemPlace} (h : DataW.LaidVars Tryd.prog W [("tidewrack/sum.half", Rows.laid_tidewrack_sum_half), ("tidewrack/wide.twos", Rows.laid_tidewrack_wide_twos), ("tidewrack/wide.nones", Rows.laid_tidewrack_wide_nones)] ps) : RdC ET111 (some ⟨1, 0, none⟩) glob1 W :=
  laid_row (E := ET111) (xs := glob1) (d := 9) tab (show Tryd.prog.globalNamed "tidewrack/wide.twos" = some 1 by kernel_rfl) (show (Tryd.prog.globals[1]?).map (·.type) = some 114 by kernel_rfl) (by kernel_rfl) (List.Mem.tail _ (List.Mem.head _)) h
theorem row2 {W : World} {ps : List MemPlace} (h : DataW.LaidVars Tryd.prog W [("tidewrack/sum.half", Rows.laid_tidewrack_sum_half), ("tidewrack/wide.twos", Rows.laid_tidewrack_wide_twos), ("tidewrack/wide.nones", Rows.laid_tidewrack_wide_nones)] ps) : RdC (encInt .u32) (some ⟨2, 0, none⟩) glob2 W :=
  laid_row (E := (encInt .u32)) (xs := glob2) (d := 9) tab (show Tryd.prog.globalNamed "tidewrack/sum.half" = some 2 by kernel_rfl) (show (Tryd.prog.globals[2]?).map (·.type) = some 129 by kernel_rfl) (by kernel_rfl) (List.Mem.head _) h
set_option maxRecDepth 100000 in
theorem lifted (os : Os) (started : os.Started) (H : Type) (enc : TypeId × Value → H) :
    ReturnsInHanded {} Tryd.checked os 6 .any (fun w args => (Rows.bookStaysSpec.pre enc Tryd.prog Tryd.f6 [] false w args ∧ laidMetH Tryd.prog [("tidewrack/sum.half", Rows.laid_tidewrack_sum_half), ("tidewrack/wide.twos", Rows.laid_tidewrack_wide_twos), ("tidewrack/wide.nones", Rows.laid_tidewrack_wide_nones)] w) ∧ sizedMet enc Tryd.prog Tryd.f6 (OpenSpec.ofChange Rows.bookStaysSpec) false w args) (Rows.bookStaysSpec.post enc Tryd.prog Tryd.f6 false true false false) := by
  refine returnsInHanded_of_change_and (C := Tryd.checked) (X := fun w _ => laidMetH Tryd.prog [("tidewrack/sum.half", Rows.laid_tidewrack_sum_half), ("tidewrack/wide.twos", Rows.laid_tidewrack_wide_twos), ("tidewrack/wide.nones", Rows.laid_tidewrack_wide_nones)] w) (fun _ _ _ hh h => h.of_heap hh) own started (by kernel_rfl) Tryd.func6
    (ChangeSpec.witness_shaped (enc := enc) (C := Tryd.checked) (os := os) (X := fun w _ => laidMetH Tryd.prog [("tidewrack/sum.half", Rows.laid_tidewrack_sum_half), ("tidewrack/wide.twos", Rows.laid_tidewrack_wide_twos), ("tidewrack/wide.nones", Rows.laid_tidewrack_wide_nones)] w) false (World.doorLaid Tryd.prog 400 os) #[(.slice none 0 0), (.slice none 0 0)] 8 rfl (World.shaped_of_RefB (by kernel_rfl) (by kernel_rfl)) (by kernel_rfl) (by kernel_rfl) (by kernel_rfl) (door_met os _)) ?_
  intro W base args ds gs before hval0 hW hcnd hsz0 hL _
  have hsz : (DataW.weightsEach Tryd.prog (Tryd.f6.params.toList ++ Rows.bookStaysSpec.plain.varTypes Tryd.prog) (ds ++ gs)).all (· ≤ reachBytes) = true := hsz0
  have hval : ∀ (j : Nat) t v, Tryd.f6.params[j]? = some t → args[j]? = some v → Value.okWide Tryd.prog W .any base t v := hval0
  have hW' := hW
  obtain ⟨p, q, hA0, hV, rfl, hfz, hnd⟩ := hW
  have hA : DataW.TrodAll enc Tryd.prog W 0 (fun _ => true) true Tryd.f6.params.toList args.toList ds p := hA0
  rw [Tryd.params6] at hA hval hsz
  obtain ⟨v0, vs0, d0, ds0, p0, q0, hargs, rfl, rfl, h0, r0⟩ := trodAll_cons hA
  obtain ⟨v1, vs1, d1, ds1, p1, q1, rfl, rfl, rfl, h1, r1⟩ := trodAll_cons r0
  obtain ⟨rfl, rfl, rfl⟩ := trodAll_nil r1
  obtain rfl : args = #[v0, v1] := by cases args; simp_all
  obtain ⟨rfl, rfl⟩ := trodVars_none hV
  rw [MakeChecks.laidMetH_plain _ _ _ (by kernel_rfl)] at hL
  obtain ⟨ps_, hlv, _⟩ := hL
  have k0 := h0
  have lt0 : ∀ x ∈ p0, x.block < W.heap.size := by obtain ⟨m, hm⟩ := k0; exact DataW.trod_lt m _ _ _ hm
  obtain ⟨A0, c0, x0, rfl, rd0, hc0, hm0, w0⟩ := open_rowsN (D := dT26) (WF := (WF.wfT26)) (d := 9) (t := 47) tab rfl rfl rfl (fun cs ar0 => by obtain ⟨u0, us0, rfl, tr0, ar1⟩ := ar0.consR; obtain ⟨A0, c0, x0, rfl, rd0, hc0, hm0, w0⟩ := open_rowT (E := ET82) (WF := (WF.wfT82)) (d := 9) tab rfl rfl rfl dec0 tr0; obtain ⟨u1, us1, rfl, ⟨a1, rfl⟩, ar2⟩ := ar1.consC; obtain rfl := ar2.nil; exact ⟨⟨⟨x0, a1⟩, A0, c0⟩, rfl, ⟨w0, Nat.le_trans hc0 hm0⟩, rd0, hc0⟩) (fun y hy => fun w' hw' => ⟨hy.1.ft w' hw', hy.2⟩) (hval 0 47 v0 rfl rfl) h0
  have k1 := h1
  have lt1 : ∀ x ∈ p1, x.block < W.heap.size := by obtain ⟨m, hm⟩ := k1; exact DataW.trod_lt m _ _ _ hm
  obtain ⟨A1, c1, x1, rfl, rd1, hc1, hm1, w1⟩ := open_rowsN (D := dT26) (WF := (WF.wfT26)) (d := 9) (t := 47) tab rfl rfl rfl (fun cs ar0 => by obtain ⟨u0, us0, rfl, tr0, ar1⟩ := ar0.consR; obtain ⟨A0, c0, x0, rfl, rd0, hc0, hm0, w0⟩ := open_rowT (E := ET82) (WF := (WF.wfT82)) (d := 9) tab rfl rfl rfl dec0 tr0; obtain ⟨u1, us1, rfl, ⟨a1, rfl⟩, ar2⟩ := ar1.consC; obtain rfl := ar2.nil; exact ⟨⟨⟨x0, a1⟩, A0, c0⟩, rfl, ⟨w0, Nat.le_trans hc0 hm0⟩, rd0, hc0⟩) (fun y hy => fun w' hw' => ⟨hy.1.ft w' hw', hy.2⟩) (hval 1 47 v1 rfl rfl) h1
  have hg0 := row0 hlv
  have hg1 := row1 hlv
  have hg2 := row2 hlv
  clear hA0 hval0 hsz0 hsz
  obtain ⟨K, H⟩ := Pure.BookStays x0 w0 (Nat.le_trans hc0 hm0) x1 w1 (Nat.le_trans hc1 hm1)
  refine Calls.mono (tidewracklaw12_BookStays_calls K A0 c0 x0 A1 c1 x1 W (fun _ => 0) 1 0 hg0.ft 0 hg1.ft 0 hg2.ft 0 0 rd0 hc0 0 0 rd1 hc1 (by decide) (by decide) (by decide) (by decide) (by decide) (by decide) (by decide) (by decide) true H) fun e W' ⟨v, he, o', hv, st⟩ => ?_
  subst he
  subst hv
  have bel := st_below st
  exact ⟨_, rfl, _, _, _, [], _, [], hW', trodAll_mk1 (shut_bool Tryd.underlying4 _), (trodAll_cons_mk (Below.trod laidOut (by kernel_rfl) (of_decide_eq_true (by kernel_rfl)) k0 bel lt0) (trodAll_cons_mk (Below.trod laidOut (by kernel_rfl) (of_decide_eq_true (by kernel_rfl)) k1 bel lt1) trodAll_mk0)), rfl, bel.frame _, fun h => by cases h⟩
theorem over : Rows.bookStaysRow.holds Tryd.pinned (OpenSpec.ofChange Rows.bookStaysSpec) :=
  OpenClaim.holds_of_wide 6 Tryd.f6 rfl rfl rfl rfl rfl rfl rfl ⟨rfl, rfl, rfl, rfl, rfl⟩ rfl rfl rfl rfl rfl (by kernel_rfl) Tryd.func6 (by kernel_rfl)
    (of_decide_eq_true (by kernel_rfl)) (by unfold Func.isWrapper; first | (rw [if_pos (by decide +kernel)]; kernel_rfl) | (rw [if_neg (by decide +kernel)]; exact ⟨rfl, rfl⟩))
    (fun os started H enc _ => lifted os started H enc)
theorem proved : Rows.BookStaysSaid := over
theorem card : Rows.BookStaysCardSaid :=
  Claim7.holds_tied_plain_at .later [] [.data, .widerDeep, .widerDeep] true (true, "453f1f5992d4398dd138e9154239308d284274268244ecc6954484994dcca7de") false
    proved (fun _ h => by cases h) (by kernel_rfl) (fun _ h => by cases h) bookStays_row_tie rfl ⟨rfl, rfl⟩ (by kernel_rfl) rfl
    (fun f fn hf hfn => by
      obtain rfl : f = 6 := Option.some.inj ((show Tryd.prog.funcNamed Rows.bookStaysRow.func = some 6 by kernel_rfl).symm.trans hf) |>.symm
      obtain rfl : fn = Tryd.f6 := (Option.some.inj (Tryd.func6.symm.trans hfn)).symm
      exact ⟨by kernel_rfl, fun j t ht => by
        rw [Tryd.params6] at ht
        rcases j with _ | _ | j
        · obtain rfl : 47 = t := by simpa using ht
          exact (show Tryd.prog.wantsStandIn 47 = false by kernel_rfl)
        · obtain rfl : 47 = t := by simpa using ht
          exact (show Tryd.prog.wantsStandIn 47 = false by kernel_rfl)
        · simp at ht⟩)
    (by kernel_rfl)
end Go.Proofs.YthmdgjdgnfoloaaDoor.bookStays
namespace Go.Proofs.YthmdgjdgnfoloaaDoor
/-- The row, under a short name, for the claim. -/
theorem bookStays_holds : Rows.BookStaysCardSaid := bookStays.card
#print axioms bookStays_holds
end Go.Proofs.YthmdgjdgnfoloaaDoor
