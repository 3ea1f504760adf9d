/- The statement SeqPrints, out of the walk and the plain law. -/
import Derived.Test.YthddmlhmejnhlaaDoorRows
import Derived.Test.YthddmlhmejnhlaaDoorCards
import Derived.Test.YthddmlhmejnhlaaDoorTie
import Derived.SevenTiedAt
import Derived.LaidMore
import Derived.LaidHandle
import Derived.Stop.Joined
import Derived.Test.YthddmlhmejnhlaaDoorW1
import Derived.Test.YthddmlhmejnhlaaDoorW2
import Derived.Test.YthddmlhmejnhlaaDoorW3
import Derived.Test.YthddmlhmejnhlaaDoorW4
import Derived.Test.YthddmlhmejnhlaaDoorPX
set_option linter.unusedVariables false
namespace Go.Proofs.YthddmlhmejnhlaaDoor.seqPrints
open Go Go.Proofs.XC Go.ChangeShapes Go.WideShapes Go.ChangeAt Go.RowKit
open Go.ChangeMaps (open_string shut_string)
theorem own : ownKnob Tryd.prog.godebug = none := by kernel_rfl
theorem laidOut : laidOutB Tryd.prog = true := by kernel_rfl
theorem dec0 (cs : List Value) (h0 : AreC [.i .i32] cs) : ∃ y, cs = Enc.f (encInt .i32) y ∧ (WF.wfi32) y := by
  obtain ⟨v0, u0, rfl, ⟨a0, rfl, w0⟩, h1⟩ := h0.cons
  obtain rfl := h1.nil
  exact ⟨a0, rfl, w0⟩
theorem door_met (os : Os) (args : Array Value) : laidMetH Tryd.prog [("tidewrack/glyph.leads", Rows.laid_tidewrack_glyph_leads)] ((World.doorLaid Tryd.prog 400 os).forCall (fun _ _ => 0) ⟨#[], args, []⟩).memory :=
  laidMetH_of_parts3 (fuel := 8) (laidMet_of_run' 8 (by kernel_rfl) (by kernel_rfl)) (by kernel_rfl) (by kernel_rfl)
theorem row0 {W : World} {ps : List MemPlace} (h : DataW.LaidVars Tryd.prog W [("tidewrack/glyph.leads", Rows.laid_tidewrack_glyph_leads)] ps) : RdC ET70 (some ⟨0, 0, none⟩) glob0 W :=
  laid_row (E := ET70) (xs := glob0) (d := 9) tab (show Tryd.prog.globalNamed "tidewrack/glyph.leads" = some 0 by kernel_rfl) (show (Tryd.prog.globals[0]?).map (·.type) = some 74 by kernel_rfl) (by kernel_rfl) (List.Mem.head _) h
set_option maxRecDepth 100000 in
theorem lifted (os : Os) (started : os.Started) (H : Type) (enc : TypeId × Value → H) :
    ReturnsInHanded {} Tryd.checked os 8 .any (fun w args => (Rows.seqPrintsSpec.pre enc Tryd.prog Tryd.f8 [] false w args ∧ laidMetH Tryd.prog [("tidewrack/glyph.leads", Rows.laid_tidewrack_glyph_leads)] w) ∧ sizedMet enc Tryd.prog Tryd.f8 (OpenSpec.ofChange Rows.seqPrintsSpec) false w args) (Rows.seqPrintsSpec.post enc Tryd.prog Tryd.f8 false true false false) := by
  refine returnsInHanded_of_change_and (C := Tryd.checked) (X := fun w _ => laidMetH Tryd.prog [("tidewrack/glyph.leads", Rows.laid_tidewrack_glyph_leads)] w) (fun _ _ _ hh h => h.of_heap hh) own started (by kernel_rfl) Tryd.func8
    (ChangeSpec.witness_shaped (enc := enc) (C := Tryd.checked) (os := os) (X := fun w _ => laidMetH Tryd.prog [("tidewrack/glyph.leads", Rows.laid_tidewrack_glyph_leads)] w) false (World.doorLaid Tryd.prog 400 os) #[(.slice none 0 0), (.string ⟨#[]⟩)] 8 rfl (World.shaped_of_RefB (by kernel_rfl) (by kernel_rfl)) (by kernel_rfl) (by kernel_rfl) (by kernel_rfl) (door_met os _)) ?_
  intro W base args ds gs before hval0 hW hcnd hsz0 hL _
  have hsz : (DataW.weightsEach Tryd.prog (Tryd.f8.params.toList ++ Rows.seqPrintsSpec.plain.varTypes Tryd.prog) (ds ++ gs)).all (· ≤ reachBytes) = true := hsz0
  have hval : ∀ (j : Nat) t v, Tryd.f8.params[j]? = some t → args[j]? = some v → Value.okWide Tryd.prog W .any base t v := hval0
  have hW' := hW
  obtain ⟨p, q, hA0, hV, rfl, hfz, hnd⟩ := hW
  have hA : DataW.TrodAll enc Tryd.prog W 0 (fun _ => true) true Tryd.f8.params.toList args.toList ds p := hA0
  rw [Tryd.params8] at hA hval hsz
  obtain ⟨v0, vs0, d0, ds0, p0, q0, hargs, rfl, rfl, h0, r0⟩ := trodAll_cons hA
  obtain ⟨v1, vs1, d1, ds1, p1, q1, rfl, rfl, rfl, h1, r1⟩ := trodAll_cons r0
  obtain ⟨rfl, rfl, rfl⟩ := trodAll_nil r1
  obtain rfl : args = #[v0, v1] := by cases args; simp_all
  obtain ⟨rfl, rfl⟩ := trodVars_none hV
  rw [MakeChecks.laidMetH_plain _ _ _ (by kernel_rfl)] at hL
  obtain ⟨ps_, hlv, _⟩ := hL
  have k0 := h0
  have lt0 : ∀ x ∈ p0, x.block < W.heap.size := by obtain ⟨m, hm⟩ := k0; exact DataW.trod_lt m _ _ _ hm
  obtain ⟨A0, c0, x0, rfl, rd0, hc0, hm0, w0⟩ := open_rows (E := (encInt .i32)) (WF := (WF.wfi32)) (d := 9) (t := 43) tab rfl rfl rfl dec0 (hval 0 43 v0 rfl rfl) h0
  have k1 := h1
  have lt1 : ∀ x ∈ p1, x.block < W.heap.size := by obtain ⟨m, hm⟩ := k1; exact DataW.trod_lt m _ _ _ hm
  obtain ⟨x1, rfl, rfl, rfl, y1⟩ := open_string Tryd.underlying9 (hval 1 9 v1 rfl rfl) h1
  have w1 : x1.size ≤ 140737488351232 := by
    have z := sized_string hsz (j := 1) (t := 9) rfl rfl
    rw [Array.length_toList] at z
    exact z
  have hg0 := row0 hlv
  clear hA0 hval0 hsz0 hsz
  obtain ⟨K, H⟩ := Pure.SeqPrints x0 w0 (Nat.le_trans hc0 hm0) x1 w1
  refine Calls.mono (tidewracklaw07_SeqPrints_calls K A0 c0 x0 x1 W (fun _ => 0) 0 hg0.ft 0 rd0.ft hc0 true H) fun e W' ⟨v, he, o', hv, st⟩ => ?_
  subst he
  subst hv
  have bel := st_below st
  exact ⟨_, rfl, _, _, _, [], _, [], hW', trodAll_mk1 (shut_bool Tryd.underlying4 _), (trodAll_cons_mk (Below.trod laidOut (by kernel_rfl) (of_decide_eq_true (by kernel_rfl)) k0 bel lt0) (trodAll_cons_mk (Below.trod laidOut (by kernel_rfl) (of_decide_eq_true (by kernel_rfl)) k1 bel lt1) trodAll_mk0)), rfl, bel.frame _, fun h => by cases h⟩
theorem over : Rows.seqPrintsRow.holds Tryd.pinned (OpenSpec.ofChange Rows.seqPrintsSpec) :=
  OpenClaim.holds_of_wide 8 Tryd.f8 rfl rfl rfl rfl rfl rfl rfl ⟨rfl, rfl, rfl, rfl, rfl⟩ rfl rfl rfl rfl rfl (by kernel_rfl) Tryd.func8 (by kernel_rfl)
    (of_decide_eq_true (by kernel_rfl)) (by unfold Func.isWrapper; first | (rw [if_pos (by decide +kernel)]; kernel_rfl) | (rw [if_neg (by decide +kernel)]; exact ⟨rfl, rfl⟩))
    (fun os started H enc _ => lifted os started H enc)
theorem proved : Rows.SeqPrintsSaid := over
theorem card : Rows.SeqPrintsCardSaid :=
  Claim7.holds_tied_plain_at .later [] [.data] true (true, "fab387ed386b4c34fb42c874ff8cacdb15ba96304e4b99d73d3137002f8bace7") false
    proved (fun _ h => by cases h) (by kernel_rfl) (fun _ h => by cases h) seqPrints_row_tie rfl ⟨rfl, rfl⟩ (by kernel_rfl) rfl
    (fun f fn hf hfn => by
      obtain rfl : f = 8 := Option.some.inj ((show Tryd.prog.funcNamed Rows.seqPrintsRow.func = some 8 by kernel_rfl).symm.trans hf) |>.symm
      obtain rfl : fn = Tryd.f8 := (Option.some.inj (Tryd.func8.symm.trans hfn)).symm
      exact ⟨by kernel_rfl, fun j t ht => by
        rw [Tryd.params8] at ht
        rcases j with _ | _ | j
        · obtain rfl : 43 = t := by simpa using ht
          exact (show Tryd.prog.wantsStandIn 43 = false by kernel_rfl)
        · obtain rfl : 9 = t := by simpa using ht
          exact (show Tryd.prog.wantsStandIn 9 = false by kernel_rfl)
        · simp at ht⟩)
    (by kernel_rfl)
end Go.Proofs.YthddmlhmejnhlaaDoor.seqPrints
namespace Go.Proofs.YthddmlhmejnhlaaDoor
/-- The row, under a short name, for the claim. -/
theorem seqPrints_holds : Rows.SeqPrintsCardSaid := seqPrints.card
#print axioms seqPrints_holds
end Go.Proofs.YthddmlhmejnhlaaDoor
