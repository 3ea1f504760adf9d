/- The statement FetchPlays, out of the walk and the plain law. -/
import Derived.Test.YtmgopcmdljhjoaaRows
import Derived.Test.YtmgopcmdljhjoaaW1
import Derived.Test.YtmgopcmdljhjoaaW2
import Derived.Test.YtmgopcmdljhjoaaW3
import Derived.Test.YtmgopcmdljhjoaaPF
set_option linter.unusedVariables false
namespace Go.Proofs.Ytmgopcmdljhjoaa.fetchPlays
open Go Go.Proofs.XC Go.ChangeShapes Go.WideShapes Go.ChangeAt Go.RowKit
open Go.ChangeMaps (open_string shut_string)
theorem own : ownKnob Try.prog.godebug = none := by kernel_rfl
theorem laidOut : laidOutB Try.prog = true := by kernel_rfl
theorem dec0 (cs : List Value) (h0 : AreC [.i .i64, .i .i64] cs) : ∃ y, cs = Enc.f ET30 y ∧ (WF.wfT30) y := by
  obtain ⟨v0, u0, rfl, ⟨a0, rfl, w0⟩, h1⟩ := h0.cons
  obtain ⟨v1, u1, rfl, ⟨a1, rfl, w1⟩, h2⟩ := h1.cons
  obtain rfl := h2.nil
  exact ⟨⟨a0, a1⟩, rfl, ⟨w0, w1⟩⟩
set_option maxRecDepth 100000 in
theorem lifted (os : Os) (started : os.Started) (H : Type) (enc : TypeId × Value → H) :
    ReturnsInHanded {} Try.checked os 3 .any (Rows.fetchPlaysSpec.pre6 enc Try.prog Try.f3 Rows.fetchPlaysRow.domain false) (Rows.fetchPlaysSpec.post enc Try.prog Try.f3 false true false false) := by
  refine returnsInHanded_of_change_sized (C := Try.checked) own started (by kernel_rfl) Try.func3
    (ChangeSpec.witness6 (enc := enc) (C := Try.checked) false ⟨#[], #[(.int .i64 0), (.int .i64 0), (.slice none 0 0)], []⟩ 8 (by kernel_rfl) (by kernel_rfl) (by kernel_rfl) (by kernel_rfl)) ?_
  intro W base args ds gs before hval0 hW hcnd hsz0 _
  have hsz : (DataW.weightsEach Try.prog (Try.f3.params.toList ++ Rows.fetchPlaysSpec.plain.varTypes Try.prog) (ds ++ gs)).all (· ≤ reachBytes) = true := hsz0
  have hval : ∀ (j : Nat) t v, Try.f3.params[j]? = some t → args[j]? = some v → Value.okWide Try.prog W .any base t v := hval0
  have hW' := hW
  obtain ⟨p, q, hA0, hV, rfl, hfz, hnd⟩ := hW
  have hA : DataW.TrodAll enc Try.prog W 0 (fun _ => true) true Try.f3.params.toList args.toList ds p := hA0
  rw [Try.params3] at hA hval hsz
  obtain ⟨v0, vs0, d0, ds0, p0, q0, hargs, rfl, rfl, h0, r0⟩ := trodAll_cons hA
  obtain ⟨v1, vs1, d1, ds1, p1, q1, rfl, rfl, rfl, h1, r1⟩ := trodAll_cons r0
  obtain ⟨v2, vs2, d2, ds2, p2, q2, rfl, rfl, rfl, h2, r2⟩ := trodAll_cons r1
  obtain ⟨rfl, rfl, rfl⟩ := trodAll_nil r2
  obtain rfl : args = #[v0, v1, v2] := by cases args; simp_all
  obtain ⟨rfl, rfl⟩ := trodVars_none hV
  have k0 := h0
  have lt0 : ∀ x ∈ p0, x.block < W.heap.size := by obtain ⟨m, hm⟩ := k0; exact DataW.trod_lt m _ _ _ hm
  obtain ⟨x0, rfl, rfl, rfl, w0⟩ := open_int Try.underlying3 (hval 0 3 v0 rfl rfl) h0
  have k1 := h1
  have lt1 : ∀ x ∈ p1, x.block < W.heap.size := by obtain ⟨m, hm⟩ := k1; exact DataW.trod_lt m _ _ _ hm
  obtain ⟨x1, rfl, rfl, rfl, w1⟩ := open_int Try.underlying3 (hval 1 3 v1 rfl rfl) h1
  have k2 := h2
  have lt2 : ∀ x ∈ p2, x.block < W.heap.size := by obtain ⟨m, hm⟩ := k2; exact DataW.trod_lt m _ _ _ hm
  obtain ⟨A2, c2, x2, rfl, rd2, hc2, hm2, w2⟩ := open_rowsN (D := dT32) (WF := (WF.wfT32)) (d := 9) (t := 22) tab rfl rfl rfl (fun cs ar0 => by obtain ⟨u0, us0, rfl, ⟨a0, rfl, w0⟩, ar1⟩ := ar0.consC; obtain ⟨u1, us1, rfl, ⟨a1, rfl, w1⟩, ar2⟩ := ar1.consC; obtain ⟨u2, us2, rfl, ⟨a2, rfl, w2⟩, ar3⟩ := ar2.consC; obtain ⟨u3, us3, rfl, ⟨a3, rfl, w3⟩, ar4⟩ := ar3.consC; obtain ⟨u4, us4, rfl, ⟨a4, rfl, w4⟩, ar5⟩ := ar4.consC; obtain ⟨u5, us5, rfl, tr5, ar6⟩ := ar5.consR; obtain ⟨A5, c5, x5, rfl, rd5, hc5, hm5, w5⟩ := open_rowT (E := ET30) (WF := (WF.wfT30)) (d := 9) tab rfl rfl rfl dec0 tr5; obtain rfl := ar6.nil; exact ⟨⟨⟨a0, a1, a2, a3, a4, x5⟩, A5, c5⟩, rfl, ⟨w0, w1, w2, w3, w4, ⟨w5, Nat.le_trans hc5 hm5⟩⟩, rd5, hc5⟩) (fun y hy => fun w' hw' => ⟨hy.1.ft w' hw', hy.2⟩) (hval 2 22 v2 rfl rfl) h2
  clear hA0 hval0 hsz0 hsz
  obtain ⟨K, H⟩ := Pure.FetchPlays x0 w0 x1 w1 x2 w2 (Nat.le_trans hc2 hm2)
  refine Calls.mono (tidewracklaw21_FetchPlays_calls K x0 x1 A2 c2 x2 W (fun _ => 0) 1 0 0 rd2 hc2 (by decide) (by decide) (by decide) true H) fun e W' ⟨v, he, o', hv, st⟩ => ?_
  subst he
  subst hv
  have bel := st_below st
  exact ⟨_, rfl, _, _, _, [], _, [], hW', trodAll_mk1 (shut_bool Try.underlying4 _), (trodAll_cons_mk (Below.trod laidOut (by kernel_rfl) (of_decide_eq_true (by kernel_rfl)) k0 bel lt0) (trodAll_cons_mk (Below.trod laidOut (by kernel_rfl) (of_decide_eq_true (by kernel_rfl)) k1 bel lt1) (trodAll_cons_mk (Below.trod laidOut (by kernel_rfl) (of_decide_eq_true (by kernel_rfl)) k2 bel lt2) trodAll_mk0))), rfl, bel.frame _, fun h => by cases h⟩
theorem over : Rows.fetchPlaysRow.holds Try.pinned (OpenSpec.ofChange Rows.fetchPlaysSpec) :=
  OpenClaim.holds_of_wide 3 Try.f3 rfl rfl rfl rfl rfl rfl rfl ⟨rfl, rfl, rfl, rfl, rfl⟩ rfl rfl rfl rfl rfl (by kernel_rfl) Try.func3 (by kernel_rfl)
    (of_decide_eq_true (by kernel_rfl)) (by unfold Func.isWrapper; first | (rw [if_pos (by decide +kernel)]; kernel_rfl) | (rw [if_neg (by decide +kernel)]; exact ⟨rfl, rfl⟩))
    (fun os started H enc _ => lifted os started H enc)
theorem proved : Rows.FetchPlaysSaid := over
end Go.Proofs.Ytmgopcmdljhjoaa.fetchPlays
namespace Go.Proofs.Ytmgopcmdljhjoaa
/-- The row, under a short name, for the claim. -/
theorem fetchPlays_holds : Rows.FetchPlaysSaid := fetchPlays.proved
#print axioms fetchPlays_holds
end Go.Proofs.Ytmgopcmdljhjoaa
