/- The statement CacheSpans, out of the walk and the plain law. -/
import Derived.Test.YthmlldkmgdjeoaaRows
import Derived.Test.YthmlldkmgdjeoaaW1
import Derived.Test.YthmlldkmgdjeoaaW2
import Derived.Test.YthmlldkmgdjeoaaW3
import Derived.Test.YthmlldkmgdjeoaaPT
set_option linter.unusedVariables false
namespace Go.Proofs.Ythmlldkmgdjeoaa.cacheSpans
open Go Go.Proofs.XC Go.ChangeShapes Go.WideShapes Go.ChangeAt Go.RowKit
open Go.ChangeMaps (open_string shut_string)
theorem own : ownKnob Try.prog.godebug = none := by kernel_rfl
theorem laidOut : laidOutB Try.prog = true := by kernel_rfl
theorem dec0 (cs : List Value) (h0 : AreC [.i .i32, .i .i64] cs) : ∃ y, cs = Enc.f ET59 y ∧ (WF.wfT59) y := by
  obtain ⟨v0, u0, rfl, ⟨a0, rfl, w0⟩, h1⟩ := h0.cons
  obtain ⟨v1, u1, rfl, ⟨a1, rfl, w1⟩, h2⟩ := h1.cons
  obtain rfl := h2.nil
  exact ⟨⟨a0, a1⟩, rfl, ⟨w0, w1⟩⟩
set_option maxRecDepth 100000 in
theorem lifted (os : Os) (started : os.Started) (H : Type) (enc : TypeId × Value → H) :
    ReturnsInHanded {} Try.checked os 5 .any (Rows.cacheSpansSpec.pre6 enc Try.prog Try.f5 Rows.cacheSpansRow.domain false) (Rows.cacheSpansSpec.post enc Try.prog Try.f5 false true false false) := by
  refine returnsInHanded_of_change_sized (C := Try.checked) own started (by kernel_rfl) Try.func5
    (ChangeSpec.witness6 (enc := enc) (C := Try.checked) false ⟨#[], #[(.slice none 0 0), (.int .i64 0)], []⟩ 8 (by kernel_rfl) (by kernel_rfl) (by kernel_rfl) (by kernel_rfl)) ?_
  intro W base args ds gs before hval0 hW hcnd hsz0 _
  have hsz : (DataW.weightsEach Try.prog (Try.f5.params.toList ++ Rows.cacheSpansSpec.plain.varTypes Try.prog) (ds ++ gs)).all (· ≤ reachBytes) = true := hsz0
  have hval : ∀ (j : Nat) t v, Try.f5.params[j]? = some t → args[j]? = some v → Value.okWide Try.prog W .any base t v := hval0
  have hW' := hW
  obtain ⟨p, q, hA0, hV, rfl, hfz, hnd⟩ := hW
  have hA : DataW.TrodAll enc Try.prog W 0 (fun _ => true) true Try.f5.params.toList args.toList ds p := hA0
  rw [Try.params5] at hA hval hsz
  obtain ⟨v0, vs0, d0, ds0, p0, q0, hargs, rfl, rfl, h0, r0⟩ := trodAll_cons hA
  obtain ⟨v1, vs1, d1, ds1, p1, q1, rfl, rfl, rfl, h1, r1⟩ := trodAll_cons r0
  obtain ⟨rfl, rfl, rfl⟩ := trodAll_nil r1
  obtain rfl : args = #[v0, v1] := by cases args; simp_all
  obtain ⟨rfl, rfl⟩ := trodVars_none hV
  have k0 := h0
  have lt0 : ∀ x ∈ p0, x.block < W.heap.size := by obtain ⟨m, hm⟩ := k0; exact DataW.trod_lt m _ _ _ hm
  obtain ⟨A0, c0, x0, rfl, rd0, hc0, hm0, w0⟩ := open_rowsN (D := dT29) (WF := (WF.wfT29)) (d := 9) (t := 22) tab rfl rfl rfl (fun cs ar0 => by obtain ⟨u0, us0, rfl, ⟨a0, rfl, w0⟩, ar1⟩ := ar0.consC; obtain ⟨u1, us1, rfl, ⟨a1, rfl, w1⟩, ar2⟩ := ar1.consC; obtain ⟨u2, us2, rfl, tr2, ar3⟩ := ar2.consR; obtain ⟨A2, c2, x2, rfl, rd2, hc2, hm2, w2⟩ := open_rowT (E := ET59) (WF := (WF.wfT59)) (d := 9) tab rfl rfl rfl dec0 tr2; obtain rfl := ar3.nil; exact ⟨⟨⟨a0, a1, x2⟩, A2, c2⟩, rfl, ⟨w0, w1, ⟨w2, Nat.le_trans hc2 hm2⟩⟩, rd2, hc2⟩) (fun y hy => fun w' hw' => ⟨hy.1.ft w' hw', hy.2⟩) (hval 0 22 v0 rfl rfl) h0
  have k1 := h1
  have lt1 : ∀ x ∈ p1, x.block < W.heap.size := by obtain ⟨m, hm⟩ := k1; exact DataW.trod_lt m _ _ _ hm
  obtain ⟨x1, rfl, rfl, rfl, w1⟩ := open_int Try.underlying3 (hval 1 3 v1 rfl rfl) h1
  clear hA0 hval0 hsz0 hsz
  obtain ⟨K, H⟩ := Pure.CacheSpans x0 w0 (Nat.le_trans hc0 hm0) x1 w1
  refine Calls.mono (tidewracklaw14_CacheSpans_calls K A0 c0 x0 x1 W (fun _ => 0) 1 0 0 rd0 hc0 (by decide) (by decide) (by decide) true H) fun e W' ⟨v, he, o', hv, st⟩ => ?_
  subst he
  subst hv
  have bel := st_below st
  exact ⟨_, rfl, _, _, _, [], _, [], hW', trodAll_mk1 (shut_bool Try.underlying4 _), (trodAll_cons_mk (Below.trod laidOut (by kernel_rfl) (of_decide_eq_true (by kernel_rfl)) k0 bel lt0) (trodAll_cons_mk (Below.trod laidOut (by kernel_rfl) (of_decide_eq_true (by kernel_rfl)) k1 bel lt1) trodAll_mk0)), rfl, bel.frame _, fun h => by cases h⟩
theorem over : Rows.cacheSpansRow.holds Try.pinned (OpenSpec.ofChange Rows.cacheSpansSpec) :=
  OpenClaim.holds_of_wide 5 Try.f5 rfl rfl rfl rfl rfl rfl rfl ⟨rfl, rfl, rfl, rfl, rfl⟩ rfl rfl rfl rfl rfl (by kernel_rfl) Try.func5 (by kernel_rfl)
    (of_decide_eq_true (by kernel_rfl)) (by unfold Func.isWrapper; first | (rw [if_pos (by decide +kernel)]; kernel_rfl) | (rw [if_neg (by decide +kernel)]; exact ⟨rfl, rfl⟩))
    (fun os started H enc _ => lifted os started H enc)
theorem proved : Rows.CacheSpansSaid := over
end Go.Proofs.Ythmlldkmgdjeoaa.cacheSpans
namespace Go.Proofs.Ythmlldkmgdjeoaa
/-- The row, under a short name, for the claim. -/
theorem cacheSpans_holds : Rows.CacheSpansSaid := cacheSpans.proved
#print axioms cacheSpans_holds
end Go.Proofs.Ythmlldkmgdjeoaa
