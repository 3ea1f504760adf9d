/- The statement StyleOrders, out of the walk and the plain law. -/
import Derived.Test.YtbdocgjhidalfaaRows
import Derived.Test.YtbdocgjhidalfaaW1
import Derived.Test.YtbdocgjhidalfaaW2
import Derived.Test.YtbdocgjhidalfaaPU
set_option linter.unusedVariables false
namespace Go.Proofs.Ytbdocgjhidalfaa.styleOrders
open Go Go.Proofs.XC Go.ChangeShapes Go.WideShapes Go.ChangeAt Go.RowKit
open Go.ChangeMaps (open_string shut_string)
theorem own : ownKnob Try.prog.godebug = none := by kernel_rfl
theorem laidOut : laidOutB Try.prog = true := by kernel_rfl
theorem dec0 (cs : List Value) (h0 : AreC [.i .i64, .i .i64, .b, .b, .b] cs) : ∃ y, cs = Enc.f ET22 y ∧ (WF.wfT22) y := by
  obtain ⟨v0, u0, rfl, ⟨a0, rfl, w0⟩, h1⟩ := h0.cons
  obtain ⟨v1, u1, rfl, ⟨a1, rfl, w1⟩, h2⟩ := h1.cons
  obtain ⟨v2, u2, rfl, ⟨a2, rfl⟩, h3⟩ := h2.cons
  obtain ⟨v3, u3, rfl, ⟨a3, rfl⟩, h4⟩ := h3.cons
  obtain ⟨v4, u4, rfl, ⟨a4, rfl⟩, h5⟩ := h4.cons
  obtain rfl := h5.nil
  exact ⟨⟨a0, a1, a2, a3, a4⟩, rfl, ⟨w0, w1⟩⟩
set_option maxRecDepth 100000 in
theorem lifted (os : Os) (started : os.Started) (H : Type) (enc : TypeId × Value → H) :
    ReturnsInHanded {} Try.checked os 7 .any (Rows.styleOrdersSpec.pre6 enc Try.prog Try.f7 Rows.styleOrdersRow.domain false) (Rows.styleOrdersSpec.post enc Try.prog Try.f7 false true false false) := by
  refine returnsInHanded_of_change_sized (C := Try.checked) own started (by kernel_rfl) Try.func7
    (ChangeSpec.witness6 (enc := enc) (C := Try.checked) false ⟨#[], #[(.agg #[(.int .i64 0), (.int .i64 0), (.bool false), (.bool false), (.bool false)]), (.agg #[(.int .i64 0), (.int .i64 0), (.bool false), (.bool false), (.bool false)])], []⟩ 8 (by kernel_rfl) (by kernel_rfl) (by kernel_rfl) (by kernel_rfl)) ?_
  intro W base args ds gs before hval0 hW hcnd hsz0 _
  have hsz : (DataW.weightsEach Try.prog (Try.f7.params.toList ++ Rows.styleOrdersSpec.plain.varTypes Try.prog) (ds ++ gs)).all (· ≤ reachBytes) = true := hsz0
  have hval : ∀ (j : Nat) t v, Try.f7.params[j]? = some t → args[j]? = some v → Value.okWide Try.prog W .any base t v := hval0
  have hW' := hW
  obtain ⟨p, q, hA0, hV, rfl, hfz, hnd⟩ := hW
  have hA : DataW.TrodAll enc Try.prog W 0 (fun _ => true) true Try.f7.params.toList args.toList ds p := hA0
  rw [Try.params7] at hA hval hsz
  obtain ⟨v0, vs0, d0, ds0, p0, q0, hargs, rfl, rfl, h0, r0⟩ := trodAll_cons hA
  obtain ⟨v1, vs1, d1, ds1, p1, q1, rfl, rfl, rfl, h1, r1⟩ := trodAll_cons r0
  obtain ⟨rfl, rfl, rfl⟩ := trodAll_nil r1
  obtain rfl : args = #[v0, v1] := by cases args; simp_all
  obtain ⟨rfl, rfl⟩ := trodVars_none hV
  have k0 := h0
  have lt0 : ∀ x ∈ p0, x.block < W.heap.size := by obtain ⟨m, hm⟩ := k0; exact DataW.trod_lt m _ _ _ hm
  obtain ⟨cs0, rfl, ar0⟩ := open_agg (d := 9) (t := 23) tab rfl rfl (hval 0 23 v0 rfl rfl) h0
  obtain ⟨x0, rfl, w0⟩ := dec0 _ ar0
  have k1 := h1
  have lt1 : ∀ x ∈ p1, x.block < W.heap.size := by obtain ⟨m, hm⟩ := k1; exact DataW.trod_lt m _ _ _ hm
  obtain ⟨cs1, rfl, ar1⟩ := open_agg (d := 9) (t := 23) tab rfl rfl (hval 1 23 v1 rfl rfl) h1
  obtain ⟨x1, rfl, w1⟩ := dec0 _ ar1
  clear hA0 hval0 hsz0 hsz
  obtain ⟨K, H⟩ := Pure.StyleOrders x0 w0 x1 w1
  refine Calls.mono (tidewracklaw08_StyleOrders_calls K x0 x1 W (fun _ => 0)  true H) fun e W' ⟨v, he, o', hv, st⟩ => ?_
  subst he
  subst hv
  have bel := st_below st
  exact ⟨_, rfl, _, _, _, [], _, [], hW', trodAll_mk1 (shut_bool Try.underlying4 _), (trodAll_cons_mk (Below.trod laidOut (by kernel_rfl) (of_decide_eq_true (by kernel_rfl)) k0 bel lt0) (trodAll_cons_mk (Below.trod laidOut (by kernel_rfl) (of_decide_eq_true (by kernel_rfl)) k1 bel lt1) trodAll_mk0)), rfl, bel.frame _, fun h => by cases h⟩
theorem over : Rows.styleOrdersRow.holds Try.pinned (OpenSpec.ofChange Rows.styleOrdersSpec) :=
  OpenClaim.holds_of_wide 7 Try.f7 rfl rfl rfl rfl rfl rfl rfl ⟨rfl, rfl, rfl, rfl, rfl⟩ rfl rfl rfl rfl rfl (by kernel_rfl) Try.func7 (by kernel_rfl)
    (of_decide_eq_true (by kernel_rfl)) (by unfold Func.isWrapper; first | (rw [if_pos (by decide +kernel)]; kernel_rfl) | (rw [if_neg (by decide +kernel)]; exact ⟨rfl, rfl⟩))
    (fun os started H enc _ => lifted os started H enc)
theorem proved : Rows.StyleOrdersSaid := over
end Go.Proofs.Ytbdocgjhidalfaa.styleOrders
namespace Go.Proofs.Ytbdocgjhidalfaa
/-- The row, under a short name, for the claim. -/
theorem styleOrders_holds : Rows.StyleOrdersSaid := styleOrders.proved
#print axioms styleOrders_holds
end Go.Proofs.Ytbdocgjhidalfaa
