/- The statement NumTexts, out of the walk and the plain law. -/
import Derived.Test.YthacdmompikhgaaRows
import Derived.Test.YthacdmompikhgaaW1
import Derived.Test.YthacdmompikhgaaW2
import Derived.Test.YthacdmompikhgaaPD
set_option linter.unusedVariables false
namespace Go.Proofs.Ythacdmompikhgaa.numTexts
open Go Go.Proofs.XC Go.ChangeShapes Go.WideShapes Go.ChangeAt Go.RowKit
open Go.ChangeMaps (open_string shut_string)
theorem own : ownKnob Try.prog.godebug = none := by kernel_rfl
theorem laidOut : laidOutB Try.prog = true := by kernel_rfl
theorem dec0 (cs : List Value) (h0 : AreC [.s] cs) : ∃ y, cs = Enc.f encStr y ∧ (WF.wfStr) y := by
  obtain ⟨v0, u0, rfl, ⟨a0, rfl, w0⟩, h1⟩ := h0.cons
  obtain rfl := h1.nil
  exact ⟨a0, rfl, w0⟩
set_option maxRecDepth 100000 in
theorem lifted (os : Os) (started : os.Started) (H : Type) (enc : TypeId × Value → H) :
    ReturnsInHanded {} Try.checked os 7 .any (Rows.numTextsSpec.pre6 enc Try.prog Try.f7 Rows.numTextsRow.domain false) (Rows.numTextsSpec.post enc Try.prog Try.f7 false true false false) := by
  refine returnsInHanded_of_change_sized (C := Try.checked) own started (by kernel_rfl) Try.func7
    (ChangeSpec.witness6 (enc := enc) (C := Try.checked) false ⟨#[], #[(.slice none 0 0)], []⟩ 8 (by kernel_rfl) (by kernel_rfl) (by kernel_rfl) (by kernel_rfl)) ?_
  intro W base args ds gs before hval0 hW hcnd hsz0 _
  have hsz : (DataW.weightsEach Try.prog (Try.f7.params.toList ++ Rows.numTextsSpec.plain.varTypes Try.prog) (ds ++ gs)).all (· ≤ reachBytes) = true := hsz0
  have hval : ∀ (j : Nat) t v, Try.f7.params[j]? = some t → args[j]? = some v → Value.okWide Try.prog W .any base t v := hval0
  have hW' := hW
  obtain ⟨p, q, hA0, hV, rfl, hfz, hnd⟩ := hW
  have hA : DataW.TrodAll enc Try.prog W 0 (fun _ => true) true Try.f7.params.toList args.toList ds p := hA0
  rw [Try.params7] at hA hval hsz
  obtain ⟨v0, vs0, d0, ds0, p0, q0, hargs, rfl, rfl, h0, r0⟩ := trodAll_cons hA
  obtain ⟨rfl, rfl, rfl⟩ := trodAll_nil r0
  obtain rfl : args = #[v0] := by cases args; simp_all
  obtain ⟨rfl, rfl⟩ := trodVars_none hV
  have k0 := h0
  have lt0 : ∀ x ∈ p0, x.block < W.heap.size := by obtain ⟨m, hm⟩ := k0; exact DataW.trod_lt m _ _ _ hm
  obtain ⟨A0, c0, x0, rfl, rd0, hc0, hm0, w0⟩ := open_rows (E := encStr) (WF := (WF.wfStr)) (d := 9) (t := 47) tab rfl rfl rfl dec0 (hval 0 47 v0 rfl rfl) h0
  clear hA0 hval0 hsz0 hsz
  obtain ⟨K, H⟩ := Pure.NumTexts x0 w0 (Nat.le_trans hc0 hm0)
  refine Calls.mono (tidewracklaw01_NumTexts_calls K A0 c0 x0 W (fun _ => 0) 0 rd0.ft hc0 true H) fun e W' ⟨v, he, o', hv, st⟩ => ?_
  subst he
  subst hv
  have bel := st_below st
  exact ⟨_, rfl, _, _, _, [], _, [], hW', trodAll_mk1 (shut_bool Try.underlying4 _), (trodAll_cons_mk (Below.trod laidOut (by kernel_rfl) (of_decide_eq_true (by kernel_rfl)) k0 bel lt0) trodAll_mk0), rfl, bel.frame _, fun h => by cases h⟩
theorem over : Rows.numTextsRow.holds Try.pinned (OpenSpec.ofChange Rows.numTextsSpec) :=
  OpenClaim.holds_of_wide 7 Try.f7 rfl rfl rfl rfl rfl rfl rfl ⟨rfl, rfl, rfl, rfl, rfl⟩ rfl rfl rfl rfl rfl (by kernel_rfl) Try.func7 (by kernel_rfl)
    (of_decide_eq_true (by kernel_rfl)) (by unfold Func.isWrapper; first | (rw [if_pos (by decide +kernel)]; kernel_rfl) | (rw [if_neg (by decide +kernel)]; exact ⟨rfl, rfl⟩))
    (fun os started H enc _ => lifted os started H enc)
theorem proved : Rows.NumTextsSaid := over
end Go.Proofs.Ythacdmompikhgaa.numTexts
namespace Go.Proofs.Ythacdmompikhgaa
/-- The row, under a short name, for the claim. -/
theorem numTexts_holds : Rows.NumTextsSaid := numTexts.proved
#print axioms numTexts_holds
end Go.Proofs.Ythacdmompikhgaa
