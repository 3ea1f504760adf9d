/- The statement PartsPlay, out of the walk and the plain law. -/
import Derived.Test.YtibcjohofabllaaRows
import Derived.Test.YtibcjohofabllaaW1
import Derived.Test.YtibcjohofabllaaW2
import Derived.Test.YtibcjohofabllaaPX
set_option linter.unusedVariables false
namespace Go.Proofs.Ytibcjohofabllaa.partsPlay
open Go Go.Proofs.XC Go.ChangeShapes Go.WideShapes Go.ChangeAt Go.RowKit
open Go.ChangeMaps (open_string shut_string)
theorem own : ownKnob Try.prog.godebug = none := by kernel_rfl
theorem laidOut : laidOutB Try.prog = true := by kernel_rfl
theorem dec0 (cs : List Value) (h0 : AreC [.b, .i .i64, .i .i64, .i .i64, .s] cs) : ∃ y, cs = Enc.f ET42 y ∧ (WF.wfT42) y := by
  obtain ⟨v0, u0, rfl, ⟨a0, rfl⟩, h1⟩ := h0.cons
  obtain ⟨v1, u1, rfl, ⟨a1, rfl, w1⟩, h2⟩ := h1.cons
  obtain ⟨v2, u2, rfl, ⟨a2, rfl, w2⟩, h3⟩ := h2.cons
  obtain ⟨v3, u3, rfl, ⟨a3, rfl, w3⟩, h4⟩ := h3.cons
  obtain ⟨v4, u4, rfl, ⟨a4, rfl, w4⟩, h5⟩ := h4.cons
  obtain rfl := h5.nil
  exact ⟨⟨a0, a1, a2, a3, a4⟩, rfl, ⟨w1, w2, w3, w4⟩⟩
set_option maxRecDepth 100000 in
theorem lifted (os : Os) (started : os.Started) (H : Type) (enc : TypeId × Value → H) :
    ReturnsInHanded {} Try.checked os 6 .any (Rows.partsPlaySpec.pre6 enc Try.prog Try.f6 Rows.partsPlayRow.domain false) (Rows.partsPlaySpec.post enc Try.prog Try.f6 false true false false) := by
  refine returnsInHanded_of_change_sized (C := Try.checked) own started (by kernel_rfl) Try.func6
    (ChangeSpec.witness6 (enc := enc) (C := Try.checked) false ⟨#[], #[(.slice none 0 0)], []⟩ 8 (by kernel_rfl) (by kernel_rfl) (by kernel_rfl) (by kernel_rfl)) ?_
  intro W base args ds gs before hval0 hW hcnd hsz0 _
  have hsz : (DataW.weightsEach Try.prog (Try.f6.params.toList ++ Rows.partsPlaySpec.plain.varTypes Try.prog) (ds ++ gs)).all (· ≤ reachBytes) = true := hsz0
  have hval : ∀ (j : Nat) t v, Try.f6.params[j]? = some t → args[j]? = some v → Value.okWide Try.prog W .any base t v := hval0
  have hW' := hW
  obtain ⟨p, q, hA0, hV, rfl, hfz, hnd⟩ := hW
  have hA : DataW.TrodAll enc Try.prog W 0 (fun _ => true) true Try.f6.params.toList args.toList ds p := hA0
  rw [Try.params6] at hA hval hsz
  obtain ⟨v0, vs0, d0, ds0, p0, q0, hargs, rfl, rfl, h0, r0⟩ := trodAll_cons hA
  obtain ⟨rfl, rfl, rfl⟩ := trodAll_nil r0
  obtain rfl : args = #[v0] := by cases args; simp_all
  obtain ⟨rfl, rfl⟩ := trodVars_none hV
  have k0 := h0
  have lt0 : ∀ x ∈ p0, x.block < W.heap.size := by obtain ⟨m, hm⟩ := k0; exact DataW.trod_lt m _ _ _ hm
  obtain ⟨A0, c0, x0, rfl, rd0, hc0, hm0, w0⟩ := open_rows (E := ET42) (WF := (WF.wfT42)) (d := 9) (t := 38) tab rfl rfl rfl dec0 (hval 0 38 v0 rfl rfl) h0
  clear hA0 hval0 hsz0 hsz
  obtain ⟨K, H⟩ := Pure.PartsPlay x0 w0 (Nat.le_trans hc0 hm0)
  refine Calls.mono (tidewracklaw04_PartsPlay_calls K A0 c0 x0 W (fun _ => 0) 0 rd0.ft hc0 true H) fun e W' ⟨v, he, o', hv, st⟩ => ?_
  subst he
  subst hv
  have bel := st_below st
  exact ⟨_, rfl, _, _, _, [], _, [], hW', trodAll_mk1 (shut_bool Try.underlying4 _), (trodAll_cons_mk (Below.trod laidOut (by kernel_rfl) (of_decide_eq_true (by kernel_rfl)) k0 bel lt0) trodAll_mk0), rfl, bel.frame _, fun h => by cases h⟩
theorem over : Rows.partsPlayRow.holds Try.pinned (OpenSpec.ofChange Rows.partsPlaySpec) :=
  OpenClaim.holds_of_wide 6 Try.f6 rfl rfl rfl rfl rfl rfl rfl ⟨rfl, rfl, rfl, rfl, rfl⟩ rfl rfl rfl rfl rfl (by kernel_rfl) Try.func6 (by kernel_rfl)
    (of_decide_eq_true (by kernel_rfl)) (by unfold Func.isWrapper; first | (rw [if_pos (by decide +kernel)]; kernel_rfl) | (rw [if_neg (by decide +kernel)]; exact ⟨rfl, rfl⟩))
    (fun os started H enc _ => lifted os started H enc)
theorem proved : Rows.PartsPlaySaid := over
end Go.Proofs.Ytibcjohofabllaa.partsPlay
namespace Go.Proofs.Ytibcjohofabllaa
/-- The row, under a short name, for the claim. -/
theorem partsPlay_holds : Rows.PartsPlaySaid := partsPlay.proved
#print axioms partsPlay_holds
end Go.Proofs.Ytibcjohofabllaa
