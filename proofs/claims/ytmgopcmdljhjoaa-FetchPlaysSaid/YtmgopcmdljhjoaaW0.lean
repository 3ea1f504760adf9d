/- Walks, printed by an own program: the machine's calls compute the plain functions. -/
import Derived.Test.YtmgopcmdljhjoaaY18
import Derived.Test.YtmgopcmdljhjoaaD
import Derived.Test.YtmgopcmdljhjoaaProg
set_option linter.unusedVariables false
set_option linter.unusedSimpArgs false
namespace Go.Proofs.Ytmgopcmdljhjoaa
open Go Go.Proofs.XC
def ET30 : Enc T30 := ⟨2, fun x => [.int .i64 x.From, .int .i64 x.To], fun _ => rfl, fun _ => rfl⟩
structure NT32 where
  x : T32
  A : Option Addr
  c : Nat
def dT32 : ND T32 := ⟨NT32, ⟨6, fun r => [.int .i64 r.x.Kind, .int .i64 r.x.N, .int .i64 r.x.Later, .int .i64 r.x.Span_From, .int .i64 r.x.Span_To, .slice r.A (r.x.Have).length r.c], fun _ => rfl, fun _ => rfl⟩, fun r => r.x, fun r w => RdC ET30 r.A r.x.Have w ∧ (r.x.Have).length ≤ r.c⟩
theorem elT32 {w : World} {o : Nat → Nat} {L F : Nat} {ad : Addr} {xs : List T32} (h : NRd dT32 (some ad) xs w o L F) {i : Int} (hi : 0 ≤ i ∧ i < (xs.length : Int)) :
    ∃ A c, Ft (fun W => CellsAt (ad.add (i.toNat * 6)) [.int .i64 (rdD zT32 xs i).Kind, .int .i64 (rdD zT32 xs i).N, .int .i64 (rdD zT32 xs i).Later, .int .i64 (rdD zT32 xs i).Span_From, .int .i64 (rdD zT32 xs i).Span_To, .slice A ((rdD zT32 xs i).Have).length c] W) w o L ∧ Ft (RdC ET30 A (rdD zT32 xs i).Have) w o F ∧ ((rdD zT32 xs i).Have).length ≤ c := by
  obtain ⟨⟨x, A, c⟩, e, hc, hn⟩ := NRd.el h zT32 hi
  have e : x = rdD zT32 xs i := e
  subst e
  exact ⟨A, c, hc, hn.imp fun W hW => hW.1, hn.now.2⟩
def tabU : List (Nat × TypeDesc) := [(3, .int .i64), (4, .bool), (22, .slice 33), (24, .pointer 51), (26, .slice 31), (28, .struct #[⟨ "Most", 3, 0, false, "", "", 0⟩, ⟨ "Every", 3, 1, false, "", "", 8⟩, ⟨ "Due", 3, 2, false, "", "", 16⟩, ⟨ "L", 26, 3, false, "", "", 24⟩]), (31, .struct #[⟨ "From", 3, 0, false, "", "", 0⟩, ⟨ "To", 3, 1, false, "", "", 8⟩]), (33, .struct #[⟨ "Kind", 3, 0, false, "", "", 0⟩, ⟨ "N", 3, 1, false, "", "", 8⟩, ⟨ "Later", 3, 2, false, "", "", 16⟩, ⟨ "Span", 31, 3, true, "", "", 24⟩, ⟨ "Have", 26, 5, false, "", "", 40⟩]), (38, .slice 43), (43, .struct #[⟨ "From", 3, 0, false, "", "", 0⟩, ⟨ "To", 3, 1, false, "", "", 8⟩]), (47, .pointer 49), (49, .struct #[⟨ "l", 38, 0, false, "", "tidewrack/spans", 0⟩]), (51, .struct #[⟨ "most", 3, 0, false, "", "tidewrack/fetch", 0⟩, ⟨ "every", 3, 1, false, "", "tidewrack/fetch", 8⟩, ⟨ "due", 3, 2, false, "", "tidewrack/fetch", 16⟩, ⟨ "want", 47, 3, false, "", "tidewrack/fetch", 24⟩]), (73, .slice 38), (76, .slice 3)]
def tabI : List (Nat × (Nat × Nat × Value)) := [(3, (1, 8, (.int .i64 0))), (22, (1, 24, (.slice none 0 0))), (26, (1, 24, (.slice none 0 0))), (28, (4, 48, (.agg #[(.int .i64 0), (.int .i64 0), (.int .i64 0), (.slice none 0 0)]))), (31, (2, 16, (.agg #[(.int .i64 0), (.int .i64 0)]))), (33, (6, 64, (.agg #[(.int .i64 0), (.int .i64 0), (.int .i64 0), (.int .i64 0), (.int .i64 0), (.slice none 0 0)]))), (38, (1, 24, (.slice none 0 0))), (43, (2, 16, (.agg #[(.int .i64 0), (.int .i64 0)]))), (47, (1, 8, (.pointer none))), (49, (1, 24, (.agg #[(.slice none 0 0)]))), (51, (4, 32, (.agg #[(.int .i64 0), (.int .i64 0), (.int .i64 0), (.pointer none)])))]
abbrev T : Tab := ⟨tabU, tabI⟩
theorem tab : TabOK Try.prog T := by
  refine ⟨?_, ?_⟩
  · simp only [tabU, List.forall_mem_cons]
    exact ⟨Try.underlying3, Try.underlying4, Try.underlying22, Try.underlying24, Try.underlying26, Try.underlying28, Try.underlying31, Try.underlying33, Try.underlying38, Try.underlying43, Try.underlying47, Try.underlying49, Try.underlying51, Try.underlying73, Try.underlying76, by simp⟩
  · simp only [tabI, List.forall_mem_cons]
    exact ⟨by kernel_rfl, by kernel_rfl, by kernel_rfl, by kernel_rfl, by kernel_rfl, by kernel_rfl, by kernel_rfl, by kernel_rfl, by kernel_rfl, by kernel_rfl, by kernel_rfl, by simp⟩
theorem stood : ∀ t ∈ [31, 43], Try.prog.stoodInHeld t = false ∧ Try.prog.eqGuardType Try.prog.depth t = false := by
  simp only [List.forall_mem_cons]
  exact ⟨⟨by kernel_rfl, by kernel_rfl⟩, ⟨by kernel_rfl, by kernel_rfl⟩, by simp⟩
theorem mixed : Try.prog.follows .mixedOrders = true := by kernel_rfl
theorem ent_4 : EntersF Try.prog 4 := enters_of' Try.func4 (by kernel_rfl) rfl
theorem ent_5 : EntersF Try.prog 5 := enters_of' Try.func5 (by kernel_rfl) rfl
theorem ent_6 : EntersF Try.prog 6 := enters_of' Try.func6 (by kernel_rfl) rfl
theorem ent_7 : EntersF Try.prog 7 := enters_of' Try.func7 (by kernel_rfl) rfl
theorem ent_8 : EntersF Try.prog 8 := enters_of' Try.func8 (by kernel_rfl) rfl
theorem ent_9 : EntersF Try.prog 9 := enters_of' Try.func9 (by kernel_rfl) rfl
theorem ent_10 : EntersF Try.prog 10 := enters_of' Try.func10 (by kernel_rfl) rfl
theorem ent_11 : EntersF Try.prog 11 := enters_of' Try.func11 (by kernel_rfl) rfl
theorem ent_12 : EntersF Try.prog 12 := enters_of' Try.func12 (by kernel_rfl) rfl
theorem ent_13 : EntersF Try.prog 13 := enters_of' Try.func13 (by kernel_rfl) rfl
theorem ent_14 : EntersF Try.prog 14 := enters_of' Try.func14 (by kernel_rfl) rfl
theorem ent_15 : EntersF Try.prog 15 := enters_of' Try.func15 (by kernel_rfl) rfl
theorem ent_16 : EntersF Try.prog 16 := enters_of' Try.func16 (by kernel_rfl) rfl
theorem ent_17 : EntersF Try.prog 17 := enters_of' Try.func17 (by kernel_rfl) rfl
theorem ent_18 : EntersF Try.prog 18 := enters_of' Try.func18 (by kernel_rfl) rfl
theorem ent_19 : EntersF Try.prog 19 := enters_of' Try.func19 (by kernel_rfl) rfl
theorem ent_20 : EntersF Try.prog 20 := enters_of' Try.func20 (by kernel_rfl) rfl
theorem ent_21 : EntersF Try.prog 21 := enters_of' Try.func21 (by kernel_rfl) rfl
theorem ent_22 : EntersF Try.prog 22 := enters_of' Try.func22 (by kernel_rfl) rfl
theorem ent_23 : EntersF Try.prog 23 := enters_of' Try.func23 (by kernel_rfl) rfl
theorem ent_24 : EntersF Try.prog 24 := enters_of' Try.func24 (by kernel_rfl) rfl
theorem ent_25 : EntersF Try.prog 25 := enters_of' Try.func25 (by kernel_rfl) rfl
theorem ent_26 : EntersF Try.prog 26 := enters_of' Try.func26 (by kernel_rfl) rfl
theorem ent_27 : EntersF Try.prog 27 := enters_of' Try.func27 (by kernel_rfl) rfl
theorem ent_28 : EntersF Try.prog 28 := enters_of' Try.func28 (by kernel_rfl) rfl
theorem ent_29 : EntersF Try.prog 29 := enters_of' Try.func29 (by kernel_rfl) rfl
theorem ent_30 : EntersF Try.prog 30 := enters_of' Try.func30 (by kernel_rfl) rfl
theorem ent_31 : EntersF Try.prog 31 := enters_of' Try.func31 (by kernel_rfl) rfl
theorem ent_32 : EntersF Try.prog 32 := enters_of' Try.func32 (by kernel_rfl) rfl
theorem ent_33 : EntersF Try.prog 33 := enters_of' Try.func33 (by kernel_rfl) rfl
theorem ent_34 : EntersF Try.prog 34 := enters_of' Try.func34 (by kernel_rfl) rfl
theorem ent_35 : EntersF Try.prog 35 := enters_of' Try.func35 (by kernel_rfl) rfl
theorem ent_36 : EntersF Try.prog 36 := enters_of' Try.func36 (by kernel_rfl) rfl
theorem ent_37 : EntersF Try.prog 37 := enters_of' Try.func37 (by kernel_rfl) rfl
theorem ent_38 : EntersF Try.prog 38 := enters_of' Try.func38 (by kernel_rfl) rfl
theorem ent_39 : EntersF Try.prog 39 := enters_of' Try.func39 (by kernel_rfl) rfl
theorem ent_40 : EntersF Try.prog 40 := enters_of' Try.func40 (by kernel_rfl) rfl
theorem ent_41 : EntersF Try.prog 41 := enters_of' Try.func41 (by kernel_rfl) rfl
theorem ent_42 : EntersF Try.prog 42 := enters_of' Try.func42 (by kernel_rfl) rfl
theorem ent_43 : EntersF Try.prog 43 := enters_of' Try.func43 (by kernel_rfl) rfl
theorem ent_44 : EntersF Try.prog 44 := enters_of' Try.func44 (by kernel_rfl) rfl
theorem ent_45 : EntersF Try.prog 45 := enters_of' Try.func45 (by kernel_rfl) rfl
theorem ent_46 : EntersF Try.prog 46 := enters_of' Try.func46 (by kernel_rfl) rfl
theorem ent_47 : EntersF Try.prog 47 := enters_of' Try.func47 (by kernel_rfl) rfl
end Go.Proofs.Ytmgopcmdljhjoaa
