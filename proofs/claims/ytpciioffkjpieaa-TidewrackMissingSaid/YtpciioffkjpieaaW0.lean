/- Walks, printed by an own program: the machine's calls compute the plain functions. -/
import Derived.Test.YtpciioffkjpieaaZ2
import Derived.Test.YtpciioffkjpieaaD
import Derived.Test.YtpciioffkjpieaaS
import Derived.Test.YtpciioffkjpieaaProg
set_option linter.unusedVariables false
set_option linter.unusedSimpArgs false
namespace Go.Proofs.Ytpciioffkjpieaa
open Go Go.Proofs.XC
def tabU : List (Nat × TypeDesc) := [(3, .int .i64), (22, .slice 3), (23, .pointer 42), (28, .struct #[⟨ "From", 3, 0, false, "", "", 0⟩, ⟨ "To", 3, 1, false, "", "", 8⟩]), (29, .slice 28), (31, .struct #[⟨ "l", 29, 0, false, "", "tidewrack/spans", 0⟩]), (35, .slice 46), (40, .map 3 53), (42, .struct #[⟨ "most", 3, 0, false, "", "tidewrack/cache", 0⟩, ⟨ "now", 3, 1, false, "", "tidewrack/cache", 8⟩, ⟨ "l", 40, 2, false, "", "tidewrack/cache", 16⟩]), (53, .struct #[⟨ "l", 35, 0, false, "", "tidewrack/cache", 0⟩, ⟨ "at", 3, 1, false, "", "tidewrack/cache", 24⟩]), (63, .slice 29)]
def tabI : List (Nat × (Nat × Nat × Value)) := [(3, (1, 8, (.int .i64 0))), (23, (1, 8, (.pointer none))), (28, (2, 16, (.agg #[(.int .i64 0), (.int .i64 0)]))), (29, (1, 24, (.slice none 0 0))), (31, (1, 24, (.agg #[(.slice none 0 0)]))), (35, (1, 24, (.slice none 0 0))), (40, (1, 8, (.map none))), (42, (3, 24, (.agg #[(.int .i64 0), (.int .i64 0), (.map none)]))), (46, (2, 16, (.agg #[(.int .i32 0), (.int .i64 0)]))), (53, (2, 32, (.agg #[(.slice none 0 0), (.int .i64 0)])))]
abbrev T : Tab := ⟨tabU, tabI⟩
theorem tab : TabOK Try.prog T := by
  refine ⟨?_, ?_⟩
  · simp only [tabU, List.forall_mem_cons]
    exact ⟨Try.underlying3, Try.underlying22, Try.underlying23, Try.underlying28, Try.underlying29, Try.underlying31, Try.underlying35, Try.underlying40, Try.underlying42, Try.underlying53, Try.underlying63, by simp⟩
  · simp only [tabI, List.forall_mem_cons]
    exact ⟨by kernel_rfl, by kernel_rfl, by kernel_rfl, by kernel_rfl, by kernel_rfl, by kernel_rfl, by kernel_rfl, by kernel_rfl, by kernel_rfl, by kernel_rfl, by simp⟩
def ET45 : Enc T45 := ⟨2, fun x => [.int .i32 x.Rune, .int .i64 x.Style], fun _ => rfl, fun _ => rfl⟩
structure NT52 where
  x : T52
  A : Option Addr
  c : Nat
def dT52 : ND T52 := ⟨NT52, ⟨2, fun r => [.slice r.A (r.x.l).length r.c, .int .i64 r.x.at_], fun _ => rfl, fun _ => rfl⟩, fun r => r.x, fun r w => RdC ET45 r.A r.x.l w ∧ (r.x.l).length ≤ r.c⟩
theorem elT52 {w : World} {o : Nat → Nat} {L F : Nat} {ad : Addr} {xs : List T52} (h : NRd dT52 (some ad) xs w o L F) {i : Int} (hi : 0 ≤ i ∧ i < (xs.length : Int)) :
    ∃ A c, Ft (fun W => CellsAt (ad.add (i.toNat * 2)) [.slice A ((rdD zT52 xs i).l).length c, .int .i64 (rdD zT52 xs i).at_] W) w o L ∧ Ft (RdC ET45 A (rdD zT52 xs i).l) w o F ∧ ((rdD zT52 xs i).l).length ≤ c := by
  obtain ⟨⟨x, A, c⟩, e, hc, hn⟩ := NRd.el h zT52 hi
  have e : x = rdD zT52 xs i := e
  subst e
  exact ⟨A, c, hc, hn.imp fun W hW => hW.1, hn.now.2⟩
theorem lkT52 {P : Program} {w : World} {o : Nat → Nat} {L F : Nat} {A : Option Addr} {m : M T52} (h : MpN dT52 true A m w o L F) (ht : TabOK P T) {mt kt et s bb : Nat} {z : Value} (hm : find T.und mt = some (.map kt et)) (hkt : find T.und kt = some (.int .i64)) (hz : find T.inf et = some (s, bb, z)) (hzx : z = ev dT52.E true (⟨zT52, none, 0⟩ : NT52)) (k : Int) :
    ∃ A' c, Ft (LookIs P mt (mv A) k (.agg #[.slice A' ((M.get zT52 m k).l).length c, .int .i64 (M.get zT52 m k).at_]) (m.has k)) w o L ∧ Ft (RdC ET45 A' (M.get zT52 m k).l) w o F ∧ ((M.get zT52 m k).l).length ≤ c := by
  obtain ⟨⟨x, A', c⟩, e, hl, hi⟩ := MpN.at h ht hm hkt hz (⟨zT52, none, 0⟩ : NT52) hzx (fun W => ⟨fun h_ => absurd h_ (by simp), Nat.le_refl _⟩) k
  have e : x = M.get zT52 m k := e
  subst e
  exact ⟨A', c, hl, hi.imp fun W hW => hW.1, hi.now.2⟩
def ET27 : Enc T27 := ⟨2, fun x => [.int .i64 x.From, .int .i64 x.To], fun _ => rfl, fun _ => rfl⟩
theorem mixed : Try.prog.follows .mixedOrders = true := by kernel_rfl
theorem ent_4 : EntersF Try.prog 4 := enters_of' Try.func4 (by kernel_rfl) rfl
theorem ent_5 : EntersF Try.prog 5 := enters_of' Try.func5 (by kernel_rfl) rfl
theorem ent_6 : EntersF Try.prog 6 := enters_of' Try.func6 (by kernel_rfl) rfl
theorem ent_7 : EntersF Try.prog 7 := enters_of' Try.func7 (by kernel_rfl) rfl
theorem ent_8 : EntersF Try.prog 8 := enters_of' Try.func8 (by kernel_rfl) rfl
theorem ent_9 : EntersF Try.prog 9 := enters_of' Try.func9 (by kernel_rfl) rfl
theorem ent_10 : EntersF Try.prog 10 := enters_of' Try.func10 (by kernel_rfl) rfl
theorem ent_11 : EntersF Try.prog 11 := enters_of' Try.func11 (by kernel_rfl) rfl
theorem ent_12 : EntersF Try.prog 12 := enters_of' Try.func12 (by kernel_rfl) rfl
theorem ent_13 : EntersF Try.prog 13 := enters_of' Try.func13 (by kernel_rfl) rfl
theorem ent_14 : EntersF Try.prog 14 := enters_of' Try.func14 (by kernel_rfl) rfl
theorem ent_15 : EntersF Try.prog 15 := enters_of' Try.func15 (by kernel_rfl) rfl
theorem ent_16 : EntersF Try.prog 16 := enters_of' Try.func16 (by kernel_rfl) rfl
theorem ent_17 : EntersF Try.prog 17 := enters_of' Try.func17 (by kernel_rfl) rfl
theorem ent_18 : EntersF Try.prog 18 := enters_of' Try.func18 (by kernel_rfl) rfl
theorem ent_19 : EntersF Try.prog 19 := enters_of' Try.func19 (by kernel_rfl) rfl
theorem ent_20 : EntersF Try.prog 20 := enters_of' Try.func20 (by kernel_rfl) rfl
theorem ent_21 : EntersF Try.prog 21 := enters_of' Try.func21 (by kernel_rfl) rfl
theorem ent_22 : EntersF Try.prog 22 := enters_of' Try.func22 (by kernel_rfl) rfl
theorem ent_23 : EntersF Try.prog 23 := enters_of' Try.func23 (by kernel_rfl) rfl
theorem ent_24 : EntersF Try.prog 24 := enters_of' Try.func24 (by kernel_rfl) rfl
theorem ent_25 : EntersF Try.prog 25 := enters_of' Try.func25 (by kernel_rfl) rfl
theorem ent_28 : EntersF Try.prog 28 := enters_of' Try.func28 (by kernel_rfl) rfl
theorem ent_29 : EntersF Try.prog 29 := enters_of' Try.func29 (by kernel_rfl) rfl
theorem ent_30 : EntersF Try.prog 30 := enters_of' Try.func30 (by kernel_rfl) rfl
theorem ent_31 : EntersF Try.prog 31 := enters_of' Try.func31 (by kernel_rfl) rfl
theorem ent_32 : EntersF Try.prog 32 := enters_of' Try.func32 (by kernel_rfl) rfl
end Go.Proofs.Ytpciioffkjpieaa
