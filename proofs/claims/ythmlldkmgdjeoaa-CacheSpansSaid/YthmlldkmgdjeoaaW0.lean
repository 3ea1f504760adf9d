/- Walks, printed by an own program: the machine's calls compute the plain functions. -/
import Derived.Test.YthmlldkmgdjeoaaZ2
import Derived.Test.YthmlldkmgdjeoaaD
import Derived.Test.YthmlldkmgdjeoaaS
import Derived.Test.YthmlldkmgdjeoaaProg
set_option linter.unusedVariables false
set_option linter.unusedSimpArgs false
namespace Go.Proofs.Ythmlldkmgdjeoaa
open Go Go.Proofs.XC
def tabU : List (Nat × TypeDesc) := [(3, .int .i64), (4, .bool), (21, .int .i32), (22, .slice 30), (24, .pointer 63), (27, .slice 3), (28, .slice 60), (30, .struct #[⟨ "Kind", 3, 0, false, "", "", 0⟩, ⟨ "I", 3, 1, false, "", "", 8⟩, ⟨ "L", 28, 2, false, "", "", 16⟩]), (37, .slice 76), (38, .slice 76), (42, .slice 45), (45, .struct #[⟨ "From", 3, 0, false, "", "", 0⟩, ⟨ "To", 3, 1, false, "", "", 8⟩]), (49, .slice 88), (51, .struct #[⟨ "Most", 3, 0, false, "", "", 0⟩, ⟨ "L", 49, 1, false, "", "", 8⟩]), (60, .struct #[⟨ "Rune", 21, 0, false, "", "", 0⟩, ⟨ "Style", 3, 1, false, "", "", 8⟩]), (61, .map 3 72), (63, .struct #[⟨ "most", 3, 0, false, "", "tidewrack/cache", 0⟩, ⟨ "now", 3, 1, false, "", "tidewrack/cache", 8⟩, ⟨ "l", 61, 2, false, "", "tidewrack/cache", 16⟩]), (72, .struct #[⟨ "l", 28, 0, false, "", "tidewrack/cache", 0⟩, ⟨ "at", 3, 1, false, "", "tidewrack/cache", 24⟩]), (76, .struct #[⟨ "Rune", 3, 0, false, "", "", 0⟩, ⟨ "Style", 3, 1, false, "", "", 8⟩]), (78, .struct #[⟨ "l", 42, 0, false, "", "tidewrack/spans", 0⟩]), (88, .struct #[⟨ "I", 3, 0, false, "", "", 0⟩, ⟨ "L", 38, 1, false, "", "", 8⟩]), (91, .slice 102), (102, .struct #[⟨ "From", 3, 0, false, "", "", 0⟩, ⟨ "To", 3, 1, false, "", "", 8⟩]), (105, .slice 42)]
def tabI : List (Nat × (Nat × Nat × Value)) := [(3, (1, 8, (.int .i64 0))), (21, (1, 4, (.int .i32 0))), (22, (1, 24, (.slice none 0 0))), (24, (1, 8, (.pointer none))), (28, (1, 24, (.slice none 0 0))), (30, (3, 40, (.agg #[(.int .i64 0), (.int .i64 0), (.slice none 0 0)]))), (38, (1, 24, (.slice none 0 0))), (42, (1, 24, (.slice none 0 0))), (45, (2, 16, (.agg #[(.int .i64 0), (.int .i64 0)]))), (49, (1, 24, (.slice none 0 0))), (51, (2, 32, (.agg #[(.int .i64 0), (.slice none 0 0)]))), (60, (2, 16, (.agg #[(.int .i32 0), (.int .i64 0)]))), (61, (1, 8, (.map none))), (63, (3, 24, (.agg #[(.int .i64 0), (.int .i64 0), (.map none)]))), (72, (2, 32, (.agg #[(.slice none 0 0), (.int .i64 0)]))), (76, (2, 16, (.agg #[(.int .i64 0), (.int .i64 0)]))), (78, (1, 24, (.agg #[(.slice none 0 0)]))), (88, (2, 32, (.agg #[(.int .i64 0), (.slice none 0 0)]))), (102, (2, 16, (.agg #[(.int .i64 0), (.int .i64 0)])))]
abbrev T : Tab := ⟨tabU, tabI⟩
theorem tab : TabOK Try.prog T := by
  refine ⟨?_, ?_⟩
  · simp only [tabU, List.forall_mem_cons]
    exact ⟨Try.underlying3, Try.underlying4, Try.underlying21, Try.underlying22, Try.underlying24, Try.underlying27, Try.underlying28, Try.underlying30, Try.underlying37, Try.underlying38, Try.underlying42, Try.underlying45, Try.underlying49, Try.underlying51, Try.underlying60, Try.underlying61, Try.underlying63, Try.underlying72, Try.underlying76, Try.underlying78, Try.underlying88, Try.underlying91, Try.underlying102, Try.underlying105, by simp⟩
  · simp only [tabI, List.forall_mem_cons]
    exact ⟨by kernel_rfl, by kernel_rfl, by kernel_rfl, by kernel_rfl, by kernel_rfl, by kernel_rfl, by kernel_rfl, by kernel_rfl, by kernel_rfl, by kernel_rfl, by kernel_rfl, by kernel_rfl, by kernel_rfl, by kernel_rfl, by kernel_rfl, by kernel_rfl, by kernel_rfl, by kernel_rfl, by kernel_rfl, by simp⟩
def ET59 : Enc T59 := ⟨2, fun x => [.int .i32 x.Rune, .int .i64 x.Style], fun _ => rfl, fun _ => rfl⟩
structure NT71 where
  x : T71
  A : Option Addr
  c : Nat
def dT71 : ND T71 := ⟨NT71, ⟨2, fun r => [.slice r.A (r.x.l).length r.c, .int .i64 r.x.at_], fun _ => rfl, fun _ => rfl⟩, fun r => r.x, fun r w => RdC ET59 r.A r.x.l w ∧ (r.x.l).length ≤ r.c⟩
theorem elT71 {w : World} {o : Nat → Nat} {L F : Nat} {ad : Addr} {xs : List T71} (h : NRd dT71 (some ad) xs w o L F) {i : Int} (hi : 0 ≤ i ∧ i < (xs.length : Int)) :
    ∃ A c, Ft (fun W => CellsAt (ad.add (i.toNat * 2)) [.slice A ((rdD zT71 xs i).l).length c, .int .i64 (rdD zT71 xs i).at_] W) w o L ∧ Ft (RdC ET59 A (rdD zT71 xs i).l) w o F ∧ ((rdD zT71 xs i).l).length ≤ c := by
  obtain ⟨⟨x, A, c⟩, e, hc, hn⟩ := NRd.el h zT71 hi
  have e : x = rdD zT71 xs i := e
  subst e
  exact ⟨A, c, hc, hn.imp fun W hW => hW.1, hn.now.2⟩
theorem lkT71 {P : Program} {w : World} {o : Nat → Nat} {L F : Nat} {A : Option Addr} {m : M T71} (h : MpN dT71 true A m w o L F) (ht : TabOK P T) {mt kt et s bb : Nat} {z : Value} (hm : find T.und mt = some (.map kt et)) (hkt : find T.und kt = some (.int .i64)) (hz : find T.inf et = some (s, bb, z)) (hzx : z = ev dT71.E true (⟨zT71, none, 0⟩ : NT71)) (k : Int) :
    ∃ A' c, Ft (LookIs P mt (mv A) k (.agg #[.slice A' ((M.get zT71 m k).l).length c, .int .i64 (M.get zT71 m k).at_]) (m.has k)) w o L ∧ Ft (RdC ET59 A' (M.get zT71 m k).l) w o F ∧ ((M.get zT71 m k).l).length ≤ c := by
  obtain ⟨⟨x, A', c⟩, e, hl, hi⟩ := MpN.at h ht hm hkt hz (⟨zT71, none, 0⟩ : NT71) hzx (fun W => ⟨fun h_ => absurd h_ (by simp), Nat.le_refl _⟩) k
  have e : x = M.get zT71 m k := e
  subst e
  exact ⟨A', c, hl, hi.imp fun W hW => hW.1, hi.now.2⟩
def ET44 : Enc T44 := ⟨2, fun x => [.int .i64 x.From, .int .i64 x.To], fun _ => rfl, fun _ => rfl⟩
structure NT29 where
  x : T29
  A : Option Addr
  c : Nat
def dT29 : ND T29 := ⟨NT29, ⟨3, fun r => [.int .i64 r.x.Kind, .int .i64 r.x.I, .slice r.A (r.x.L).length r.c], fun _ => rfl, fun _ => rfl⟩, fun r => r.x, fun r w => RdC ET59 r.A r.x.L w ∧ (r.x.L).length ≤ r.c⟩
theorem elT29 {w : World} {o : Nat → Nat} {L F : Nat} {ad : Addr} {xs : List T29} (h : NRd dT29 (some ad) xs w o L F) {i : Int} (hi : 0 ≤ i ∧ i < (xs.length : Int)) :
    ∃ A c, Ft (fun W => CellsAt (ad.add (i.toNat * 3)) [.int .i64 (rdD zT29 xs i).Kind, .int .i64 (rdD zT29 xs i).I, .slice A ((rdD zT29 xs i).L).length c] W) w o L ∧ Ft (RdC ET59 A (rdD zT29 xs i).L) w o F ∧ ((rdD zT29 xs i).L).length ≤ c := by
  obtain ⟨⟨x, A, c⟩, e, hc, hn⟩ := NRd.el h zT29 hi
  have e : x = rdD zT29 xs i := e
  subst e
  exact ⟨A, c, hc, hn.imp fun W hW => hW.1, hn.now.2⟩
def ET75 : Enc T75 := ⟨2, fun x => [.int .i64 x.Rune, .int .i64 x.Style], fun _ => rfl, fun _ => rfl⟩
structure NT87 where
  x : T87
  A : Option Addr
  c : Nat
def dT87 : ND T87 := ⟨NT87, ⟨2, fun r => [.int .i64 r.x.I, .slice r.A (r.x.L).length r.c], fun _ => rfl, fun _ => rfl⟩, fun r => r.x, fun r w => RdC ET75 r.A r.x.L w ∧ (r.x.L).length ≤ r.c⟩
theorem elT87 {w : World} {o : Nat → Nat} {L F : Nat} {ad : Addr} {xs : List T87} (h : NRd dT87 (some ad) xs w o L F) {i : Int} (hi : 0 ≤ i ∧ i < (xs.length : Int)) :
    ∃ A c, Ft (fun W => CellsAt (ad.add (i.toNat * 2)) [.int .i64 (rdD zT87 xs i).I, .slice A ((rdD zT87 xs i).L).length c] W) w o L ∧ Ft (RdC ET75 A (rdD zT87 xs i).L) w o F ∧ ((rdD zT87 xs i).L).length ≤ c := by
  obtain ⟨⟨x, A, c⟩, e, hc, hn⟩ := NRd.el h zT87 hi
  have e : x = rdD zT87 xs i := e
  subst e
  exact ⟨A, c, hc, hn.imp fun W hW => hW.1, hn.now.2⟩
theorem stood : ∀ t ∈ [102], Try.prog.stoodInHeld t = false ∧ Try.prog.eqGuardType Try.prog.depth t = false := by
  simp only [List.forall_mem_cons]
  exact ⟨⟨by kernel_rfl, by kernel_rfl⟩, by simp⟩
theorem mixed : Try.prog.follows .mixedOrders = true := by kernel_rfl
theorem ent_8 : EntersF Try.prog 8 := enters_of' Try.func8 (by kernel_rfl) rfl
theorem ent_9 : EntersF Try.prog 9 := enters_of' Try.func9 (by kernel_rfl) rfl
theorem ent_10 : EntersF Try.prog 10 := enters_of' Try.func10 (by kernel_rfl) rfl
theorem ent_11 : EntersF Try.prog 11 := enters_of' Try.func11 (by kernel_rfl) rfl
theorem ent_12 : EntersF Try.prog 12 := enters_of' Try.func12 (by kernel_rfl) rfl
theorem ent_13 : EntersF Try.prog 13 := enters_of' Try.func13 (by kernel_rfl) rfl
theorem ent_14 : EntersF Try.prog 14 := enters_of' Try.func14 (by kernel_rfl) rfl
theorem ent_15 : EntersF Try.prog 15 := enters_of' Try.func15 (by kernel_rfl) rfl
theorem ent_16 : EntersF Try.prog 16 := enters_of' Try.func16 (by kernel_rfl) rfl
theorem ent_17 : EntersF Try.prog 17 := enters_of' Try.func17 (by kernel_rfl) rfl
theorem ent_18 : EntersF Try.prog 18 := enters_of' Try.func18 (by kernel_rfl) rfl
theorem ent_19 : EntersF Try.prog 19 := enters_of' Try.func19 (by kernel_rfl) rfl
theorem ent_20 : EntersF Try.prog 20 := enters_of' Try.func20 (by kernel_rfl) rfl
theorem ent_21 : EntersF Try.prog 21 := enters_of' Try.func21 (by kernel_rfl) rfl
theorem ent_22 : EntersF Try.prog 22 := enters_of' Try.func22 (by kernel_rfl) rfl
theorem ent_23 : EntersF Try.prog 23 := enters_of' Try.func23 (by kernel_rfl) rfl
theorem ent_24 : EntersF Try.prog 24 := enters_of' Try.func24 (by kernel_rfl) rfl
theorem ent_25 : EntersF Try.prog 25 := enters_of' Try.func25 (by kernel_rfl) rfl
theorem ent_26 : EntersF Try.prog 26 := enters_of' Try.func26 (by kernel_rfl) rfl
theorem ent_27 : EntersF Try.prog 27 := enters_of' Try.func27 (by kernel_rfl) rfl
theorem ent_28 : EntersF Try.prog 28 := enters_of' Try.func28 (by kernel_rfl) rfl
theorem ent_29 : EntersF Try.prog 29 := enters_of' Try.func29 (by kernel_rfl) rfl
theorem ent_30 : EntersF Try.prog 30 := enters_of' Try.func30 (by kernel_rfl) rfl
theorem ent_31 : EntersF Try.prog 31 := enters_of' Try.func31 (by kernel_rfl) rfl
theorem ent_33 : EntersF Try.prog 33 := enters_of' Try.func33 (by kernel_rfl) rfl
theorem ent_34 : EntersF Try.prog 34 := enters_of' Try.func34 (by kernel_rfl) rfl
theorem ent_35 : EntersF Try.prog 35 := enters_of' Try.func35 (by kernel_rfl) rfl
theorem ent_36 : EntersF Try.prog 36 := enters_of' Try.func36 (by kernel_rfl) rfl
theorem ent_37 : EntersF Try.prog 37 := enters_of' Try.func37 (by kernel_rfl) rfl
theorem ent_38 : EntersF Try.prog 38 := enters_of' Try.func38 (by kernel_rfl) rfl
theorem ent_39 : EntersF Try.prog 39 := enters_of' Try.func39 (by kernel_rfl) rfl
theorem ent_40 : EntersF Try.prog 40 := enters_of' Try.func40 (by kernel_rfl) rfl
theorem ent_43 : EntersF Try.prog 43 := enters_of' Try.func43 (by kernel_rfl) rfl
theorem ent_44 : EntersF Try.prog 44 := enters_of' Try.func44 (by kernel_rfl) rfl
theorem ent_45 : EntersF Try.prog 45 := enters_of' Try.func45 (by kernel_rfl) rfl
theorem ent_46 : EntersF Try.prog 46 := enters_of' Try.func46 (by kernel_rfl) rfl
theorem ent_47 : EntersF Try.prog 47 := enters_of' Try.func47 (by kernel_rfl) rfl
theorem ent_48 : EntersF Try.prog 48 := enters_of' Try.func48 (by kernel_rfl) rfl
theorem ent_49 : EntersF Try.prog 49 := enters_of' Try.func49 (by kernel_rfl) rfl
theorem ent_50 : EntersF Try.prog 50 := enters_of' Try.func50 (by kernel_rfl) rfl
theorem ent_52 : EntersF Try.prog 52 := enters_of' Try.func52 (by kernel_rfl) rfl
theorem ent_55 : EntersF Try.prog 55 := enters_of' Try.func55 (by kernel_rfl) rfl
theorem ent_56 : EntersF Try.prog 56 := enters_of' Try.func56 (by kernel_rfl) rfl
theorem ent_67 : EntersF Try.prog 67 := enters_of' Try.func67 (by kernel_rfl) rfl
theorem ent_68 : EntersF Try.prog 68 := enters_of' Try.func68 (by kernel_rfl) rfl
theorem ent_69 : EntersF Try.prog 69 := enters_of' Try.func69 (by kernel_rfl) rfl
theorem ent_75 : EntersF Try.prog 75 := enters_of' Try.func75 (by kernel_rfl) rfl
end Go.Proofs.Ythmlldkmgdjeoaa
