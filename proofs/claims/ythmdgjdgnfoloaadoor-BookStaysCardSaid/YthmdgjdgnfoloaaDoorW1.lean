/- Walks, printed by an own program: the machine's calls compute the plain functions. -/
import Derived.Test.YthmdgjdgnfoloaaDoorW0
set_option linter.unusedVariables false
set_option linter.unusedSimpArgs false
namespace Go.Proofs.YthmdgjdgnfoloaaDoor
open Go Go.Proofs.XC
/-! tidewrack/book.New -/
theorem book_New_calls  (w : World) (o : Nat → Nat) (LF : Nat)  (hd0 : ([LF] : List Nat).Nodup) (R0 : Nat) (R1 : Nat) (R2 : Nat) (R3 : Nat) (r : T75) (H : book_New = some r) :
    Calls Tryd.prog 10 #[] w (Ret fun v_ w' => ∃ o' : Nat → Nat, ∃ b0 : Nat, ∃ A0 : Option Addr, ∃ c0 : Nat, ∃ A1 : Option Addr, ∃ c1 : Nat, ∃ A2 : Option Addr, ∃ c2 : Nat, v_ = .pointer (some ⟨b0, 0, none⟩) ∧ St [] w o w' o' ∧ Ft (Bx b0 76 [.slice A0 (r.l).length c0, .slice A1 (r.chains).length c1, .slice A2 (r.begun).length c2]) w' o' R0 ∧ NOwn (dRows ET49) 40 A0 c0 (r.l) w' o' R1 LF ∧ (r.l).length ≤ c0 ∧ Ft (Own (encInt .i64) 3 (.slice A1 (r.chains).length c1) (r.chains)) w' o' R2 ∧ (r.chains).length ≤ c1 ∧ Ft (Own ET49 50 (.slice A2 (r.begun).length c2) (r.begun)) w' o' R3 ∧ (r.begun).length ≤ c2) := by
  refine x_enter (vs := []) Tryd.func10 rfl rfl rfl fun a hk => ?_
  obtain ⟨oi, hs0, h0, h1, hob, hoz, hoa⟩ := St.startM2 w o (m := 1) hd0 rfl
  have hs := hs0 []
  clear h0 h1 hs0
  rw [book_New] at H
  refine x_seq ?_
  refine wpIn_region_lit ?_
  refine x_run tab hk (k := 1) (lv := []) (ks := []) (e' := []) rfl trivial fun a hk => ?_
  refine wpListIn_nil ?_
  refine then_n ?_
  refine x_seq ?_
  refine wpIn_region_lit ?_
  refine x_op hk rfl ?_
  refine op_slice (o := oi) tab hk (vs := [.int .i64 0]) (cs := [.int .i64 0]) rfl rfl rfl rfl rfl rfl rfl rfl rfl 2 fun bx4 w1 o2 st3 f5 => ?_
  replace hs := hs.locQ st3 hob rfl
  have f6 : Ft (Own (encInt .i64) 3 (.slice (some ⟨bx4, 0, none⟩) (([0] : List Int)).length 1) ([0] : List Int)) w1 o2 2 := f5.imp fun _ h_ => Own.of_box h_ rfl (by simp)
  have hk := hk.put 1 (.slice (some ⟨bx4, 0, none⟩) (([0] : List Int)).length 1) rfl
  refine x_run tab hk (k := 1) (lv := []) (ks := [2]) (e' := [(2, .agg #[.slice none 0 0, .slice (some ⟨bx4, 0, none⟩) (([0] : List Int)).length 1, .slice none 0 0])]) rfl trivial fun a hk => ?_
  refine x_op hk rfl ?_
  refine op_box (o := o2) (t := 76) (v := .agg #[.slice none 0 0, .slice (some ⟨bx4, 0, none⟩) (([0] : List Int)).length 1, .slice none 0 0]) (cs := [.slice none 0 0, .slice (some ⟨bx4, 0, none⟩) (([0] : List Int)).length 1, .slice none 0 0]) hk rfl rfl 3 fun bx10 w7 o8 st9 f11 => ?_
  replace f6 := f6.st st9 (by decide)
  replace hs := hs.locQ st9 hob rfl
  have hk := hk.put 3 (.pointer (some ⟨bx10, 0, none⟩)) rfl
  refine x_run tab hk (k := 1) (lv := []) (ks := [0]) (e' := [(0, .pointer (some ⟨bx10, 0, none⟩))]) rfl trivial fun a hk => ?_
  refine wpListIn_nil ?_
  refine then_n ?_
  refine wpIn_ret ?_
  obtain rfl := Option.some.inj H
  exact x_retG hk (rs := [.tmp 0]) (vs := [.pointer (some ⟨bx10, 0, none⟩)]) rfl ⟨rfl, trivial⟩ ⟨fun b_ => if b_ < w.heap.size then o b_ else (fun l_ => if l_ = 1 then LF else if l_ = 2 then R2 else if l_ = 3 then R0 else 0) (o8 b_), bx10, none, 0, (some ⟨bx4, 0, none⟩), 1, none, 0, rfl, hs.closeF (Lm := []) (Sh := []) hoa rfl (fun l_ => if l_ = 1 then LF else if l_ = 2 then R2 else if l_ = 3 then R0 else 0), hs.closeM_ft (o := o) (ρ := fun l_ => if l_ = 1 then LF else if l_ = 2 then R2 else if l_ = 3 then R0 else 0) f11 (lab_none hob rfl) rfl, (NOwn.nil _ _ _ _ _ _), (by simp), hs.closeM_ft (o := o) (ρ := fun l_ => if l_ = 1 then LF else if l_ = 2 then R2 else if l_ = 3 then R0 else 0) f6 (lab_none hob rfl) rfl, (Nat.le_refl _), (Ft.of_all (fun _ => Own.nil _ _ _) _ _ _), (by simp)⟩

/-! tidewrack/row.clip -/
theorem row_clip_calls (p0 : Int) (p1 : Int) (p2 : Int) (w : World) (o : Nat → Nat)   (r : Int) (H : row_clip p0 p1 p2 = some r) :
    Calls Tryd.prog 34 #[.int .i64 p0, .int .i64 p1, .int .i64 p2] w (Ret fun v_ w' => ∃ o' : Nat → Nat, v_ = .int .i64 r ∧ St [] w o w' o') := by
  refine x_enter (vs := [.int .i64 p0, .int .i64 p1, .int .i64 p2]) Tryd.func34 rfl rfl rfl fun a hk => ?_
  obtain ⟨o0, hs, h0⟩ := St.start w o
  clear h0
  rw [row_clip] at H
  refine x_seq ?_
  refine wpIn_region_lit ?_
  refine x_run tab hk (k := 1) (lv := []) (ks := [0, 1, 2]) (e' := [(0, .int .i64 p0), (1, .int .i64 p1), (2, .int .i64 p2)]) rfl trivial fun a hk => ?_
  refine wpListIn_nil ?_
  refine then_n ?_
  refine x_seq ?_
  refine wpIn_region_lit ?_
  refine x_run tab hk (k := 6) (lv := []) (ks := [6]) (e' := [(6, .int .i64 (mxI p1 (mnI p0 p2)))]) rfl trivial fun a hk => ?_
  refine wpListIn_nil ?_
  refine then_n ?_
  refine wpIn_ret ?_
  obtain rfl := Option.some.inj H
  exact x_retG hk (rs := [.tmp 6]) (vs := [.int .i64 (mxI p1 (mnI p0 p2))]) rfl ⟨rfl, trivial⟩ ⟨fun b_ => if b_ < w.heap.size then o b_ else (fun _ => 0) (o0 b_), rfl, hs.close0 o (fun _ => 0)⟩

/-! tidewrack/row.blank -/
theorem row_blank_calls (p0 : Int) (w : World) (o : Nat → Nat)   (r : T82) (H : row_blank p0 = some r) :
    Calls Tryd.prog 39 #[.int .i64 p0] w (Ret fun v_ w' => ∃ o' : Nat → Nat, v_ = .agg #[.int .i32 r.Rune, .int .i64 r.Style, .int .i64 r.Part] ∧ St [] w o w' o') := by
  refine x_enter (vs := [.int .i64 p0]) Tryd.func39 rfl rfl rfl fun a hk => ?_
  obtain ⟨o0, hs, h0⟩ := St.start w o
  clear h0
  rw [row_blank] at H
  refine x_seq ?_
  refine wpIn_region_lit ?_
  refine x_op hk rfl ?_
  refine op_alloc (o := o0) tab (t := 83) (cs := [.int .i32 0, .int .i64 0, .int .i64 0]) rfl rfl 1 fun bx4 w1 o2 st3 f5 => ?_
  replace hs := hs.loc0 st3 (by decide)
  have hk := hk.put 2 (.pointer (some ⟨bx4, 0, none⟩)) rfl
  refine wpListIn_nil ?_
  refine then_n ?_
  refine x_seq ?_
  refine wpIn_region_lit ?_
  refine x_run tab hk (k := 2) (lv := []) (ks := [2, 4]) (e' := [(2, .pointer (some ⟨bx4, 0, none⟩)), (4, .agg #[.int .i32 32, .int .i64 p0, .int .i64 0])]) rfl trivial fun a hk => ?_
  refine x_op hk rfl ?_
  refine op_store tab hk (t := 83) (v := .agg #[.int .i32 32, .int .i64 p0, .int .i64 0]) (b := bx4) (k := 0) (cs' := [.int .i32 32, .int .i64 p0, .int .i64 0]) rfl rfl rfl rfl rfl rfl f5 rfl rfl fun w6 o7 st8 f5_ => ?_
  replace hs := hs.loc0 st8 (by decide)
  replace f5 := f5_
  refine wpListIn_nil ?_
  refine then_n ?_
  refine wpIn_ret ?_
  obtain rfl := Option.some.inj H
  exact x_retG hk (rs := [.cell 2 83]) (vs := [.agg #[.int .i32 32, .int .i64 p0, .int .i64 0]]) rfl ⟨⟨_, rfl, load_box tab rfl rfl f5.now (k := 0) rfl rfl⟩, trivial⟩ ⟨fun b_ => if b_ < w.heap.size then o b_ else (fun _ => 0) (o7 b_), rfl, hs.close0 o (fun _ => 0)⟩

/-! math/bits.Mul32 -/
theorem bits_Mul32_calls (p0 : Int) (p1 : Int) (w : World) (o : Nat → Nat)   (r : Int × Int) (H : bits_Mul32 p0 p1 = some r) :
    Calls Tryd.prog 60 #[.int .u32 p0, .int .u32 p1] w (Ret fun v_ w' => ∃ o' : Nat → Nat, v_ = .tuple #[.int .u32 r.1, .int .u32 r.2] ∧ St [] w o w' o') := by
  refine x_enter (vs := [.int .u32 p0, .int .u32 p1]) Tryd.func60 rfl rfl rfl fun a hk => ?_
  obtain ⟨o0, hs, h0⟩ := St.start w o
  clear h0
  rw [bits_Mul32] at H
  refine x_seq ?_
  refine wpIn_region_lit ?_
  refine x_run tab hk (k := 2) (lv := []) (ks := [0, 1]) (e' := [(0, .int .u32 p0), (1, .int .u32 p1)]) rfl trivial fun a hk => ?_
  refine wpListIn_nil ?_
  refine then_n ?_
  refine x_seq ?_
  refine wpIn_region_lit ?_
  refine x_run tab hk (k := 6) (lv := []) (ks := [6]) (e' := [(6, .int .u64 (IntKind.wrap .u64 ((IntKind.wrap .u64 p0) * (IntKind.wrap .u64 p1))))]) rfl trivial fun a hk => ?_
  refine wpListIn_nil ?_
  refine then_n ?_
  refine x_seq ?_
  refine wpIn_region_lit ?_
  refine x_run tab hk (k := 7) (lv := []) (ks := [4, 5]) (e' := [(4, .int .u32 (IntKind.wrap .u32 (Int.fdiv (IntKind.wrap .u64 ((IntKind.wrap .u64 p0) * (IntKind.wrap .u64 p1))) (2 ^ min (Int.toNat 32) 64)))), (5, .int .u32 (IntKind.wrap .u32 (IntKind.wrap .u64 ((IntKind.wrap .u64 p0) * (IntKind.wrap .u64 p1)))))]) rfl ⟨(show 0 ≤ (32 : Int) from by decide), trivial⟩ fun a hk => ?_
  refine wpListIn_nil ?_
  refine then_n ?_
  refine wpIn_ret ?_
  obtain rfl := Option.some.inj H
  exact x_retG hk (rs := [.tmp 4, .tmp 5]) (vs := [.int .u32 (IntKind.wrap .u32 (Int.fdiv (IntKind.wrap .u64 ((IntKind.wrap .u64 p0) * (IntKind.wrap .u64 p1))) (2 ^ min (Int.toNat 32) 64))), .int .u32 (IntKind.wrap .u32 (IntKind.wrap .u64 ((IntKind.wrap .u64 p0) * (IntKind.wrap .u64 p1))))]) rfl ⟨rfl, rfl, trivial⟩ ⟨fun b_ => if b_ < w.heap.size then o b_ else (fun _ => 0) (o0 b_), rfl, hs.close0 o (fun _ => 0)⟩

/-! math/bits.Mul64 -/
theorem bits_Mul64_calls (p0 : Int) (p1 : Int) (w : World) (o : Nat → Nat)   (r : Int × Int) (H : bits_Mul64 p0 p1 = some r) :
    Calls Tryd.prog 61 #[.int .u64 p0, .int .u64 p1] w (Ret fun v_ w' => ∃ o' : Nat → Nat, v_ = .tuple #[.int .u64 r.1, .int .u64 r.2] ∧ St [] w o w' o') := by
  refine x_enter (vs := [.int .u64 p0, .int .u64 p1]) Tryd.func61 rfl rfl rfl fun a hk => ?_
  obtain ⟨o0, hs, h0⟩ := St.start w o
  clear h0
  rw [bits_Mul64] at H
  refine x_seq ?_
  refine wpIn_region_lit ?_
  refine x_run tab hk (k := 2) (lv := []) (ks := [0, 1]) (e' := [(0, .int .u64 p0), (1, .int .u64 p1)]) rfl trivial fun a hk => ?_
  refine wpListIn_nil ?_
  refine then_n ?_
  refine x_seq ?_
  refine wpIn_region_lit ?_
  refine x_run tab hk (k := 3) (lv := []) (ks := [0, 1, 6]) (e' := [(0, .int .u64 p0), (1, .int .u64 p1), (6, .int .u64 (bits .and .u64 p0 4294967295))]) rfl trivial fun a hk => ?_
  refine wpListIn_nil ?_
  refine then_n ?_
  refine x_seq ?_
  refine wpIn_region_lit ?_
  refine x_run tab hk (k := 3) (lv := []) (ks := [0, 1, 6, 7]) (e' := [(0, .int .u64 p0), (1, .int .u64 p1), (6, .int .u64 (bits .and .u64 p0 4294967295)), (7, .int .u64 (Int.fdiv p0 (2 ^ min (Int.toNat 32) 64)))]) rfl ⟨(show 0 ≤ (32 : Int) from by decide), trivial⟩ fun a hk => ?_
  refine wpListIn_nil ?_
  refine then_n ?_
  refine x_seq ?_
  refine wpIn_region_lit ?_
  refine x_run tab hk (k := 3) (lv := []) (ks := [0, 1, 6, 7, 8]) (e' := [(0, .int .u64 p0), (1, .int .u64 p1), (6, .int .u64 (bits .and .u64 p0 4294967295)), (7, .int .u64 (Int.fdiv p0 (2 ^ min (Int.toNat 32) 64))), (8, .int .u64 (bits .and .u64 p1 4294967295))]) rfl trivial fun a hk => ?_
  refine wpListIn_nil ?_
  refine then_n ?_
  refine x_seq ?_
  refine wpIn_region_lit ?_
  refine x_run tab hk (k := 3) (lv := []) (ks := [0, 1, 6, 7, 8, 9]) (e' := [(0, .int .u64 p0), (1, .int .u64 p1), (6, .int .u64 (bits .and .u64 p0 4294967295)), (7, .int .u64 (Int.fdiv p0 (2 ^ min (Int.toNat 32) 64))), (8, .int .u64 (bits .and .u64 p1 4294967295)), (9, .int .u64 (Int.fdiv p1 (2 ^ min (Int.toNat 32) 64)))]) rfl ⟨(show 0 ≤ (32 : Int) from by decide), trivial⟩ fun a hk => ?_
  refine wpListIn_nil ?_
  refine then_n ?_
  refine x_seq ?_
  refine wpIn_region_lit ?_
  refine x_run tab hk (k := 4) (lv := []) (ks := [0, 1, 6, 7, 8, 9, 10]) (e' := [(0, .int .u64 p0), (1, .int .u64 p1), (6, .int .u64 (bits .and .u64 p0 4294967295)), (7, .int .u64 (Int.fdiv p0 (2 ^ min (Int.toNat 32) 64))), (8, .int .u64 (bits .and .u64 p1 4294967295)), (9, .int .u64 (Int.fdiv p1 (2 ^ min (Int.toNat 32) 64))), (10, .int .u64 (IntKind.wrap .u64 ((bits .and .u64 p0 4294967295) * (bits .and .u64 p1 4294967295))))]) rfl trivial fun a hk => ?_
  refine wpListIn_nil ?_
  refine then_n ?_
  refine x_seq ?_
  refine wpIn_region_lit ?_
  refine x_run tab hk (k := 7) (lv := []) (ks := [0, 1, 6, 7, 9, 11]) (e' := [(0, .int .u64 p0), (1, .int .u64 p1), (6, .int .u64 (bits .and .u64 p0 4294967295)), (7, .int .u64 (Int.fdiv p0 (2 ^ min (Int.toNat 32) 64))), (9, .int .u64 (Int.fdiv p1 (2 ^ min (Int.toNat 32) 64))), (11, .int .u64 (IntKind.wrap .u64 ((IntKind.wrap .u64 ((Int.fdiv p0 (2 ^ min (Int.toNat 32) 64)) * (bits .and .u64 p1 4294967295))) + (Int.fdiv (IntKind.wrap .u64 ((bits .and .u64 p0 4294967295) * (bits .and .u64 p1 4294967295))) (2 ^ min (Int.toNat 32) 64)))))]) rfl ⟨(show 0 ≤ (32 : Int) from by decide), trivial⟩ fun a hk => ?_
  refine wpListIn_nil ?_
  refine then_n ?_
  refine x_seq ?_
  refine wpIn_region_lit ?_
  refine x_run tab hk (k := 3) (lv := []) (ks := [0, 1, 6, 7, 9, 11, 12]) (e' := [(0, .int .u64 p0), (1, .int .u64 p1), (6, .int .u64 (bits .and .u64 p0 4294967295)), (7, .int .u64 (Int.fdiv p0 (2 ^ min (Int.toNat 32) 64))), (9, .int .u64 (Int.fdiv p1 (2 ^ min (Int.toNat 32) 64))), (11, .int .u64 (IntKind.wrap .u64 ((IntKind.wrap .u64 ((Int.fdiv p0 (2 ^ min (Int.toNat 32) 64)) * (bits .and .u64 p1 4294967295))) + (Int.fdiv (IntKind.wrap .u64 ((bits .and .u64 p0 4294967295) * (bits .and .u64 p1 4294967295))) (2 ^ min (Int.toNat 32) 64))))), (12, .int .u64 (bits .and .u64 (IntKind.wrap .u64 ((IntKind.wrap .u64 ((Int.fdiv p0 (2 ^ min (Int.toNat 32) 64)) * (bits .and .u64 p1 4294967295))) + (Int.fdiv (IntKind.wrap .u64 ((bits .and .u64 p0 4294967295) * (bits .and .u64 p1 4294967295))) (2 ^ min (Int.toNat 32) 64)))) 4294967295))]) rfl trivial fun a hk => ?_
  refine wpListIn_nil ?_
  refine then_n ?_
  refine x_seq ?_
  refine wpIn_region_lit ?_
  refine x_run tab hk (k := 3) (lv := []) (ks := [0, 1, 6, 7, 9, 12, 13]) (e' := [(0, .int .u64 p0), (1, .int .u64 p1), (6, .int .u64 (bits .and .u64 p0 4294967295)), (7, .int .u64 (Int.fdiv p0 (2 ^ min (Int.toNat 32) 64))), (9, .int .u64 (Int.fdiv p1 (2 ^ min (Int.toNat 32) 64))), (12, .int .u64 (bits .and .u64 (IntKind.wrap .u64 ((IntKind.wrap .u64 ((Int.fdiv p0 (2 ^ min (Int.toNat 32) 64)) * (bits .and .u64 p1 4294967295))) + (Int.fdiv (IntKind.wrap .u64 ((bits .and .u64 p0 4294967295) * (bits .and .u64 p1 4294967295))) (2 ^ min (Int.toNat 32) 64)))) 4294967295)), (13, .int .u64 (Int.fdiv (IntKind.wrap .u64 ((IntKind.wrap .u64 ((Int.fdiv p0 (2 ^ min (Int.toNat 32) 64)) * (bits .and .u64 p1 4294967295))) + (Int.fdiv (IntKind.wrap .u64 ((bits .and .u64 p0 4294967295) * (bits .and .u64 p1 4294967295))) (2 ^ min (Int.toNat 32) 64)))) (2 ^ min (Int.toNat 32) 64)))]) rfl ⟨(show 0 ≤ (32 : Int) from by decide), trivial⟩ fun a hk => ?_
  refine wpListIn_nil ?_
  refine then_n ?_
  refine x_seq ?_
  refine wpIn_region_lit ?_
  refine x_run tab hk (k := 6) (lv := []) (ks := [0, 1, 7, 9, 12, 13]) (e' := [(0, .int .u64 p0), (1, .int .u64 p1), (7, .int .u64 (Int.fdiv p0 (2 ^ min (Int.toNat 32) 64))), (9, .int .u64 (Int.fdiv p1 (2 ^ min (Int.toNat 32) 64))), (12, .int .u64 (IntKind.wrap .u64 ((bits .and .u64 (IntKind.wrap .u64 ((IntKind.wrap .u64 ((Int.fdiv p0 (2 ^ min (Int.toNat 32) 64)) * (bits .and .u64 p1 4294967295))) + (Int.fdiv (IntKind.wrap .u64 ((bits .and .u64 p0 4294967295) * (bits .and .u64 p1 4294967295))) (2 ^ min (Int.toNat 32) 64)))) 4294967295) + (IntKind.wrap .u64 ((bits .and .u64 p0 4294967295) * (Int.fdiv p1 (2 ^ min (Int.toNat 32) 64))))))), (13, .int .u64 (Int.fdiv (IntKind.wrap .u64 ((IntKind.wrap .u64 ((Int.fdiv p0 (2 ^ min (Int.toNat 32) 64)) * (bits .and .u64 p1 4294967295))) + (Int.fdiv (IntKind.wrap .u64 ((bits .and .u64 p0 4294967295) * (bits .and .u64 p1 4294967295))) (2 ^ min (Int.toNat 32) 64)))) (2 ^ min (Int.toNat 32) 64)))]) rfl trivial fun a hk => ?_
  refine wpListIn_nil ?_
  refine then_n ?_
  refine x_seq ?_
  refine wpIn_region_lit ?_
  refine x_run tab hk (k := 9) (lv := []) (ks := [0, 1, 4]) (e' := [(0, .int .u64 p0), (1, .int .u64 p1), (4, .int .u64 (IntKind.wrap .u64 ((IntKind.wrap .u64 ((IntKind.wrap .u64 ((Int.fdiv p0 (2 ^ min (Int.toNat 32) 64)) * (Int.fdiv p1 (2 ^ min (Int.toNat 32) 64)))) + (Int.fdiv (IntKind.wrap .u64 ((IntKind.wrap .u64 ((Int.fdiv p0 (2 ^ min (Int.toNat 32) 64)) * (bits .and .u64 p1 4294967295))) + (Int.fdiv (IntKind.wrap .u64 ((bits .and .u64 p0 4294967295) * (bits .and .u64 p1 4294967295))) (2 ^ min (Int.toNat 32) 64)))) (2 ^ min (Int.toNat 32) 64)))) + (Int.fdiv (IntKind.wrap .u64 ((bits .and .u64 (IntKind.wrap .u64 ((IntKind.wrap .u64 ((Int.fdiv p0 (2 ^ min (Int.toNat 32) 64)) * (bits .and .u64 p1 4294967295))) + (Int.fdiv (IntKind.wrap .u64 ((bits .and .u64 p0 4294967295) * (bits .and .u64 p1 4294967295))) (2 ^ min (Int.toNat 32) 64)))) 4294967295) + (IntKind.wrap .u64 ((bits .and .u64 p0 4294967295) * (Int.fdiv p1 (2 ^ min (Int.toNat 32) 64)))))) (2 ^ min (Int.toNat 32) 64)))))]) rfl ⟨(show 0 ≤ (32 : Int) from by decide), trivial⟩ fun a hk => ?_
  refine wpListIn_nil ?_
  refine then_n ?_
  refine x_seq ?_
  refine wpIn_region_lit ?_
  refine x_run tab hk (k := 4) (lv := []) (ks := [4, 5]) (e' := [(4, .int .u64 (IntKind.wrap .u64 ((IntKind.wrap .u64 ((IntKind.wrap .u64 ((Int.fdiv p0 (2 ^ min (Int.toNat 32) 64)) * (Int.fdiv p1 (2 ^ min (Int.toNat 32) 64)))) + (Int.fdiv (IntKind.wrap .u64 ((IntKind.wrap .u64 ((Int.fdiv p0 (2 ^ min (Int.toNat 32) 64)) * (bits .and .u64 p1 4294967295))) + (Int.fdiv (IntKind.wrap .u64 ((bits .and .u64 p0 4294967295) * (bits .and .u64 p1 4294967295))) (2 ^ min (Int.toNat 32) 64)))) (2 ^ min (Int.toNat 32) 64)))) + (Int.fdiv (IntKind.wrap .u64 ((bits .and .u64 (IntKind.wrap .u64 ((IntKind.wrap .u64 ((Int.fdiv p0 (2 ^ min (Int.toNat 32) 64)) * (bits .and .u64 p1 4294967295))) + (Int.fdiv (IntKind.wrap .u64 ((bits .and .u64 p0 4294967295) * (bits .and .u64 p1 4294967295))) (2 ^ min (Int.toNat 32) 64)))) 4294967295) + (IntKind.wrap .u64 ((bits .and .u64 p0 4294967295) * (Int.fdiv p1 (2 ^ min (Int.toNat 32) 64)))))) (2 ^ min (Int.toNat 32) 64))))), (5, .int .u64 (IntKind.wrap .u64 (p0 * p1)))]) rfl trivial fun a hk => ?_
  refine wpListIn_nil ?_
  refine then_n ?_
  refine wpIn_ret ?_
  obtain rfl := Option.some.inj H
  exact x_retG hk (rs := [.tmp 4, .tmp 5]) (vs := [.int .u64 (IntKind.wrap .u64 ((IntKind.wrap .u64 ((IntKind.wrap .u64 ((Int.fdiv p0 (2 ^ min (Int.toNat 32) 64)) * (Int.fdiv p1 (2 ^ min (Int.toNat 32) 64)))) + (Int.fdiv (IntKind.wrap .u64 ((IntKind.wrap .u64 ((Int.fdiv p0 (2 ^ min (Int.toNat 32) 64)) * (bits .and .u64 p1 4294967295))) + (Int.fdiv (IntKind.wrap .u64 ((bits .and .u64 p0 4294967295) * (bits .and .u64 p1 4294967295))) (2 ^ min (Int.toNat 32) 64)))) (2 ^ min (Int.toNat 32) 64)))) + (Int.fdiv (IntKind.wrap .u64 ((bits .and .u64 (IntKind.wrap .u64 ((IntKind.wrap .u64 ((Int.fdiv p0 (2 ^ min (Int.toNat 32) 64)) * (bits .and .u64 p1 4294967295))) + (Int.fdiv (IntKind.wrap .u64 ((bits .and .u64 p0 4294967295) * (bits .and .u64 p1 4294967295))) (2 ^ min (Int.toNat 32) 64)))) 4294967295) + (IntKind.wrap .u64 ((bits .and .u64 p0 4294967295) * (Int.fdiv p1 (2 ^ min (Int.toNat 32) 64)))))) (2 ^ min (Int.toNat 32) 64)))), .int .u64 (IntKind.wrap .u64 (p0 * p1))]) rfl ⟨rfl, rfl, trivial⟩ ⟨fun b_ => if b_ < w.heap.size then o b_ else (fun _ => 0) (o0 b_), rfl, hs.close0 o (fun _ => 0)⟩

/-! math/bits.Mul -/
theorem bits_Mul_calls (p0 : Int) (p1 : Int) (w : World) (o : Nat → Nat)   (r : Int × Int) (H : bits_Mul p0 p1 = some r) :
    Calls Tryd.prog 56 #[.int .u64 p0, .int .u64 p1] w (Ret fun v_ w' => ∃ o' : Nat → Nat, v_ = .tuple #[.int .u64 r.1, .int .u64 r.2] ∧ St [] w o w' o') := by
  refine x_enter (vs := [.int .u64 p0, .int .u64 p1]) Tryd.func56 rfl rfl rfl fun a hk => ?_
  obtain ⟨o0, hs, h0⟩ := St.start w o
  clear h0
  rw [bits_Mul] at H
  refine x_seq ?_
  refine wpIn_region_lit ?_
  refine x_run tab hk (k := 2) (lv := []) (ks := [0, 1]) (e' := [(0, .int .u64 p0), (1, .int .u64 p1)]) rfl trivial fun a hk => ?_
  refine wpListIn_nil ?_
  refine then_n ?_
  refine x_seq ?_
  refine x_if hk (b := false) rfl ?_
  refine (show Code.wpIn _ _ _ _ _ _ _ from ?_)
  refine wpIn_skip ?_
  refine then_n ?_
  refine x_seq ?_
  refine wpIn_region_lit ?_
  refine x_run tab hk (k := 2) (lv := []) (ks := [23, 24]) (e' := [(23, .int .u64 p0), (24, .int .u64 p1)]) rfl trivial fun a hk => ?_
  refine x_op hk rfl ?_
  obtain ⟨t4, hc5, H⟩ := bindS H
  refine op_call hk ent_61 (vs := [.int .u64 p0, .int .u64 p1]) rfl (bits_Mul64_calls p0 p1 _ o0    _ hc5) ?_
  rintro _ w6 ⟨o7, rfl, st8⟩
  replace hs := hs.loc0 st8 (by decide)
  have hk := hk.put 25 (.tuple #[.int .u64 t4.1, .int .u64 t4.2]) rfl
  refine x_run tab hk (k := 5) (lv := []) (ks := [8, 9]) (e' := [(8, .int .u64 t4.1), (9, .int .u64 t4.2)]) rfl trivial fun a hk => ?_
  refine wpListIn_nil ?_
  refine then_n ?_
  refine x_seq ?_
  refine wpIn_region_lit ?_
  refine x_run tab hk (k := 4) (lv := []) (ks := [4, 5]) (e' := [(4, .int .u64 t4.1), (5, .int .u64 t4.2)]) rfl trivial fun a hk => ?_
  refine wpListIn_nil ?_
  refine then_n ?_
  refine wpIn_ret ?_
  obtain rfl := Option.some.inj H
  exact x_retG hk (rs := [.tmp 4, .tmp 5]) (vs := [.int .u64 t4.1, .int .u64 t4.2]) rfl ⟨rfl, rfl, trivial⟩ ⟨fun b_ => if b_ < w.heap.size then o b_ else (fun _ => 0) (o7 b_), rfl, hs.close0 o (fun _ => 0)⟩

/-! slices.Repeat[[]tidewrack/row.Cell,tidewrack/row.Cell] -/
theorem slices_Repeat_calls (K : Nat) (Ap0 : Option Addr) (cp0 : Nat) (p0 : List T82) (p1 : Int) (w : World) (o : Nat → Nat) (Lp0 : Nat) (hp0 : Ft (RdC ET82 Ap0 p0) w o Lp0) (hcp0 : (p0).length ≤ cp0)  (R0 : Nat) (r : List T82) (H : slices_Repeat K p0 p1 = some r) :
    Calls Tryd.prog 48 #[.slice Ap0 (p0).length cp0, .int .i64 p1] w (Ret fun v_ w' => ∃ o' : Nat → Nat, ∃ A0 : Option Addr, ∃ c0 : Nat, v_ = .slice A0 (r).length c0 ∧ St [] w o w' o' ∧ Ft (Own ET82 83 (.slice A0 (r).length c0) (r)) w' o' R0 ∧ (r).length ≤ c0) := by
  refine x_enter (vs := [.slice Ap0 (p0).length cp0, .int .i64 p1]) Tryd.func48 rfl rfl rfl fun a hk => ?_
  obtain ⟨o0, hs, h0⟩ := St.start w o
  have f900000 := h0 _ _ hp0
  clear h0
  rw [slices_Repeat] at H
  refine x_seq ?_
  refine wpIn_region_lit ?_
  refine x_run tab hk (k := 1) (lv := []) (ks := [0, 1]) (e' := [(0, .slice Ap0 (p0).length cp0), (1, .int .i64 p1)]) rfl trivial fun a hk => ?_
  refine wpListIn_nil ?_
  refine then_n ?_
  refine x_mid (fun a_ w_ => ∃ o5 : Nat → Nat, Kn 48 a_ [(0, .slice Ap0 (p0).length cp0), (1, .int .i64 p1)] ∧ St [] w (fun _ => 0) w_ o5 ∧ Ft (RdC ET82 Ap0 p0) w_ o5 0 ∧ slices_Repeat_j1 K p0 p1 = some r) ?_ ?_
  rotate_left
  · rintro a w6 ⟨o5, hk, hs, f900000, H⟩
    rw [slices_Repeat_j1] at H
    refine x_seq ?_
    refine wpIn_region_lit ?_
    refine x_run tab hk (k := 5) (lv := []) (ks := [0, 15, 17]) (e' := [(0, .slice Ap0 (p0).length cp0), (15, .int .u64 (IntKind.wrap .u64 ((p0).length : Int))), (17, .int .u64 (IntKind.wrap .u64 p1))]) rfl trivial fun a hk => ?_
    refine x_op hk rfl ?_
    obtain ⟨t10, hc11, H⟩ := bindS H
    refine op_call hk ent_56 (vs := [.int .u64 (IntKind.wrap .u64 ((p0).length : Int)), .int .u64 (IntKind.wrap .u64 p1)]) rfl (bits_Mul_calls (IntKind.wrap .u64 ((p0).length : Int)) (IntKind.wrap .u64 p1) _ o5    _ hc11) ?_
    rintro _ w12 ⟨o13, rfl, st14⟩
    replace f900000 := f900000.st st14 (by decide)
    replace hs := hs.loc0 st14 (by decide)
    have hk := hk.put 18 (.tuple #[.int .u64 t10.1, .int .u64 t10.2]) rfl
    refine x_run tab hk (k := 5) (lv := []) (ks := [0, 5, 6]) (e' := [(0, .slice Ap0 (p0).length cp0), (5, .int .u64 t10.1), (6, .int .u64 t10.2)]) rfl trivial fun a hk => ?_
    refine wpListIn_nil ?_
    refine then_n ?_
    refine x_mid (fun a_ w_ => ∃ o30 : Nat → Nat, Kn 48 a_ [(0, .slice Ap0 (p0).length cp0), (6, .int .u64 t10.2)] ∧ St [] w (fun _ => 0) w_ o30 ∧ Ft (RdC ET82 Ap0 p0) w_ o30 0 ∧ slices_Repeat_j2 K p0 t10 = some r) ?_ ?_
    rotate_left
    · rintro a w31 ⟨o30, hk, hs, f900000, H⟩
      rw [slices_Repeat_j2] at H
      refine x_seq ?_
      refine wpIn_region_lit ?_
      refine x_run tab hk (k := 2) (lv := []) (ks := [0, 29]) (e' := [(0, .slice Ap0 (p0).length cp0), (29, .int .i64 (IntKind.wrap .i64 t10.2))]) rfl trivial fun a hk => ?_
      refine x_op hk rfl ?_
      obtain ⟨q35, H⟩ := ifS H
      obtain ⟨q36, H⟩ := ifS H
      refine op_make (o := o30) (E := ET82) (zx := zT82) tab hk rfl rfl rfl rfl rfl q35 q36 1 fun A37 c38 w32 o33 st34 f39 hc40 => ?_
      replace f900000 := f900000.st st34 (by decide)
      replace hs := hs.loc0 st34 (by decide)
      have hk := hk.put 30 (.slice A37 ((List.replicate (Int.toNat (IntKind.wrap .i64 t10.2)) (zT82 : T82))).length c38) rfl
      refine x_run tab hk (k := 1) (lv := []) (ks := [0, 7]) (e' := [(0, .slice Ap0 (p0).length cp0), (7, .slice A37 ((List.replicate (Int.toNat (IntKind.wrap .i64 t10.2)) (zT82 : T82))).length c38)]) rfl trivial fun a hk => ?_
      refine wpListIn_nil ?_
      refine then_n ?_
      refine x_seq ?_
      refine wpIn_region_lit ?_
      refine x_run tab hk (k := 2) (lv := []) (ks := [7, 31, 32]) (e' := [(7, .slice A37 ((List.replicate (Int.toNat (IntKind.wrap .i64 t10.2)) (zT82 : T82))).length c38), (31, .slice A37 ((List.replicate (Int.toNat (IntKind.wrap .i64 t10.2)) (zT82 : T82))).length c38), (32, .slice Ap0 (p0).length cp0)]) rfl trivial fun a hk => ?_
      refine x_op hk rfl ?_
      refine op_copy0 tab hk (E := ET82) (xs := (List.replicate (Int.toNat (IntKind.wrap .i64 t10.2)) (zT82 : T82))) (ys := p0) rfl rfl hc40 rfl rfl f39 f900000.now fun w41 st43 f39_ => ?_
      replace f900000 := f900000.st st43 (by decide)
      replace hs := hs.loc0 st43 (by decide)
      replace f39 := f39_
      have hl44 : (cpy 0 (List.replicate (Int.toNat (IntKind.wrap .i64 t10.2)) (zT82 : T82)) p0).length = ((List.replicate (Int.toNat (IntKind.wrap .i64 t10.2)) (zT82 : T82))).length := cpy_len (Nat.zero_le _)
      replace hk := Kn.re hk [7, 31, 32] (e2 := [(7, .slice A37 ((cpy 0 (List.replicate (Int.toNat (IntKind.wrap .i64 t10.2)) (zT82 : T82)) p0)).length c38), (31, .slice A37 ((cpy 0 (List.replicate (Int.toNat (IntKind.wrap .i64 t10.2)) (zT82 : T82)) p0)).length c38), (32, .slice Ap0 (p0).length cp0)]) rfl (by rw [hl44])
      have hk := hk.put 33 (.int .i64 ((min (p0).length (((List.replicate (Int.toNat (IntKind.wrap .i64 t10.2)) (zT82 : T82))).length - 0) : Nat) : Int)) rfl
      refine x_run tab hk (k := 1) (lv := []) (ks := [7, 8]) (e' := [(7, .slice A37 ((cpy 0 (List.replicate (Int.toNat (IntKind.wrap .i64 t10.2)) (zT82 : T82)) p0)).length c38), (8, .int .i64 ((min (p0).length (((List.replicate (Int.toNat (IntKind.wrap .i64 t10.2)) (zT82 : T82))).length - 0) : Nat) : Int))]) rfl trivial fun a hk => ?_
      refine wpListIn_nil ?_
      refine then_n ?_
      refine x_mid (fun a_ w_ => ∃ o177 : Nat → Nat, ∃ A178 : Option Addr, ∃ c179 : Nat, ∃ l180 : List T82, Kn 48 a_ [(7, .slice A178 (l180).length c179)] ∧ St [] w (fun _ => 0) w_ o177 ∧ Ft (Own ET82 83 (.slice A178 (l180).length c179) l180) w_ o177 4 ∧ (l180).length ≤ c179 ∧ slices_Repeat_j3 l180 = some r) ?_ ?_
      rotate_left
      · rintro a w183 ⟨o177, A178, c179, l180, hk, hs, f181, hc182, H⟩
        rw [slices_Repeat_j3] at H
        refine x_seq ?_
        refine wpIn_region_lit ?_
        refine x_run tab hk (k := 2) (lv := []) (ks := [4]) (e' := [(4, .slice A178 (l180).length c179)]) rfl trivial fun a hk => ?_
        refine wpListIn_nil ?_
        refine then_n ?_
        refine wpIn_ret ?_
        obtain rfl := Option.some.inj H
        exact x_retG hk (rs := [.tmp 4]) (vs := [.slice A178 (l180).length c179]) rfl ⟨rfl, trivial⟩ ⟨fun b_ => if b_ < w.heap.size then o b_ else (fun _ => R0) (o177 b_), A178, c179, rfl, hs.close0 o (fun _ => R0), hs.close_ft (o := o) (ρ := fun _ => R0) f181 (by decide) rfl, hc182⟩
      refine wpIn_block ?_
      refine x_loop (fun j_ a_ w_ => ∃ o223 : Nat → Nat, ∃ A224 : Option Addr, ∃ c225 : Nat, ∃ l226 : List T82, ∃ x229 : Int, Kn 48 a_ [(7, .slice A224 (l226).length c225), (8, .int .i64 x229)] ∧ St [] w (fun _ => 0) w_ o223 ∧ Ft (Own ET82 83 (.slice A224 (l226).length c225) l226) w_ o223 6 ∧ (l226).length ≤ c225 ∧ slices_Repeat_l4 j_ l226 x229 = some r) (k := K) ⟨(fun b_ => (fun l_ => if l_ = 1 then 6 else l_) (o33 b_)), A37, c38, (cpy 0 (List.replicate (Int.toNat (IntKind.wrap .i64 t10.2)) (zT82 : T82)) p0), ((min (p0).length (((List.replicate (Int.toNat (IntKind.wrap .i64 t10.2)) (zT82 : T82))).length - 0) : Nat) : Int), (by exact Kn.pick (ks := [7, 8]) hk rfl), (hs.relab0 (fun l_ => if l_ = 1 then 6 else l_) rfl), (f39.relab (fun l_ => if l_ = 1 then 6 else l_) rfl), (by rw [cpy_len (Nat.zero_le _)]; exact hc40), H⟩ (by rintro _ _ ⟨_, _, _, _, _, _, _, _, _, H_⟩; exact absurd (show (none : Option (List T82)) = some r from H_) (by simp)) ?_
      rintro k267 a w266 ⟨o223, A224, c225, l226, x229, hk, hs, f227, hc228, H⟩
      rw [slices_Repeat_l4] at H
      obtain ⟨lp268, hlp269⟩ : ∃ lp_, lp_ = slices_Repeat_l4 k267 := ⟨_, rfl⟩
      rw [← hlp269] at H
      refine x_seq ?_
      refine x_seq ?_
      refine wpIn_region_lit ?_
      refine x_run tab hk (k := 4) (lv := []) (ks := [7, 8, 37]) (e' := [(7, .slice A224 (l226).length c225), (8, .int .i64 x229), (37, .bool (decide (x229 < ((l226).length : Int))))]) rfl trivial fun a hk => ?_
      refine wpListIn_nil ?_
      refine then_n ?_
      cases b270 : (decide (x229 < ((l226).length : Int)))
      · rw [b270] at hk H
        replace H := bifF H
        refine x_if hk (b := false) rfl ?_
        refine (show Code.wpIn _ _ _ _ _ _ _ from ?_)
        refine wpIn_exit ?_
        refine then_x ?_
        refine then_x ?_
        refine blk_x ?_
        refine then_n ?_
        exact ⟨(fun b_ => (fun l_ => if l_ = 6 then 4 else l_) (o223 b_)), A224, c225, l226, (by exact Kn.pick (ks := [7]) hk rfl), (hs.relab0 (fun l_ => if l_ = 6 then 4 else l_) rfl), (f227.relab (fun l_ => if l_ = 6 then 4 else l_) rfl), hc228, H⟩
      · rw [b270] at hk H
        replace H := bifT H
        refine x_if hk (b := true) rfl ?_
        refine (show Code.wpIn _ _ _ _ _ _ _ from ?_)
        refine wpIn_skip ?_
        refine then_n ?_
        refine wpIn_block ?_
        refine xd_begin (o := o223) (fun W_ => True) mixed rfl rfl fun w293 st294 => ?_
        replace f227 := f227.st st294 (by decide)
        replace hs := hs.loc0 st294 (by decide)
        obtain ⟨q295, H⟩ := ifS H
        obtain ⟨q296, H⟩ := ifS H
        obtain ⟨A297, c298, ak300, f299, hc301⟩ := ask_take (P := Tryd.prog) tab (t := 25) rfl rfl f227 hc228 (k := .i64) x229 q295 q296
        refine xd_take tab hk (k := 3) (is := [0, 1, 2, 3, 4, 5, 6]) (ls' := #[true, true, true, true, true, true, true, false, false, false]) (lv := [(.slice (if c225 = (Int.toNat x229) then A224 else (A224).map (·.add ((Int.toNat x229) * 3))) ((l226).length - (Int.toNat x229)) (c225 - (Int.toNat x229))), .slice A297 ((List.take (Int.toNat x229) l226)).length c298]) (ks := [7, 8, 38, 41, 44]) (e' := [(7, .slice A224 (l226).length c225), (8, .int .i64 x229), (38, .int .i64 x229), (41, (.slice (if c225 = (Int.toNat x229) then A224 else (A224).map (·.add ((Int.toNat x229) * 3))) ((l226).length - (Int.toNat x229)) (c225 - (Int.toNat x229)))), (44, .slice A297 ((List.take (Int.toNat x229) l226)).length c298)]) (by kernel_rfl) rfl rfl (by kernel_rfl) (np_blk (np_then (np_blk (np_then np_body)))) trivial (fun W_ hS => ⟨(ask_rest tab rfl rfl q295 q296 hc228 rfl rfl), (ak300 rfl rfl _), trivial⟩) fun a hk => ?_
        refine xd_op hk (i := 7) (by kernel_rfl) rfl rfl ?_
        refine op_copy (m := (Int.toNat x229)) tab hk (E := ET82) (xs := l226) (ys := (List.take (Int.toNat x229) l226)) rfl rfl (by have := q296; omega) hc228 rfl rfl f227 (Own.rd f299.now) fun w302 st304 f227_ => ?_
        replace hs := hs.loc0 st304 (by decide)
        replace f227 := f227_
        have hl305 : (cpy (Int.toNat x229) l226 (List.take (Int.toNat x229) l226)).length = (l226).length := cpy_len (by have := q296; omega)
        replace hk := Kn.re hk [7, 8, 38] (e2 := [(7, .slice A224 ((cpy (Int.toNat x229) l226 (List.take (Int.toNat x229) l226))).length c225), (8, .int .i64 x229), (38, .int .i64 x229)]) rfl (by rw [hl305])
        have hk := hk.put 45 (.int .i64 ((min ((List.take (Int.toNat x229) l226)).length ((l226).length - (Int.toNat x229)) : Nat) : Int)) rfl
        refine ⟨.inr trivial, ?_⟩
        refine xd_take tab hk (k := 0) (is := [8, 9]) (ls' := #[true, true, true, true, true, true, true, true, true, true]) (lv := []) (ks := [7, 8]) (e' := [(7, .slice A224 ((cpy (Int.toNat x229) l226 (List.take (Int.toNat x229) l226))).length c225), (8, .int .i64 (IntKind.wrap .i64 (x229 + ((min ((List.take (Int.toNat x229) l226)).length ((l226).length - (Int.toNat x229)) : Nat) : Int))))]) (by kernel_rfl) rfl rfl (by kernel_rfl) (np_blk (np_then (np_blk (np_then np_body)))) trivial (fun W_ hS => trivial) fun a hk => ?_
        refine xd_done (by kernel_rfl) ?_
        refine blk_n ?_
        refine then_n ?_
        exact ⟨k267, Nat.le_refl _, o223, A224, c225, (cpy (Int.toNat x229) l226 (List.take (Int.toNat x229) l226)), (IntKind.wrap .i64 (x229 + ((min ((List.take (Int.toNat x229) l226)).length ((l226).length - (Int.toNat x229)) : Nat) : Int))), (by exact Kn.pick (ks := [7, 8]) hk rfl), hs, f227, (by rw [cpy_len (by have := q296; omega)]; exact hc228), (hlp269 ▸ H)⟩
    refine x_mid (fun a_ w_ => ∃ o313 : Nat → Nat, ∃ x314 : Bool, Kn 48 a_ [(0, .slice Ap0 (p0).length cp0), (6, .int .u64 t10.2), (26, .bool x314)] ∧ St [] w (fun _ => 0) w_ o313 ∧ Ft (RdC ET82 Ap0 p0) w_ o313 0 ∧ slices_Repeat_j5 K p0 t10 x314 = some r) ?_ ?_
    rotate_left
    · rintro a w315 ⟨o313, x314, hk, hs, f900000, H⟩
      rw [slices_Repeat_j5] at H
      cases b316 : x314
      · rw [b316] at hk H
        replace H := bifF H
        refine x_if hk (b := false) rfl ?_
        refine (show Code.wpIn _ _ _ _ _ _ _ from ?_)
        refine wpIn_skip ?_
        refine then_n ?_
        exact ⟨o313, (by exact Kn.pick (ks := [0, 6]) hk rfl), hs, f900000, H⟩
      · rw [b316] at hk H
        replace H := bifT H
        refine x_if hk (b := true) rfl ?_
        refine (show Code.wpIn _ _ _ _ _ _ _ from ?_)
        refine wpIn_region_lit ?_
        exact absurd H (by simp)
    refine wpIn_region_lit ?_
    refine x_run tab hk (k := 3) (lv := []) (ks := [0, 6, 23]) (e' := [(0, .slice Ap0 (p0).length cp0), (6, .int .u64 t10.2), (23, .bool (decide (t10.1 > (0 : Int))))]) rfl trivial fun a hk => ?_
    cases b317 : (decide (t10.1 > (0 : Int)))
    · rw [b317] at hk H
      replace H := bifF H
      refine x_run tab hk (k := 3) (lv := []) (ks := [0, 6, 26]) (e' := [(0, .slice Ap0 (p0).length cp0), (6, .int .u64 t10.2), (26, .bool (decide (t10.2 > (9223372036854775807 : Int))))]) rfl trivial fun a hk => ?_
      refine wpListIn_nil ?_
      refine then_n ?_
      exact ⟨o13, (decide (t10.2 > (9223372036854775807 : Int))), (by exact Kn.pick (ks := [0, 6, 26]) hk rfl), hs, f900000, H⟩
    · rw [b317] at hk H
      replace H := bifT H
      refine x_run tab hk (k := 3) (lv := []) (ks := [0, 6, 26]) (e' := [(0, .slice Ap0 (p0).length cp0), (6, .int .u64 t10.2), (26, .bool true)]) rfl trivial fun a hk => ?_
      refine wpListIn_nil ?_
      refine then_n ?_
      exact ⟨o13, true, (by exact Kn.pick (ks := [0, 6, 26]) hk rfl), hs, f900000, H⟩
  refine x_seq ?_
  refine wpIn_region_lit ?_
  refine x_run tab hk (k := 2) (lv := []) (ks := [0, 1, 10]) (e' := [(0, .slice Ap0 (p0).length cp0), (1, .int .i64 p1), (10, .bool (decide (p1 < (0 : Int))))]) rfl trivial fun a hk => ?_
  refine wpListIn_nil ?_
  refine then_n ?_
  cases b318 : (decide (p1 < (0 : Int)))
  · rw [b318] at hk H
    replace H := bifF H
    refine x_if hk (b := false) rfl ?_
    refine (show Code.wpIn _ _ _ _ _ _ _ from ?_)
    refine wpIn_skip ?_
    refine then_n ?_
    exact ⟨o0, (by exact Kn.pick (ks := [0, 1]) hk rfl), hs, f900000, H⟩
  · rw [b318] at hk H
    replace H := bifT H
    refine x_if hk (b := true) rfl ?_
    refine (show Code.wpIn _ _ _ _ _ _ _ from ?_)
    refine wpIn_region_lit ?_
    exact absurd H (by simp)

/-! tidewrack/row.blanks -/
theorem row_blanks_calls (K : Nat) (p0 : Int) (p1 : Int) (w : World) (o : Nat → Nat)   (R0 : Nat) (r : List T82) (H : row_blanks K p0 p1 = some r) :
    Calls Tryd.prog 33 #[.int .i64 p0, .int .i64 p1] w (Ret fun v_ w' => ∃ o' : Nat → Nat, ∃ A0 : Option Addr, ∃ c0 : Nat, v_ = .slice A0 (r).length c0 ∧ St [] w o w' o' ∧ Ft (Own ET82 83 (.slice A0 (r).length c0) (r)) w' o' R0 ∧ (r).length ≤ c0) := by
  refine x_enter (vs := [.int .i64 p0, .int .i64 p1]) Tryd.func33 rfl rfl rfl fun a hk => ?_
  obtain ⟨o0, hs, h0⟩ := St.start w o
  clear h0
  rw [row_blanks] at H
  refine x_seq ?_
  refine wpIn_region_lit ?_
  refine x_run tab hk (k := 1) (lv := []) (ks := [0, 1]) (e' := [(0, .int .i64 p0), (1, .int .i64 p1)]) rfl trivial fun a hk => ?_
  refine wpListIn_nil ?_
  refine then_n ?_
  refine x_seq ?_
  refine wpIn_region_lit ?_
  refine x_run tab hk (k := 1) (lv := []) (ks := [0, 5]) (e' := [(0, .int .i64 p0), (5, .int .i64 p1)]) rfl trivial fun a hk => ?_
  refine x_op hk rfl ?_
  obtain ⟨t4, hc5, H⟩ := bindS H
  refine op_call hk ent_39 (vs := [.int .i64 p1]) rfl (row_blank_calls p1 _ o0    _ hc5) ?_
  rintro _ w6 ⟨o7, rfl, st8⟩
  replace hs := hs.loc0 st8 (by decide)
  have hk := hk.put 6 (.agg #[.int .i32 t4.Rune, .int .i64 t4.Style, .int .i64 t4.Part]) rfl
  refine x_op hk rfl ?_
  refine op_slice (o := o7) tab hk (vs := [.agg #[.int .i32 t4.Rune, .int .i64 t4.Style, .int .i64 t4.Part]]) (cs := [.int .i32 t4.Rune, .int .i64 t4.Style, .int .i64 t4.Part]) rfl rfl rfl rfl rfl rfl rfl rfl rfl 1 fun bx12 w9 o10 st11 f13 => ?_
  replace hs := hs.loc0 st11 (by decide)
  have f14 : Ft (Own ET82 83 (.slice (some ⟨bx12, 0, none⟩) (([t4] : List T82)).length 1) ([t4] : List T82)) w9 o10 1 := f13.imp fun _ h_ => Own.of_box h_ rfl (by simp)
  have hk := hk.put 7 (.slice (some ⟨bx12, 0, none⟩) (([t4] : List T82)).length 1) rfl
  refine x_run tab hk (k := 2) (lv := []) (ks := [7, 9]) (e' := [(7, .slice (some ⟨bx12, 0, none⟩) (([t4] : List T82)).length 1), (9, .int .i64 (mxI 0 p0))]) rfl trivial fun a hk => ?_
  refine x_op hk rfl ?_
  obtain ⟨t18, hc19, H⟩ := bindS H
  refine op_call hk ent_48 (vs := [.slice (some ⟨bx12, 0, none⟩) (([t4] : List T82)).length 1, .int .i64 (mxI 0 p0)]) rfl (slices_Repeat_calls K (some ⟨bx12, 0, none⟩) 1 ([t4] : List T82) (mxI 0 p0) _ o10 _ (f14.imp fun _ h_ => Own.rd h_) (Nat.le_refl _) 2  _ hc19) ?_
  rintro _ w20 ⟨o21, A23, c24, rfl, st22, f25, hc26⟩
  replace f14 := f14.st st22 (by decide)
  replace hs := hs.loc0 st22 (by decide)
  have hk := hk.put 10 (.slice A23 (t18).length c24) rfl
  refine x_run tab hk (k := 1) (lv := []) (ks := [4]) (e' := [(4, .slice A23 (t18).length c24)]) rfl trivial fun a hk => ?_
  refine wpListIn_nil ?_
  refine then_n ?_
  refine wpIn_ret ?_
  obtain rfl := Option.some.inj H
  exact x_retG hk (rs := [.tmp 4]) (vs := [.slice A23 (t18).length c24]) rfl ⟨rfl, trivial⟩ ⟨fun b_ => if b_ < w.heap.size then o b_ else (fun _ => R0) (o21 b_), A23, c24, rfl, hs.close0 o (fun _ => R0), hs.close_ft (o := o) (ρ := fun _ => R0) f25 (by decide) rfl, hc26⟩

/-! tidewrack/row.Blank -/
theorem row_Blank_calls (K : Nat) (p0 : Int) (p1 : Int) (w : World) (o : Nat → Nat)   (R0 : Nat) (r : T26) (H : row_Blank K p0 p1 = some r) :
    Calls Tryd.prog 11 #[.int .i64 p0, .int .i64 p1] w (Ret fun v_ w' => ∃ o' : Nat → Nat, ∃ A0 : Option Addr, ∃ c0 : Nat, v_ = .agg #[.slice A0 (r.Cells).length c0, .bool r.Wrapped] ∧ St [] w o w' o' ∧ Ft (Own ET82 83 (.slice A0 (r.Cells).length c0) (r.Cells)) w' o' R0 ∧ (r.Cells).length ≤ c0) := by
  refine x_enter (vs := [.int .i64 p0, .int .i64 p1]) Tryd.func11 rfl rfl rfl fun a hk => ?_
  obtain ⟨o0, hs, h0⟩ := St.start w o
  clear h0
  rw [row_Blank] at H
  refine x_seq ?_
  refine wpIn_region_lit ?_
  refine x_op hk rfl ?_
  refine op_alloc (o := o0) tab (t := 27) (cs := [.slice none 0 0, .bool false]) rfl rfl 1 fun bx4 w1 o2 st3 f5 => ?_
  replace hs := hs.loc0 st3 (by decide)
  have hk := hk.put 4 (.pointer (some ⟨bx4, 0, none⟩)) rfl
  refine wpListIn_nil ?_
  refine then_n ?_
  refine x_seq ?_
  refine wpIn_region_lit ?_
  refine x_run tab hk (k := 1) (lv := []) (ks := [1, 4, 5]) (e' := [(1, .int .i64 p1), (4, .pointer (some ⟨bx4, 0, none⟩)), (5, .int .i64 p0)]) rfl trivial fun a hk => ?_
  refine x_op hk rfl ?_
  obtain ⟨t9, hc10, H⟩ := bindS H
  refine op_call hk ent_34 (vs := [.int .i64 p0, .int .i64 0, .int .i64 1000]) rfl (row_clip_calls p0 0 1000 _ o2    _ hc10) ?_
  rintro _ w11 ⟨o12, rfl, st13⟩
  replace f5 := f5.st st13 (by decide)
  replace hs := hs.loc0 st13 (by decide)
  have hk := hk.put 6 (.int .i64 t9) rfl
  refine x_run tab hk (k := 1) (lv := []) (ks := [4, 6, 7]) (e' := [(4, .pointer (some ⟨bx4, 0, none⟩)), (6, .int .i64 t9), (7, .int .i64 p1)]) rfl trivial fun a hk => ?_
  refine x_op hk rfl ?_
  obtain ⟨t17, hc18, H⟩ := bindS H
  refine op_call hk ent_33 (vs := [.int .i64 t9, .int .i64 p1]) rfl (row_blanks_calls K t9 p1 _ o12  2  _ hc18) ?_
  rintro _ w19 ⟨o20, A22, c23, rfl, st21, f24, hc25⟩
  replace f5 := f5.st st21 (by decide)
  replace hs := hs.loc0 st21 (by decide)
  have hk := hk.put 8 (.slice A22 (t17).length c23) rfl
  refine x_run tab hk (k := 1) (lv := []) (ks := [4, 9]) (e' := [(4, .pointer (some ⟨bx4, 0, none⟩)), (9, .agg #[.slice A22 (t17).length c23, .bool false])]) rfl trivial fun a hk => ?_
  refine x_op hk rfl ?_
  refine op_store tab hk (t := 27) (v := .agg #[.slice A22 (t17).length c23, .bool false]) (b := bx4) (k := 0) (cs' := [.slice A22 (t17).length c23, .bool false]) rfl rfl rfl rfl rfl rfl f5 rfl rfl fun w26 o27 st28 f5_ => ?_
  replace f24 := f24.st st28 (by decide)
  replace hs := hs.loc0 st28 (by decide)
  replace f5 := f5_
  refine wpListIn_nil ?_
  refine then_n ?_
  refine wpIn_ret ?_
  obtain rfl := Option.some.inj H
  exact x_retG hk (rs := [.cell 4 27]) (vs := [.agg #[.slice A22 (t17).length c23, .bool false]]) rfl ⟨⟨_, rfl, load_box tab rfl rfl f5.now (k := 0) rfl rfl⟩, trivial⟩ ⟨fun b_ => if b_ < w.heap.size then o b_ else (fun _ => R0) (o27 b_), A22, c23, rfl, hs.close0 o (fun _ => R0), hs.close_ft (o := o) (ρ := fun _ => R0) f24 (by decide) rfl, hc25⟩

/-! slices.Clone[[]tidewrack/row.Cell,tidewrack/row.Cell] -/
theorem slices_Clone_calls (Ap0 : Option Addr) (cp0 : Nat) (p0 : List T82) (w : World) (o : Nat → Nat) (Lp0 : Nat) (hp0 : Ft (RdC ET82 Ap0 p0) w o Lp0) (hcp0 : (p0).length ≤ cp0)  (R0 : Nat) (r : List T82) (H : slices_Clone p0 = some r) :
    Calls Tryd.prog 53 #[.slice Ap0 (p0).length cp0] w (Ret fun v_ w' => ∃ o' : Nat → Nat, ∃ A0 : Option Addr, ∃ c0 : Nat, v_ = .slice A0 (r).length c0 ∧ St [] w o w' o' ∧ Ft (Own ET82 83 (.slice A0 (r).length c0) (r)) w' o' R0 ∧ (r).length ≤ c0) := by
  refine x_enter (vs := [.slice Ap0 (p0).length cp0]) Tryd.func53 rfl rfl rfl fun a hk => ?_
  obtain ⟨o0, hs, h0⟩ := St.start w o
  have f900000 := h0 _ _ hp0
  clear h0
  rw [slices_Clone] at H
  refine x_seq ?_
  refine wpIn_region_lit ?_
  refine x_run tab hk (k := 1) (lv := []) (ks := [0]) (e' := [(0, .slice Ap0 (p0).length cp0)]) rfl trivial fun a hk => ?_
  refine wpListIn_nil ?_
  refine then_n ?_
  refine x_seq ?_
  refine x_seq ?_
  refine wpIn_region_lit ?_
  refine x_run tab hk (k := 1) (lv := []) (ks := [0, 3]) (e' := [(0, .slice Ap0 (p0).length cp0), (3, .slice Ap0 (p0).length cp0)]) rfl trivial fun a hk => ?_
  rcases none_or Ap0 with hAad1 | ⟨ad1, hAad1⟩
  · have hk_C := hk
    have f900000_C := f900000
    subst hAad1
    have hk := hk_C
    clear hk_C
    have f900000 := f900000_C
    clear f900000_C
    have hz2 : p0 = [] := RdC.none f900000.now
    replace H : (some ([] : List T82)) = some r := by (try rw [hz2] at H); simpa using H
    refine x_run tab hk (k := 1) (lv := []) (ks := [0, 4]) (e' := [(0, .slice none (p0).length cp0), (4, .bool true)]) rfl trivial fun a hk => ?_
    refine wpListIn_nil ?_
    refine then_n ?_
    refine x_if hk (b := true) rfl ?_
    refine (show Code.wpIn _ _ _ _ _ _ _ from ?_)
    refine x_seq ?_
    refine wpIn_region_lit ?_
    refine x_run tab hk (k := 1) (lv := []) (ks := [2]) (e' := [(2, .slice none 0 0)]) rfl trivial fun a hk => ?_
    refine wpListIn_nil ?_
    refine then_n ?_
    refine wpIn_ret ?_
    refine then_r ?_
    obtain rfl := Option.some.inj H
    exact x_retG hk (rs := [.tmp 2]) (vs := [.slice none 0 0]) rfl ⟨rfl, trivial⟩ ⟨fun b_ => if b_ < w.heap.size then o b_ else (fun _ => 0) (o0 b_), none, 0, rfl, hs.close0 o (fun _ => 0), (Ft.of_all (fun _ => Own.nil _ _ _) _ _ _), (by simp)⟩
  · have hk_C := hk
    have f900000_C := f900000
    subst hAad1
    have hk := hk_C
    clear hk_C
    have f900000 := f900000_C
    clear f900000_C
    refine x_run tab hk (k := 1) (lv := []) (ks := [0, 4]) (e' := [(0, .slice (some ad1) (p0).length cp0), (4, .bool false)]) rfl trivial fun a hk => ?_
    refine wpListIn_nil ?_
    refine then_n ?_
    refine x_if hk (b := false) rfl ?_
    refine (show Code.wpIn _ _ _ _ _ _ _ from ?_)
    refine wpIn_skip ?_
    refine then_n ?_
    refine x_seq ?_
    refine wpIn_region_lit ?_
    refine x_op hk rfl ?_
    refine op_slice (o := o0) tab hk (vs := []) (cs := []) rfl rfl rfl rfl rfl rfl rfl rfl rfl 1 fun bx6 w3 o4 st5 f7 => ?_
    replace f900000 := f900000.st st5 (by decide)
    replace hs := hs.loc0 st5 (by decide)
    have f8 : Ft (Own ET82 83 (.slice (some ⟨bx6, 0, none⟩) (([] : List T82)).length 0) ([] : List T82)) w3 o4 1 := f7.imp fun _ h_ => Own.of_box h_ rfl (by simp)
    have hk := hk.put 5 (.slice (some ⟨bx6, 0, none⟩) (([] : List T82)).length 0) rfl
    refine x_run tab hk (k := 1) (lv := []) (ks := [5, 6]) (e' := [(5, .slice (some ⟨bx6, 0, none⟩) (([] : List T82)).length 0), (6, .slice (some ad1) (p0).length cp0)]) rfl trivial fun a hk => ?_
    refine x_op hk rfl ?_
    obtain ⟨q12, H⟩ := ifS H
    refine op_append (o := o4) (E := ET82) (xs := ([] : List T82)) (ys := p0) tab hk rfl rfl rfl rfl rfl rfl rfl f8 f900000.now q12 fun A13 c14 w9 o10 st11 f15 hc16 => ?_
    replace f900000 := f900000.st st11 (by decide)
    replace hs := hs.loc0 st11 (by decide)
    have hk := hk.put 7 (.slice A13 ((([] : List T82) ++ p0)).length c14) rfl
    refine x_run tab hk (k := 1) (lv := []) (ks := [2]) (e' := [(2, .slice A13 ((([] : List T82) ++ p0)).length c14)]) rfl trivial fun a hk => ?_
    refine wpListIn_nil ?_
    refine then_n ?_
    refine wpIn_ret ?_
    obtain rfl := Option.some.inj H
    exact x_retG hk (rs := [.tmp 2]) (vs := [.slice A13 ((([] : List T82) ++ p0)).length c14]) rfl ⟨rfl, trivial⟩ ⟨fun b_ => if b_ < w.heap.size then o b_ else (fun _ => R0) (o10 b_), A13, c14, rfl, hs.close0 o (fun _ => R0), hs.close_ft (o := o) (ρ := fun _ => R0) f15 (by decide) rfl, hc16⟩

/-! (tidewrack/row.Row).cells -/
theorem row_Row_cells_calls (Ap0_0 : Option Addr) (cp0_0 : Nat) (p0 : T26) (w : World) (o : Nat → Nat) (Lp0_0 : Nat) (hp0_0 : Ft (RdC ET82 Ap0_0 p0.Cells) w o Lp0_0) (hcp0_0 : (p0.Cells).length ≤ cp0_0)  (R0 : Nat) (r : List T82) (H : row_Row_cells p0 = some r) :
    Calls Tryd.prog 45 #[.agg #[.slice Ap0_0 (p0.Cells).length cp0_0, .bool p0.Wrapped]] w (Ret fun v_ w' => ∃ o' : Nat → Nat, ∃ A0 : Option Addr, ∃ c0 : Nat, v_ = .slice A0 (r).length c0 ∧ St [] w o w' o' ∧ Ft (Own ET82 83 (.slice A0 (r).length c0) (r)) w' o' R0 ∧ (r).length ≤ c0) := by
  refine x_enter (vs := [.agg #[.slice Ap0_0 (p0.Cells).length cp0_0, .bool p0.Wrapped]]) Tryd.func45 rfl rfl rfl fun a hk => ?_
  obtain ⟨o0, hs, h0⟩ := St.start w o
  have f900000 := h0 _ _ hp0_0
  clear h0
  rw [row_Row_cells] at H
  refine x_seq ?_
  refine wpIn_region_lit ?_
  refine x_op hk rfl ?_
  refine op_box (o := o0) (t := 27) (v := .agg #[.slice Ap0_0 (p0.Cells).length cp0_0, .bool p0.Wrapped]) (cs := [.slice Ap0_0 (p0.Cells).length cp0_0, .bool p0.Wrapped]) hk rfl rfl 1 fun bx4 w1 o2 st3 f5 => ?_
  replace f900000 := f900000.st st3 (by decide)
  replace hs := hs.loc0 st3 (by decide)
  have hk := hk.put 1 (.pointer (some ⟨bx4, 0, none⟩)) rfl
  refine x_run tab hk (k := 1) (lv := []) (ks := [1]) (e' := [(1, .pointer (some ⟨bx4, 0, none⟩))]) rfl trivial fun a hk => ?_
  refine wpListIn_nil ?_
  refine then_n ?_
  refine x_seq ?_
  refine wpIn_region_lit ?_
  refine x_run tab hk (k := 2) (lv := [.slice Ap0_0 (p0.Cells).length cp0_0]) (ks := [4]) (e' := [(4, .slice Ap0_0 (p0.Cells).length cp0_0)]) rfl ⟨(load1 tab rfl ((Bx.cell f5.now 0).trans rfl)), trivial⟩ fun a hk => ?_
  refine x_op hk rfl ?_
  obtain ⟨t9, hc10, H⟩ := bindS H
  refine op_call hk ent_53 (vs := [.slice Ap0_0 (p0.Cells).length cp0_0]) rfl (slices_Clone_calls Ap0_0 cp0_0 p0.Cells _ o2 _ f900000 hcp0_0 2  _ hc10) ?_
  rintro _ w11 ⟨o12, A14, c15, rfl, st13, f16, hc17⟩
  replace f900000 := f900000.st st13 (by decide)
  replace hs := hs.loc0 st13 (by decide)
  have hk := hk.put 5 (.slice A14 (t9).length c15) rfl
  refine x_run tab hk (k := 1) (lv := []) (ks := [2]) (e' := [(2, .slice A14 (t9).length c15)]) rfl trivial fun a hk => ?_
  refine wpListIn_nil ?_
  refine then_n ?_
  refine wpIn_ret ?_
  obtain rfl := Option.some.inj H
  exact x_retG hk (rs := [.tmp 2]) (vs := [.slice A14 (t9).length c15]) rfl ⟨rfl, trivial⟩ ⟨fun b_ => if b_ < w.heap.size then o b_ else (fun _ => R0) (o12 b_), A14, c15, rfl, hs.close0 o (fun _ => R0), hs.close_ft (o := o) (ρ := fun _ => R0) f16 (by decide) rfl, hc17⟩

/-! tidewrack/wide.in -/
theorem wide_in_calls (K : Nat) (Ap0 : Option Addr) (cp0 : Nat) (p0 : List T111) (p1 : Int) (w : World) (o : Nat → Nat) (Lp0 : Nat) (hp0 : Ft (RdC ET111 Ap0 p0) w o Lp0) (hcp0 : (p0).length ≤ cp0)  (r : Bool) (H : wide_in K p0 p1 = some r) :
    Calls Tryd.prog 54 #[.slice Ap0 (p0).length cp0, .int .i32 p1] w (Ret fun v_ w' => ∃ o' : Nat → Nat, v_ = .bool r ∧ St [] w o w' o') := by
  refine x_enter (vs := [.slice Ap0 (p0).length cp0, .int .i32 p1]) Tryd.func54 rfl rfl rfl fun a hk => ?_
  obtain ⟨o0, hs, h0⟩ := St.start w o
  have f900000 := h0 _ _ hp0
  clear h0
  rw [wide_in] at H
  refine x_seq ?_
  refine wpIn_region_lit ?_
  refine x_run tab hk (k := 1) (lv := []) (ks := [0, 1]) (e' := [(0, .slice Ap0 (p0).length cp0), (1, .int .i32 p1)]) rfl trivial fun a hk => ?_
  refine wpListIn_nil ?_
  refine then_n ?_
  refine x_seq ?_
  refine wpIn_region_lit ?_
  refine x_run tab hk (k := 4) (lv := []) (ks := [0, 1, 5, 6]) (e' := [(0, .slice Ap0 (p0).length cp0), (1, .int .i32 p1), (5, .int .i64 0), (6, .int .i64 ((p0).length : Int))]) rfl trivial fun a hk => ?_
  refine wpListIn_nil ?_
  refine then_n ?_
  refine x_mid (fun a_ w_ => ∃ o29 : Nat → Nat, ∃ x30 : Int, Kn 40 a_ [(0, .slice Ap0 (p0).length cp0), (1, .int .i32 p1), (5, .int .i64 x30)] ∧ St [] w (fun _ => 0) w_ o29 ∧ Ft (RdC ET111 Ap0 p0) w_ o29 0 ∧ wide_in_j1 p0 p1 x30 = some r) ?_ ?_
  rotate_left
  · rintro a w31 ⟨o29, x30, hk, hs, f900000, H⟩
    rw [wide_in_j1] at H
    refine x_seq ?_
    refine wpIn_region_lit ?_
    refine x_run tab hk (k := 5) (lv := []) (ks := [0, 1, 5, 31]) (e' := [(0, .slice Ap0 (p0).length cp0), (1, .int .i32 p1), (5, .int .i64 x30), (31, .bool (decide (x30 < ((p0).length : Int))))]) rfl trivial fun a hk => ?_
    cases b32 : (decide (x30 < ((p0).length : Int)))
    · rw [b32] at hk H
      replace H := bifF H
      refine x_run tab hk (k := 9) (lv := []) (ks := [4]) (e' := [(4, .bool false)]) rfl trivial fun a hk => ?_
      refine wpListIn_nil ?_
      refine then_n ?_
      refine wpIn_ret ?_
      obtain rfl := Option.some.inj H
      exact x_retG hk (rs := [.tmp 4]) (vs := [.bool false]) rfl ⟨rfl, trivial⟩ ⟨fun b_ => if b_ < w.heap.size then o b_ else (fun _ => 0) (o29 b_), rfl, hs.close0 o (fun _ => 0)⟩
    · rw [b32] at hk H
      replace H := bifT H
      obtain ⟨q33, H⟩ := ifS H
      obtain ⟨ad34, hAad34⟩ := RdC.addr f900000.now q33
      have hk_C := hk
      have f900000_C := f900000
      subst hAad34
      have hk := hk_C
      clear hk_C
      have f900000 := f900000_C
      clear f900000_C
      refine x_run tab hk (k := 9) (lv := [.int .i32 ((rdD zT111 p0 x30).from_)]) (ks := [4]) (e' := [(4, .bool (decide (((rdD zT111 p0 x30).from_) ≤ p1)))]) rfl ⟨q33, (load1 tab rfl (RdC.at (E := ET111) (d := zT111) (i := x30) (j := 0) f900000.now q33 rfl)), trivial⟩ fun a hk => ?_
      refine wpListIn_nil ?_
      refine then_n ?_
      refine wpIn_ret ?_
      obtain rfl := Option.some.inj H
      exact x_retG hk (rs := [.tmp 4]) (vs := [.bool (decide (((rdD zT111 p0 x30).from_) ≤ p1))]) rfl ⟨rfl, trivial⟩ ⟨fun b_ => if b_ < w.heap.size then o b_ else (fun _ => 0) (o29 b_), rfl, hs.close0 o (fun _ => 0)⟩
  refine wpIn_block ?_
  refine x_loop (fun j_ a_ w_ => ∃ o42 : Nat → Nat, ∃ x43 : Int, ∃ x44 : Int, Kn 40 a_ [(0, .slice Ap0 (p0).length cp0), (1, .int .i32 p1), (5, .int .i64 x43), (6, .int .i64 x44)] ∧ St [] w (fun _ => 0) w_ o42 ∧ Ft (RdC ET111 Ap0 p0) w_ o42 0 ∧ wide_in_l2 p0 p1 j_ x43 x44 = some r) (k := K) ⟨o0, 0, ((p0).length : Int), (by exact Kn.pick (ks := [0, 1, 5, 6]) hk rfl), hs, f900000, H⟩ (by rintro _ _ ⟨_, _, _, _, _, _, H_⟩; exact absurd (show (none : Option Bool) = some r from H_) (by simp)) ?_
  rintro k50 a w49 ⟨o42, x43, x44, hk, hs, f900000, H⟩
  rw [wide_in_l2] at H
  obtain ⟨lp51, hlp52⟩ : ∃ lp_, lp_ = wide_in_l2 p0 p1 k50 := ⟨_, rfl⟩
  rw [← hlp52] at H
  refine x_seq ?_
  refine x_seq ?_
  refine wpIn_region_lit ?_
  refine x_run tab hk (k := 3) (lv := []) (ks := [0, 1, 5, 6, 12]) (e' := [(0, .slice Ap0 (p0).length cp0), (1, .int .i32 p1), (5, .int .i64 x43), (6, .int .i64 x44), (12, .bool (decide (x43 < x44)))]) rfl trivial fun a hk => ?_
  refine wpListIn_nil ?_
  refine then_n ?_
  cases b53 : (decide (x43 < x44))
  · rw [b53] at hk H
    replace H := bifF H
    refine x_if hk (b := false) rfl ?_
    refine (show Code.wpIn _ _ _ _ _ _ _ from ?_)
    refine wpIn_exit ?_
    refine then_x ?_
    refine then_x ?_
    refine blk_x ?_
    refine then_n ?_
    exact ⟨o42, x43, (by exact Kn.pick (ks := [0, 1, 5]) hk rfl), hs, f900000, H⟩
  · rw [b53] at hk H
    replace H := bifT H
    refine x_if hk (b := true) rfl ?_
    refine (show Code.wpIn _ _ _ _ _ _ _ from ?_)
    refine wpIn_skip ?_
    refine then_n ?_
    refine wpIn_block ?_
    refine x_seq ?_
    refine wpIn_region_lit ?_
    refine x_run tab hk (k := 5) (lv := []) (ks := [0, 1, 5, 6, 7]) (e' := [(0, .slice Ap0 (p0).length cp0), (1, .int .i32 p1), (5, .int .i64 x43), (6, .int .i64 x44), (7, .int .i64 (IntKind.wrap .i64 (Int.tdiv (IntKind.wrap .i64 (x43 + x44)) 2)))]) rfl ⟨(show (2 : Int) ≠ 0 from by decide), trivial⟩ fun a hk => ?_
    refine wpListIn_nil ?_
    refine then_n ?_
    refine x_seq ?_
    refine wpIn_region_lit ?_
    obtain ⟨q54, H⟩ := ifS H
    obtain ⟨ad55, hAad55⟩ := RdC.addr f900000.now q54
    have hk_C := hk
    have f900000_C := f900000
    subst hAad55
    have hk := hk_C
    clear hk_C
    have f900000 := f900000_C
    clear f900000_C
    refine x_run tab hk (k := 7) (lv := [.int .i32 ((rdD zT111 p0 (IntKind.wrap .i64 (Int.tdiv (IntKind.wrap .i64 (x43 + x44)) 2))).to)]) (ks := [0, 1, 5, 6, 7, 23]) (e' := [(0, .slice (some ad55) (p0).length cp0), (1, .int .i32 p1), (5, .int .i64 x43), (6, .int .i64 x44), (7, .int .i64 (IntKind.wrap .i64 (Int.tdiv (IntKind.wrap .i64 (x43 + x44)) 2))), (23, .bool (decide (((rdD zT111 p0 (IntKind.wrap .i64 (Int.tdiv (IntKind.wrap .i64 (x43 + x44)) 2))).to) < p1)))]) rfl ⟨q54, (load1 tab rfl (RdC.at (E := ET111) (d := zT111) (i := (IntKind.wrap .i64 (Int.tdiv (IntKind.wrap .i64 (x43 + x44)) 2))) (j := 1) f900000.now q54 rfl)), trivial⟩ fun a hk => ?_
    refine wpListIn_nil ?_
    refine then_n ?_
    cases b56 : (decide (((rdD zT111 p0 (IntKind.wrap .i64 (Int.tdiv (IntKind.wrap .i64 (x43 + x44)) 2))).to) < p1))
    · rw [b56] at hk H
      replace H := bifF H
      refine x_if hk (b := false) rfl ?_
      refine (show Code.wpIn _ _ _ _ _ _ _ from ?_)
      refine wpIn_region_lit ?_
      refine x_run tab hk (k := 2) (lv := []) (ks := [0, 1, 5, 6]) (e' := [(0, .slice (some ad55) (p0).length cp0), (1, .int .i32 p1), (5, .int .i64 x43), (6, .int .i64 (IntKind.wrap .i64 (Int.tdiv (IntKind.wrap .i64 (x43 + x44)) 2)))]) rfl trivial fun a hk => ?_
      refine wpListIn_nil ?_
      refine blk_n ?_
      refine then_n ?_
      exact ⟨k50, Nat.le_refl _, o42, x43, (IntKind.wrap .i64 (Int.tdiv (IntKind.wrap .i64 (x43 + x44)) 2)), (by exact Kn.pick (ks := [0, 1, 5, 6]) hk rfl), hs, f900000, (hlp52 ▸ H)⟩
    · rw [b56] at hk H
      replace H := bifT H
      refine x_if hk (b := true) rfl ?_
      refine (show Code.wpIn _ _ _ _ _ _ _ from ?_)
      refine wpIn_region_lit ?_
      refine x_run tab hk (k := 3) (lv := []) (ks := [0, 1, 5, 6]) (e' := [(0, .slice (some ad55) (p0).length cp0), (1, .int .i32 p1), (5, .int .i64 (IntKind.wrap .i64 ((IntKind.wrap .i64 (Int.tdiv (IntKind.wrap .i64 (x43 + x44)) 2)) + 1))), (6, .int .i64 x44)]) rfl trivial fun a hk => ?_
      refine wpListIn_nil ?_
      refine blk_n ?_
      refine then_n ?_
      exact ⟨k50, Nat.le_refl _, o42, (IntKind.wrap .i64 ((IntKind.wrap .i64 (Int.tdiv (IntKind.wrap .i64 (x43 + x44)) 2)) + 1)), x44, (by exact Kn.pick (ks := [0, 1, 5, 6]) hk rfl), hs, f900000, (hlp52 ▸ H)⟩

/-! tidewrack/wide.Of -/
theorem wide_Of_calls (K : Nat) (p0 : Int) (w : World) (o : Nat → Nat) (Lg0 : Nat) (hg0 : Ft (RdC ET111 (some ⟨0, 0, none⟩) glob0) w o Lg0) (Lg1 : Nat) (hg1 : Ft (RdC ET111 (some ⟨1, 0, none⟩) glob1) w o Lg1)   (r : Int) (H : wide_Of K p0 = some r) :
    Calls Tryd.prog 46 #[.int .i32 p0] w (Ret fun v_ w' => ∃ o' : Nat → Nat, v_ = .int .i64 r ∧ St [] w o w' o') := by
  refine x_enter (vs := [.int .i32 p0]) Tryd.func46 rfl rfl rfl fun a hk => ?_
  obtain ⟨o0, hs, h0⟩ := St.start w o
  have fg0 := h0 _ _ hg0
  have fg1 := h0 _ _ hg1
  clear h0
  rw [wide_Of] at H
  refine x_seq ?_
  refine wpIn_region_lit ?_
  refine x_run tab hk (k := 1) (lv := []) (ks := [0]) (e' := [(0, .int .i32 p0)]) rfl trivial fun a hk => ?_
  refine wpListIn_nil ?_
  refine then_n ?_
  refine x_seq ?_
  refine wpIn_block ?_
  refine x_seq ?_
  refine wpIn_region_lit ?_
  refine x_run tab hk (k := 2) (lv := [.slice (some ⟨0, 0, none⟩) (glob0).length 13]) (ks := [0, 4, 5]) (e' := [(0, .int .i32 p0), (4, .slice (some ⟨0, 0, none⟩) (glob0).length 13), (5, .int .i32 p0)]) rfl ⟨(ask_whole tab rfl rfl rfl), trivial⟩ fun a hk => ?_
  refine x_op hk rfl ?_
  obtain ⟨t4, hc5, H⟩ := bindS H
  refine op_call hk ent_54 (vs := [.slice (some ⟨0, 0, none⟩) (glob0).length 13, .int .i32 p0]) rfl (wide_in_calls K (some ⟨0, 0, none⟩) 13 glob0 p0 _ o0 _ fg0 (by decide)   _ hc5) ?_
  rintro _ w6 ⟨o7, rfl, st8⟩
  replace fg0 := fg0.st st8 (by decide)
  replace fg1 := fg1.st st8 (by decide)
  replace hs := hs.loc0 st8 (by decide)
  have hk := hk.put 6 (.bool t4) rfl
  refine x_run tab hk (k := 1) (lv := []) (ks := [0, 3]) (e' := [(0, .int .i32 p0), (3, .bool t4)]) rfl trivial fun a hk => ?_
  refine wpListIn_nil ?_
  refine then_n ?_
  cases b9 : t4
  · rw [b9] at hk H
    replace H := bifF H
    refine x_if hk (b := false) rfl ?_
    refine (show Code.wpIn _ _ _ _ _ _ _ from ?_)
    refine x_seq ?_
    refine wpIn_region_lit ?_
    refine x_run tab hk (k := 2) (lv := [.slice (some ⟨1, 0, none⟩) (glob1).length 14]) (ks := [8, 9]) (e' := [(8, .slice (some ⟨1, 0, none⟩) (glob1).length 14), (9, .int .i32 p0)]) rfl ⟨(ask_whole tab rfl rfl rfl), trivial⟩ fun a hk => ?_
    refine x_op hk rfl ?_
    obtain ⟨t13, hc14, H⟩ := bindS H
    refine op_call hk ent_54 (vs := [.slice (some ⟨1, 0, none⟩) (glob1).length 14, .int .i32 p0]) rfl (wide_in_calls K (some ⟨1, 0, none⟩) 14 glob1 p0 _ o7 _ fg1 (by decide)   _ hc14) ?_
    rintro _ w15 ⟨o16, rfl, st17⟩
    replace fg0 := fg0.st st17 (by decide)
    replace fg1 := fg1.st st17 (by decide)
    replace hs := hs.loc0 st17 (by decide)
    have hk := hk.put 10 (.bool t13) rfl
    refine x_run tab hk (k := 1) (lv := []) (ks := [7]) (e' := [(7, .bool t13)]) rfl trivial fun a hk => ?_
    refine wpListIn_nil ?_
    refine then_n ?_
    cases b18 : t13
    · rw [b18] at hk H
      replace H := bifF H
      refine x_if hk (b := false) rfl ?_
      refine (show Code.wpIn _ _ _ _ _ _ _ from ?_)
      refine wpIn_skip ?_
      refine blk_n ?_
      refine then_n ?_
      refine x_seq ?_
      refine wpIn_region_lit ?_
      refine x_run tab hk (k := 1) (lv := []) (ks := [2]) (e' := [(2, .int .i64 1)]) rfl trivial fun a hk => ?_
      refine wpListIn_nil ?_
      refine then_n ?_
      refine wpIn_ret ?_
      obtain rfl := Option.some.inj H
      exact x_retG hk (rs := [.tmp 2]) (vs := [.int .i64 1]) rfl ⟨rfl, trivial⟩ ⟨fun b_ => if b_ < w.heap.size then o b_ else (fun _ => 0) (o16 b_), rfl, hs.close0 o (fun _ => 0)⟩
    · rw [b18] at hk H
      replace H := bifT H
      refine x_if hk (b := true) rfl ?_
      refine (show Code.wpIn _ _ _ _ _ _ _ from ?_)
      refine x_seq ?_
      refine wpIn_region_lit ?_
      refine x_run tab hk (k := 1) (lv := []) (ks := [2]) (e' := [(2, .int .i64 2)]) rfl trivial fun a hk => ?_
      refine wpListIn_nil ?_
      refine then_n ?_
      refine wpIn_ret ?_
      refine blk_r ?_
      refine then_r ?_
      obtain rfl := Option.some.inj H
      exact x_retG hk (rs := [.tmp 2]) (vs := [.int .i64 2]) rfl ⟨rfl, trivial⟩ ⟨fun b_ => if b_ < w.heap.size then o b_ else (fun _ => 0) (o16 b_), rfl, hs.close0 o (fun _ => 0)⟩
  · rw [b9] at hk H
    replace H := bifT H
    refine x_if hk (b := true) rfl ?_
    refine (show Code.wpIn _ _ _ _ _ _ _ from ?_)
    refine x_seq ?_
    refine wpIn_region_lit ?_
    refine x_run tab hk (k := 1) (lv := []) (ks := [2]) (e' := [(2, .int .i64 0)]) rfl trivial fun a hk => ?_
    refine wpListIn_nil ?_
    refine then_n ?_
    refine wpIn_ret ?_
    refine blk_r ?_
    refine then_r ?_
    obtain rfl := Option.some.inj H
    exact x_retG hk (rs := [.tmp 2]) (vs := [.int .i64 0]) rfl ⟨rfl, trivial⟩ ⟨fun b_ => if b_ < w.heap.size then o b_ else (fun _ => 0) (o7 b_), rfl, hs.close0 o (fun _ => 0)⟩

/-! tidewrack/row.broken -/
theorem row_broken_calls (Ap0 : Option Addr) (cp0 : Nat) (p0 : List T82) (p1 : Int) (w : World) (o : Nat → Nat) (Lp0 : Nat) (hp0 : Ft (RdC ET82 Ap0 p0) w o Lp0) (hcp0 : (p0).length ≤ cp0)  (r : Bool) (H : row_broken p0 p1 = some r) :
    Calls Tryd.prog 55 #[.slice Ap0 (p0).length cp0, .int .i64 p1] w (Ret fun v_ w' => ∃ o' : Nat → Nat, v_ = .bool r ∧ St [] w o w' o') := by
  refine x_enter (vs := [.slice Ap0 (p0).length cp0, .int .i64 p1]) Tryd.func55 rfl rfl rfl fun a hk => ?_
  obtain ⟨o0, hs, h0⟩ := St.start w o
  have f900000 := h0 _ _ hp0
  clear h0
  rw [row_broken] at H
  refine x_seq ?_
  refine wpIn_region_lit ?_
  refine x_run tab hk (k := 1) (lv := []) (ks := [0, 1]) (e' := [(0, .slice Ap0 (p0).length cp0), (1, .int .i64 p1)]) rfl trivial fun a hk => ?_
  refine wpListIn_nil ?_
  refine then_n ?_
  refine x_seq ?_
  refine x_seq ?_
  refine wpIn_region_lit ?_
  obtain ⟨q1, H⟩ := ifS H
  obtain ⟨ad2, hAad2⟩ := RdC.addr f900000.now q1
  have hk_C := hk
  have f900000_C := f900000
  subst hAad2
  have hk := hk_C
  clear hk_C
  have f900000 := f900000_C
  clear f900000_C
  refine x_run tab hk (k := 5) (lv := [.int .i64 ((rdD zT82 p0 p1).Part)]) (ks := [0, 1, 9]) (e' := [(0, .slice (some ad2) (p0).length cp0), (1, .int .i64 p1), (9, .int .i64 ((rdD zT82 p0 p1).Part))]) rfl ⟨q1, (load1 tab rfl (RdC.at (E := ET82) (d := zT82) (i := p1) (j := 2) f900000.now q1 rfl)), trivial⟩ fun a hk => ?_
  refine wpListIn_nil ?_
  refine then_n ?_
  refine wpIn_block ?_
  refine x_seq ?_
  refine wpIn_region_lit ?_
  refine x_run tab hk (k := 2) (lv := []) (ks := [0, 1, 9, 10]) (e' := [(0, .slice (some ad2) (p0).length cp0), (1, .int .i64 p1), (9, .int .i64 ((rdD zT82 p0 p1).Part)), (10, .bool (((rdD zT82 p0 p1).Part) == (1 : Int)))]) rfl trivial fun a hk => ?_
  refine wpListIn_nil ?_
  refine then_n ?_
  cases b3 : (((rdD zT82 p0 p1).Part) == (1 : Int))
  · rw [b3] at hk H
    replace H := bifF H
    refine x_if hk (b := false) rfl ?_
    refine (show Code.wpIn _ _ _ _ _ _ _ from ?_)
    refine x_seq ?_
    refine wpIn_region_lit ?_
    refine x_run tab hk (k := 2) (lv := []) (ks := [0, 1, 9, 26]) (e' := [(0, .slice (some ad2) (p0).length cp0), (1, .int .i64 p1), (9, .int .i64 ((rdD zT82 p0 p1).Part)), (26, .bool (((rdD zT82 p0 p1).Part) == (2 : Int)))]) rfl trivial fun a hk => ?_
    refine wpListIn_nil ?_
    refine then_n ?_
    cases b4 : (((rdD zT82 p0 p1).Part) == (2 : Int))
    · rw [b4] at hk H
      replace H := bifF H
      refine x_if hk (b := false) rfl ?_
      refine (show Code.wpIn _ _ _ _ _ _ _ from ?_)
      refine x_seq ?_
      refine wpIn_region_lit ?_
      refine x_run tab hk (k := 2) (lv := []) (ks := [0, 1, 39]) (e' := [(0, .slice (some ad2) (p0).length cp0), (1, .int .i64 p1), (39, .bool (((rdD zT82 p0 p1).Part) == (3 : Int)))]) rfl trivial fun a hk => ?_
      refine wpListIn_nil ?_
      refine then_n ?_
      cases b5 : (((rdD zT82 p0 p1).Part) == (3 : Int))
      · rw [b5] at hk H
        replace H := bifF H
        refine x_if hk (b := false) rfl ?_
        refine (show Code.wpIn _ _ _ _ _ _ _ from ?_)
        refine wpIn_skip ?_
        refine blk_n ?_
        refine then_n ?_
        refine x_seq ?_
        refine wpIn_region_lit ?_
        refine x_run tab hk (k := 1) (lv := []) (ks := [4]) (e' := [(4, .bool false)]) rfl trivial fun a hk => ?_
        refine wpListIn_nil ?_
        refine then_n ?_
        refine wpIn_ret ?_
        obtain rfl := Option.some.inj H
        exact x_retG hk (rs := [.tmp 4]) (vs := [.bool false]) rfl ⟨rfl, trivial⟩ ⟨fun b_ => if b_ < w.heap.size then o b_ else (fun _ => 0) (o0 b_), rfl, hs.close0 o (fun _ => 0)⟩
      · rw [b5] at hk H
        replace H := bifT H
        refine x_if hk (b := true) rfl ?_
        refine (show Code.wpIn _ _ _ _ _ _ _ from ?_)
        refine x_seq ?_
        refine wpIn_region_lit ?_
        refine x_run tab hk (k := 6) (lv := []) (ks := [4]) (e' := [(4, .bool (p1 != (IntKind.wrap .i64 (((p0).length : Int) - 1))))]) rfl trivial fun a hk => ?_
        refine wpListIn_nil ?_
        refine then_n ?_
        refine wpIn_ret ?_
        refine blk_r ?_
        refine then_r ?_
        obtain rfl := Option.some.inj H
        exact x_retG hk (rs := [.tmp 4]) (vs := [.bool (p1 != (IntKind.wrap .i64 (((p0).length : Int) - 1)))]) rfl ⟨rfl, trivial⟩ ⟨fun b_ => if b_ < w.heap.size then o b_ else (fun _ => 0) (o0 b_), rfl, hs.close0 o (fun _ => 0)⟩
    · rw [b4] at hk H
      replace H := bifT H
      refine x_if hk (b := true) rfl ?_
      refine (show Code.wpIn _ _ _ _ _ _ _ from ?_)
      refine x_seq ?_
      refine wpIn_region_lit ?_
      refine x_run tab hk (k := 3) (lv := []) (ks := [0, 1, 30]) (e' := [(0, .slice (some ad2) (p0).length cp0), (1, .int .i64 p1), (30, .bool (p1 == (0 : Int)))]) rfl trivial fun a hk => ?_
      cases b6 : (p1 == (0 : Int))
      · rw [b6] at hk H
        replace H := bifF H
        obtain ⟨q7, H⟩ := ifS H
        refine x_run tab hk (k := 9) (lv := [.int .i64 ((rdD zT82 p0 (IntKind.wrap .i64 (p1 - 1))).Part)]) (ks := [4]) (e' := [(4, .bool (((rdD zT82 p0 (IntKind.wrap .i64 (p1 - 1))).Part) != (1 : Int)))]) rfl ⟨q7, (load1 tab rfl (RdC.at (E := ET82) (d := zT82) (i := (IntKind.wrap .i64 (p1 - 1))) (j := 2) f900000.now q7 rfl)), trivial⟩ fun a hk => ?_
        refine wpListIn_nil ?_
        refine then_n ?_
        refine wpIn_ret ?_
        refine blk_r ?_
        refine then_r ?_
        obtain rfl := Option.some.inj H
        exact x_retG hk (rs := [.tmp 4]) (vs := [.bool (((rdD zT82 p0 (IntKind.wrap .i64 (p1 - 1))).Part) != (1 : Int))]) rfl ⟨rfl, trivial⟩ ⟨fun b_ => if b_ < w.heap.size then o b_ else (fun _ => 0) (o0 b_), rfl, hs.close0 o (fun _ => 0)⟩
      · rw [b6] at hk H
        replace H := bifT H
        refine x_run tab hk (k := 9) (lv := []) (ks := [4]) (e' := [(4, .bool true)]) rfl trivial fun a hk => ?_
        refine wpListIn_nil ?_
        refine then_n ?_
        refine wpIn_ret ?_
        refine blk_r ?_
        refine then_r ?_
        obtain rfl := Option.some.inj H
        exact x_retG hk (rs := [.tmp 4]) (vs := [.bool true]) rfl ⟨rfl, trivial⟩ ⟨fun b_ => if b_ < w.heap.size then o b_ else (fun _ => 0) (o0 b_), rfl, hs.close0 o (fun _ => 0)⟩
  · rw [b3] at hk H
    replace H := bifT H
    refine x_if hk (b := true) rfl ?_
    refine (show Code.wpIn _ _ _ _ _ _ _ from ?_)
    refine x_seq ?_
    refine wpIn_region_lit ?_
    refine x_run tab hk (k := 6) (lv := []) (ks := [0, 1, 17]) (e' := [(0, .slice (some ad2) (p0).length cp0), (1, .int .i64 p1), (17, .bool (decide ((IntKind.wrap .i64 (p1 + 1)) ≥ ((p0).length : Int))))]) rfl trivial fun a hk => ?_
    cases b8 : (decide ((IntKind.wrap .i64 (p1 + 1)) ≥ ((p0).length : Int)))
    · rw [b8] at hk H
      replace H := bifF H
      obtain ⟨q9, H⟩ := ifS H
      refine x_run tab hk (k := 9) (lv := [.int .i64 ((rdD zT82 p0 (IntKind.wrap .i64 (p1 + 1))).Part)]) (ks := [4]) (e' := [(4, .bool (((rdD zT82 p0 (IntKind.wrap .i64 (p1 + 1))).Part) != (2 : Int)))]) rfl ⟨q9, (load1 tab rfl (RdC.at (E := ET82) (d := zT82) (i := (IntKind.wrap .i64 (p1 + 1))) (j := 2) f900000.now q9 rfl)), trivial⟩ fun a hk => ?_
      refine wpListIn_nil ?_
      refine then_n ?_
      refine wpIn_ret ?_
      refine blk_r ?_
      refine then_r ?_
      obtain rfl := Option.some.inj H
      exact x_retG hk (rs := [.tmp 4]) (vs := [.bool (((rdD zT82 p0 (IntKind.wrap .i64 (p1 + 1))).Part) != (2 : Int))]) rfl ⟨rfl, trivial⟩ ⟨fun b_ => if b_ < w.heap.size then o b_ else (fun _ => 0) (o0 b_), rfl, hs.close0 o (fun _ => 0)⟩
    · rw [b8] at hk H
      replace H := bifT H
      refine x_run tab hk (k := 9) (lv := []) (ks := [4]) (e' := [(4, .bool true)]) rfl trivial fun a hk => ?_
      refine wpListIn_nil ?_
      refine then_n ?_
      refine wpIn_ret ?_
      refine blk_r ?_
      refine then_r ?_
      obtain rfl := Option.some.inj H
      exact x_retG hk (rs := [.tmp 4]) (vs := [.bool true]) rfl ⟨rfl, trivial⟩ ⟨fun b_ => if b_ < w.heap.size then o b_ else (fun _ => 0) (o0 b_), rfl, hs.close0 o (fun _ => 0)⟩

/-! tidewrack/row.mend -/
theorem row_mend_calls (K : Nat) (Ap0 : Option Addr) (cp0 : Nat) (p0 : List T82) (w : World) (o : Nat → Nat) (Lp0 : Nat) (hp0 : Ft (Own ET82 83 (.slice Ap0 (p0).length cp0) p0) w o Lp0) (hcp0 : (p0).length ≤ cp0) (hd0 : ([Lp0] : List Nat).Nodup) (r : T26) (H : row_mend K p0 = some r) :
    Calls Tryd.prog 47 #[.slice Ap0 (p0).length cp0] w (Ret fun v_ w' => ∃ o' : Nat → Nat, ∃ A0 : Option Addr, ∃ c0 : Nat, v_ = .agg #[.slice A0 (r.Cells).length c0, .bool r.Wrapped] ∧ St [Lp0] w o w' o' ∧ Ft (Own ET82 83 (.slice A0 (r.Cells).length c0) (r.Cells)) w' o' Lp0 ∧ (r.Cells).length ≤ c0) := by
  refine x_enter (vs := [.slice Ap0 (p0).length cp0]) Tryd.func47 rfl rfl rfl fun a hk => ?_
  obtain ⟨oi, hs0, h0, h1, hob, hoz, hoa⟩ := St.startM2 w o (m := 1) hd0 rfl
  have hs := hs0 [1]
  have hom := lab_in hob (MM := [1]) (by decide)
  have f900000 := h1 0 1 hp0 rfl rfl
  clear h0 h1 hs0
  rw [row_mend] at H
  refine x_seq ?_
  refine wpIn_region_lit ?_
  refine x_op hk rfl ?_
  refine op_alloc (o := oi) tab (t := 27) (cs := [.slice none 0 0, .bool false]) rfl rfl 2 fun bx4 w1 o2 st3 f5 => ?_
  replace f900000 := f900000.st st3 (by decide)
  replace hs := hs.locM st3 (by decide) hom
  have hk := hk.put 2 (.pointer (some ⟨bx4, 0, none⟩)) rfl
  refine wpListIn_nil ?_
  refine then_n ?_
  refine x_mid (fun a_ w_ => ∃ o102 : Nat → Nat, ∃ A103 : Option Addr, ∃ c104 : Nat, ∃ l105 : List T82, Kn 24 a_ [(0, .slice A103 (l105).length c104), (2, .pointer (some ⟨bx4, 0, none⟩))] ∧ St [1] w oi w_ o102 ∧ Ft (Own ET82 83 (.slice A103 (l105).length c104) l105) w_ o102 1 ∧ Ft (Bx bx4 27 [.slice none 0 0, .bool false]) w_ o102 5 ∧ (l105).length ≤ c104 ∧ row_mend_j1 l105 = some r) ?_ ?_
  rotate_left
  · rintro a w108 ⟨o102, A103, c104, l105, hk, hs, f106, f5, hc107, H⟩
    rw [row_mend_j1] at H
    refine x_seq ?_
    refine wpIn_region_lit ?_
    refine x_run tab hk (k := 2) (lv := []) (ks := [2, 23]) (e' := [(2, .pointer (some ⟨bx4, 0, none⟩)), (23, .agg #[.slice A103 (l105).length c104, .bool false])]) rfl trivial fun a hk => ?_
    refine x_op hk rfl ?_
    refine op_store tab hk (t := 27) (v := .agg #[.slice A103 (l105).length c104, .bool false]) (b := bx4) (k := 0) (cs' := [.slice A103 (l105).length c104, .bool false]) rfl rfl rfl rfl rfl rfl f5 rfl rfl fun w109 o110 st111 f5_ => ?_
    replace f106 := f106.st st111 (by decide)
    replace hs := hs.locM st111 (by decide) hom
    replace f5 := f5_
    refine wpListIn_nil ?_
    refine then_n ?_
    refine wpIn_ret ?_
    obtain rfl := Option.some.inj H
    exact x_retG hk (rs := [.cell 2 27]) (vs := [.agg #[.slice A103 (l105).length c104, .bool false]]) rfl ⟨⟨_, rfl, load_box tab rfl rfl f5.now (k := 0) rfl rfl⟩, trivial⟩ ⟨fun b_ => if b_ < w.heap.size then o b_ else (fun l_ => if l_ = 1 then Lp0 else 0) (o110 b_), A103, c104, rfl, hs.closeM hoz (by decide) (fun l_ => if l_ = 1 then Lp0 else 0), hs.closeM_ft (o := o) (ρ := fun l_ => if l_ = 1 then Lp0 else 0) f106 (lab_at hoa (i := 0) rfl) rfl, hc107⟩
  refine x_seq ?_
  refine wpIn_region_lit ?_
  refine x_run tab hk (k := 3) (lv := []) (ks := [0, 2, 5, 6]) (e' := [(0, .slice Ap0 (p0).length cp0), (2, .pointer (some ⟨bx4, 0, none⟩)), (5, .int .i64 ((p0).length : Int)), (6, .int .i64 0)]) rfl trivial fun a hk => ?_
  refine wpListIn_nil ?_
  refine then_n ?_
  refine wpIn_block ?_
  refine x_loop (fun j_ a_ w_ => ∃ o139 : Nat → Nat, ∃ A140 : Option Addr, ∃ c141 : Nat, ∃ l142 : List T82, ∃ x145 : Int, Kn 24 a_ [(0, .slice A140 (l142).length c141), (2, .pointer (some ⟨bx4, 0, none⟩)), (5, .int .i64 ((p0).length : Int)), (6, .int .i64 x145)] ∧ St [1] w oi w_ o139 ∧ Ft (Own ET82 83 (.slice A140 (l142).length c141) l142) w_ o139 1 ∧ Ft (Bx bx4 27 [.slice none 0 0, .bool false]) w_ o139 7 ∧ (l142).length ≤ c141 ∧ row_mend_l2 p0 j_ l142 x145 = some r) (k := K) ⟨(fun b_ => (fun l_ => if l_ = 2 then 7 else l_) (o2 b_)), Ap0, cp0, p0, 0, (by exact Kn.pick (ks := [0, 2, 5, 6]) hk rfl), (hs.relabM hob (fun l_ => if l_ = 2 then 7 else l_) (by decide)), (f900000.relab (fun l_ => if l_ = 2 then 7 else l_) rfl), (f5.relab (fun l_ => if l_ = 2 then 7 else l_) rfl), hcp0, H⟩ (by rintro _ _ ⟨_, _, _, _, _, _, _, _, _, _, H_⟩; exact absurd (show (none : Option T26) = some r from H_) (by simp)) ?_
  rintro k171 a w170 ⟨o139, A140, c141, l142, x145, hk, hs, f143, f5, hc144, H⟩
  rw [row_mend_l2] at H
  obtain ⟨lp172, hlp173⟩ : ∃ lp_, lp_ = row_mend_l2 p0 k171 := ⟨_, rfl⟩
  rw [← hlp173] at H
  refine x_seq ?_
  refine wpIn_region_lit ?_
  refine x_run tab hk (k := 1) (lv := []) (ks := [0, 2, 5, 6, 7]) (e' := [(0, .slice A140 (l142).length c141), (2, .pointer (some ⟨bx4, 0, none⟩)), (5, .int .i64 ((p0).length : Int)), (6, .int .i64 x145), (7, .bool (decide (x145 < ((p0).length : Int))))]) rfl trivial fun a hk => ?_
  refine wpListIn_nil ?_
  refine then_n ?_
  refine x_seq ?_
  cases b174 : (decide (x145 < ((p0).length : Int)))
  · rw [b174] at hk H
    replace H := bifF H
    refine x_if hk (b := false) rfl ?_
    refine (show Code.wpIn _ _ _ _ _ _ _ from ?_)
    refine wpIn_exit ?_
    refine then_x ?_
    refine then_x ?_
    refine blk_x ?_
    refine then_n ?_
    exact ⟨(fun b_ => (fun l_ => if l_ = 7 then 5 else l_) (o139 b_)), A140, c141, l142, (by exact Kn.pick (ks := [0, 2]) hk rfl), (hs.relabM hob (fun l_ => if l_ = 7 then 5 else l_) (by decide)), (f143.relab (fun l_ => if l_ = 7 then 5 else l_) rfl), (f5.relab (fun l_ => if l_ = 7 then 5 else l_) rfl), hc144, H⟩
  · rw [b174] at hk H
    replace H := bifT H
    refine x_if hk (b := true) rfl ?_
    refine (show Code.wpIn _ _ _ _ _ _ _ from ?_)
    refine wpIn_skip ?_
    refine then_n ?_
    refine x_seq ?_
    refine wpIn_block ?_
    refine x_seq ?_
    refine wpIn_region_lit ?_
    refine x_run tab hk (k := 2) (lv := []) (ks := [0, 2, 3, 5, 6]) (e' := [(0, .slice A140 (l142).length c141), (2, .pointer (some ⟨bx4, 0, none⟩)), (3, .int .i64 x145), (5, .int .i64 ((p0).length : Int)), (6, .int .i64 x145)]) rfl trivial fun a hk => ?_
    refine wpListIn_nil ?_
    refine then_n ?_
    refine x_seq ?_
    refine wpIn_region_lit ?_
    refine x_run tab hk (k := 2) (lv := []) (ks := [0, 2, 3, 5, 6, 9, 10]) (e' := [(0, .slice A140 (l142).length c141), (2, .pointer (some ⟨bx4, 0, none⟩)), (3, .int .i64 x145), (5, .int .i64 ((p0).length : Int)), (6, .int .i64 x145), (9, .slice A140 (l142).length c141), (10, .int .i64 x145)]) rfl trivial fun a hk => ?_
    refine x_op hk rfl ?_
    obtain ⟨t178, hc179, H⟩ := bindS H
    refine op_call hk ent_55 (vs := [.slice A140 (l142).length c141, .int .i64 x145]) rfl (row_broken_calls A140 c141 l142 x145 _ o139 _ (f143.imp fun _ h_ => Own.rd h_) hc144   _ hc179) ?_
    rintro _ w180 ⟨o181, rfl, st182⟩
    replace f143 := f143.st st182 (by decide)
    replace f5 := f5.st st182 (by decide)
    replace hs := hs.locM st182 (by decide) hom
    have hk := hk.put 11 (.bool t178) rfl
    refine wpListIn_nil ?_
    refine then_n ?_
    cases b183 : t178
    · rw [b183] at hk H
      replace H := bifF H
      refine x_if hk (b := false) rfl ?_
      refine (show Code.wpIn _ _ _ _ _ _ _ from ?_)
      refine wpIn_skip ?_
      refine blk_n ?_
      refine then_n ?_
      refine wpIn_region_lit ?_
      refine x_run tab hk (k := 2) (lv := []) (ks := [0, 2, 5, 6]) (e' := [(0, .slice A140 (l142).length c141), (2, .pointer (some ⟨bx4, 0, none⟩)), (5, .int .i64 ((p0).length : Int)), (6, .int .i64 (IntKind.wrap .i64 (x145 + 1)))]) rfl trivial fun a hk => ?_
      refine wpListIn_nil ?_
      refine then_n ?_
      exact ⟨k171, Nat.le_refl _, o181, A140, c141, l142, (IntKind.wrap .i64 (x145 + 1)), (by exact Kn.pick (ks := [0, 2, 5, 6]) hk rfl), hs, f143, f5, hc144, (hlp173 ▸ H)⟩
    · rw [b183] at hk H
      replace H := bifT H
      refine x_if hk (b := true) rfl ?_
      refine (show Code.wpIn _ _ _ _ _ _ _ from ?_)
      refine wpIn_region_lit ?_
      obtain ⟨q184, H⟩ := ifS H
      obtain ⟨ad185, hAad185⟩ := RdC.addr (Own.rd f143.now) q184
      have hk_C := hk
      have f143_C := f143
      have f5_C := f5
      subst hAad185
      have hk := hk_C
      clear hk_C
      have f143 := f143_C
      clear f143_C
      have f5 := f5_C
      clear f5_C
      refine x_run tab hk (k := 7) (lv := [.int .i64 ((rdD zT82 l142 x145).Style)]) (ks := [0, 2, 5, 6, 12, 13, 18]) (e' := [(0, .slice (some ad185) (l142).length c141), (2, .pointer (some ⟨bx4, 0, none⟩)), (5, .int .i64 ((p0).length : Int)), (6, .int .i64 x145), (12, .slice (some ad185) (l142).length c141), (13, .int .i64 x145), (18, .int .i64 ((rdD zT82 l142 x145).Style))]) rfl ⟨q184, (load1 tab rfl (RdC.at (E := ET82) (d := zT82) (i := x145) (j := 1) (Own.rd f143.now) q184 rfl)), trivial⟩ fun a hk => ?_
      refine x_op hk rfl ?_
      obtain ⟨t189, hc190, H⟩ := bindS H
      refine op_call hk ent_39 (vs := [.int .i64 ((rdD zT82 l142 x145).Style)]) rfl (row_blank_calls ((rdD zT82 l142 x145).Style) _ o181    _ hc190) ?_
      rintro _ w191 ⟨o192, rfl, st193⟩
      replace f143 := f143.st st193 (by decide)
      replace f5 := f5.st st193 (by decide)
      replace hs := hs.locM st193 (by decide) hom
      have hk := hk.put 19 (.agg #[.int .i32 t189.Rune, .int .i64 t189.Style, .int .i64 t189.Part]) rfl
      refine x_run tab hk (k := 1) (lv := []) (ks := [0, 2, 5, 6, 19, 20]) (e' := [(0, .slice (some ad185) (l142).length c141), (2, .pointer (some ⟨bx4, 0, none⟩)), (5, .int .i64 ((p0).length : Int)), (6, .int .i64 x145), (19, .agg #[.int .i32 t189.Rune, .int .i64 t189.Style, .int .i64 t189.Part]), (20, .pointer (some (ad185.add (Int.toNat x145 * 3))))]) rfl ⟨q184, trivial⟩ fun a hk => ?_
      refine x_op hk rfl ?_
      refine op_storeO tab hk (E := ET82) (i := x145) (j := 0) (dx := zT82) (y' := t189) rfl rfl rfl f143 rfl q184 rfl rfl rfl rfl fun w194 o195 st196 f143_ => ?_
      replace f5 := f5.st st196 (by decide)
      replace hs := hs.locM st196 (by decide) hom
      replace f143 := f143_
      have hl197 : (List.set l142 (Int.toNat x145) t189).length = (l142).length := List.length_set
      replace hk := Kn.re hk [0, 2, 5, 6, 19] (e2 := [(0, .slice (some ad185) ((List.set l142 (Int.toNat x145) t189)).length c141), (2, .pointer (some ⟨bx4, 0, none⟩)), (5, .int .i64 ((p0).length : Int)), (6, .int .i64 x145), (19, .agg #[.int .i32 t189.Rune, .int .i64 t189.Style, .int .i64 t189.Part])]) rfl (by rw [hl197])
      refine wpListIn_nil ?_
      refine blk_n ?_
      refine then_n ?_
      refine wpIn_region_lit ?_
      refine x_run tab hk (k := 2) (lv := []) (ks := [0, 2, 5, 6]) (e' := [(0, .slice (some ad185) ((List.set l142 (Int.toNat x145) t189)).length c141), (2, .pointer (some ⟨bx4, 0, none⟩)), (5, .int .i64 ((p0).length : Int)), (6, .int .i64 (IntKind.wrap .i64 (x145 + 1)))]) rfl trivial fun a hk => ?_
      refine wpListIn_nil ?_
      refine then_n ?_
      exact ⟨k171, Nat.le_refl _, o195, (some ad185), c141, (List.set l142 (Int.toNat x145) t189), (IntKind.wrap .i64 (x145 + 1)), (by exact Kn.pick (ks := [0, 2, 5, 6]) hk rfl), hs, f143, f5, (by rw [List.length_set]; exact hc144), (hlp173 ▸ H)⟩

/-! (tidewrack/row.Row).Put -/
theorem row_Row_Put_calls (K : Nat) (Ap0_0 : Option Addr) (cp0_0 : Nat) (p0 : T26) (p1 : Int) (p2 : Int) (p3 : Int) (w : World) (o : Nat → Nat) (Lg0 : Nat) (hg0 : Ft (RdC ET111 (some ⟨0, 0, none⟩) glob0) w o Lg0) (Lg1 : Nat) (hg1 : Ft (RdC ET111 (some ⟨1, 0, none⟩) glob1) w o Lg1) (Lp0_0 : Nat) (hp0_0 : Ft (RdC ET82 Ap0_0 p0.Cells) w o Lp0_0) (hcp0_0 : (p0.Cells).length ≤ cp0_0)  (R0 : Nat) (r : T26) (H : row_Row_Put K p0 p1 p2 p3 = some r) :
    Calls Tryd.prog 32 #[.agg #[.slice Ap0_0 (p0.Cells).length cp0_0, .bool p0.Wrapped], .int .i64 p1, .int .i32 p2, .int .i64 p3] w (Ret fun v_ w' => ∃ o' : Nat → Nat, ∃ A0 : Option Addr, ∃ c0 : Nat, v_ = .agg #[.slice A0 (r.Cells).length c0, .bool r.Wrapped] ∧ St [] w o w' o' ∧ Ft (Own ET82 83 (.slice A0 (r.Cells).length c0) (r.Cells)) w' o' R0 ∧ (r.Cells).length ≤ c0) := by
  refine x_enter (vs := [.agg #[.slice Ap0_0 (p0.Cells).length cp0_0, .bool p0.Wrapped], .int .i64 p1, .int .i32 p2, .int .i64 p3]) Tryd.func32 rfl rfl rfl fun a hk => ?_
  obtain ⟨o0, hs, h0⟩ := St.start w o
  have fg0 := h0 _ _ hg0
  have fg1 := h0 _ _ hg1
  have f900000 := h0 _ _ hp0_0
  clear h0
  rw [row_Row_Put] at H
  refine x_seq ?_
  refine wpIn_region_lit ?_
  refine x_op hk rfl ?_
  refine op_box (o := o0) (t := 27) (v := .agg #[.slice Ap0_0 (p0.Cells).length cp0_0, .bool p0.Wrapped]) (cs := [.slice Ap0_0 (p0.Cells).length cp0_0, .bool p0.Wrapped]) hk rfl rfl 1 fun bx4 w1 o2 st3 f5 => ?_
  replace f900000 := f900000.st st3 (by decide)
  replace fg0 := fg0.st st3 (by decide)
  replace fg1 := fg1.st st3 (by decide)
  replace hs := hs.loc0 st3 (by decide)
  have hk := hk.put 4 (.pointer (some ⟨bx4, 0, none⟩)) rfl
  refine x_op hk rfl ?_
  refine op_alloc (o := o2) tab (t := 27) (cs := [.slice none 0 0, .bool false]) rfl rfl 2 fun bx9 w6 o7 st8 f10 => ?_
  replace f5 := f5.st st8 (by decide)
  replace f900000 := f900000.st st8 (by decide)
  replace fg0 := fg0.st st8 (by decide)
  replace fg1 := fg1.st st8 (by decide)
  replace hs := hs.loc0 st8 (by decide)
  have hk := hk.put 8 (.pointer (some ⟨bx9, 0, none⟩)) rfl
  refine wpListIn_nil ?_
  refine then_n ?_
  refine x_seq ?_
  refine wpIn_region_lit ?_
  refine x_run tab hk (k := 1) (lv := [.agg #[.slice Ap0_0 (p0.Cells).length cp0_0, .bool p0.Wrapped]]) (ks := [1, 2, 3, 8, 11]) (e' := [(1, .int .i64 p1), (2, .int .i32 p2), (3, .int .i64 p3), (8, .pointer (some ⟨bx9, 0, none⟩)), (11, .agg #[.slice Ap0_0 (p0.Cells).length cp0_0, .bool p0.Wrapped])]) rfl ⟨(load_box tab rfl rfl f5.now (k := 0) rfl rfl), trivial⟩ fun a hk => ?_
  refine x_op hk rfl ?_
  obtain ⟨t14, hc15, H⟩ := bindS H
  refine op_call hk ent_45 (vs := [.agg #[.slice Ap0_0 (p0.Cells).length cp0_0, .bool p0.Wrapped]]) rfl (row_Row_cells_calls Ap0_0 cp0_0 p0 _ o7 _ f900000 hcp0_0 3  _ hc15) ?_
  rintro _ w16 ⟨o17, A19, c20, rfl, st18, f21, hc22⟩
  replace f10 := f10.st st18 (by decide)
  replace f900000 := f900000.st st18 (by decide)
  replace fg0 := fg0.st st18 (by decide)
  replace fg1 := fg1.st st18 (by decide)
  replace hs := hs.loc0 st18 (by decide)
  have hk := hk.put 12 (.slice A19 (t14).length c20) rfl
  refine x_run tab hk (k := 1) (lv := []) (ks := [1, 2, 3, 8, 9]) (e' := [(1, .int .i64 p1), (2, .int .i32 p2), (3, .int .i64 p3), (8, .pointer (some ⟨bx9, 0, none⟩)), (9, .slice A19 (t14).length c20)]) rfl trivial fun a hk => ?_
  refine wpListIn_nil ?_
  refine then_n ?_
  refine x_seq ?_
  refine wpIn_region_lit ?_
  refine x_run tab hk (k := 1) (lv := []) (ks := [1, 2, 3, 8, 9, 13]) (e' := [(1, .int .i64 p1), (2, .int .i32 p2), (3, .int .i64 p3), (8, .pointer (some ⟨bx9, 0, none⟩)), (9, .slice A19 (t14).length c20), (13, .int .i32 p2)]) rfl trivial fun a hk => ?_
  refine x_op hk rfl ?_
  obtain ⟨t26, hc27, H⟩ := bindS H
  refine op_call hk ent_46 (vs := [.int .i32 p2]) rfl (wide_Of_calls K p2 _ o17 0 fg0 0 fg1   _ hc27) ?_
  rintro _ w28 ⟨o29, rfl, st30⟩
  replace f10 := f10.st st30 (by decide)
  replace f21 := f21.st st30 (by decide)
  replace fg0 := fg0.st st30 (by decide)
  replace fg1 := fg1.st st30 (by decide)
  replace hs := hs.loc0 st30 (by decide)
  have hk := hk.put 14 (.int .i64 t26) rfl
  refine x_run tab hk (k := 1) (lv := []) (ks := [1, 2, 3, 8, 9, 10]) (e' := [(1, .int .i64 p1), (2, .int .i32 p2), (3, .int .i64 p3), (8, .pointer (some ⟨bx9, 0, none⟩)), (9, .slice A19 (t14).length c20), (10, .int .i64 t26)]) rfl trivial fun a hk => ?_
  refine wpListIn_nil ?_
  refine then_n ?_
  refine x_seq ?_
  refine wpIn_block ?_
  refine x_mid (fun a_ w_ => ∃ o39 : Nat → Nat, ∃ x40 : Bool, Kn 76 a_ [(1, .int .i64 p1), (2, .int .i32 p2), (3, .int .i64 p3), (8, .pointer (some ⟨bx9, 0, none⟩)), (9, .slice A19 (t14).length c20), (10, .int .i64 t26), (50, .bool x40)] ∧ St [] w (fun _ => 0) w_ o39 ∧ Ft (Bx bx9 27 [.slice none 0 0, .bool false]) w_ o39 4 ∧ Ft (Own ET82 83 (.slice A19 (t14).length c20) t14) w_ o39 5 ∧ Ft (RdC ET111 (some ⟨0, 0, none⟩) glob0) w_ o39 0 ∧ Ft (RdC ET111 (some ⟨1, 0, none⟩) glob1) w_ o39 0 ∧ row_Row_Put_j1 K p1 p2 p3 t14 t26 x40 = some r) ?_ ?_
  rotate_left
  · rintro a w41 ⟨o39, x40, hk, hs, f10, f21, fg0, fg1, H⟩
    rw [row_Row_Put_j1] at H
    cases b42 : x40
    · rw [b42] at hk H
      replace H := bifF H
      refine x_if hk (b := false) rfl ?_
      refine (show Code.wpIn _ _ _ _ _ _ _ from ?_)
      refine x_seq ?_
      refine wpIn_region_lit ?_
      refine x_run tab hk (k := 3) (lv := []) (ks := [1, 2, 3, 8, 9, 65]) (e' := [(1, .int .i64 p1), (2, .int .i32 p2), (3, .int .i64 p3), (8, .pointer (some ⟨bx9, 0, none⟩)), (9, .slice A19 (t14).length c20), (65, .bool (t26 == (1 : Int)))]) rfl trivial fun a hk => ?_
      refine wpListIn_nil ?_
      refine then_n ?_
      cases b43 : (t26 == (1 : Int))
      · rw [b43] at hk H
        replace H := bifF H
        refine x_if hk (b := false) rfl ?_
        refine (show Code.wpIn _ _ _ _ _ _ _ from ?_)
        refine x_seq ?_
        refine wpIn_region_lit ?_
        refine x_run tab hk (k := 10) (lv := []) (ks := [1, 8, 9, 15, 16, 17, 19, 22, 23, 24]) (e' := [(1, .int .i64 p1), (8, .pointer (some ⟨bx9, 0, none⟩)), (9, .slice A19 (t14).length c20), (15, .slice A19 (t14).length c20), (16, .int .i64 p1), (17, .slice A19 (t14).length c20), (19, .int .i64 (IntKind.wrap .i64 (p1 + 1))), (22, .agg #[.int .i32 p2, .int .i64 p3, .int .i64 1]), (23, .int .i32 p2), (24, .int .i64 p3)]) rfl trivial fun a hk => ?_
        obtain ⟨q44, H⟩ := ifS H
        obtain ⟨ad45, hAad45⟩ := RdC.addr (Own.rd f21.now) q44
        have hk_C := hk
        have f10_C := f10
        have f21_C := f21
        have fg0_C := fg0
        have fg1_C := fg1
        subst hAad45
        have hk := hk_C
        clear hk_C
        have f10 := f10_C
        clear f10_C
        have f21 := f21_C
        clear f21_C
        have fg0 := fg0_C
        clear fg0_C
        have fg1 := fg1_C
        clear fg1_C
        refine x_run tab hk (k := 2) (lv := []) (ks := [1, 8, 9, 17, 19, 22, 25, 26]) (e' := [(1, .int .i64 p1), (8, .pointer (some ⟨bx9, 0, none⟩)), (9, .slice (some ad45) (t14).length c20), (17, .slice (some ad45) (t14).length c20), (19, .int .i64 (IntKind.wrap .i64 (p1 + 1))), (22, .agg #[.int .i32 p2, .int .i64 p3, .int .i64 1]), (25, .agg #[.int .i32 p2, .int .i64 p3, .int .i64 2]), (26, .pointer (some (ad45.add (Int.toNat p1 * 3))))]) rfl ⟨q44, trivial⟩ fun a hk => ?_
        refine x_op hk rfl ?_
        refine op_storeO tab hk (E := ET82) (i := p1) (j := 0) (dx := zT82) (y' := (⟨p2, p3, 1⟩ : T82)) rfl rfl rfl f21 rfl q44 rfl rfl rfl rfl fun w46 o47 st48 f21_ => ?_
        replace f10 := f10.st st48 (by decide)
        replace fg0 := fg0.st st48 (by decide)
        replace fg1 := fg1.st st48 (by decide)
        replace hs := hs.loc0 st48 (by decide)
        replace f21 := f21_
        have hl49 : (List.set t14 (Int.toNat p1) (⟨p2, p3, 1⟩ : T82)).length = (t14).length := List.length_set
        replace hk := Kn.re hk [1, 8, 9, 17, 19, 22, 25] (e2 := [(1, .int .i64 p1), (8, .pointer (some ⟨bx9, 0, none⟩)), (9, .slice (some ad45) ((List.set t14 (Int.toNat p1) (⟨p2, p3, 1⟩ : T82))).length c20), (17, .slice (some ad45) ((List.set t14 (Int.toNat p1) (⟨p2, p3, 1⟩ : T82))).length c20), (19, .int .i64 (IntKind.wrap .i64 (p1 + 1))), (22, .agg #[.int .i32 p2, .int .i64 p3, .int .i64 1]), (25, .agg #[.int .i32 p2, .int .i64 p3, .int .i64 2])]) rfl (by rw [hl49])
        obtain ⟨q50, H⟩ := ifS H
        refine x_run tab hk (k := 1) (lv := []) (ks := [1, 8, 9, 25, 27]) (e' := [(1, .int .i64 p1), (8, .pointer (some ⟨bx9, 0, none⟩)), (9, .slice (some ad45) ((List.set t14 (Int.toNat p1) (⟨p2, p3, 1⟩ : T82))).length c20), (25, .agg #[.int .i32 p2, .int .i64 p3, .int .i64 2]), (27, .pointer (some (ad45.add (Int.toNat (IntKind.wrap .i64 (p1 + 1)) * 3))))]) rfl ⟨q50, trivial⟩ fun a hk => ?_
        refine x_op hk rfl ?_
        refine op_storeO tab hk (E := ET82) (i := (IntKind.wrap .i64 (p1 + 1))) (j := 0) (dx := zT82) (y' := (⟨p2, p3, 2⟩ : T82)) rfl rfl rfl f21 rfl q50 rfl rfl rfl rfl fun w51 o52 st53 f21_ => ?_
        replace f10 := f10.st st53 (by decide)
        replace fg0 := fg0.st st53 (by decide)
        replace fg1 := fg1.st st53 (by decide)
        replace hs := hs.loc0 st53 (by decide)
        replace f21 := f21_
        have hl54 : (List.set (List.set t14 (Int.toNat p1) (⟨p2, p3, 1⟩ : T82)) (Int.toNat (IntKind.wrap .i64 (p1 + 1))) (⟨p2, p3, 2⟩ : T82)).length = ((List.set t14 (Int.toNat p1) (⟨p2, p3, 1⟩ : T82))).length := List.length_set
        replace hk := Kn.re hk [1, 8, 9, 25] (e2 := [(1, .int .i64 p1), (8, .pointer (some ⟨bx9, 0, none⟩)), (9, .slice (some ad45) ((List.set (List.set t14 (Int.toNat p1) (⟨p2, p3, 1⟩ : T82)) (Int.toNat (IntKind.wrap .i64 (p1 + 1))) (⟨p2, p3, 2⟩ : T82))).length c20), (25, .agg #[.int .i32 p2, .int .i64 p3, .int .i64 2])]) rfl (by rw [hl54])
        refine wpListIn_nil ?_
        refine then_n ?_
        refine x_mid (fun a_ w_ => ∃ o63 : Nat → Nat, ∃ x64 : Bool, Kn 76 a_ [(1, .int .i64 p1), (8, .pointer (some ⟨bx9, 0, none⟩)), (9, .slice (some ad45) ((List.set (List.set t14 (Int.toNat p1) (⟨p2, p3, 1⟩ : T82)) (Int.toNat (IntKind.wrap .i64 (p1 + 1))) (⟨p2, p3, 2⟩ : T82))).length c20), (38, .bool x64)] ∧ St [] w (fun _ => 0) w_ o63 ∧ Ft (Bx bx9 27 [.slice none 0 0, .bool false]) w_ o63 6 ∧ Ft (Own ET82 83 (.slice (some ad45) ((List.set (List.set t14 (Int.toNat p1) (⟨p2, p3, 1⟩ : T82)) (Int.toNat (IntKind.wrap .i64 (p1 + 1))) (⟨p2, p3, 2⟩ : T82))).length c20) (List.set (List.set t14 (Int.toNat p1) (⟨p2, p3, 1⟩ : T82)) (Int.toNat (IntKind.wrap .i64 (p1 + 1))) (⟨p2, p3, 2⟩ : T82))) w_ o63 7 ∧ Ft (RdC ET111 (some ⟨0, 0, none⟩) glob0) w_ o63 0 ∧ Ft (RdC ET111 (some ⟨1, 0, none⟩) glob1) w_ o63 0 ∧ row_Row_Put_j2 K p1 p2 p3 t14 x64 = some r) ?_ ?_
        rotate_left
        · rintro a w65 ⟨o63, x64, hk, hs, f10, f21, fg0, fg1, H⟩
          rw [row_Row_Put_j2] at H
          cases b66 : x64
          · rw [b66] at hk H
            replace H := bifF H
            refine x_if hk (b := false) rfl ?_
            refine (show Code.wpIn _ _ _ _ _ _ _ from ?_)
            refine wpIn_skip ?_
            refine blk_n ?_
            refine then_n ?_
            refine x_seq ?_
            refine wpIn_region_lit ?_
            refine x_run tab hk (k := 1) (lv := []) (ks := [8, 74]) (e' := [(8, .pointer (some ⟨bx9, 0, none⟩)), (74, .slice (some ad45) ((List.set (List.set t14 (Int.toNat p1) (⟨p2, p3, 1⟩ : T82)) (Int.toNat (IntKind.wrap .i64 (p1 + 1))) (⟨p2, p3, 2⟩ : T82))).length c20)]) rfl trivial fun a hk => ?_
            refine x_op hk rfl ?_
            obtain ⟨t70, hc71, H⟩ := bindS H
            refine op_call hk ent_47 (vs := [.slice (some ad45) ((List.set (List.set t14 (Int.toNat p1) (⟨p2, p3, 1⟩ : T82)) (Int.toNat (IntKind.wrap .i64 (p1 + 1))) (⟨p2, p3, 2⟩ : T82))).length c20]) rfl (row_mend_calls K (some ad45) c20 (List.set (List.set t14 (Int.toNat p1) (⟨p2, p3, 1⟩ : T82)) (Int.toNat (IntKind.wrap .i64 (p1 + 1))) (⟨p2, p3, 2⟩ : T82)) _ o63 7 f21 (by rw [List.length_set]; exact (by rw [List.length_set]; exact hc22)) (by decide)   _ hc71) ?_
            rintro _ w72 ⟨o73, A75, c76, rfl, st74, f77, hc78⟩
            replace f10 := f10.st st74 (by decide)
            replace fg0 := fg0.st st74 (by decide)
            replace fg1 := fg1.st st74 (by decide)
            replace hs := hs.loc0 st74 (by decide)
            have hk := hk.put 75 (.agg #[.slice A75 (t70.Cells).length c76, .bool t70.Wrapped]) rfl
            refine x_op hk rfl ?_
            refine op_store tab hk (t := 27) (v := .agg #[.slice A75 (t70.Cells).length c76, .bool t70.Wrapped]) (b := bx9) (k := 0) (cs' := [.slice A75 (t70.Cells).length c76, .bool t70.Wrapped]) rfl rfl rfl rfl rfl rfl f10 rfl rfl fun w79 o80 st81 f10_ => ?_
            replace f77 := f77.st st81 (by decide)
            replace fg0 := fg0.st st81 (by decide)
            replace fg1 := fg1.st st81 (by decide)
            replace hs := hs.loc0 st81 (by decide)
            replace f10 := f10_
            refine wpListIn_nil ?_
            refine then_n ?_
            refine wpIn_ret ?_
            obtain rfl := Option.some.inj H
            exact x_retG hk (rs := [.cell 8 27]) (vs := [.agg #[.slice A75 (t70.Cells).length c76, .bool t70.Wrapped]]) rfl ⟨⟨_, rfl, load_box tab rfl rfl f10.now (k := 0) rfl rfl⟩, trivial⟩ ⟨fun b_ => if b_ < w.heap.size then o b_ else (fun _ => R0) (o80 b_), A75, c76, rfl, hs.close0 o (fun _ => R0), hs.close_ft (o := o) (ρ := fun _ => R0) f77 (by decide) rfl, hc78⟩
          · rw [b66] at hk H
            replace H := bifT H
            refine x_if hk (b := true) rfl ?_
            refine (show Code.wpIn _ _ _ _ _ _ _ from ?_)
            refine wpIn_region_lit ?_
            obtain ⟨q82, H⟩ := ifS H
            refine x_run tab hk (k := 9) (lv := [.int .i64 ((rdD zT82 (List.set (List.set t14 (Int.toNat p1) (⟨p2, p3, 1⟩ : T82)) (Int.toNat (IntKind.wrap .i64 (p1 + 1))) (⟨p2, p3, 2⟩ : T82)) (IntKind.wrap .i64 (p1 - 1))).Style)]) (ks := [8, 9, 39, 41, 47]) (e' := [(8, .pointer (some ⟨bx9, 0, none⟩)), (9, .slice (some ad45) ((List.set (List.set t14 (Int.toNat p1) (⟨p2, p3, 1⟩ : T82)) (Int.toNat (IntKind.wrap .i64 (p1 + 1))) (⟨p2, p3, 2⟩ : T82))).length c20), (39, .slice (some ad45) ((List.set (List.set t14 (Int.toNat p1) (⟨p2, p3, 1⟩ : T82)) (Int.toNat (IntKind.wrap .i64 (p1 + 1))) (⟨p2, p3, 2⟩ : T82))).length c20), (41, .int .i64 (IntKind.wrap .i64 (p1 - 1))), (47, .int .i64 ((rdD zT82 (List.set (List.set t14 (Int.toNat p1) (⟨p2, p3, 1⟩ : T82)) (Int.toNat (IntKind.wrap .i64 (p1 + 1))) (⟨p2, p3, 2⟩ : T82)) (IntKind.wrap .i64 (p1 - 1))).Style))]) rfl ⟨q82, (load1 tab rfl (RdC.at (E := ET82) (d := zT82) (i := (IntKind.wrap .i64 (p1 - 1))) (j := 1) (Own.rd f21.now) q82 rfl)), trivial⟩ fun a hk => ?_
            refine x_op hk rfl ?_
            obtain ⟨t86, hc87, H⟩ := bindS H
            refine op_call hk ent_39 (vs := [.int .i64 ((rdD zT82 (List.set (List.set t14 (Int.toNat p1) (⟨p2, p3, 1⟩ : T82)) (Int.toNat (IntKind.wrap .i64 (p1 + 1))) (⟨p2, p3, 2⟩ : T82)) (IntKind.wrap .i64 (p1 - 1))).Style)]) rfl (row_blank_calls ((rdD zT82 (List.set (List.set t14 (Int.toNat p1) (⟨p2, p3, 1⟩ : T82)) (Int.toNat (IntKind.wrap .i64 (p1 + 1))) (⟨p2, p3, 2⟩ : T82)) (IntKind.wrap .i64 (p1 - 1))).Style) _ o63    _ hc87) ?_
            rintro _ w88 ⟨o89, rfl, st90⟩
            replace f10 := f10.st st90 (by decide)
            replace f21 := f21.st st90 (by decide)
            replace fg0 := fg0.st st90 (by decide)
            replace fg1 := fg1.st st90 (by decide)
            replace hs := hs.loc0 st90 (by decide)
            have hk := hk.put 48 (.agg #[.int .i32 t86.Rune, .int .i64 t86.Style, .int .i64 t86.Part]) rfl
            refine x_run tab hk (k := 1) (lv := []) (ks := [8, 9, 48, 49]) (e' := [(8, .pointer (some ⟨bx9, 0, none⟩)), (9, .slice (some ad45) ((List.set (List.set t14 (Int.toNat p1) (⟨p2, p3, 1⟩ : T82)) (Int.toNat (IntKind.wrap .i64 (p1 + 1))) (⟨p2, p3, 2⟩ : T82))).length c20), (48, .agg #[.int .i32 t86.Rune, .int .i64 t86.Style, .int .i64 t86.Part]), (49, .pointer (some (ad45.add (Int.toNat (IntKind.wrap .i64 (p1 - 1)) * 3))))]) rfl ⟨q82, trivial⟩ fun a hk => ?_
            refine x_op hk rfl ?_
            refine op_storeO tab hk (E := ET82) (i := (IntKind.wrap .i64 (p1 - 1))) (j := 0) (dx := zT82) (y' := t86) rfl rfl rfl f21 rfl q82 rfl rfl rfl rfl fun w91 o92 st93 f21_ => ?_
            replace f10 := f10.st st93 (by decide)
            replace fg0 := fg0.st st93 (by decide)
            replace fg1 := fg1.st st93 (by decide)
            replace hs := hs.loc0 st93 (by decide)
            replace f21 := f21_
            have hl94 : (List.set (List.set (List.set t14 (Int.toNat p1) (⟨p2, p3, 1⟩ : T82)) (Int.toNat (IntKind.wrap .i64 (p1 + 1))) (⟨p2, p3, 2⟩ : T82)) (Int.toNat (IntKind.wrap .i64 (p1 - 1))) t86).length = ((List.set (List.set t14 (Int.toNat p1) (⟨p2, p3, 1⟩ : T82)) (Int.toNat (IntKind.wrap .i64 (p1 + 1))) (⟨p2, p3, 2⟩ : T82))).length := List.length_set
            replace hk := Kn.re hk [8, 9, 48] (e2 := [(8, .pointer (some ⟨bx9, 0, none⟩)), (9, .slice (some ad45) ((List.set (List.set (List.set t14 (Int.toNat p1) (⟨p2, p3, 1⟩ : T82)) (Int.toNat (IntKind.wrap .i64 (p1 + 1))) (⟨p2, p3, 2⟩ : T82)) (Int.toNat (IntKind.wrap .i64 (p1 - 1))) t86)).length c20), (48, .agg #[.int .i32 t86.Rune, .int .i64 t86.Style, .int .i64 t86.Part])]) rfl (by rw [hl94])
            refine wpListIn_nil ?_
            refine blk_n ?_
            refine then_n ?_
            refine x_seq ?_
            refine wpIn_region_lit ?_
            refine x_run tab hk (k := 1) (lv := []) (ks := [8, 74]) (e' := [(8, .pointer (some ⟨bx9, 0, none⟩)), (74, .slice (some ad45) ((List.set (List.set (List.set t14 (Int.toNat p1) (⟨p2, p3, 1⟩ : T82)) (Int.toNat (IntKind.wrap .i64 (p1 + 1))) (⟨p2, p3, 2⟩ : T82)) (Int.toNat (IntKind.wrap .i64 (p1 - 1))) t86)).length c20)]) rfl trivial fun a hk => ?_
            refine x_op hk rfl ?_
            obtain ⟨t98, hc99, H⟩ := bindS H
            refine op_call hk ent_47 (vs := [.slice (some ad45) ((List.set (List.set (List.set t14 (Int.toNat p1) (⟨p2, p3, 1⟩ : T82)) (Int.toNat (IntKind.wrap .i64 (p1 + 1))) (⟨p2, p3, 2⟩ : T82)) (Int.toNat (IntKind.wrap .i64 (p1 - 1))) t86)).length c20]) rfl (row_mend_calls K (some ad45) c20 (List.set (List.set (List.set t14 (Int.toNat p1) (⟨p2, p3, 1⟩ : T82)) (Int.toNat (IntKind.wrap .i64 (p1 + 1))) (⟨p2, p3, 2⟩ : T82)) (Int.toNat (IntKind.wrap .i64 (p1 - 1))) t86) _ o92 7 f21 (by rw [List.length_set]; exact (by rw [List.length_set]; exact (by rw [List.length_set]; exact hc22))) (by decide)   _ hc99) ?_
            rintro _ w100 ⟨o101, A103, c104, rfl, st102, f105, hc106⟩
            replace f10 := f10.st st102 (by decide)
            replace fg0 := fg0.st st102 (by decide)
            replace fg1 := fg1.st st102 (by decide)
            replace hs := hs.loc0 st102 (by decide)
            have hk := hk.put 75 (.agg #[.slice A103 (t98.Cells).length c104, .bool t98.Wrapped]) rfl
            refine x_op hk rfl ?_
            refine op_store tab hk (t := 27) (v := .agg #[.slice A103 (t98.Cells).length c104, .bool t98.Wrapped]) (b := bx9) (k := 0) (cs' := [.slice A103 (t98.Cells).length c104, .bool t98.Wrapped]) rfl rfl rfl rfl rfl rfl f10 rfl rfl fun w107 o108 st109 f10_ => ?_
            replace f105 := f105.st st109 (by decide)
            replace fg0 := fg0.st st109 (by decide)
            replace fg1 := fg1.st st109 (by decide)
            replace hs := hs.loc0 st109 (by decide)
            replace f10 := f10_
            refine wpListIn_nil ?_
            refine then_n ?_
            refine wpIn_ret ?_
            obtain rfl := Option.some.inj H
            exact x_retG hk (rs := [.cell 8 27]) (vs := [.agg #[.slice A103 (t98.Cells).length c104, .bool t98.Wrapped]]) rfl ⟨⟨_, rfl, load_box tab rfl rfl f10.now (k := 0) rfl rfl⟩, trivial⟩ ⟨fun b_ => if b_ < w.heap.size then o b_ else (fun _ => R0) (o108 b_), A103, c104, rfl, hs.close0 o (fun _ => R0), hs.close_ft (o := o) (ρ := fun _ => R0) f105 (by decide) rfl, hc106⟩
        refine wpIn_region_lit ?_
        refine x_run tab hk (k := 3) (lv := []) (ks := [1, 8, 9, 30]) (e' := [(1, .int .i64 p1), (8, .pointer (some ⟨bx9, 0, none⟩)), (9, .slice (some ad45) ((List.set (List.set t14 (Int.toNat p1) (⟨p2, p3, 1⟩ : T82)) (Int.toNat (IntKind.wrap .i64 (p1 + 1))) (⟨p2, p3, 2⟩ : T82))).length c20), (30, .bool (decide (p1 > (0 : Int))))]) rfl trivial fun a hk => ?_
        cases b110 : (decide (p1 > (0 : Int)))
        · rw [b110] at hk H
          replace H := bifF H
          refine x_run tab hk (k := 8) (lv := []) (ks := [1, 8, 9, 38]) (e' := [(1, .int .i64 p1), (8, .pointer (some ⟨bx9, 0, none⟩)), (9, .slice (some ad45) ((List.set (List.set t14 (Int.toNat p1) (⟨p2, p3, 1⟩ : T82)) (Int.toNat (IntKind.wrap .i64 (p1 + 1))) (⟨p2, p3, 2⟩ : T82))).length c20), (38, .bool false)]) rfl trivial fun a hk => ?_
          refine wpListIn_nil ?_
          refine then_n ?_
          exact ⟨(fun b_ => (fun l_ => if l_ = 4 then 6 else if l_ = 5 then 7 else l_) (o52 b_)), false, (by exact Kn.pick (ks := [1, 8, 9, 38]) hk rfl), (hs.relab0 (fun l_ => if l_ = 4 then 6 else if l_ = 5 then 7 else l_) rfl), (f10.relab (fun l_ => if l_ = 4 then 6 else if l_ = 5 then 7 else l_) rfl), (f21.relab (fun l_ => if l_ = 4 then 6 else if l_ = 5 then 7 else l_) rfl), (fg0.relab (fun l_ => if l_ = 4 then 6 else if l_ = 5 then 7 else l_) rfl), (fg1.relab (fun l_ => if l_ = 4 then 6 else if l_ = 5 then 7 else l_) rfl), H⟩
        · rw [b110] at hk H
          replace H := bifT H
          obtain ⟨q111, H⟩ := ifS H
          refine x_run tab hk (k := 8) (lv := [.int .i64 ((rdD zT82 (List.set (List.set t14 (Int.toNat p1) (⟨p2, p3, 1⟩ : T82)) (Int.toNat (IntKind.wrap .i64 (p1 + 1))) (⟨p2, p3, 2⟩ : T82)) (IntKind.wrap .i64 (p1 - 1))).Part)]) (ks := [1, 8, 9, 38]) (e' := [(1, .int .i64 p1), (8, .pointer (some ⟨bx9, 0, none⟩)), (9, .slice (some ad45) ((List.set (List.set t14 (Int.toNat p1) (⟨p2, p3, 1⟩ : T82)) (Int.toNat (IntKind.wrap .i64 (p1 + 1))) (⟨p2, p3, 2⟩ : T82))).length c20), (38, .bool (((rdD zT82 (List.set (List.set t14 (Int.toNat p1) (⟨p2, p3, 1⟩ : T82)) (Int.toNat (IntKind.wrap .i64 (p1 + 1))) (⟨p2, p3, 2⟩ : T82)) (IntKind.wrap .i64 (p1 - 1))).Part) == (1 : Int)))]) rfl ⟨q111, (load1 tab rfl (RdC.at (E := ET82) (d := zT82) (i := (IntKind.wrap .i64 (p1 - 1))) (j := 2) (Own.rd f21.now) q111 rfl)), trivial⟩ fun a hk => ?_
          refine wpListIn_nil ?_
          refine then_n ?_
          exact ⟨(fun b_ => (fun l_ => if l_ = 4 then 6 else if l_ = 5 then 7 else l_) (o52 b_)), (((rdD zT82 (List.set (List.set t14 (Int.toNat p1) (⟨p2, p3, 1⟩ : T82)) (Int.toNat (IntKind.wrap .i64 (p1 + 1))) (⟨p2, p3, 2⟩ : T82)) (IntKind.wrap .i64 (p1 - 1))).Part) == (1 : Int)), (by exact Kn.pick (ks := [1, 8, 9, 38]) hk rfl), (hs.relab0 (fun l_ => if l_ = 4 then 6 else if l_ = 5 then 7 else l_) rfl), (f10.relab (fun l_ => if l_ = 4 then 6 else if l_ = 5 then 7 else l_) rfl), (f21.relab (fun l_ => if l_ = 4 then 6 else if l_ = 5 then 7 else l_) rfl), (fg0.relab (fun l_ => if l_ = 4 then 6 else if l_ = 5 then 7 else l_) rfl), (fg1.relab (fun l_ => if l_ = 4 then 6 else if l_ = 5 then 7 else l_) rfl), H⟩
      · rw [b43] at hk H
        replace H := bifT H
        refine x_if hk (b := true) rfl ?_
        refine (show Code.wpIn _ _ _ _ _ _ _ from ?_)
        refine wpIn_region_lit ?_
        obtain ⟨q112, H⟩ := ifS H
        obtain ⟨ad113, hAad113⟩ := RdC.addr (Own.rd f21.now) q112
        have hk_C := hk
        have f10_C := f10
        have f21_C := f21
        have fg0_C := fg0
        have fg1_C := fg1
        subst hAad113
        have hk := hk_C
        clear hk_C
        have f10 := f10_C
        clear f10_C
        have f21 := f21_C
        clear f21_C
        have fg0 := fg0_C
        clear fg0_C
        have fg1 := fg1_C
        clear fg1_C
        refine x_run tab hk (k := 6) (lv := []) (ks := [8, 9, 72, 73]) (e' := [(8, .pointer (some ⟨bx9, 0, none⟩)), (9, .slice (some ad113) (t14).length c20), (72, .agg #[.int .i32 p2, .int .i64 p3, .int .i64 0]), (73, .pointer (some (ad113.add (Int.toNat p1 * 3))))]) rfl ⟨q112, trivial⟩ fun a hk => ?_
        refine x_op hk rfl ?_
        refine op_storeO tab hk (E := ET82) (i := p1) (j := 0) (dx := zT82) (y' := (⟨p2, p3, 0⟩ : T82)) rfl rfl rfl f21 rfl q112 rfl rfl rfl rfl fun w114 o115 st116 f21_ => ?_
        replace f10 := f10.st st116 (by decide)
        replace fg0 := fg0.st st116 (by decide)
        replace fg1 := fg1.st st116 (by decide)
        replace hs := hs.loc0 st116 (by decide)
        replace f21 := f21_
        have hl117 : (List.set t14 (Int.toNat p1) (⟨p2, p3, 0⟩ : T82)).length = (t14).length := List.length_set
        replace hk := Kn.re hk [8, 9, 72] (e2 := [(8, .pointer (some ⟨bx9, 0, none⟩)), (9, .slice (some ad113) ((List.set t14 (Int.toNat p1) (⟨p2, p3, 0⟩ : T82))).length c20), (72, .agg #[.int .i32 p2, .int .i64 p3, .int .i64 0])]) rfl (by rw [hl117])
        refine wpListIn_nil ?_
        refine blk_n ?_
        refine then_n ?_
        refine x_seq ?_
        refine wpIn_region_lit ?_
        refine x_run tab hk (k := 1) (lv := []) (ks := [8, 74]) (e' := [(8, .pointer (some ⟨bx9, 0, none⟩)), (74, .slice (some ad113) ((List.set t14 (Int.toNat p1) (⟨p2, p3, 0⟩ : T82))).length c20)]) rfl trivial fun a hk => ?_
        refine x_op hk rfl ?_
        obtain ⟨t121, hc122, H⟩ := bindS H
        refine op_call hk ent_47 (vs := [.slice (some ad113) ((List.set t14 (Int.toNat p1) (⟨p2, p3, 0⟩ : T82))).length c20]) rfl (row_mend_calls K (some ad113) c20 (List.set t14 (Int.toNat p1) (⟨p2, p3, 0⟩ : T82)) _ o115 5 f21 (by rw [List.length_set]; exact hc22) (by decide)   _ hc122) ?_
        rintro _ w123 ⟨o124, A126, c127, rfl, st125, f128, hc129⟩
        replace f10 := f10.st st125 (by decide)
        replace fg0 := fg0.st st125 (by decide)
        replace fg1 := fg1.st st125 (by decide)
        replace hs := hs.loc0 st125 (by decide)
        have hk := hk.put 75 (.agg #[.slice A126 (t121.Cells).length c127, .bool t121.Wrapped]) rfl
        refine x_op hk rfl ?_
        refine op_store tab hk (t := 27) (v := .agg #[.slice A126 (t121.Cells).length c127, .bool t121.Wrapped]) (b := bx9) (k := 0) (cs' := [.slice A126 (t121.Cells).length c127, .bool t121.Wrapped]) rfl rfl rfl rfl rfl rfl f10 rfl rfl fun w130 o131 st132 f10_ => ?_
        replace f128 := f128.st st132 (by decide)
        replace fg0 := fg0.st st132 (by decide)
        replace fg1 := fg1.st st132 (by decide)
        replace hs := hs.loc0 st132 (by decide)
        replace f10 := f10_
        refine wpListIn_nil ?_
        refine then_n ?_
        refine wpIn_ret ?_
        obtain rfl := Option.some.inj H
        exact x_retG hk (rs := [.cell 8 27]) (vs := [.agg #[.slice A126 (t121.Cells).length c127, .bool t121.Wrapped]]) rfl ⟨⟨_, rfl, load_box tab rfl rfl f10.now (k := 0) rfl rfl⟩, trivial⟩ ⟨fun b_ => if b_ < w.heap.size then o b_ else (fun _ => R0) (o131 b_), A126, c127, rfl, hs.close0 o (fun _ => R0), hs.close_ft (o := o) (ρ := fun _ => R0) f128 (by decide) rfl, hc129⟩
    · rw [b42] at hk H
      replace H := bifT H
      refine x_if hk (b := true) rfl ?_
      refine (show Code.wpIn _ _ _ _ _ _ _ from ?_)
      refine wpIn_skip ?_
      refine blk_n ?_
      refine then_n ?_
      refine x_seq ?_
      refine wpIn_region_lit ?_
      refine x_run tab hk (k := 1) (lv := []) (ks := [8, 74]) (e' := [(8, .pointer (some ⟨bx9, 0, none⟩)), (74, .slice A19 (t14).length c20)]) rfl trivial fun a hk => ?_
      refine x_op hk rfl ?_
      obtain ⟨t136, hc137, H⟩ := bindS H
      refine op_call hk ent_47 (vs := [.slice A19 (t14).length c20]) rfl (row_mend_calls K A19 c20 t14 _ o39 5 f21 hc22 (by decide)   _ hc137) ?_
      rintro _ w138 ⟨o139, A141, c142, rfl, st140, f143, hc144⟩
      replace f10 := f10.st st140 (by decide)
      replace fg0 := fg0.st st140 (by decide)
      replace fg1 := fg1.st st140 (by decide)
      replace hs := hs.loc0 st140 (by decide)
      have hk := hk.put 75 (.agg #[.slice A141 (t136.Cells).length c142, .bool t136.Wrapped]) rfl
      refine x_op hk rfl ?_
      refine op_store tab hk (t := 27) (v := .agg #[.slice A141 (t136.Cells).length c142, .bool t136.Wrapped]) (b := bx9) (k := 0) (cs' := [.slice A141 (t136.Cells).length c142, .bool t136.Wrapped]) rfl rfl rfl rfl rfl rfl f10 rfl rfl fun w145 o146 st147 f10_ => ?_
      replace f143 := f143.st st147 (by decide)
      replace fg0 := fg0.st st147 (by decide)
      replace fg1 := fg1.st st147 (by decide)
      replace hs := hs.loc0 st147 (by decide)
      replace f10 := f10_
      refine wpListIn_nil ?_
      refine then_n ?_
      refine wpIn_ret ?_
      obtain rfl := Option.some.inj H
      exact x_retG hk (rs := [.cell 8 27]) (vs := [.agg #[.slice A141 (t136.Cells).length c142, .bool t136.Wrapped]]) rfl ⟨⟨_, rfl, load_box tab rfl rfl f10.now (k := 0) rfl rfl⟩, trivial⟩ ⟨fun b_ => if b_ < w.heap.size then o b_ else (fun _ => R0) (o146 b_), A141, c142, rfl, hs.close0 o (fun _ => R0), hs.close_ft (o := o) (ρ := fun _ => R0) f143 (by decide) rfl, hc144⟩
  refine wpIn_region_lit ?_
  refine x_run tab hk (k := 3) (lv := []) (ks := [1, 2, 3, 8, 9, 10, 53]) (e' := [(1, .int .i64 p1), (2, .int .i32 p2), (3, .int .i64 p3), (8, .pointer (some ⟨bx9, 0, none⟩)), (9, .slice A19 (t14).length c20), (10, .int .i64 t26), (53, .bool (t26 == (0 : Int)))]) rfl trivial fun a hk => ?_
  cases b148 : (t26 == (0 : Int))
  · rw [b148] at hk H
    replace H := bifF H
    refine x_run tab hk (k := 4) (lv := []) (ks := [1, 2, 3, 8, 9, 10, 57]) (e' := [(1, .int .i64 p1), (2, .int .i32 p2), (3, .int .i64 p3), (8, .pointer (some ⟨bx9, 0, none⟩)), (9, .slice A19 (t14).length c20), (10, .int .i64 t26), (57, .bool (decide (p1 < (0 : Int))))]) rfl trivial fun a hk => ?_
    cases b149 : (decide (p1 < (0 : Int)))
    · rw [b149] at hk H
      replace H := bifF H
      refine x_run tab hk (k := 8) (lv := []) (ks := [1, 2, 3, 8, 9, 10, 50]) (e' := [(1, .int .i64 p1), (2, .int .i32 p2), (3, .int .i64 p3), (8, .pointer (some ⟨bx9, 0, none⟩)), (9, .slice A19 (t14).length c20), (10, .int .i64 t26), (50, .bool (decide (p1 > (IntKind.wrap .i64 (((t14).length : Int) - t26)))))]) rfl trivial fun a hk => ?_
      refine wpListIn_nil ?_
      refine then_n ?_
      exact ⟨(fun b_ => (fun l_ => if l_ = 2 then 4 else if l_ = 3 then 5 else l_) (o29 b_)), (decide (p1 > (IntKind.wrap .i64 (((t14).length : Int) - t26)))), (by exact Kn.pick (ks := [1, 2, 3, 8, 9, 10, 50]) hk rfl), (hs.relab0 (fun l_ => if l_ = 2 then 4 else if l_ = 3 then 5 else l_) rfl), (f10.relab (fun l_ => if l_ = 2 then 4 else if l_ = 3 then 5 else l_) rfl), (f21.relab (fun l_ => if l_ = 2 then 4 else if l_ = 3 then 5 else l_) rfl), (fg0.relab (fun l_ => if l_ = 2 then 4 else if l_ = 3 then 5 else l_) rfl), (fg1.relab (fun l_ => if l_ = 2 then 4 else if l_ = 3 then 5 else l_) rfl), H⟩
    · rw [b149] at hk H
      replace H := bifT H
      refine x_run tab hk (k := 8) (lv := []) (ks := [1, 2, 3, 8, 9, 10, 50]) (e' := [(1, .int .i64 p1), (2, .int .i32 p2), (3, .int .i64 p3), (8, .pointer (some ⟨bx9, 0, none⟩)), (9, .slice A19 (t14).length c20), (10, .int .i64 t26), (50, .bool true)]) rfl trivial fun a hk => ?_
      refine wpListIn_nil ?_
      refine then_n ?_
      exact ⟨(fun b_ => (fun l_ => if l_ = 2 then 4 else if l_ = 3 then 5 else l_) (o29 b_)), true, (by exact Kn.pick (ks := [1, 2, 3, 8, 9, 10, 50]) hk rfl), (hs.relab0 (fun l_ => if l_ = 2 then 4 else if l_ = 3 then 5 else l_) rfl), (f10.relab (fun l_ => if l_ = 2 then 4 else if l_ = 3 then 5 else l_) rfl), (f21.relab (fun l_ => if l_ = 2 then 4 else if l_ = 3 then 5 else l_) rfl), (fg0.relab (fun l_ => if l_ = 2 then 4 else if l_ = 3 then 5 else l_) rfl), (fg1.relab (fun l_ => if l_ = 2 then 4 else if l_ = 3 then 5 else l_) rfl), H⟩
  · rw [b148] at hk H
    replace H := bifT H
    refine x_run tab hk (k := 10) (lv := []) (ks := [1, 2, 3, 8, 9, 10, 57, 63]) (e' := [(1, .int .i64 p1), (2, .int .i32 p2), (3, .int .i64 p3), (8, .pointer (some ⟨bx9, 0, none⟩)), (9, .slice A19 (t14).length c20), (10, .int .i64 t26), (57, .bool true), (63, undef)]) rfl trivial fun a hk => ?_
    refine x_run tab hk (k := 2) (lv := []) (ks := [1, 2, 3, 8, 9, 10, 50]) (e' := [(1, .int .i64 p1), (2, .int .i32 p2), (3, .int .i64 p3), (8, .pointer (some ⟨bx9, 0, none⟩)), (9, .slice A19 (t14).length c20), (10, .int .i64 t26), (50, .bool true)]) rfl trivial fun a hk => ?_
    refine wpListIn_nil ?_
    refine then_n ?_
    exact ⟨(fun b_ => (fun l_ => if l_ = 2 then 4 else if l_ = 3 then 5 else l_) (o29 b_)), true, (by exact Kn.pick (ks := [1, 2, 3, 8, 9, 10, 50]) hk rfl), (hs.relab0 (fun l_ => if l_ = 2 then 4 else if l_ = 3 then 5 else l_) rfl), (f10.relab (fun l_ => if l_ = 2 then 4 else if l_ = 3 then 5 else l_) rfl), (f21.relab (fun l_ => if l_ = 2 then 4 else if l_ = 3 then 5 else l_) rfl), (fg0.relab (fun l_ => if l_ = 2 then 4 else if l_ = 3 then 5 else l_) rfl), (fg1.relab (fun l_ => if l_ = 2 then 4 else if l_ = 3 then 5 else l_) rfl), H⟩

/-! (tidewrack/row.Row).Glyphs -/
theorem row_Row_Glyphs_calls (K : Nat) (Ap0_0 : Option Addr) (cp0_0 : Nat) (p0 : T26) (w : World) (o : Nat → Nat) (Lp0_0 : Nat) (hp0_0 : Ft (RdC ET82 Ap0_0 p0.Cells) w o Lp0_0) (hcp0_0 : (p0.Cells).length ≤ cp0_0)  (R0 : Nat) (r : List T49) (H : row_Row_Glyphs K p0 = some r) :
    Calls Tryd.prog 20 #[.agg #[.slice Ap0_0 (p0.Cells).length cp0_0, .bool p0.Wrapped]] w (Ret fun v_ w' => ∃ o' : Nat → Nat, ∃ A0 : Option Addr, ∃ c0 : Nat, v_ = .slice A0 (r).length c0 ∧ St [] w o w' o' ∧ Ft (Own ET49 50 (.slice A0 (r).length c0) (r)) w' o' R0 ∧ (r).length ≤ c0) := by
  refine x_enter (vs := [.agg #[.slice Ap0_0 (p0.Cells).length cp0_0, .bool p0.Wrapped]]) Tryd.func20 rfl rfl rfl fun a hk => ?_
  obtain ⟨o0, hs, h0⟩ := St.start w o
  have f900000 := h0 _ _ hp0_0
  clear h0
  rw [row_Row_Glyphs] at H
  refine x_seq ?_
  refine wpIn_region_lit ?_
  refine x_op hk rfl ?_
  refine op_box (o := o0) (t := 27) (v := .agg #[.slice Ap0_0 (p0.Cells).length cp0_0, .bool p0.Wrapped]) (cs := [.slice Ap0_0 (p0.Cells).length cp0_0, .bool p0.Wrapped]) hk rfl rfl 1 fun bx4 w1 o2 st3 f5 => ?_
  replace f900000 := f900000.st st3 (by decide)
  replace hs := hs.loc0 st3 (by decide)
  have hk := hk.put 1 (.pointer (some ⟨bx4, 0, none⟩)) rfl
  refine x_run tab hk (k := 1) (lv := []) (ks := [1]) (e' := [(1, .pointer (some ⟨bx4, 0, none⟩))]) rfl trivial fun a hk => ?_
  refine wpListIn_nil ?_
  refine then_n ?_
  refine x_seq ?_
  refine wpIn_region_lit ?_
  refine x_run tab hk (k := 3) (lv := [.slice Ap0_0 (p0.Cells).length cp0_0]) (ks := [1, 3]) (e' := [(1, .pointer (some ⟨bx4, 0, none⟩)), (3, .slice Ap0_0 (p0.Cells).length cp0_0)]) rfl ⟨(load1 tab rfl ((Bx.cell f5.now 0).trans rfl)), trivial⟩ fun a hk => ?_
  refine wpListIn_nil ?_
  refine then_n ?_
  refine x_mid (fun a_ w_ => ∃ o167 : Nat → Nat, ∃ A168 : Option Addr, ∃ c169 : Nat, ∃ l170 : List T82, Kn 56 a_ [(3, .slice A168 (l170).length c169)] ∧ St [] w (fun _ => 0) w_ o167 ∧ Ft (RdC ET82 A168 l170) w_ o167 0 ∧ (l170).length ≤ c169 ∧ row_Row_Glyphs_j1 K l170 = some r) ?_ ?_
  rotate_left
  · rintro a w173 ⟨o167, A168, c169, l170, hk, hs, f171, hc172, H⟩
    rw [row_Row_Glyphs_j1] at H
    refine x_seq ?_
    refine wpIn_region_lit ?_
    refine x_run tab hk (k := 1) (lv := []) (ks := [3, 4]) (e' := [(3, .slice A168 (l170).length c169), (4, .slice none 0 0)]) rfl trivial fun a hk => ?_
    refine wpListIn_nil ?_
    refine then_n ?_
    refine x_mid (fun a_ w_ => ∃ o309 : Nat → Nat, ∃ A310 : Option Addr, ∃ c311 : Nat, ∃ l312 : List T49, Kn 56 a_ [(4, .slice A310 (l312).length c311)] ∧ St [] w (fun _ => 0) w_ o309 ∧ Ft (Own ET49 50 (.slice A310 (l312).length c311) l312) w_ o309 18 ∧ (l312).length ≤ c311 ∧ row_Row_Glyphs_j2 l312 = some r) ?_ ?_
    rotate_left
    · rintro a w315 ⟨o309, A310, c311, l312, hk, hs, f313, hc314, H⟩
      rw [row_Row_Glyphs_j2] at H
      refine x_seq ?_
      refine wpIn_region_lit ?_
      refine x_run tab hk (k := 2) (lv := []) (ks := [2]) (e' := [(2, .slice A310 (l312).length c311)]) rfl trivial fun a hk => ?_
      refine wpListIn_nil ?_
      refine then_n ?_
      refine wpIn_ret ?_
      obtain rfl := Option.some.inj H
      exact x_retG hk (rs := [.tmp 2]) (vs := [.slice A310 (l312).length c311]) rfl ⟨rfl, trivial⟩ ⟨fun b_ => if b_ < w.heap.size then o b_ else (fun _ => R0) (o309 b_), A310, c311, rfl, hs.close0 o (fun _ => R0), hs.close_ft (o := o) (ρ := fun _ => R0) f313 (by decide) rfl, hc314⟩
    refine x_seq ?_
    refine wpIn_region_lit ?_
    refine x_run tab hk (k := 3) (lv := []) (ks := [4, 32, 33, 34]) (e' := [(4, .slice none 0 0), (32, .slice A168 (l170).length c169), (33, .int .i64 ((l170).length : Int)), (34, .int .i64 0)]) rfl trivial fun a hk => ?_
    refine wpListIn_nil ?_
    refine then_n ?_
    refine wpIn_block ?_
    refine x_loop (fun j_ a_ w_ => ∃ o356 : Nat → Nat, ∃ A357 : Option Addr, ∃ c358 : Nat, ∃ l359 : List T49, ∃ x362 : Int, Kn 56 a_ [(4, .slice A357 (l359).length c358), (32, .slice A168 (l170).length c169), (33, .int .i64 ((l170).length : Int)), (34, .int .i64 x362)] ∧ St [] w (fun _ => 0) w_ o356 ∧ Ft (RdC ET82 A168 l170) w_ o356 0 ∧ Ft (Own ET49 50 (.slice A357 (l359).length c358) l359) w_ o356 23 ∧ (l359).length ≤ c358 ∧ row_Row_Glyphs_l3 l170 j_ l359 x362 = some r) (k := K) ⟨o167, none, 0, ([] : List T49), 0, (by exact Kn.pick (ks := [4, 32, 33, 34]) hk rfl), hs, f171, (Ft.of_all (fun _ => Own.nil _ _ _) _ _ _), (by simp), H⟩ (by rintro _ _ ⟨_, _, _, _, _, _, _, _, _, _, H_⟩; exact absurd (show (none : Option (List T49)) = some r from H_) (by simp)) ?_
    rintro k401 a w400 ⟨o356, A357, c358, l359, x362, hk, hs, f171, f360, hc361, H⟩
    rw [row_Row_Glyphs_l3] at H
    obtain ⟨lp402, hlp403⟩ : ∃ lp_, lp_ = row_Row_Glyphs_l3 l170 k401 := ⟨_, rfl⟩
    rw [← hlp403] at H
    refine x_seq ?_
    refine wpIn_region_lit ?_
    refine x_run tab hk (k := 1) (lv := []) (ks := [4, 32, 33, 34, 35]) (e' := [(4, .slice A357 (l359).length c358), (32, .slice A168 (l170).length c169), (33, .int .i64 ((l170).length : Int)), (34, .int .i64 x362), (35, .bool (decide (x362 < ((l170).length : Int))))]) rfl trivial fun a hk => ?_
    refine wpListIn_nil ?_
    refine then_n ?_
    refine x_seq ?_
    cases b404 : (decide (x362 < ((l170).length : Int)))
    · rw [b404] at hk H
      replace H := bifF H
      refine x_if hk (b := false) rfl ?_
      refine (show Code.wpIn _ _ _ _ _ _ _ from ?_)
      refine wpIn_exit ?_
      refine then_x ?_
      refine then_x ?_
      refine blk_x ?_
      refine then_n ?_
      exact ⟨(fun b_ => (fun l_ => if l_ = 23 then 18 else l_) (o356 b_)), A357, c358, l359, (by exact Kn.pick (ks := [4]) hk rfl), (hs.relab0 (fun l_ => if l_ = 23 then 18 else l_) rfl), (f360.relab (fun l_ => if l_ = 23 then 18 else l_) rfl), hc361, H⟩
    · rw [b404] at hk H
      replace H := bifT H
      refine x_if hk (b := true) rfl ?_
      refine (show Code.wpIn _ _ _ _ _ _ _ from ?_)
      refine wpIn_skip ?_
      refine then_n ?_
      refine x_seq ?_
      refine wpIn_block ?_
      refine x_seq ?_
      refine wpIn_region_lit ?_
      obtain ⟨q405, H⟩ := ifS H
      obtain ⟨ad406, hAad406⟩ := RdC.addr f171.now q405
      have hk_C := hk
      have f171_C := f171
      have f360_C := f360
      subst hAad406
      have hk := hk_C
      clear hk_C
      have f171 := f171_C
      clear f171_C
      have f360 := f360_C
      clear f360_C
      refine x_run tab hk (k := 2) (lv := [.agg #[.int .i32 ((rdD zT82 l170 x362).Rune), .int .i64 ((rdD zT82 l170 x362).Style), .int .i64 ((rdD zT82 l170 x362).Part)]]) (ks := [4, 32, 33, 34, 37]) (e' := [(4, .slice A357 (l359).length c358), (32, .slice (some ad406) (l170).length c169), (33, .int .i64 ((l170).length : Int)), (34, .int .i64 x362), (37, .agg #[.int .i32 ((rdD zT82 l170 x362).Rune), .int .i64 ((rdD zT82 l170 x362).Style), .int .i64 ((rdD zT82 l170 x362).Part)])]) rfl ⟨q405, (load_elem (E := ET82) (i := x362) (dx := zT82) tab rfl rfl f171.now q405), trivial⟩ fun a hk => ?_
      refine x_op hk rfl ?_
      refine op_alloc (o := o356) tab (t := 83) (cs := [.int .i32 0, .int .i64 0, .int .i64 0]) rfl rfl 28 fun bx410 w407 o408 st409 f411 => ?_
      replace f171 := f171.st st409 (by decide)
      replace f360 := f360.st st409 (by decide)
      replace hs := hs.loc0 st409 (by decide)
      have hk := hk.put 6 (.pointer (some ⟨bx410, 0, none⟩)) rfl
      refine x_op hk rfl ?_
      refine op_store tab hk (t := 83) (v := .agg #[.int .i32 ((rdD zT82 l170 x362).Rune), .int .i64 ((rdD zT82 l170 x362).Style), .int .i64 ((rdD zT82 l170 x362).Part)]) (b := bx410) (k := 0) (cs' := [.int .i32 ((rdD zT82 l170 x362).Rune), .int .i64 ((rdD zT82 l170 x362).Style), .int .i64 ((rdD zT82 l170 x362).Part)]) rfl rfl rfl rfl rfl rfl f411 rfl rfl fun w412 o413 st414 f411_ => ?_
      replace f171 := f171.st st414 (by decide)
      replace f360 := f360.st st414 (by decide)
      replace hs := hs.loc0 st414 (by decide)
      replace f411 := f411_
      refine wpListIn_nil ?_
      refine then_n ?_
      refine x_mid (fun a_ w_ => ∃ o422 : Nat → Nat, ∃ x423 : Bool, Kn 56 a_ [(4, .slice A357 (l359).length c358), (6, .pointer (some ⟨bx410, 0, none⟩)), (32, .slice (some ad406) (l170).length c169), (33, .int .i64 ((l170).length : Int)), (34, .int .i64 x362), (45, .bool x423)] ∧ St [] w (fun _ => 0) w_ o422 ∧ Ft (RdC ET82 (some ad406) l170) w_ o422 0 ∧ Ft (Own ET49 50 (.slice A357 (l359).length c358) l359) w_ o422 29 ∧ Ft (Bx bx410 83 [.int .i32 ((rdD zT82 l170 x362).Rune), .int .i64 ((rdD zT82 l170 x362).Style), .int .i64 ((rdD zT82 l170 x362).Part)]) w_ o422 30 ∧ row_Row_Glyphs_j4 l170 l359 x362 lp402 x423 = some r) ?_ ?_
      rotate_left
      · rintro a w424 ⟨o422, x423, hk, hs, f171, f360, f411, H⟩
        rw [row_Row_Glyphs_j4] at H
        cases b425 : x423
        · rw [b425] at hk H
          replace H := bifF H
          refine x_if hk (b := false) rfl ?_
          refine (show Code.wpIn _ _ _ _ _ _ _ from ?_)
          refine wpIn_skip ?_
          refine blk_n ?_
          refine then_n ?_
          refine wpIn_region_lit ?_
          refine x_run tab hk (k := 2) (lv := []) (ks := [4, 32, 33, 34]) (e' := [(4, .slice A357 (l359).length c358), (32, .slice (some ad406) (l170).length c169), (33, .int .i64 ((l170).length : Int)), (34, .int .i64 (IntKind.wrap .i64 (x362 + 1)))]) rfl trivial fun a hk => ?_
          refine wpListIn_nil ?_
          refine then_n ?_
          exact ⟨k401, Nat.le_refl _, (fun b_ => (fun l_ => if l_ = 29 then 23 else l_) (o422 b_)), A357, c358, l359, (IntKind.wrap .i64 (x362 + 1)), (by exact Kn.pick (ks := [4, 32, 33, 34]) hk rfl), (hs.relab0 (fun l_ => if l_ = 29 then 23 else l_) rfl), (f171.relab (fun l_ => if l_ = 29 then 23 else l_) rfl), (f360.relab (fun l_ => if l_ = 29 then 23 else l_) rfl), hc361, (hlp403 ▸ H)⟩
        · rw [b425] at hk H
          replace H := bifT H
          refine x_if hk (b := true) rfl ?_
          refine (show Code.wpIn _ _ _ _ _ _ _ from ?_)
          refine wpIn_region_lit ?_
          refine x_run tab hk (k := 6) (lv := [.int .i32 ((rdD zT82 l170 x362).Rune), .int .i64 ((rdD zT82 l170 x362).Style)]) (ks := [32, 33, 34, 46, 51]) (e' := [(32, .slice (some ad406) (l170).length c169), (33, .int .i64 ((l170).length : Int)), (34, .int .i64 x362), (46, .slice A357 (l359).length c358), (51, .agg #[.int .i32 ((rdD zT82 l170 x362).Rune), .int .i64 ((rdD zT82 l170 x362).Style)])]) rfl ⟨(load1 tab rfl ((Bx.cell f411.now 0).trans rfl)), (load1 tab rfl ((Bx.cell f411.now 1).trans rfl)), trivial⟩ fun a hk => ?_
          refine x_op hk rfl ?_
          refine op_slice (o := o422) tab hk (vs := [.agg #[.int .i32 ((rdD zT82 l170 x362).Rune), .int .i64 ((rdD zT82 l170 x362).Style)]]) (cs := [.int .i32 ((rdD zT82 l170 x362).Rune), .int .i64 ((rdD zT82 l170 x362).Style)]) rfl rfl rfl rfl rfl rfl rfl rfl rfl 31 fun bx429 w426 o427 st428 f430 => ?_
          replace f171 := f171.st st428 (by decide)
          replace f360 := f360.st st428 (by decide)
          replace hs := hs.loc0 st428 (by decide)
          have f431 : Ft (Own ET49 50 (.slice (some ⟨bx429, 0, none⟩) (([(⟨(rdD zT82 l170 x362).Rune, (rdD zT82 l170 x362).Style⟩ : T49)] : List T49)).length 1) ([(⟨(rdD zT82 l170 x362).Rune, (rdD zT82 l170 x362).Style⟩ : T49)] : List T49)) w426 o427 31 := f430.imp fun _ h_ => Own.of_box h_ rfl (by simp)
          have hk := hk.put 52 (.slice (some ⟨bx429, 0, none⟩) (([(⟨(rdD zT82 l170 x362).Rune, (rdD zT82 l170 x362).Style⟩ : T49)] : List T49)).length 1) rfl
          refine x_op hk rfl ?_
          obtain ⟨q435, H⟩ := ifS H
          refine op_append (o := o427) (E := ET49) (xs := l359) (ys := ([(⟨(rdD zT82 l170 x362).Rune, (rdD zT82 l170 x362).Style⟩ : T49)] : List T49)) tab hk rfl rfl rfl rfl rfl rfl rfl f360 (Own.rd f431.now) q435 fun A436 c437 w432 o433 st434 f438 hc439 => ?_
          replace f171 := f171.st st434 (by decide)
          replace f431 := f431.st st434 (by decide)
          replace hs := hs.loc0 st434 (by decide)
          have hk := hk.put 53 (.slice A436 ((l359 ++ ([(⟨(rdD zT82 l170 x362).Rune, (rdD zT82 l170 x362).Style⟩ : T49)] : List T49))).length c437) rfl
          refine x_run tab hk (k := 1) (lv := []) (ks := [4, 32, 33, 34]) (e' := [(4, .slice A436 ((l359 ++ ([(⟨(rdD zT82 l170 x362).Rune, (rdD zT82 l170 x362).Style⟩ : T49)] : List T49))).length c437), (32, .slice (some ad406) (l170).length c169), (33, .int .i64 ((l170).length : Int)), (34, .int .i64 x362)]) rfl trivial fun a hk => ?_
          refine wpListIn_nil ?_
          refine blk_n ?_
          refine then_n ?_
          refine wpIn_region_lit ?_
          refine x_run tab hk (k := 2) (lv := []) (ks := [4, 32, 33, 34]) (e' := [(4, .slice A436 ((l359 ++ ([(⟨(rdD zT82 l170 x362).Rune, (rdD zT82 l170 x362).Style⟩ : T49)] : List T49))).length c437), (32, .slice (some ad406) (l170).length c169), (33, .int .i64 ((l170).length : Int)), (34, .int .i64 (IntKind.wrap .i64 (x362 + 1)))]) rfl trivial fun a hk => ?_
          refine wpListIn_nil ?_
          refine then_n ?_
          exact ⟨k401, Nat.le_refl _, (fun b_ => (fun l_ => if l_ = 29 then 23 else l_) (o433 b_)), A436, c437, (l359 ++ ([(⟨(rdD zT82 l170 x362).Rune, (rdD zT82 l170 x362).Style⟩ : T49)] : List T49)), (IntKind.wrap .i64 (x362 + 1)), (by exact Kn.pick (ks := [4, 32, 33, 34]) hk rfl), (hs.relab0 (fun l_ => if l_ = 29 then 23 else l_) rfl), (f171.relab (fun l_ => if l_ = 29 then 23 else l_) rfl), (f438.relab (fun l_ => if l_ = 29 then 23 else l_) rfl), hc439, (hlp403 ▸ H)⟩
      refine wpIn_region_lit ?_
      refine x_run tab hk (k := 4) (lv := [.int .i64 ((rdD zT82 l170 x362).Part)]) (ks := [4, 6, 32, 33, 34, 41]) (e' := [(4, .slice A357 (l359).length c358), (6, .pointer (some ⟨bx410, 0, none⟩)), (32, .slice (some ad406) (l170).length c169), (33, .int .i64 ((l170).length : Int)), (34, .int .i64 x362), (41, .bool (((rdD zT82 l170 x362).Part) == (0 : Int)))]) rfl ⟨(load1 tab rfl ((Bx.cell f411.now 2).trans rfl)), trivial⟩ fun a hk => ?_
      cases b440 : (((rdD zT82 l170 x362).Part) == (0 : Int))
      · rw [b440] at hk H
        replace H := bifF H
        refine x_run tab hk (k := 4) (lv := [.int .i64 ((rdD zT82 l170 x362).Part)]) (ks := [4, 6, 32, 33, 34, 45]) (e' := [(4, .slice A357 (l359).length c358), (6, .pointer (some ⟨bx410, 0, none⟩)), (32, .slice (some ad406) (l170).length c169), (33, .int .i64 ((l170).length : Int)), (34, .int .i64 x362), (45, .bool (((rdD zT82 l170 x362).Part) == (1 : Int)))]) rfl ⟨(load1 tab rfl ((Bx.cell f411.now 2).trans rfl)), trivial⟩ fun a hk => ?_
        refine wpListIn_nil ?_
        refine then_n ?_
        exact ⟨(fun b_ => (fun l_ => if l_ = 23 then 29 else if l_ = 28 then 30 else l_) (o413 b_)), (((rdD zT82 l170 x362).Part) == (1 : Int)), (by exact Kn.pick (ks := [4, 6, 32, 33, 34, 45]) hk rfl), (hs.relab0 (fun l_ => if l_ = 23 then 29 else if l_ = 28 then 30 else l_) rfl), (f171.relab (fun l_ => if l_ = 23 then 29 else if l_ = 28 then 30 else l_) rfl), (f360.relab (fun l_ => if l_ = 23 then 29 else if l_ = 28 then 30 else l_) rfl), (f411.relab (fun l_ => if l_ = 23 then 29 else if l_ = 28 then 30 else l_) rfl), H⟩
      · rw [b440] at hk H
        replace H := bifT H
        refine x_run tab hk (k := 4) (lv := []) (ks := [4, 6, 32, 33, 34, 45]) (e' := [(4, .slice A357 (l359).length c358), (6, .pointer (some ⟨bx410, 0, none⟩)), (32, .slice (some ad406) (l170).length c169), (33, .int .i64 ((l170).length : Int)), (34, .int .i64 x362), (45, .bool true)]) rfl trivial fun a hk => ?_
        refine wpListIn_nil ?_
        refine then_n ?_
        exact ⟨(fun b_ => (fun l_ => if l_ = 23 then 29 else if l_ = 28 then 30 else l_) (o413 b_)), true, (by exact Kn.pick (ks := [4, 6, 32, 33, 34, 45]) hk rfl), (hs.relab0 (fun l_ => if l_ = 23 then 29 else if l_ = 28 then 30 else l_) rfl), (f171.relab (fun l_ => if l_ = 23 then 29 else if l_ = 28 then 30 else l_) rfl), (f360.relab (fun l_ => if l_ = 23 then 29 else if l_ = 28 then 30 else l_) rfl), (f411.relab (fun l_ => if l_ = 23 then 29 else if l_ = 28 then 30 else l_) rfl), H⟩
  refine wpIn_block ?_
  refine x_loop (fun j_ a_ w_ => ∃ o490 : Nat → Nat, ∃ A491 : Option Addr, ∃ c492 : Nat, ∃ l493 : List T82, Kn 56 a_ [(1, .pointer (some ⟨bx4, 0, none⟩)), (3, .slice A491 (l493).length c492)] ∧ St [] w (fun _ => 0) w_ o490 ∧ Ft (RdC ET82 A491 l493) w_ o490 0 ∧ Ft (Bx bx4 27 [.slice Ap0_0 (p0.Cells).length cp0_0, .bool p0.Wrapped]) w_ o490 33 ∧ Ft (RdC ET82 Ap0_0 p0.Cells) w_ o490 0 ∧ (l493).length ≤ c492 ∧ row_Row_Glyphs_l5 K p0 j_ l493 = some r) (k := K) ⟨(fun b_ => (fun l_ => if l_ = 1 then 33 else l_) (o2 b_)), Ap0_0, cp0_0, p0.Cells, (by exact Kn.pick (ks := [1, 3]) hk rfl), (hs.relab0 (fun l_ => if l_ = 1 then 33 else l_) rfl), (f900000.relab (fun l_ => if l_ = 1 then 33 else l_) rfl), (f5.relab (fun l_ => if l_ = 1 then 33 else l_) rfl), (f900000.relab (fun l_ => if l_ = 1 then 33 else l_) rfl), hcp0_0, H⟩ (by rintro _ _ ⟨_, _, _, _, _, _, _, _, _, _, H_⟩; exact absurd (show (none : Option (List T49)) = some r from H_) (by simp)) ?_
  rintro k543 a w542 ⟨o490, A491, c492, l493, hk, hs, f494, f5, f900000, hc495, H⟩
  rw [row_Row_Glyphs_l5] at H
  obtain ⟨lp544, hlp545⟩ : ∃ lp_, lp_ = row_Row_Glyphs_l5 K p0 k543 := ⟨_, rfl⟩
  rw [← hlp545] at H
  refine x_seq ?_
  refine x_seq ?_
  refine xd_begin (o := o490) (fun W_ => (RdC ET82 A491 l493) W_ ∧ (Bx bx4 27 [.slice Ap0_0 (p0.Cells).length cp0_0, .bool p0.Wrapped]) W_ ∧ True) mixed rfl rfl fun w570 st571 => ?_
  replace f494 := f494.st st571 (by decide)
  replace f5 := f5.st st571 (by decide)
  replace f900000 := f900000.st st571 (by decide)
  replace hs := hs.loc0 st571 (by decide)
  refine xd_take tab hk (k := 14) (is := [0, 1, 2, 3]) (ls' := #[true, true, true, true, false, false, false, false, false, false, false, false, false, false, false, false, false, false]) (lv := [.bool p0.Wrapped]) (ks := [1, 3, 12]) (e' := [(1, .pointer (some ⟨bx4, 0, none⟩)), (3, .slice A491 (l493).length c492), (12, .bool (!p0.Wrapped))]) (by kernel_rfl) rfl rfl (by kernel_rfl) (np_then (np_then (np_then (np_blk (np_then np_body))))) ⟨f494.now, f5.now, trivial⟩ (fun W_ hS => ⟨(load1 tab rfl ((Bx.cell hS.2.1 1).trans rfl)), trivial⟩) fun a hk => ?_
  cases b572 : (!p0.Wrapped)
  · rw [b572] at hk H
    replace H := bifF H
    refine xd_take tab hk (k := 0) (is := [4, 5, 6, 7, 8, 9, 10, 11, 12, 13, 14, 15, 16, 17]) (ls' := #[true, true, true, true, true, true, true, true, true, true, true, true, true, true, true, true, true, true]) (lv := []) (ks := [1, 3, 26]) (e' := [(1, .pointer (some ⟨bx4, 0, none⟩)), (3, .slice A491 (l493).length c492), (26, .bool false)]) (by kernel_rfl) rfl rfl (by kernel_rfl) (np_then (np_then (np_then (np_blk (np_then np_body))))) ⟨f494.now, f5.now, trivial⟩ (fun W_ hS => trivial) fun a hk => ?_
    refine xd_done (by kernel_rfl) ?_
    refine then_n ?_
    refine x_if hk (b := false) rfl ?_
    refine (show Code.wpIn _ _ _ _ _ _ _ from ?_)
    refine wpIn_exit ?_
    refine then_x ?_
    refine then_x ?_
    refine blk_x ?_
    refine then_n ?_
    exact ⟨o490, A491, c492, l493, (by exact Kn.pick (ks := [3]) hk rfl), hs, f494, hc495, H⟩
  · rw [b572] at hk H
    replace H := bifT H
    refine xd_take tab hk (k := 9) (is := [4, 5, 6, 7, 8]) (ls' := #[true, true, true, true, true, true, true, true, true, false, false, false, false, false, false, false, false, false]) (lv := []) (ks := [1, 3, 17]) (e' := [(1, .pointer (some ⟨bx4, 0, none⟩)), (3, .slice A491 (l493).length c492), (17, .bool (decide (((l493).length : Int) > (0 : Int))))]) (by kernel_rfl) rfl rfl (by kernel_rfl) (np_then (np_then (np_then (np_blk (np_then np_body))))) ⟨f494.now, f5.now, trivial⟩ (fun W_ hS => trivial) fun a hk => ?_
    cases b573 : (decide (((l493).length : Int) > (0 : Int)))
    · rw [b573] at hk H
      replace H := bifF H
      refine xd_take tab hk (k := 0) (is := [9, 10, 11, 12, 13, 14, 15, 16, 17]) (ls' := #[true, true, true, true, true, true, true, true, true, true, true, true, true, true, true, true, true, true]) (lv := []) (ks := [1, 3, 26]) (e' := [(1, .pointer (some ⟨bx4, 0, none⟩)), (3, .slice A491 (l493).length c492), (26, .bool false)]) (by kernel_rfl) rfl rfl (by kernel_rfl) (np_then (np_then (np_then (np_blk (np_then np_body))))) ⟨f494.now, f5.now, trivial⟩ (fun W_ hS => trivial) fun a hk => ?_
      refine xd_done (by kernel_rfl) ?_
      refine then_n ?_
      refine x_if hk (b := false) rfl ?_
      refine (show Code.wpIn _ _ _ _ _ _ _ from ?_)
      refine wpIn_exit ?_
      refine then_x ?_
      refine then_x ?_
      refine blk_x ?_
      refine then_n ?_
      exact ⟨o490, A491, c492, l493, (by exact Kn.pick (ks := [3]) hk rfl), hs, f494, hc495, H⟩
    · rw [b573] at hk H
      replace H := bifT H
      obtain ⟨q574, H⟩ := ifS H
      obtain ⟨ad575, hAad575⟩ := RdC.addr f494.now q574
      have hk_C := hk
      have f494_C := f494
      have f5_C := f5
      have f900000_C := f900000
      subst hAad575
      have hk := hk_C
      clear hk_C
      have f494 := f494_C
      clear f494_C
      have f5 := f5_C
      clear f5_C
      have f900000 := f900000_C
      clear f900000_C
      refine xd_take tab hk (k := 3) (is := [9, 10, 11, 12, 13, 14]) (ls' := #[true, true, true, true, true, true, true, true, true, true, true, true, true, true, true, false, false, false]) (lv := [.agg #[.int .i32 ((rdD zT82 l493 (IntKind.wrap .i64 (((l493).length : Int) - 1))).Rune), .int .i64 ((rdD zT82 l493 (IntKind.wrap .i64 (((l493).length : Int) - 1))).Style), .int .i64 ((rdD zT82 l493 (IntKind.wrap .i64 (((l493).length : Int) - 1))).Part)]]) (ks := [1, 3, 17, 23]) (e' := [(1, .pointer (some ⟨bx4, 0, none⟩)), (3, .slice (some ad575) (l493).length c492), (17, .bool true), (23, .agg #[.int .i32 ((rdD zT82 l493 (IntKind.wrap .i64 (((l493).length : Int) - 1))).Rune), .int .i64 ((rdD zT82 l493 (IntKind.wrap .i64 (((l493).length : Int) - 1))).Style), .int .i64 ((rdD zT82 l493 (IntKind.wrap .i64 (((l493).length : Int) - 1))).Part)])]) (by kernel_rfl) rfl rfl (by kernel_rfl) (np_then (np_then (np_then (np_blk (np_then np_body))))) ⟨f494.now, f5.now, trivial⟩ (fun W_ hS => ⟨q574, (load_elem (E := ET82) (i := (IntKind.wrap .i64 (((l493).length : Int) - 1))) (dx := zT82) tab rfl rfl hS.1 q574), trivial⟩) fun a hk => ?_
      refine xd_op hk (i := 15) (by kernel_rfl) rfl rfl ?_
      obtain ⟨t579, hc580, H⟩ := bindS H
      refine op_call hk ent_39 (vs := [.int .i64 0]) rfl (row_blank_calls 0 _ o490    _ hc580) ?_
      rintro _ w581 ⟨o582, rfl, st583⟩
      replace f494 := f494.st st583 (by decide)
      replace f5 := f5.st st583 (by decide)
      replace f900000 := f900000.st st583 (by decide)
      replace hs := hs.loc0 st583 (by decide)
      have hk := hk.put 24 (.agg #[.int .i32 t579.Rune, .int .i64 t579.Style, .int .i64 t579.Part]) rfl
      refine ⟨.inr ⟨f494.now, f5.now, trivial⟩, ?_⟩
      refine xd_take tab hk (k := 0) (is := [16, 17]) (ls' := #[true, true, true, true, true, true, true, true, true, true, true, true, true, true, true, true, true, true]) (lv := [.bool (eqT82 (rdD zT82 l493 (IntKind.wrap .i64 (((l493).length : Int) - 1))) t579)]) (ks := [1, 3, 26]) (e' := [(1, .pointer (some ⟨bx4, 0, none⟩)), (3, .slice (some ad575) (l493).length c492), (26, .bool (eqT82 (rdD zT82 l493 (IntKind.wrap .i64 (((l493).length : Int) - 1))) t579))]) (by kernel_rfl) rfl rfl (by kernel_rfl) (np_then (np_then (np_then (np_blk (np_then np_body))))) ⟨f494.now, f5.now, trivial⟩ (fun W_ hS => ⟨(ask_eq tab stood rfl rfl rfl rfl), trivial⟩) fun a hk => ?_
      refine xd_done (by kernel_rfl) ?_
      refine then_n ?_
      cases b584 : (eqT82 (rdD zT82 l493 (IntKind.wrap .i64 (((l493).length : Int) - 1))) t579)
      · rw [b584] at hk H
        replace H := bifF H
        refine x_if hk (b := false) rfl ?_
        refine (show Code.wpIn _ _ _ _ _ _ _ from ?_)
        refine wpIn_exit ?_
        refine then_x ?_
        refine then_x ?_
        refine blk_x ?_
        refine then_n ?_
        exact ⟨o582, (some ad575), c492, l493, (by exact Kn.pick (ks := [3]) hk rfl), hs, f494, hc495, H⟩
      · rw [b584] at hk H
        replace H := bifT H
        refine x_if hk (b := true) rfl ?_
        refine (show Code.wpIn _ _ _ _ _ _ _ from ?_)
        refine wpIn_skip ?_
        refine then_n ?_
        refine wpIn_block ?_
        refine wpIn_region_lit ?_
        obtain ⟨q585, H⟩ := ifS H
        obtain ⟨q586, H⟩ := ifS H
        obtain ⟨A587, c588, ak590, f589, hc591⟩ := ask_cut (P := Tryd.prog) tab (t := 25) rfl rfl f494 hc495 none (some (.int .i64 (IntKind.wrap .i64 (((l493).length : Int) - 1)))) rfl ⟨q585, (by have := q586; have := hc495; omega), trivial⟩ (by have := q585; have := q586; omega) (by have := q585; have := q586; omega)
        refine x_run tab hk (k := 6) (lv := [.slice A587 ((List.drop 0 (List.take (Int.toNat (IntKind.wrap .i64 (((l493).length : Int) - 1))) l493))).length c588]) (ks := [1, 3]) (e' := [(1, .pointer (some ⟨bx4, 0, none⟩)), (3, .slice A587 ((List.drop 0 (List.take (Int.toNat (IntKind.wrap .i64 (((l493).length : Int) - 1))) l493))).length c588)]) rfl ⟨(ak590 rfl rfl rfl _), trivial⟩ fun a hk => ?_
        refine wpListIn_nil ?_
        refine blk_n ?_
        refine then_n ?_
        exact ⟨k543, Nat.le_refl _, o582, A587, c588, (List.drop 0 (List.take (Int.toNat (IntKind.wrap .i64 (((l493).length : Int) - 1))) l493)), (by exact Kn.pick (ks := [1, 3]) hk rfl), hs, f589, f5, f900000, hc591, (hlp545 ▸ H)⟩

/-! slices.Clone[[]tidewrack/row.Glyph,tidewrack/row.Glyph] -/
theorem slices_Clone'_calls (Ap0 : Option Addr) (cp0 : Nat) (p0 : List T49) (w : World) (o : Nat → Nat) (Lp0 : Nat) (hp0 : Ft (RdC ET49 Ap0 p0) w o Lp0) (hcp0 : (p0).length ≤ cp0)  (R0 : Nat) (r : List T49) (H : slices_Clone' p0 = some r) :
    Calls Tryd.prog 36 #[.slice Ap0 (p0).length cp0] w (Ret fun v_ w' => ∃ o' : Nat → Nat, ∃ A0 : Option Addr, ∃ c0 : Nat, v_ = .slice A0 (r).length c0 ∧ St [] w o w' o' ∧ Ft (Own ET49 50 (.slice A0 (r).length c0) (r)) w' o' R0 ∧ (r).length ≤ c0) := by
  refine x_enter (vs := [.slice Ap0 (p0).length cp0]) Tryd.func36 rfl rfl rfl fun a hk => ?_
  obtain ⟨o0, hs, h0⟩ := St.start w o
  have f900000 := h0 _ _ hp0
  clear h0
  rw [slices_Clone'] at H
  refine x_seq ?_
  refine wpIn_region_lit ?_
  refine x_run tab hk (k := 1) (lv := []) (ks := [0]) (e' := [(0, .slice Ap0 (p0).length cp0)]) rfl trivial fun a hk => ?_
  refine wpListIn_nil ?_
  refine then_n ?_
  refine x_seq ?_
  refine x_seq ?_
  refine wpIn_region_lit ?_
  refine x_run tab hk (k := 1) (lv := []) (ks := [0, 3]) (e' := [(0, .slice Ap0 (p0).length cp0), (3, .slice Ap0 (p0).length cp0)]) rfl trivial fun a hk => ?_
  rcases none_or Ap0 with hAad1 | ⟨ad1, hAad1⟩
  · have hk_C := hk
    have f900000_C := f900000
    subst hAad1
    have hk := hk_C
    clear hk_C
    have f900000 := f900000_C
    clear f900000_C
    have hz2 : p0 = [] := RdC.none f900000.now
    replace H : (some ([] : List T49)) = some r := by (try rw [hz2] at H); simpa using H
    refine x_run tab hk (k := 1) (lv := []) (ks := [0, 4]) (e' := [(0, .slice none (p0).length cp0), (4, .bool true)]) rfl trivial fun a hk => ?_
    refine wpListIn_nil ?_
    refine then_n ?_
    refine x_if hk (b := true) rfl ?_
    refine (show Code.wpIn _ _ _ _ _ _ _ from ?_)
    refine x_seq ?_
    refine wpIn_region_lit ?_
    refine x_run tab hk (k := 1) (lv := []) (ks := [2]) (e' := [(2, .slice none 0 0)]) rfl trivial fun a hk => ?_
    refine wpListIn_nil ?_
    refine then_n ?_
    refine wpIn_ret ?_
    refine then_r ?_
    obtain rfl := Option.some.inj H
    exact x_retG hk (rs := [.tmp 2]) (vs := [.slice none 0 0]) rfl ⟨rfl, trivial⟩ ⟨fun b_ => if b_ < w.heap.size then o b_ else (fun _ => 0) (o0 b_), none, 0, rfl, hs.close0 o (fun _ => 0), (Ft.of_all (fun _ => Own.nil _ _ _) _ _ _), (by simp)⟩
  · have hk_C := hk
    have f900000_C := f900000
    subst hAad1
    have hk := hk_C
    clear hk_C
    have f900000 := f900000_C
    clear f900000_C
    refine x_run tab hk (k := 1) (lv := []) (ks := [0, 4]) (e' := [(0, .slice (some ad1) (p0).length cp0), (4, .bool false)]) rfl trivial fun a hk => ?_
    refine wpListIn_nil ?_
    refine then_n ?_
    refine x_if hk (b := false) rfl ?_
    refine (show Code.wpIn _ _ _ _ _ _ _ from ?_)
    refine wpIn_skip ?_
    refine then_n ?_
    refine x_seq ?_
    refine wpIn_region_lit ?_
    refine x_op hk rfl ?_
    refine op_slice (o := o0) tab hk (vs := []) (cs := []) rfl rfl rfl rfl rfl rfl rfl rfl rfl 1 fun bx6 w3 o4 st5 f7 => ?_
    replace f900000 := f900000.st st5 (by decide)
    replace hs := hs.loc0 st5 (by decide)
    have f8 : Ft (Own ET49 50 (.slice (some ⟨bx6, 0, none⟩) (([] : List T49)).length 0) ([] : List T49)) w3 o4 1 := f7.imp fun _ h_ => Own.of_box h_ rfl (by simp)
    have hk := hk.put 5 (.slice (some ⟨bx6, 0, none⟩) (([] : List T49)).length 0) rfl
    refine x_run tab hk (k := 1) (lv := []) (ks := [5, 6]) (e' := [(5, .slice (some ⟨bx6, 0, none⟩) (([] : List T49)).length 0), (6, .slice (some ad1) (p0).length cp0)]) rfl trivial fun a hk => ?_
    refine x_op hk rfl ?_
    obtain ⟨q12, H⟩ := ifS H
    refine op_append (o := o4) (E := ET49) (xs := ([] : List T49)) (ys := p0) tab hk rfl rfl rfl rfl rfl rfl rfl f8 f900000.now q12 fun A13 c14 w9 o10 st11 f15 hc16 => ?_
    replace f900000 := f900000.st st11 (by decide)
    replace hs := hs.loc0 st11 (by decide)
    have hk := hk.put 7 (.slice A13 ((([] : List T49) ++ p0)).length c14) rfl
    refine x_run tab hk (k := 1) (lv := []) (ks := [2]) (e' := [(2, .slice A13 ((([] : List T49) ++ p0)).length c14)]) rfl trivial fun a hk => ?_
    refine wpListIn_nil ?_
    refine then_n ?_
    refine wpIn_ret ?_
    obtain rfl := Option.some.inj H
    exact x_retG hk (rs := [.tmp 2]) (vs := [.slice A13 ((([] : List T49) ++ p0)).length c14]) rfl ⟨rfl, trivial⟩ ⟨fun b_ => if b_ < w.heap.size then o b_ else (fun _ => R0) (o10 b_), A13, c14, rfl, hs.close0 o (fun _ => R0), hs.close_ft (o := o) (ρ := fun _ => R0) f15 (by decide) rfl, hc16⟩

/-! tidewrack/num.clip -/
theorem num_clip_calls (p0 : Int) (w : World) (o : Nat → Nat)   (r : Int) (H : num_clip p0 = some r) :
    Calls Tryd.prog 59 #[.int .i64 p0] w (Ret fun v_ w' => ∃ o' : Nat → Nat, v_ = .int .i64 r ∧ St [] w o w' o') := by
  refine x_enter (vs := [.int .i64 p0]) Tryd.func59 rfl rfl rfl fun a hk => ?_
  obtain ⟨o0, hs, h0⟩ := St.start w o
  clear h0
  rw [num_clip] at H
  refine x_seq ?_
  refine wpIn_region_lit ?_
  refine x_run tab hk (k := 1) (lv := []) (ks := [0]) (e' := [(0, .int .i64 p0)]) rfl trivial fun a hk => ?_
  refine wpListIn_nil ?_
  refine then_n ?_
  refine x_seq ?_
  refine wpIn_region_lit ?_
  refine x_run tab hk (k := 4) (lv := []) (ks := [2]) (e' := [(2, .int .i64 (mxI 0 (mnI p0 4611686018427387904)))]) rfl trivial fun a hk => ?_
  refine wpListIn_nil ?_
  refine then_n ?_
  refine wpIn_ret ?_
  obtain rfl := Option.some.inj H
  exact x_retG hk (rs := [.tmp 2]) (vs := [.int .i64 (mxI 0 (mnI p0 4611686018427387904))]) rfl ⟨rfl, trivial⟩ ⟨fun b_ => if b_ < w.heap.size then o b_ else (fun _ => 0) (o0 b_), rfl, hs.close0 o (fun _ => 0)⟩

/-! tidewrack/num.digits$1 -/
theorem num_digits_1_iter (K : Nat) (bp1 : Nat) (p1 : Int) (w : World) (o : Nat → Nat) (Lp1 : Nat) (hp1 : Ft (Bx bp1 3 [.int .i64 p1]) w o Lp1) (hd0 : ([Lp1] : List Nat).Nodup) (r : List Int) (H : num_digits_1 K p1 = some r) :
    IterC Tryd.prog 58 [] [.pointer (some ⟨bp1, 0, none⟩)] (fun (x_ : Int) vs_ _ => vs_ = [.int .u8 x_]) none r w o [Lp1] [] := by
  refine iter_start hd0 (fun _ h_ => by cases h_) fun l_ JJ XX Res w1 oi h1 h2 h3 hJ hX hRl hY hE0 hE1 hs => ?_
  refine x_enter (vs := [.func (.yield l_) #[] #[], .pointer (some ⟨bp1, 0, none⟩)]) Tryd.func58 rfl rfl rfl fun a hk => ?_
  have f900039 := h1 0 1 hp1 rfl rfl
  clear h1 h2 h3
  rw [num_digits_1] at H
  refine x_mid (fun a_ w_ => ∃ o61 : Nat → Nat, ∃ r62 : List Int, ∃ x63 : Int, Kn 20 a_ [(0, .func (.yield l_) #[] #[]), (1, .pointer (some ⟨bp1, 0, none⟩))] ∧ JJ r62 w_ o61 ∧ Ft (Bx bp1 3 [.int .i64 x63]) w_ o61 1 ∧ num_digits_1_j1 x63 = some r62) ?_ ?_
  rotate_left
  · rintro a w64 ⟨o61, r62, x63, hk, hs, f900039, H⟩
    rw [num_digits_1_j1] at H
    refine wpIn_region_lit ?_
    refine x_run tab hk (k := 3) (lv := [.int .i64 x63]) (ks := [16, 18]) (e' := [(16, .func (.yield l_) #[] #[]), (18, .int .u8 (IntKind.wrap .u8 x63))]) rfl ⟨(load1 tab rfl ((Bx.cell f900039.now 0).trans rfl)), trivial⟩ fun a hk => ?_
    refine x_op hk rfl ?_
    obtain ⟨r65, hr66, H⟩ := consS H
    rw [hr66] at hs
    refine op_yield hk rfl (vs := [.int .u8 (IntKind.wrap .u8 x63)]) rfl (hY hs (fun _ => rfl)) ?_
    rintro b67 w68 ⟨o69, st70, ht_, hf_⟩
    replace f900039 := f900039.st st70 (by decide)
    cases b67
    · have hs := hf_ rfl
      have hk := hk.put 19 (.bool false) rfl
      refine wpListIn_nil ?_
      exact x_endG hk (rs := []) (vs := []) rfl trivial (hE1 hs)
    · have hs := ht_ rfl
      have hk := hk.put 19 (.bool true) rfl
      refine wpListIn_nil ?_
      obtain rfl := Option.some.inj H
      exact x_endG hk (rs := []) (vs := []) rfl trivial (hE0 hs)
  refine x_seq ?_
  refine wpIn_region_lit ?_
  refine x_run tab hk (k := 1) (lv := [.int .i64 p1]) (ks := [0, 1, 3]) (e' := [(0, .func (.yield l_) #[] #[]), (1, .pointer (some ⟨bp1, 0, none⟩)), (3, .int .i64 p1)]) rfl ⟨(load1 tab rfl ((Bx.cell f900039.now 0).trans rfl)), trivial⟩ fun a hk => ?_
  refine x_op hk rfl ?_
  obtain ⟨t74, hc75, H⟩ := bindS H
  refine op_call hk ent_59 (vs := [.int .i64 p1]) rfl (num_clip_calls p1 _ oi    _ hc75) ?_
  rintro _ w76 ⟨o77, rfl, st78⟩
  replace f900039 := f900039.st st78 (by decide)
  replace hs := hJ hs st78 rfl
  have hk := hk.put 4 (.int .i64 t74) rfl
  refine x_op hk rfl ?_
  refine op_store tab hk (t := 3) (v := .int .i64 t74) (b := bp1) (k := 0) (cs' := [.int .i64 t74]) rfl rfl rfl rfl rfl rfl f900039 rfl rfl fun w79 o80 st81 f900039_ => ?_
  replace hs := hJ hs st81 rfl
  replace f900039 := f900039_
  refine wpListIn_nil ?_
  refine then_n ?_
  refine wpIn_block ?_
  refine x_loop (fun j_ a_ w_ => ∃ o96 : Nat → Nat, ∃ r97 : List Int, ∃ x98 : Int, Kn 20 a_ [(0, .func (.yield l_) #[] #[]), (1, .pointer (some ⟨bp1, 0, none⟩))] ∧ JJ r97 w_ o96 ∧ Ft (Bx bp1 3 [.int .i64 x98]) w_ o96 1 ∧ num_digits_1_l2 j_ x98 = some r97) (k := K) ⟨o80, r, t74, (by exact Kn.pick (ks := [0, 1]) hk rfl), hs, f900039, H⟩ (by rintro _ _ ⟨_, _, _, _, _, _, H_⟩; exact absurd (show (none : Option (List Int)) = some _ from H_) (by simp)) ?_
  rintro k110 a w109 ⟨o96, r97, x98, hk, hs, f900039, H⟩
  rw [num_digits_1_l2] at H
  obtain ⟨lp111, hlp112⟩ : ∃ lp_, lp_ = num_digits_1_l2 k110 := ⟨_, rfl⟩
  rw [← hlp112] at H
  refine x_seq ?_
  refine x_seq ?_
  refine wpIn_region_lit ?_
  refine x_run tab hk (k := 2) (lv := [.int .i64 x98]) (ks := [0, 1, 6]) (e' := [(0, .func (.yield l_) #[] #[]), (1, .pointer (some ⟨bp1, 0, none⟩)), (6, .bool (decide (x98 ≥ (128 : Int))))]) rfl ⟨(load1 tab rfl ((Bx.cell f900039.now 0).trans rfl)), trivial⟩ fun a hk => ?_
  refine wpListIn_nil ?_
  refine then_n ?_
  cases b113 : (decide (x98 ≥ (128 : Int)))
  · rw [b113] at hk H
    replace H := bifF H
    refine x_if hk (b := false) rfl ?_
    refine (show Code.wpIn _ _ _ _ _ _ _ from ?_)
    refine wpIn_exit ?_
    refine then_x ?_
    refine then_x ?_
    refine blk_x ?_
    refine then_n ?_
    exact ⟨o96, r97, x98, (by exact Kn.pick (ks := [0, 1]) hk rfl), hs, f900039, H⟩
  · rw [b113] at hk H
    replace H := bifT H
    refine x_if hk (b := true) rfl ?_
    refine (show Code.wpIn _ _ _ _ _ _ _ from ?_)
    refine wpIn_skip ?_
    refine then_n ?_
    refine x_seq ?_
    refine wpIn_block ?_
    refine x_seq ?_
    refine wpIn_region_lit ?_
    refine x_run tab hk (k := 5) (lv := [.int .i64 x98]) (ks := [0, 1, 9, 13]) (e' := [(0, .func (.yield l_) #[] #[]), (1, .pointer (some ⟨bp1, 0, none⟩)), (9, .func (.yield l_) #[] #[]), (13, .int .u8 (bits .or .u8 (bits .and .u8 (IntKind.wrap .u8 x98) 127) 128))]) rfl ⟨(load1 tab rfl ((Bx.cell f900039.now 0).trans rfl)), trivial⟩ fun a hk => ?_
    refine x_op hk rfl ?_
    obtain ⟨r114, hr115, H⟩ := consS H
    rw [hr115] at hs
    refine op_yield hk rfl (vs := [.int .u8 (bits .or .u8 (bits .and .u8 (IntKind.wrap .u8 x98) 127) 128)]) rfl (hY hs (fun _ => rfl)) ?_
    rintro b116 w117 ⟨o118, st119, ht_, hf_⟩
    replace f900039 := f900039.st st119 (by decide)
    cases b116
    · have hs := hf_ rfl
      have hk := hk.put 14 (.bool false) rfl
      refine x_run tab hk (k := 1) (lv := []) (ks := [0, 1, 15]) (e' := [(0, .func (.yield l_) #[] #[]), (1, .pointer (some ⟨bp1, 0, none⟩)), (15, .bool true)]) rfl trivial fun a hk => ?_
      refine wpListIn_nil ?_
      refine then_n ?_
      refine x_if hk (b := true) rfl ?_
      refine (show Code.wpIn _ _ _ _ _ _ _ from ?_)
      refine wpIn_ret ?_
      refine blk_r ?_
      refine then_r ?_
      refine then_r ?_
      refine blk_r ?_
      refine then_r ?_
      exact x_retG hk (rs := []) (vs := []) rfl trivial (hE1 hs)
    · have hs := ht_ rfl
      have hk := hk.put 14 (.bool true) rfl
      refine x_run tab hk (k := 1) (lv := []) (ks := [0, 1, 15]) (e' := [(0, .func (.yield l_) #[] #[]), (1, .pointer (some ⟨bp1, 0, none⟩)), (15, .bool false)]) rfl trivial fun a hk => ?_
      refine wpListIn_nil ?_
      refine then_n ?_
      refine x_if hk (b := false) rfl ?_
      refine (show Code.wpIn _ _ _ _ _ _ _ from ?_)
      refine wpIn_skip ?_
      refine blk_n ?_
      refine then_n ?_
      refine wpIn_region_lit ?_
      refine x_run tab hk (k := 2) (lv := [.int .i64 x98]) (ks := [0, 1, 8]) (e' := [(0, .func (.yield l_) #[] #[]), (1, .pointer (some ⟨bp1, 0, none⟩)), (8, .int .i64 (Int.fdiv x98 (2 ^ min (Int.toNat 7) 64)))]) rfl ⟨(load1 tab rfl ((Bx.cell f900039.now 0).trans rfl)), (show 0 ≤ (7 : Int) from by decide), trivial⟩ fun a hk => ?_
      refine x_op hk rfl ?_
      refine op_store tab hk (t := 3) (v := .int .i64 (Int.fdiv x98 (2 ^ min (Int.toNat 7) 64))) (b := bp1) (k := 0) (cs' := [.int .i64 (Int.fdiv x98 (2 ^ min (Int.toNat 7) 64))]) rfl rfl rfl rfl rfl rfl f900039 rfl rfl fun w120 o121 st122 f900039_ => ?_
      replace hs := hJ hs st122 rfl
      replace f900039 := f900039_
      refine wpListIn_nil ?_
      refine then_n ?_
      exact ⟨k110, Nat.le_refl _, o121, r114, (Int.fdiv x98 (2 ^ min (Int.toNat 7) 64)), (by exact Kn.pick (ks := [0, 1]) hk rfl), hs, f900039, (hlp112 ▸ H)⟩

/-! tidewrack/num.digits -/
theorem num_digits_calls (p0 : Int) (w : World) (o : Nat → Nat)   (R0 : Nat) (r : Int) (H : num_digits p0 = some r) :
    Calls Tryd.prog 52 #[.int .i64 p0] w (Ret fun v_ w' => ∃ o' : Nat → Nat, ∃ b0 : Nat, v_ = .func (.func 58) #[] #[.pointer (some ⟨b0, 0, none⟩)] ∧ St [] w o w' o' ∧ Ft (Bx b0 3 [.int .i64 r]) w' o' R0) := by
  refine x_enter (vs := [.int .i64 p0]) Tryd.func52 rfl rfl rfl fun a hk => ?_
  obtain ⟨o0, hs, h0⟩ := St.start w o
  clear h0
  rw [num_digits] at H
  refine x_seq ?_
  refine wpIn_region_lit ?_
  refine x_op hk rfl ?_
  refine op_box (o := o0) (t := 3) (v := .int .i64 p0) (cs := [.int .i64 p0]) hk rfl rfl 1 fun bx4 w1 o2 st3 f5 => ?_
  replace hs := hs.loc0 st3 (by decide)
  have hk := hk.put 1 (.pointer (some ⟨bx4, 0, none⟩)) rfl
  refine x_run tab hk (k := 1) (lv := []) (ks := [1]) (e' := [(1, .pointer (some ⟨bx4, 0, none⟩))]) rfl trivial fun a hk => ?_
  refine wpListIn_nil ?_
  refine then_n ?_
  refine x_seq ?_
  refine wpIn_region_lit ?_
  refine x_run tab hk (k := 2) (lv := []) (ks := [2]) (e' := [(2, .func (.func 58) #[] #[.pointer (some ⟨bx4, 0, none⟩)])]) rfl trivial fun a hk => ?_
  refine wpListIn_nil ?_
  refine then_n ?_
  refine wpIn_ret ?_
  obtain rfl := Option.some.inj H
  exact x_retG hk (rs := [.tmp 2]) (vs := [.func (.func 58) #[] #[.pointer (some ⟨bx4, 0, none⟩)]]) rfl ⟨rfl, trivial⟩ ⟨fun b_ => if b_ < w.heap.size then o b_ else (fun _ => R0) (o2 b_), bx4, rfl, hs.close0 o (fun _ => R0), hs.close_ft (o := o) (ρ := fun _ => R0) f5 (by decide) rfl⟩

/-! (*tidewrack/num.Out).Num -/
theorem num_Out_Num_calls (K : Nat) (bp0 : Nat) (Ap0_0 : Option Addr) (cp0_0 : Nat) (p0 : T94) (Ap1 : Option Addr) (cp1 : Nat) (p1 : List Int) (w : World) (o : Nat → Nat) (Lp0 : Nat) (hp0 : Ft (Bx bp0 95 [.slice Ap0_0 (p0.b).length cp0_0]) w o Lp0) (Lp0_0 : Nat) (hp0_0 : Ft (Own (encInt .u8) 5 (.slice Ap0_0 (p0.b).length cp0_0) p0.b) w o Lp0_0) (hcp0_0 : (p0.b).length ≤ cp0_0) (Lp1 : Nat) (hp1 : Ft (RdC (encInt .i64) Ap1 p1) w o Lp1) (hcp1 : (p1).length ≤ cp1) (hd0 : ([Lp0, Lp0_0] : List Nat).Nodup) (hd1 : Lp1 ∉ [Lp0, Lp0_0]) (r : T94) (H : num_Out_Num K p0 p1 = some r) :
    Calls Tryd.prog 42 #[.pointer (some ⟨bp0, 0, none⟩), .slice Ap1 (p1).length cp1] w (Ret fun v_ w' => ∃ o' : Nat → Nat, ∃ A0 : Option Addr, ∃ c0 : Nat, v_ = .pointer (some ⟨bp0, 0, none⟩) ∧ St [Lp0, Lp0_0] w o w' o' ∧ Ft (Bx bp0 95 [.slice A0 (r.b).length c0]) w' o' Lp0 ∧ Ft (Own (encInt .u8) 5 (.slice A0 (r.b).length c0) (r.b)) w' o' Lp0_0 ∧ (r.b).length ≤ c0) := by
  refine x_enterQ (vs := [.pointer (some ⟨bp0, 0, none⟩), .slice Ap1 (p1).length cp1]) Tryd.func42 rfl rfl rfl fun a hk => ?_
  obtain ⟨oi, hs0, h0, h1, hob, hoz, hoa⟩ := St.startM2 w o (m := 2) hd0 rfl
  have hs := hs0 [1, 2]
  have hom := lab_in hob (MM := [1, 2]) (by decide)
  have f900000 := h1 1 2 hp0_0 rfl rfl
  have f900019 := h1 0 1 hp0 rfl rfl
  have f900020 := h0 _ _ hd1 hp1
  have fxm : Ft (MK []) w oi 3 := Ft.of_all (fun _ => MK.nil _) _ _ _
  clear h0 h1 hs0
  rw [num_Out_Num] at H
  refine x_seq ?_
  refine wpIn_region_lit ?_
  refine x_op hk rfl ?_
  refine op_box (o := oi) (t := 96) (v := .pointer (some ⟨bp0, 0, none⟩)) (cs := [.pointer (some ⟨bp0, 0, none⟩)]) hk rfl rfl 4 fun bx4 w1 o2 st3 f5 => ?_
  replace f900000 := f900000.st st3 (by decide)
  replace f900019 := f900019.st st3 (by decide)
  replace f900020 := f900020.st st3 (by decide)
  replace fxm := fxm.st st3 (by decide)
  replace hs := hs.locM st3 (by decide) hom
  have hk := hk.put 2 (.pointer (some ⟨bx4, 0, none⟩)) rfl
  refine x_run tab hk (k := 1) (lv := []) (ks := [1, 2]) (e' := [(1, .slice Ap1 (p1).length cp1), (2, .pointer (some ⟨bx4, 0, none⟩))]) rfl trivial fun a hk => ?_
  refine wpListIn_nil ?_
  refine then_n ?_
  refine x_mid (fun a_ w_ => ∃ o5357 : Nat → Nat, ∃ ds5358 : List Deferred, ∃ A5359 : Option Addr, ∃ c5360 : Nat, ∃ l5361 : List Int, KnD 29 ds5358 a_ [(2, .pointer (some ⟨bx4, 0, none⟩))] ∧ St [1, 2] w oi w_ o5357 ∧ Ft (Bx bx4 96 [.pointer (some ⟨bp0, 0, none⟩)]) w_ o5357 310 ∧ Ft (Own (encInt .u8) 5 (.slice A5359 (l5361).length c5360) l5361) w_ o5357 2 ∧ Ft (Bx bp0 95 [.slice A5359 (l5361).length c5360]) w_ o5357 1 ∧ Ft (MK ds5358) w_ o5357 3 ∧ (l5361).length ≤ c5360 ∧ num_Out_Num_j1 l5361 = some r) ?_ ?_
  rotate_left
  · rintro a w5364 ⟨o5357, ds5358, A5359, c5360, l5361, hk, hs, f5, f5362, f900019, fxm, hc5363, H⟩
    rw [num_Out_Num_j1] at H
    refine x_seq ?_
    refine wpIn_region_lit ?_
    refine x_run tab hk (k := 2) (lv := [.pointer (some ⟨bp0, 0, none⟩)]) (ks := [4]) (e' := [(4, .pointer (some ⟨bp0, 0, none⟩))]) rfl ⟨(load1 tab rfl ((Bx.cell f5.now 0).trans rfl)), trivial⟩ fun a hk => ?_
    refine wpListIn_nil ?_
    refine then_n ?_
    refine wpIn_ret ?_
    refine x_retQ hk fxm fun w5365 a st5366 hk => ?_
    replace f5362 := f5362.st st5366 (by decide)
    replace f900019 := f900019.st st5366 (by decide)
    replace hs := hs.locM st5366 (by decide) hom
    obtain rfl := Option.some.inj H
    exact x_retG hk (rs := [.tmp 4]) (vs := [.pointer (some ⟨bp0, 0, none⟩)]) rfl ⟨rfl, trivial⟩ ⟨fun b_ => if b_ < w.heap.size then o b_ else (fun l_ => if l_ = 1 then Lp0 else if l_ = 2 then Lp0_0 else 0) (o5357 b_), A5359, c5360, rfl, hs.closeM hoz (by decide) (fun l_ => if l_ = 1 then Lp0 else if l_ = 2 then Lp0_0 else 0), hs.closeM_ft (o := o) (ρ := fun l_ => if l_ = 1 then Lp0 else if l_ = 2 then Lp0_0 else 0) f900019 (lab_at hoa (i := 0) rfl) rfl, hs.closeM_ft (o := o) (ρ := fun l_ => if l_ = 1 then Lp0 else if l_ = 2 then Lp0_0 else 0) f5362 (lab_at hoa (i := 1) rfl) rfl, hc5363⟩
  refine x_seq ?_
  refine wpIn_region_lit ?_
  refine x_run tab hk (k := 3) (lv := []) (ks := [2, 8, 9, 10]) (e' := [(2, .pointer (some ⟨bx4, 0, none⟩)), (8, .slice Ap1 (p1).length cp1), (9, .int .i64 ((p1).length : Int)), (10, .int .i64 0)]) rfl trivial fun a hk => ?_
  refine wpListIn_nil ?_
  refine then_n ?_
  refine wpIn_block ?_
  refine x_loop (fun j_ a_ w_ => ∃ o7144 : Nat → Nat, ∃ ds7145 : List Deferred, ∃ A7146 : Option Addr, ∃ c7147 : Nat, ∃ l7148 : List Int, ∃ A7151 : Option Addr, ∃ c7152 : Nat, ∃ x7155 : Int, KnD 29 ds7145 a_ [(2, .pointer (some ⟨bx4, 0, none⟩)), (8, .slice A7151 (p1).length c7152), (9, .int .i64 ((p1).length : Int)), (10, .int .i64 x7155)] ∧ St [1, 2] w oi w_ o7144 ∧ Ft (Bx bx4 96 [.pointer (some ⟨bp0, 0, none⟩)]) w_ o7144 413 ∧ Ft (Own (encInt .u8) 5 (.slice A7146 (l7148).length c7147) l7148) w_ o7144 2 ∧ Ft (RdC (encInt .i64) A7151 p1) w_ o7144 0 ∧ Ft (Bx bp0 95 [.slice A7146 (l7148).length c7147]) w_ o7144 1 ∧ Ft (MK ds7145) w_ o7144 3 ∧ (l7148).length ≤ c7147 ∧ (p1).length ≤ c7152 ∧ num_Out_Num_l2 K p1 j_ l7148 x7155 = some r) (k := K) ⟨(fun b_ => (fun l_ => if l_ = 4 then 413 else l_) (o2 b_)), [], Ap0_0, cp0_0, p0.b, Ap1, cp1, 0, (by exact Kn.pick (ks := [2, 8, 9, 10]) hk rfl), (hs.relabM hob (fun l_ => if l_ = 4 then 413 else l_) (by decide)), (f5.relab (fun l_ => if l_ = 4 then 413 else l_) rfl), (f900000.relab (fun l_ => if l_ = 4 then 413 else l_) rfl), (f900020.relab (fun l_ => if l_ = 4 then 413 else l_) rfl), (f900019.relab (fun l_ => if l_ = 4 then 413 else l_) rfl), (fxm.relab (fun l_ => if l_ = 4 then 413 else l_) rfl), hcp0_0, hcp1, H⟩ (by rintro _ _ ⟨_, _, _, _, _, _, _, _, _, _, _, _, _, _, _, _, _, H_⟩; exact absurd (show (none : Option T94) = some r from H_) (by simp)) ?_
  rintro k8930 a w8929 ⟨o7144, ds7145, A7146, c7147, l7148, A7151, c7152, x7155, hk, hs, f5, f7149, f7153, f900019, fxm, hc7150, hc7154, H⟩
  rw [num_Out_Num_l2] at H
  obtain ⟨lp8931, hlp8932⟩ : ∃ lp_, lp_ = num_Out_Num_l2 K p1 k8930 := ⟨_, rfl⟩
  rw [← hlp8932] at H
  refine x_seq ?_
  refine wpIn_region_lit ?_
  refine x_run tab hk (k := 1) (lv := []) (ks := [2, 8, 9, 10, 11]) (e' := [(2, .pointer (some ⟨bx4, 0, none⟩)), (8, .slice A7151 (p1).length c7152), (9, .int .i64 ((p1).length : Int)), (10, .int .i64 x7155), (11, .bool (decide (x7155 < ((p1).length : Int))))]) rfl trivial fun a hk => ?_
  refine wpListIn_nil ?_
  refine then_n ?_
  refine x_seq ?_
  cases b8933 : (decide (x7155 < ((p1).length : Int)))
  · rw [b8933] at hk H
    replace H := bifF H
    refine x_if hk (b := false) rfl ?_
    refine (show Code.wpIn _ _ _ _ _ _ _ from ?_)
    refine wpIn_exit ?_
    refine then_x ?_
    refine then_x ?_
    refine blk_x ?_
    refine then_n ?_
    exact ⟨(fun b_ => (fun l_ => if l_ = 413 then 310 else l_) (o7144 b_)), ds7145, A7146, c7147, l7148, (by exact Kn.pick (ks := [2]) hk rfl), (hs.relabM hob (fun l_ => if l_ = 413 then 310 else l_) (by decide)), (f5.relab (fun l_ => if l_ = 413 then 310 else l_) rfl), (f7149.relab (fun l_ => if l_ = 413 then 310 else l_) rfl), (f900019.relab (fun l_ => if l_ = 413 then 310 else l_) rfl), (fxm.relab (fun l_ => if l_ = 413 then 310 else l_) rfl), hc7150, H⟩
  · rw [b8933] at hk H
    replace H := bifT H
    refine x_if hk (b := true) rfl ?_
    refine (show Code.wpIn _ _ _ _ _ _ _ from ?_)
    refine wpIn_skip ?_
    refine then_n ?_
    refine x_mid (fun a_ w_ => ∃ o9822 : Nat → Nat, ∃ ds9823 : List Deferred, ∃ A9824 : Option Addr, ∃ c9825 : Nat, ∃ l9826 : List Int, ∃ A9829 : Option Addr, ∃ c9830 : Nat, KnD 29 ds9823 a_ [(2, .pointer (some ⟨bx4, 0, none⟩)), (8, .slice A9829 (p1).length c9830), (9, .int .i64 ((p1).length : Int)), (10, .int .i64 x7155)] ∧ St [1, 2] w oi w_ o9822 ∧ Ft (Bx bx4 96 [.pointer (some ⟨bp0, 0, none⟩)]) w_ o9822 565 ∧ Ft (Bx bp0 95 [.slice A9824 (l9826).length c9825]) w_ o9822 1 ∧ Ft (Own (encInt .u8) 5 (.slice A9824 (l9826).length c9825) l9826) w_ o9822 2 ∧ Ft (RdC (encInt .i64) A9829 p1) w_ o9822 0 ∧ Ft (MK ds9823) w_ o9822 3 ∧ (l9826).length ≤ c9825 ∧ (p1).length ≤ c9830 ∧ num_Out_Num_j3 x7155 lp8931 l9826 = some r) ?_ ?_
    rotate_left
    · rintro a w9833 ⟨o9822, ds9823, A9824, c9825, l9826, A9829, c9830, hk, hs, f5, f900019, f9827, f9831, fxm, hc9828, hc9832, H⟩
      rw [num_Out_Num_j3] at H
      refine wpIn_region_lit ?_
      refine x_run tab hk (k := 2) (lv := []) (ks := [2, 8, 9, 10]) (e' := [(2, .pointer (some ⟨bx4, 0, none⟩)), (8, .slice A9829 (p1).length c9830), (9, .int .i64 ((p1).length : Int)), (10, .int .i64 (IntKind.wrap .i64 (x7155 + 1)))]) rfl trivial fun a hk => ?_
      refine wpListIn_nil ?_
      refine then_n ?_
      exact ⟨k8930, Nat.le_refl _, (fun b_ => (fun l_ => if l_ = 565 then 413 else l_) (o9822 b_)), ds9823, A9824, c9825, l9826, A9829, c9830, (IntKind.wrap .i64 (x7155 + 1)), (by exact Kn.pick (ks := [2, 8, 9, 10]) hk rfl), (hs.relabM hob (fun l_ => if l_ = 565 then 413 else l_) (by decide)), (f5.relab (fun l_ => if l_ = 565 then 413 else l_) rfl), (f9827.relab (fun l_ => if l_ = 565 then 413 else l_) rfl), (f9831.relab (fun l_ => if l_ = 565 then 413 else l_) rfl), (f900019.relab (fun l_ => if l_ = 565 then 413 else l_) rfl), (fxm.relab (fun l_ => if l_ = 565 then 413 else l_) rfl), hc9828, hc9832, (hlp8932 ▸ H)⟩
    refine wpIn_block ?_
    refine x_seq ?_
    refine wpIn_region_lit ?_
    obtain ⟨q9834, H⟩ := ifS H
    obtain ⟨ad9835, hAad9835⟩ := RdC.addr f7153.now q9834
    have hk_C := hk
    have f5_C := f5
    have f7149_C := f7149
    have f7153_C := f7153
    have f900019_C := f900019
    have fxm_C := fxm
    subst hAad9835
    have hk := hk_C
    clear hk_C
    have f5 := f5_C
    clear f5_C
    have f7149 := f7149_C
    clear f7149_C
    have f7153 := f7153_C
    clear f7153_C
    have f900019 := f900019_C
    clear f900019_C
    have fxm := fxm_C
    clear fxm_C
    refine x_run tab hk (k := 3) (lv := [.int .i64 (rdD 0 p1 x7155)]) (ks := [2, 6, 8, 9, 10]) (e' := [(2, .pointer (some ⟨bx4, 0, none⟩)), (6, .int .i64 (rdD 0 p1 x7155)), (8, .slice (some ad9835) (p1).length c7152), (9, .int .i64 ((p1).length : Int)), (10, .int .i64 x7155)]) rfl ⟨q9834, (load1 tab rfl (RdC.at0 (E := (encInt .i64)) (d := 0) (i := x7155) f7153.now q9834 rfl)), trivial⟩ fun a hk => ?_
    refine wpListIn_nil ?_
    refine then_n ?_
    refine x_seq ?_
    refine wpIn_region_lit ?_
    refine x_run tab hk (k := 1) (lv := []) (ks := [2, 8, 9, 10, 14]) (e' := [(2, .pointer (some ⟨bx4, 0, none⟩)), (8, .slice (some ad9835) (p1).length c7152), (9, .int .i64 ((p1).length : Int)), (10, .int .i64 x7155), (14, .int .i64 (rdD 0 p1 x7155))]) rfl trivial fun a hk => ?_
    refine x_op hk rfl ?_
    obtain ⟨t9839, hc9840, H⟩ := bindS H
    refine op_call hk ent_52 (vs := [.int .i64 (rdD 0 p1 x7155)]) rfl (num_digits_calls (rdD 0 p1 x7155) _ o7144  566  _ hc9840) ?_
    rintro _ w9841 ⟨o9842, bx9844, rfl, st9843, f9845⟩
    replace f5 := f5.st st9843 (by decide)
    replace f7149 := f7149.st st9843 (by decide)
    replace f7153 := f7153.st st9843 (by decide)
    replace f900019 := f900019.st st9843 (by decide)
    replace fxm := fxm.st st9843 (by decide)
    replace hs := hs.locM st9843 (by decide) hom
    have hk := hk.put 15 (.func (.func 58) #[] #[.pointer (some ⟨bx9844, 0, none⟩)]) rfl
    refine wpListIn_nil ?_
    refine then_n ?_
    refine wpIn_block ?_
    obtain ⟨ys9846, hy9847, H⟩ := bindS H
    refine x_range 3 567 568 [1, 2] hk rfl ent_58 (num_digits_1_iter K bx9844 t9839 _ _ 566 f9845 (by decide) _ hy9847) fxm (fun _ _ _ h_ => by subst h_; rfl) rfl rfl (fun rr_ w_ o10140 => ∃ A10141 : Option Addr, ∃ c10142 : Nat, ∃ l10143 : List Int, St [1, 2] w oi w_ o10140 ∧ Ft (Own (encInt .u8) 5 (.slice A10141 (l10143).length c10142) l10143) w_ o10140 2 ∧ Ft (Bx bx4 96 [.pointer (some ⟨bp0, 0, none⟩)]) w_ o10140 413 ∧ Ft (RdC (encInt .i64) (some ad9835) p1) w_ o10140 0 ∧ Ft (Bx bp0 95 [.slice A10141 (l10143).length c10142]) w_ o10140 1 ∧ (l10143).length ≤ c10142 ∧ num_Out_Num_r4 x7155 lp8931 rr_ l10143 = some r) (fun c_ w_ o10424 => False) ?_ ?_ ⟨A7146, c7147, l7148, hs, f7149, f5, f7153, f900019, hc7150, H⟩ ?_ ?_ ?_
    · rintro rr_ w_ _ _ _ ⟨A10141, c10142, l10143, hs, f10144, f5, f7153, f900019, hc10145, H⟩ st_
      exact ⟨A10141, c10142, l10143, hs.locM st_ (by decide) hom, f10144.st st_ (by decide), f5.st st_ (by decide), f7153.st st_ (by decide), f900019.st st_ (by decide), hc10145, H⟩
    · exact fun _ _ _ _ _ h_ _ => h_.elim
    · rintro R0_ R1_ lr_ x9848 vs_ rest9849 w9850 o9851 ⟨A10141, c10142, l10143, hsO, f10144, f5, f7153, f900019, hc10145, H⟩ hE fxr a hk
      obtain rfl : vs_ = [.int .u8 x9848] := hE w9850
      obtain ⟨o9852, hs0, hfl, hbB, hoi⟩ := St.startB w9850 o9851 584
      have hs := hs0 [567, 1, 2]
      replace f10144 := hfl f10144 rfl
      replace f5 := hfl f5 rfl
      replace f7153 := hfl f7153 rfl
      replace f900019 := hfl f900019 rfl
      replace fxr := hfl fxr rfl
      replace hk : Kn 29 a [(2, .pointer (some ⟨bx4, 0, none⟩)), (8, .slice (some ad9835) (p1).length c7152), (9, .int .i64 ((p1).length : Int)), (10, .int .i64 x7155), (16, .int .u8 x9848)] := Kn.pick (ks := [2, 8, 9, 10, 16]) hk rfl
      rw [num_Out_Num_r4] at H
      obtain ⟨lp9853, hlp9854⟩ : ∃ lp_, lp_ = num_Out_Num_r4 x7155 lp8931 rest9849 := ⟨_, rfl⟩
      rw [← hlp9854] at H
      refine wpIn_region_lit ?_
      refine x_run tab hk (k := 1) (lv := []) (ks := [2, 7, 8, 9, 10]) (e' := [(2, .pointer (some ⟨bx4, 0, none⟩)), (7, .int .u8 x9848), (8, .slice (some ad9835) (p1).length c7152), (9, .int .i64 ((p1).length : Int)), (10, .int .i64 x7155)]) rfl trivial fun a hk => ?_
      refine wpListIn_nil ?_
      refine then_n ?_
      refine ⟨_, fxr, fun w10427 st10428 fxr => ?_⟩
      replace f10144 := f10144.st st10428 (by decide)
      replace f5 := f5.st st10428 (by decide)
      replace f7153 := f7153.st st10428 (by decide)
      replace f900019 := f900019.st st10428 (by decide)
      replace hs := hs.locB st10428 rfl hbB
      refine wpIn_block ?_
      refine x_cut (fun a_ w_ => ∃ o10577 : Nat → Nat, ∃ A10578 : Option Addr, ∃ c10579 : Nat, Kn 29 a_ [(2, .pointer (some ⟨bx4, 0, none⟩)), (8, .slice (some ad9835) (p1).length c7152), (9, .int .i64 ((p1).length : Int)), (10, .int .i64 x7155)] ∧ St [567, 1, 2] w9850 o9852 w_ o10577 ∧ Ft (Own (encInt .u8) 5 (.slice A10578 ((l10143 ++ ([x9848] : List Int))).length c10579) (l10143 ++ ([x9848] : List Int))) w_ o10577 2 ∧ Ft (Bx bx4 96 [.pointer (some ⟨bp0, 0, none⟩)]) w_ o10577 413 ∧ Ft (RdC (encInt .i64) (some ad9835) p1) w_ o10577 0 ∧ Ft (Bx bp0 95 [.slice A10578 ((l10143 ++ ([x9848] : List Int))).length c10579]) w_ o10577 1 ∧ Ft (R1_) w_ o10577 567 ∧ ((l10143 ++ ([x9848] : List Int))).length ≤ c10579 ∧ num_Out_Num_j5 x9848 l10143 lp9853 = some r) ?_ ?_
      rotate_left
      · rintro a w10582 ⟨o10577, A10578, c10579, hk, hs, f10580, f5, f7153, f900019, fxr, hc10581, H⟩
        rw [num_Out_Num_j5] at H
        refine blk_n ?_
        have hq10583 := hs.closeB hoi hbB rfl (fun l_ => if l_ = 1 then 1 else if l_ = 2 then 2 else if l_ = 413 then 413 else 0)
        exact ⟨_, hq10583, fxr.now, ⟨A10578, c10579, (l10143 ++ ([x9848] : List Int)), (hsO.locM hq10583 (by decide) hom), (hs.closeM_ft (o := o9851) (ρ := (fun l_ => if l_ = 1 then 1 else if l_ = 2 then 2 else if l_ = 413 then 413 else 0)) f10580 (lab_atB hoi rfl) rfl), (hs.closeM_ft (o := o9851) (ρ := (fun l_ => if l_ = 1 then 1 else if l_ = 2 then 2 else if l_ = 413 then 413 else 0)) f5 (lab_atB hoi rfl) rfl), (hs.closeM_ft (o := o9851) (ρ := (fun l_ => if l_ = 1 then 1 else if l_ = 2 then 2 else if l_ = 413 then 413 else 0)) f7153 (lab_atB hoi rfl) rfl), (hs.closeM_ft (o := o9851) (ρ := (fun l_ => if l_ = 1 then 1 else if l_ = 2 then 2 else if l_ = 413 then 413 else 0)) f900019 (lab_atB hoi rfl) rfl), hc10581, (hlp9854 ▸ H)⟩⟩
      obtain ⟨q10610, H⟩ := ifS H
      refine xd_begin (o := o9852) (fun W_ => (Bx bx4 96 [.pointer (some ⟨bp0, 0, none⟩)]) W_ ∧ True) mixed rfl rfl fun w10650 st10651 => ?_
      replace f10144 := f10144.st st10651 (by decide)
      replace f5 := f5.st st10651 (by decide)
      replace f7153 := f7153.st st10651 (by decide)
      replace f900019 := f900019.st st10651 (by decide)
      replace fxr := fxr.st st10651 (by decide)
      replace hs := hs.locB st10651 rfl hbB
      refine xd_abs fun G hG => ?_
      have N10657 : ∀ (a_ : Act) (w_ : World), (∃ o10655 : Nat → Nat, Kn 29 a_ [(2, .pointer (some ⟨bx4, 0, none⟩)), (8, .slice (some ad9835) (p1).length c7152), (9, .int .i64 ((p1).length : Int)), (10, .int .i64 x7155), (17, .pointer (some ⟨bp0, 0, none⟩)), (21, .slice A10141 (l10143).length c10142), (22, .int .u8 x9848)] ∧ St [567, 1, 2] w9850 o9852 w_ o10655 ∧ Ft (Own (encInt .u8) 5 (.slice A10141 (l10143).length c10142) l10143) w_ o10655 2 ∧ Ft (Bx bx4 96 [.pointer (some ⟨bp0, 0, none⟩)]) w_ o10655 413 ∧ Ft (RdC (encInt .i64) (some ad9835) p1) w_ o10655 0 ∧ Ft (Bx bp0 95 [.slice A10141 (l10143).length c10142]) w_ o10655 1 ∧ Ft (R1_) w_ o10655 567) → G 5 #[true, true, true, true, true, true, false, false, false, false, false] a_ w_ := by
        rintro a w10656 ⟨o10655, hk, hs, f10144, f5, f7153, f900019, fxr⟩
        refine xd_of hG ?_
        refine xd_op hk (i := 6) (by kernel_rfl) rfl rfl ?_
        refine op_slice (o := o10655) tab hk (vs := [.int .u8 x9848]) (cs := [.int .u8 x9848]) rfl rfl rfl rfl rfl rfl rfl rfl rfl 613 fun bx10661 w10658 o10659 st10660 f10662 => ?_
        replace f10144 := f10144.st st10660 (by decide)
        replace f5 := f5.st st10660 (by decide)
        replace f7153 := f7153.st st10660 (by decide)
        replace f900019 := f900019.st st10660 (by decide)
        replace fxr := fxr.st st10660 (by decide)
        replace hs := hs.locB st10660 rfl hbB
        have f10663 : Ft (Own (encInt .u8) 5 (.slice (some ⟨bx10661, 0, none⟩) (([x9848] : List Int)).length 1) ([x9848] : List Int)) w10658 o10659 613 := f10662.imp fun _ h_ => Own.of_box h_ rfl (by simp)
        have hk := hk.put 23 (.slice (some ⟨bx10661, 0, none⟩) (([x9848] : List Int)).length 1) rfl
        refine ⟨.inr ⟨f5.now, trivial⟩, ?_⟩
        refine xd_op hk (i := 7) (by kernel_rfl) rfl rfl ?_
        refine op_append (o := o10659) (E := (encInt .u8)) (xs := l10143) (ys := ([x9848] : List Int)) tab hk rfl rfl rfl rfl rfl rfl rfl f10144 (Own.rd f10663.now) q10610 fun A10667 c10668 w10664 o10665 st10666 f10669 hc10670 => ?_
        replace f10663 := f10663.st st10666 (by decide)
        replace f5 := f5.st st10666 (by decide)
        replace f7153 := f7153.st st10666 (by decide)
        replace f900019 := f900019.st st10666 (by decide)
        replace fxr := fxr.st st10666 (by decide)
        replace hs := hs.locB st10666 rfl hbB
        have hk := hk.put 24 (.slice A10667 ((l10143 ++ ([x9848] : List Int))).length c10668) rfl
        refine ⟨.inr ⟨f5.now, trivial⟩, ?_⟩
        refine xd_take tab hk (k := 1) (is := [8, 9]) (ls' := #[true, true, true, true, true, true, true, true, true, true, false]) (lv := []) (ks := [2, 8, 9, 10, 24, 26]) (e' := [(2, .pointer (some ⟨bx4, 0, none⟩)), (8, .slice (some ad9835) (p1).length c7152), (9, .int .i64 ((p1).length : Int)), (10, .int .i64 x7155), (24, .slice A10667 ((l10143 ++ ([x9848] : List Int))).length c10668), (26, .pointer (some ⟨bp0, 0, none⟩))]) (by kernel_rfl) rfl rfl (by kernel_rfl) (np_then (np_blk np_RQ)) ⟨f5.now, trivial⟩ (fun W_ hS => trivial) fun a hk => ?_
        refine xd_op hk (i := 10) (by kernel_rfl) rfl rfl ?_
        refine op_store tab hk (t := 93) (v := .slice A10667 ((l10143 ++ ([x9848] : List Int))).length c10668) (b := bp0) (k := 0) (cs' := [.slice A10667 ((l10143 ++ ([x9848] : List Int))).length c10668]) rfl rfl rfl rfl rfl rfl f900019 rfl rfl fun w10671 o10672 st10673 f900019_ => ?_
        replace f10663 := f10663.st st10673 (by decide)
        replace f10669 := f10669.st st10673 (by decide)
        replace f5 := f5.st st10673 (by decide)
        replace f7153 := f7153.st st10673 (by decide)
        replace fxr := fxr.st st10673 (by decide)
        replace hs := hs.locB st10673 rfl hbB
        replace f900019 := f900019_
        refine ⟨.inr ⟨f5.now, trivial⟩, ?_⟩
        refine xd_done (by kernel_rfl) ?_
        refine then_n ?_
        exact ⟨o10672, A10667, c10668, (by exact Kn.pick (ks := [2, 8, 9, 10]) hk rfl), hs, f10669, f5, f7153, f900019, fxr, hc10670, H⟩
      have N10695 : ∀ (a_ : Act) (w_ : World), (∃ o10689 : Nat → Nat, ∃ A10690 : Option Addr, ∃ c10691 : Nat, Kn 29 a_ [(2, .pointer (some ⟨bx4, 0, none⟩)), (8, .slice (some ad9835) (p1).length c7152), (9, .int .i64 ((p1).length : Int)), (10, .int .i64 x7155), (17, .pointer (some ⟨bp0, 0, none⟩)), (20, .pointer (some ⟨bp0, 0, none⟩)), (23, .slice A10690 (([x9848] : List Int)).length c10691)] ∧ St [567, 1, 2] w9850 o9852 w_ o10689 ∧ Ft (Own (encInt .u8) 5 (.slice A10141 (l10143).length c10142) l10143) w_ o10689 2 ∧ Ft (Own (encInt .u8) 5 (.slice A10690 (([x9848] : List Int)).length c10691) ([x9848] : List Int)) w_ o10689 615 ∧ Ft (Bx bx4 96 [.pointer (some ⟨bp0, 0, none⟩)]) w_ o10689 413 ∧ Ft (RdC (encInt .i64) (some ad9835) p1) w_ o10689 0 ∧ Ft (Bx bp0 95 [.slice A10141 (l10143).length c10142]) w_ o10689 1 ∧ Ft (R1_) w_ o10689 567 ∧ (([x9848] : List Int)).length ≤ c10691) → G 5 #[true, true, true, true, false, true, true, false, false, false, false] a_ w_ := by
        rintro a w10694 ⟨o10689, A10690, c10691, hk, hs, f10144, f10692, f5, f7153, f900019, fxr, hc10693⟩
        refine xd_of hG ?_
        refine xd_op hk (i := 4) (by kernel_rfl) rfl rfl ?_
        refine op_quiet tab hk (lv := [.slice A10141 (l10143).length c10142]) (v := .slice A10141 (l10143).length c10142) rfl ⟨(load1 tab rfl ((Bx.cell f900019.now 0).trans rfl)), trivial⟩ ?_
        have hk := hk.put 21 (.slice A10141 (l10143).length c10142) rfl
        refine ⟨.inr ⟨f5.now, trivial⟩, ?_⟩
        refine xd_op hk (i := 7) (by kernel_rfl) rfl rfl ?_
        refine op_append (o := o10689) (E := (encInt .u8)) (xs := l10143) (ys := ([x9848] : List Int)) tab hk rfl rfl rfl rfl rfl rfl rfl f10144 (Own.rd f10692.now) q10610 fun A10699 c10700 w10696 o10697 st10698 f10701 hc10702 => ?_
        replace f10692 := f10692.st st10698 (by decide)
        replace f5 := f5.st st10698 (by decide)
        replace f7153 := f7153.st st10698 (by decide)
        replace f900019 := f900019.st st10698 (by decide)
        replace fxr := fxr.st st10698 (by decide)
        replace hs := hs.locB st10698 rfl hbB
        have hk := hk.put 24 (.slice A10699 ((l10143 ++ ([x9848] : List Int))).length c10700) rfl
        refine ⟨.inr ⟨f5.now, trivial⟩, ?_⟩
        refine xd_take tab hk (k := 1) (is := [8, 9]) (ls' := #[true, true, true, true, true, true, true, true, true, true, false]) (lv := []) (ks := [2, 8, 9, 10, 24, 26]) (e' := [(2, .pointer (some ⟨bx4, 0, none⟩)), (8, .slice (some ad9835) (p1).length c7152), (9, .int .i64 ((p1).length : Int)), (10, .int .i64 x7155), (24, .slice A10699 ((l10143 ++ ([x9848] : List Int))).length c10700), (26, .pointer (some ⟨bp0, 0, none⟩))]) (by kernel_rfl) rfl rfl (by kernel_rfl) (np_then (np_blk np_RQ)) ⟨f5.now, trivial⟩ (fun W_ hS => trivial) fun a hk => ?_
        refine xd_op hk (i := 10) (by kernel_rfl) rfl rfl ?_
        refine op_store tab hk (t := 93) (v := .slice A10699 ((l10143 ++ ([x9848] : List Int))).length c10700) (b := bp0) (k := 0) (cs' := [.slice A10699 ((l10143 ++ ([x9848] : List Int))).length c10700]) rfl rfl rfl rfl rfl rfl f900019 rfl rfl fun w10703 o10704 st10705 f900019_ => ?_
        replace f10692 := f10692.st st10705 (by decide)
        replace f10701 := f10701.st st10705 (by decide)
        replace f5 := f5.st st10705 (by decide)
        replace f7153 := f7153.st st10705 (by decide)
        replace fxr := fxr.st st10705 (by decide)
        replace hs := hs.locB st10705 rfl hbB
        replace f900019 := f900019_
        refine ⟨.inr ⟨f5.now, trivial⟩, ?_⟩
        refine xd_done (by kernel_rfl) ?_
        refine then_n ?_
        exact ⟨o10704, A10699, c10700, (by exact Kn.pick (ks := [2, 8, 9, 10]) hk rfl), hs, f10701, f5, f7153, f900019, fxr, hc10702, H⟩
      refine xd_of hG ?_
      refine xd_take tab hk (k := 6) (is := [0, 1, 2, 3, 5]) (ls' := #[true, true, true, true, false, true, false, false, false, false, false]) (lv := [.pointer (some ⟨bp0, 0, none⟩), .pointer (some ⟨bp0, 0, none⟩)]) (ks := [2, 8, 9, 10, 17, 20, 22]) (e' := [(2, .pointer (some ⟨bx4, 0, none⟩)), (8, .slice (some ad9835) (p1).length c7152), (9, .int .i64 ((p1).length : Int)), (10, .int .i64 x7155), (17, .pointer (some ⟨bp0, 0, none⟩)), (20, .pointer (some ⟨bp0, 0, none⟩)), (22, .int .u8 x9848)]) (by kernel_rfl) rfl rfl (by kernel_rfl) (np_then (np_blk np_RQ)) ⟨f5.now, trivial⟩ (fun W_ hS => ⟨(load1 tab rfl ((Bx.cell hS.1 0).trans rfl)), (load1 tab rfl ((Bx.cell hS.1 0).trans rfl)), trivial⟩) fun a hk => ?_
      refine xd_each [4, 6] (by kernel_rfl) rfl ⟨?_, ?_, trivial⟩
      · refine xd_one hk rfl rfl ?_
        refine op_quiet tab hk (lv := [.slice A10141 (l10143).length c10142]) (v := .slice A10141 (l10143).length c10142) rfl ⟨(load1 tab rfl ((Bx.cell f900019.now 0).trans rfl)), trivial⟩ ?_
        have hk := hk.put 21 (.slice A10141 (l10143).length c10142) rfl
        refine ⟨.inr ⟨f5.now, trivial⟩, ?_⟩
        exact xd_to hG rfl (N10657 _ _ ⟨o9852, (by exact Kn.pick (ks := [2, 8, 9, 10, 17, 21, 22]) hk rfl), hs, f10144, f5, f7153, f900019, fxr⟩)
      · refine xd_one hk rfl rfl ?_
        refine op_slice (o := o9852) tab hk (vs := [.int .u8 x9848]) (cs := [.int .u8 x9848]) rfl rfl rfl rfl rfl rfl rfl rfl rfl 614 fun bx10677 w10674 o10675 st10676 f10678 => ?_
        replace f10144 := f10144.st st10676 (by decide)
        replace f5 := f5.st st10676 (by decide)
        replace f7153 := f7153.st st10676 (by decide)
        replace f900019 := f900019.st st10676 (by decide)
        replace fxr := fxr.st st10676 (by decide)
        replace hs := hs.locB st10676 rfl hbB
        have f10679 : Ft (Own (encInt .u8) 5 (.slice (some ⟨bx10677, 0, none⟩) (([x9848] : List Int)).length 1) ([x9848] : List Int)) w10674 o10675 614 := f10678.imp fun _ h_ => Own.of_box h_ rfl (by simp)
        have hk := hk.put 23 (.slice (some ⟨bx10677, 0, none⟩) (([x9848] : List Int)).length 1) rfl
        refine ⟨.inr ⟨f5.now, trivial⟩, ?_⟩
        exact xd_to hG rfl (N10695 _ _ ⟨(fun b_ => (fun l_ => if l_ = 614 then 615 else l_) (o10675 b_)), (some ⟨bx10677, 0, none⟩), 1, (by exact Kn.pick (ks := [2, 8, 9, 10, 17, 20, 23]) hk rfl), (hs.relabM hbB (fun l_ => if l_ = 614 then 615 else l_) (by intro l_ hl_; (try dsimp only); (repeat' split) <;> omega)), (f10144.relab (fun l_ => if l_ = 614 then 615 else l_) rfl), (f10679.relab (fun l_ => if l_ = 614 then 615 else l_) rfl), (f5.relab (fun l_ => if l_ = 614 then 615 else l_) rfl), (f7153.relab (fun l_ => if l_ = 614 then 615 else l_) rfl), (f900019.relab (fun l_ => if l_ = 614 then 615 else l_) rfl), (fxr.relab (fun l_ => if l_ = 614 then 615 else l_) rfl), (Nat.le_refl _)⟩)
    · rintro ds10426 w10425 o10140 a hk fxm ⟨A10141, c10142, l10143, hs, f10144, f5, f7153, f900019, hc10145, H⟩
      rw [num_Out_Num_r4] at H
      refine blk_n ?_
      refine blk_n ?_
      refine then_n ?_
      exact ⟨(fun b_ => (fun l_ => if l_ = 413 then 565 else l_) (o10140 b_)), ds10426, A10141, c10142, l10143, (some ad9835), c7152, (by exact Kn.pick (ks := [2, 8, 9, 10]) hk rfl), (hs.relabM hob (fun l_ => if l_ = 413 then 565 else l_) (by decide)), (f5.relab (fun l_ => if l_ = 413 then 565 else l_) rfl), (f900019.relab (fun l_ => if l_ = 413 then 565 else l_) rfl), (f10144.relab (fun l_ => if l_ = 413 then 565 else l_) rfl), (f7153.relab (fun l_ => if l_ = 413 then 565 else l_) rfl), (fxm.relab (fun l_ => if l_ = 413 then 565 else l_) rfl), hc10145, hc7154, H⟩
    · exact fun _ _ _ _ _ _ _ h_ => h_.elim

/-! (*tidewrack/num.Out).Bytes -/
theorem num_Out_Bytes_calls (bp0 : Nat) (Ap0_0 : Option Addr) (cp0_0 : Nat) (p0 : T94) (w : World) (o : Nat → Nat) (Lp0 : Nat) (hp0 : Ft (Bx bp0 95 [.slice Ap0_0 (p0.b).length cp0_0]) w o Lp0) (Lp0_0 : Nat) (hp0_0 : Ft (Own (encInt .u8) 5 (.slice Ap0_0 (p0.b).length cp0_0) p0.b) w o Lp0_0) (hcp0_0 : (p0.b).length ≤ cp0_0) (hd0 : ([Lp0, Lp0_0] : List Nat).Nodup) (r : ByteArray × T94) (H : num_Out_Bytes p0 = some r) :
    Calls Tryd.prog 43 #[.pointer (some ⟨bp0, 0, none⟩)] w (Ret fun v_ w' => ∃ o' : Nat → Nat, ∃ A0 : Option Addr, ∃ c0 : Nat, v_ = .string r.1 ∧ St [Lp0, Lp0_0] w o w' o' ∧ Ft (Bx bp0 95 [.slice A0 (r.2.b).length c0]) w' o' Lp0 ∧ Ft (Own (encInt .u8) 5 (.slice A0 (r.2.b).length c0) (r.2.b)) w' o' Lp0_0 ∧ (r.2.b).length ≤ c0) := by
  refine x_enter (vs := [.pointer (some ⟨bp0, 0, none⟩)]) Tryd.func43 rfl rfl rfl fun a hk => ?_
  obtain ⟨oi, hs0, h0, h1, hob, hoz, hoa⟩ := St.startM2 w o (m := 2) hd0 rfl
  have hs := hs0 [1, 2]
  have hom := lab_in hob (MM := [1, 2]) (by decide)
  have f900000 := h1 1 2 hp0_0 rfl rfl
  have f900019 := h1 0 1 hp0 rfl rfl
  clear h0 h1 hs0
  rw [num_Out_Bytes] at H
  refine x_seq ?_
  refine wpIn_region_lit ?_
  refine x_run tab hk (k := 1) (lv := []) (ks := [0]) (e' := [(0, .pointer (some ⟨bp0, 0, none⟩))]) rfl trivial fun a hk => ?_
  refine wpListIn_nil ?_
  refine then_n ?_
  refine x_seq ?_
  refine wpIn_region_lit ?_
  refine x_run tab hk (k := 6) (lv := [.slice Ap0_0 (p0.b).length cp0_0, .string (strOfNums p0.b)]) (ks := [2]) (e' := [(2, .string (strOfNums p0.b))]) rfl ⟨(load1 tab rfl ((Bx.cell f900019.now 0).trans rfl)), (ask_str tab rfl rfl rfl rfl (Own.rd f900000.now) (Own.plain f900000.now _ _ _ rfl)), trivial⟩ fun a hk => ?_
  refine wpListIn_nil ?_
  refine then_n ?_
  refine wpIn_ret ?_
  obtain rfl := Option.some.inj H
  exact x_retG hk (rs := [.tmp 2]) (vs := [.string (strOfNums p0.b)]) rfl ⟨rfl, trivial⟩ ⟨fun b_ => if b_ < w.heap.size then o b_ else (fun l_ => if l_ = 1 then Lp0 else if l_ = 2 then Lp0_0 else 0) (oi b_), Ap0_0, cp0_0, rfl, hs.closeM hoz (by decide) (fun l_ => if l_ = 1 then Lp0 else if l_ = 2 then Lp0_0 else 0), hs.closeM_ft (o := o) (ρ := fun l_ => if l_ = 1 then Lp0 else if l_ = 2 then Lp0_0 else 0) f900019 (lab_at hoa (i := 0) rfl) rfl, hs.closeM_ft (o := o) (ρ := fun l_ => if l_ = 1 then Lp0 else if l_ = 2 then Lp0_0 else 0) f900000 (lab_at hoa (i := 1) rfl) rfl, hcp0_0⟩

/-! tidewrack/book.Pack -/
theorem book_Pack_calls (K : Nat) (Ap0 : Option Addr) (cp0 : Nat) (p0 : List T49) (w : World) (o : Nat → Nat) (Lp0 : Nat) (hp0 : Ft (RdC ET49 Ap0 p0) w o Lp0) (hcp0 : (p0).length ≤ cp0)  (r : ByteArray) (H : book_Pack K p0 = some r) :
    Calls Tryd.prog 29 #[.slice Ap0 (p0).length cp0] w (Ret fun v_ w' => ∃ o' : Nat → Nat, v_ = .string r ∧ St [] w o w' o') := by
  refine x_enter (vs := [.slice Ap0 (p0).length cp0]) Tryd.func29 rfl rfl rfl fun a hk => ?_
  obtain ⟨o0, hs, h0⟩ := St.start w o
  have f900000 := h0 _ _ hp0
  clear h0
  rw [book_Pack] at H
  refine x_seq ?_
  refine wpIn_region_lit ?_
  refine x_run tab hk (k := 1) (lv := []) (ks := [0]) (e' := [(0, .slice Ap0 (p0).length cp0)]) rfl trivial fun a hk => ?_
  refine wpListIn_nil ?_
  refine then_n ?_
  refine x_seq ?_
  refine wpIn_region_lit ?_
  refine x_op hk rfl ?_
  refine op_alloc (o := o0) tab (t := 95) (cs := [.slice none 0 0]) rfl rfl 1 fun bx4 w1 o2 st3 f5 => ?_
  replace f900000 := f900000.st st3 (by decide)
  replace hs := hs.loc0 st3 (by decide)
  have hk := hk.put 3 (.pointer (some ⟨bx4, 0, none⟩)) rfl
  refine wpListIn_nil ?_
  refine then_n ?_
  refine x_seq ?_
  refine wpIn_region_lit ?_
  refine x_run tab hk (k := 2) (lv := []) (ks := [0, 3, 7]) (e' := [(0, .slice Ap0 (p0).length cp0), (3, .pointer (some ⟨bx4, 0, none⟩)), (7, .int .i64 ((p0).length : Int))]) rfl trivial fun a hk => ?_
  refine x_op hk rfl ?_
  refine op_slice (o := o2) tab hk (vs := [.int .i64 ((p0).length : Int)]) (cs := [.int .i64 ((p0).length : Int)]) rfl rfl rfl rfl rfl rfl rfl rfl rfl 2 fun bx9 w6 o7 st8 f10 => ?_
  replace f5 := f5.st st8 (by decide)
  replace f900000 := f900000.st st8 (by decide)
  replace hs := hs.loc0 st8 (by decide)
  have f11 : Ft (Own (encInt .i64) 3 (.slice (some ⟨bx9, 0, none⟩) (([((p0).length : Int)] : List Int)).length 1) ([((p0).length : Int)] : List Int)) w6 o7 2 := f10.imp fun _ h_ => Own.of_box h_ rfl (by simp)
  have hk := hk.put 8 (.slice (some ⟨bx9, 0, none⟩) (([((p0).length : Int)] : List Int)).length 1) rfl
  refine x_op hk rfl ?_
  obtain ⟨t15, hc16, H⟩ := bindS H
  refine op_call hk ent_42 (vs := [.pointer (some ⟨bx4, 0, none⟩), .slice (some ⟨bx9, 0, none⟩) (([((p0).length : Int)] : List Int)).length 1]) rfl (num_Out_Num_calls K bx4 none 0 (⟨([] : List Int)⟩ : T94) (some ⟨bx9, 0, none⟩) 1 ([((p0).length : Int)] : List Int) _ o7 1 f5 3 (Ft.of_all (fun _ => Own.nil _ _ _) _ _ 3) (by simp) _ (f11.imp fun _ h_ => Own.rd h_) (Nat.le_refl _) (by decide) (by decide)   _ hc16) ?_
  rintro _ w17 ⟨o18, A21, c22, rfl, st19, f20, f23, hc24⟩
  replace f11 := f11.st st19 (by decide)
  replace f900000 := f900000.st st19 (by decide)
  replace hs := hs.loc0 st19 (by decide)
  have hk := hk.put 9 (.pointer (some ⟨bx4, 0, none⟩)) rfl
  refine wpListIn_nil ?_
  refine then_n ?_
  refine x_mid (fun a_ w_ => ∃ o139 : Nat → Nat, ∃ A140 : Option Addr, ∃ c141 : Nat, ∃ l142 : List Int, Kn 25 a_ [(3, .pointer (some ⟨bx4, 0, none⟩))] ∧ St [] w (fun _ => 0) w_ o139 ∧ Ft (Own (encInt .u8) 5 (.slice A140 (l142).length c141) l142) w_ o139 14 ∧ Ft (Bx bx4 95 [.slice A140 (l142).length c141]) w_ o139 15 ∧ (l142).length ≤ c141 ∧ book_Pack_j1 l142 = some r) ?_ ?_
  rotate_left
  · rintro a w145 ⟨o139, A140, c141, l142, hk, hs, f143, f20, hc144, H⟩
    rw [book_Pack_j1] at H
    refine x_seq ?_
    refine wpIn_region_lit ?_
    refine x_op hk rfl ?_
    obtain ⟨t149, hc150, H⟩ := bindS H
    refine op_call hk ent_43 (vs := [.pointer (some ⟨bx4, 0, none⟩)]) rfl (num_Out_Bytes_calls bx4 A140 c141 (⟨l142⟩ : T94) _ o139 15 f20 14 f143 hc144 (by decide)   _ hc150) ?_
    rintro _ w151 ⟨o152, A155, c156, rfl, st153, f154, f157, hc158⟩
    replace hs := hs.loc0 st153 (by decide)
    have hk := hk.put 24 (.string t149.1) rfl
    refine x_run tab hk (k := 1) (lv := []) (ks := [2]) (e' := [(2, .string t149.1)]) rfl trivial fun a hk => ?_
    refine wpListIn_nil ?_
    refine then_n ?_
    refine wpIn_ret ?_
    obtain rfl := Option.some.inj H
    exact x_retG hk (rs := [.tmp 2]) (vs := [.string t149.1]) rfl ⟨rfl, trivial⟩ ⟨fun b_ => if b_ < w.heap.size then o b_ else (fun _ => 0) (o152 b_), rfl, hs.close0 o (fun _ => 0)⟩
  refine x_seq ?_
  refine wpIn_region_lit ?_
  refine x_run tab hk (k := 3) (lv := []) (ks := [3, 10, 11, 12]) (e' := [(3, .pointer (some ⟨bx4, 0, none⟩)), (10, .slice Ap0 (p0).length cp0), (11, .int .i64 ((p0).length : Int)), (12, .int .i64 0)]) rfl trivial fun a hk => ?_
  refine wpListIn_nil ?_
  refine then_n ?_
  refine wpIn_block ?_
  refine x_loop (fun j_ a_ w_ => ∃ o192 : Nat → Nat, ∃ A193 : Option Addr, ∃ c194 : Nat, ∃ l195 : List Int, ∃ x198 : Int, Kn 25 a_ [(3, .pointer (some ⟨bx4, 0, none⟩)), (10, .slice Ap0 (p0).length cp0), (11, .int .i64 ((p0).length : Int)), (12, .int .i64 x198)] ∧ St [] w (fun _ => 0) w_ o192 ∧ Ft (Own (encInt .u8) 5 (.slice A193 (l195).length c194) l195) w_ o192 20 ∧ Ft (Bx bx4 95 [.slice A193 (l195).length c194]) w_ o192 21 ∧ Ft (RdC ET49 Ap0 p0) w_ o192 0 ∧ (l195).length ≤ c194 ∧ book_Pack_l2 K p0 j_ l195 x198 = some r) (k := K) ⟨(fun b_ => (fun l_ => if l_ = 1 then 21 else if l_ = 3 then 20 else l_) (o18 b_)), A21, c22, t15.b, 0, (by exact Kn.pick (ks := [3, 10, 11, 12]) hk rfl), (hs.relab0 (fun l_ => if l_ = 1 then 21 else if l_ = 3 then 20 else l_) rfl), (f23.relab (fun l_ => if l_ = 1 then 21 else if l_ = 3 then 20 else l_) rfl), (f20.relab (fun l_ => if l_ = 1 then 21 else if l_ = 3 then 20 else l_) rfl), (f900000.relab (fun l_ => if l_ = 1 then 21 else if l_ = 3 then 20 else l_) rfl), hc24, H⟩ (by rintro _ _ ⟨_, _, _, _, _, _, _, _, _, _, _, H_⟩; exact absurd (show (none : Option ByteArray) = some r from H_) (by simp)) ?_
  rintro k230 a w229 ⟨o192, A193, c194, l195, x198, hk, hs, f196, f20, f900000, hc197, H⟩
  rw [book_Pack_l2] at H
  obtain ⟨lp231, hlp232⟩ : ∃ lp_, lp_ = book_Pack_l2 K p0 k230 := ⟨_, rfl⟩
  rw [← hlp232] at H
  refine x_seq ?_
  refine wpIn_region_lit ?_
  refine x_run tab hk (k := 1) (lv := []) (ks := [3, 10, 11, 12, 13]) (e' := [(3, .pointer (some ⟨bx4, 0, none⟩)), (10, .slice Ap0 (p0).length cp0), (11, .int .i64 ((p0).length : Int)), (12, .int .i64 x198), (13, .bool (decide (x198 < ((p0).length : Int))))]) rfl trivial fun a hk => ?_
  refine wpListIn_nil ?_
  refine then_n ?_
  refine x_seq ?_
  cases b233 : (decide (x198 < ((p0).length : Int)))
  · rw [b233] at hk H
    replace H := bifF H
    refine x_if hk (b := false) rfl ?_
    refine (show Code.wpIn _ _ _ _ _ _ _ from ?_)
    refine wpIn_exit ?_
    refine then_x ?_
    refine then_x ?_
    refine blk_x ?_
    refine then_n ?_
    exact ⟨(fun b_ => (fun l_ => if l_ = 20 then 14 else if l_ = 21 then 15 else l_) (o192 b_)), A193, c194, l195, (by exact Kn.pick (ks := [3]) hk rfl), (hs.relab0 (fun l_ => if l_ = 20 then 14 else if l_ = 21 then 15 else l_) rfl), (f196.relab (fun l_ => if l_ = 20 then 14 else if l_ = 21 then 15 else l_) rfl), (f20.relab (fun l_ => if l_ = 20 then 14 else if l_ = 21 then 15 else l_) rfl), hc197, H⟩
  · rw [b233] at hk H
    replace H := bifT H
    refine x_if hk (b := true) rfl ?_
    refine (show Code.wpIn _ _ _ _ _ _ _ from ?_)
    refine wpIn_skip ?_
    refine then_n ?_
    refine x_seq ?_
    refine wpIn_block ?_
    refine x_seq ?_
    refine wpIn_region_lit ?_
    obtain ⟨q234, H⟩ := ifS H
    obtain ⟨ad235, hAad235⟩ := RdC.addr f900000.now q234
    have hk_C := hk
    have f196_C := f196
    have f20_C := f20
    have f900000_C := f900000
    subst hAad235
    have hk := hk_C
    clear hk_C
    have f196 := f196_C
    clear f196_C
    have f20 := f20_C
    clear f20_C
    have f900000 := f900000_C
    clear f900000_C
    refine x_run tab hk (k := 2) (lv := [.agg #[.int .i32 ((rdD zT49 p0 x198).Rune), .int .i64 ((rdD zT49 p0 x198).Style)]]) (ks := [3, 10, 11, 12, 15]) (e' := [(3, .pointer (some ⟨bx4, 0, none⟩)), (10, .slice (some ad235) (p0).length cp0), (11, .int .i64 ((p0).length : Int)), (12, .int .i64 x198), (15, .agg #[.int .i32 ((rdD zT49 p0 x198).Rune), .int .i64 ((rdD zT49 p0 x198).Style)])]) rfl ⟨q234, (load_elem (E := ET49) (i := x198) (dx := zT49) tab rfl rfl f900000.now q234), trivial⟩ fun a hk => ?_
    refine x_op hk rfl ?_
    refine op_alloc (o := o192) tab (t := 50) (cs := [.int .i32 0, .int .i64 0]) rfl rfl 24 fun bx239 w236 o237 st238 f240 => ?_
    replace f196 := f196.st st238 (by decide)
    replace f20 := f20.st st238 (by decide)
    replace f900000 := f900000.st st238 (by decide)
    replace hs := hs.loc0 st238 (by decide)
    have hk := hk.put 5 (.pointer (some ⟨bx239, 0, none⟩)) rfl
    refine x_op hk rfl ?_
    refine op_store tab hk (t := 50) (v := .agg #[.int .i32 ((rdD zT49 p0 x198).Rune), .int .i64 ((rdD zT49 p0 x198).Style)]) (b := bx239) (k := 0) (cs' := [.int .i32 ((rdD zT49 p0 x198).Rune), .int .i64 ((rdD zT49 p0 x198).Style)]) rfl rfl rfl rfl rfl rfl f240 rfl rfl fun w241 o242 st243 f240_ => ?_
    replace f196 := f196.st st243 (by decide)
    replace f20 := f20.st st243 (by decide)
    replace f900000 := f900000.st st243 (by decide)
    replace hs := hs.loc0 st243 (by decide)
    replace f240 := f240_
    refine wpListIn_nil ?_
    refine then_n ?_
    refine wpIn_region_lit ?_
    refine x_run tab hk (k := 5) (lv := [.int .i32 ((rdD zT49 p0 x198).Rune), .int .i64 ((rdD zT49 p0 x198).Style)]) (ks := [3, 10, 11, 12, 18, 20]) (e' := [(3, .pointer (some ⟨bx4, 0, none⟩)), (10, .slice (some ad235) (p0).length cp0), (11, .int .i64 ((p0).length : Int)), (12, .int .i64 x198), (18, .int .i64 (IntKind.wrap .i64 ((rdD zT49 p0 x198).Rune))), (20, .int .i64 ((rdD zT49 p0 x198).Style))]) rfl ⟨(load1 tab rfl ((Bx.cell f240.now 0).trans rfl)), (load1 tab rfl ((Bx.cell f240.now 1).trans rfl)), trivial⟩ fun a hk => ?_
    refine x_op hk rfl ?_
    refine op_slice (o := o242) tab hk (vs := [.int .i64 (IntKind.wrap .i64 ((rdD zT49 p0 x198).Rune)), .int .i64 ((rdD zT49 p0 x198).Style)]) (cs := [.int .i64 (IntKind.wrap .i64 ((rdD zT49 p0 x198).Rune)), .int .i64 ((rdD zT49 p0 x198).Style)]) rfl rfl rfl rfl rfl rfl rfl rfl rfl 25 fun bx247 w244 o245 st246 f248 => ?_
    replace f196 := f196.st st246 (by decide)
    replace f20 := f20.st st246 (by decide)
    replace f900000 := f900000.st st246 (by decide)
    replace hs := hs.loc0 st246 (by decide)
    have f249 : Ft (Own (encInt .i64) 3 (.slice (some ⟨bx247, 0, none⟩) (([(IntKind.wrap .i64 ((rdD zT49 p0 x198).Rune)), (rdD zT49 p0 x198).Style] : List Int)).length 2) ([(IntKind.wrap .i64 ((rdD zT49 p0 x198).Rune)), (rdD zT49 p0 x198).Style] : List Int)) w244 o245 25 := f248.imp fun _ h_ => Own.of_box h_ rfl (by simp)
    have hk := hk.put 21 (.slice (some ⟨bx247, 0, none⟩) (([(IntKind.wrap .i64 ((rdD zT49 p0 x198).Rune)), (rdD zT49 p0 x198).Style] : List Int)).length 2) rfl
    refine x_op hk rfl ?_
    obtain ⟨t253, hc254, H⟩ := bindS H
    refine op_call hk ent_42 (vs := [.pointer (some ⟨bx4, 0, none⟩), .slice (some ⟨bx247, 0, none⟩) (([(IntKind.wrap .i64 ((rdD zT49 p0 x198).Rune)), (rdD zT49 p0 x198).Style] : List Int)).length 2]) rfl (num_Out_Num_calls K bx4 A193 c194 (⟨l195⟩ : T94) (some ⟨bx247, 0, none⟩) 2 ([(IntKind.wrap .i64 ((rdD zT49 p0 x198).Rune)), (rdD zT49 p0 x198).Style] : List Int) _ o245 21 f20 20 f196 hc197 _ (f249.imp fun _ h_ => Own.rd h_) (Nat.le_refl _) (by decide) (by decide)   _ hc254) ?_
    rintro _ w255 ⟨o256, A259, c260, rfl, st257, f258, f261, hc262⟩
    replace f249 := f249.st st257 (by decide)
    replace f900000 := f900000.st st257 (by decide)
    replace hs := hs.loc0 st257 (by decide)
    have hk := hk.put 22 (.pointer (some ⟨bx4, 0, none⟩)) rfl
    refine wpListIn_nil ?_
    refine blk_n ?_
    refine then_n ?_
    refine wpIn_region_lit ?_
    refine x_run tab hk (k := 2) (lv := []) (ks := [3, 10, 11, 12]) (e' := [(3, .pointer (some ⟨bx4, 0, none⟩)), (10, .slice (some ad235) (p0).length cp0), (11, .int .i64 ((p0).length : Int)), (12, .int .i64 (IntKind.wrap .i64 (x198 + 1)))]) rfl trivial fun a hk => ?_
    refine wpListIn_nil ?_
    refine then_n ?_
    exact ⟨k230, Nat.le_refl _, o256, A259, c260, t253.b, (IntKind.wrap .i64 (x198 + 1)), (by exact Kn.pick (ks := [3, 10, 11, 12]) hk rfl), hs, f261, f258, f900000, hc262, (hlp232 ▸ H)⟩

/-! tidewrack/sum.step -/
theorem sum_step_calls (p0 : Int) (p1 : Int) (w : World) (o : Nat → Nat) (Lg2 : Nat) (hg2 : Ft (RdC (encInt .u32) (some ⟨2, 0, none⟩) glob2) w o Lg2)   (r : Int) (H : sum_step p0 p1 = some r) :
    Calls Tryd.prog 62 #[.int .u32 p0, .int .u8 p1] w (Ret fun v_ w' => ∃ o' : Nat → Nat, v_ = .int .u32 r ∧ St [] w o w' o') := by
  refine x_enter (vs := [.int .u32 p0, .int .u8 p1]) Tryd.func62 rfl rfl rfl fun a hk => ?_
  obtain ⟨o0, hs, h0⟩ := St.start w o
  have fg2 := h0 _ _ hg2
  clear h0
  rw [sum_step] at H
  refine x_seq ?_
  refine wpIn_region_lit ?_
  refine x_run tab hk (k := 1) (lv := []) (ks := [0, 1]) (e' := [(0, .int .u32 p0), (1, .int .u8 p1)]) rfl trivial fun a hk => ?_
  refine wpListIn_nil ?_
  refine then_n ?_
  refine x_seq ?_
  refine wpIn_region_lit ?_
  refine x_run tab hk (k := 5) (lv := []) (ks := [0]) (e' := [(0, .int .u32 (bits .xor .u32 p0 (IntKind.wrap .u32 p1)))]) rfl trivial fun a hk => ?_
  refine wpListIn_nil ?_
  refine then_n ?_
  refine x_seq ?_
  refine wpIn_region_lit ?_
  obtain ⟨q1, H⟩ := ifS H
  refine x_run tab hk (k := 8) (lv := [.int .u32 (rdD 0 glob2 (bits .and .u32 (bits .xor .u32 p0 (IntKind.wrap .u32 p1)) 15))]) (ks := [0]) (e' := [(0, .int .u32 (bits .xor .u32 (Int.fdiv (bits .xor .u32 p0 (IntKind.wrap .u32 p1)) (2 ^ min (Int.toNat 4) 32)) (rdD 0 glob2 (bits .and .u32 (bits .xor .u32 p0 (IntKind.wrap .u32 p1)) 15))))]) rfl ⟨(show 0 ≤ (4 : Int) from by decide), q1, (load1 tab rfl (RdC.at0 (E := (encInt .u32)) (d := 0) (i := (bits .and .u32 (bits .xor .u32 p0 (IntKind.wrap .u32 p1)) 15)) fg2.now q1 rfl)), trivial⟩ fun a hk => ?_
  refine wpListIn_nil ?_
  refine then_n ?_
  refine x_seq ?_
  refine wpIn_region_lit ?_
  obtain ⟨q2, H⟩ := ifS H
  refine x_run tab hk (k := 8) (lv := [.int .u32 (rdD 0 glob2 (bits .and .u32 (bits .xor .u32 (Int.fdiv (bits .xor .u32 p0 (IntKind.wrap .u32 p1)) (2 ^ min (Int.toNat 4) 32)) (rdD 0 glob2 (bits .and .u32 (bits .xor .u32 p0 (IntKind.wrap .u32 p1)) 15))) 15))]) (ks := [4]) (e' := [(4, .int .u32 (bits .xor .u32 (Int.fdiv (bits .xor .u32 (Int.fdiv (bits .xor .u32 p0 (IntKind.wrap .u32 p1)) (2 ^ min (Int.toNat 4) 32)) (rdD 0 glob2 (bits .and .u32 (bits .xor .u32 p0 (IntKind.wrap .u32 p1)) 15))) (2 ^ min (Int.toNat 4) 32)) (rdD 0 glob2 (bits .and .u32 (bits .xor .u32 (Int.fdiv (bits .xor .u32 p0 (IntKind.wrap .u32 p1)) (2 ^ min (Int.toNat 4) 32)) (rdD 0 glob2 (bits .and .u32 (bits .xor .u32 p0 (IntKind.wrap .u32 p1)) 15))) 15))))]) rfl ⟨(show 0 ≤ (4 : Int) from by decide), q2, (load1 tab rfl (RdC.at0 (E := (encInt .u32)) (d := 0) (i := (bits .and .u32 (bits .xor .u32 (Int.fdiv (bits .xor .u32 p0 (IntKind.wrap .u32 p1)) (2 ^ min (Int.toNat 4) 32)) (rdD 0 glob2 (bits .and .u32 (bits .xor .u32 p0 (IntKind.wrap .u32 p1)) 15))) 15)) fg2.now q2 rfl)), trivial⟩ fun a hk => ?_
  refine wpListIn_nil ?_
  refine then_n ?_
  refine wpIn_ret ?_
  obtain rfl := Option.some.inj H
  exact x_retG hk (rs := [.tmp 4]) (vs := [.int .u32 (bits .xor .u32 (Int.fdiv (bits .xor .u32 (Int.fdiv (bits .xor .u32 p0 (IntKind.wrap .u32 p1)) (2 ^ min (Int.toNat 4) 32)) (rdD 0 glob2 (bits .and .u32 (bits .xor .u32 p0 (IntKind.wrap .u32 p1)) 15))) (2 ^ min (Int.toNat 4) 32)) (rdD 0 glob2 (bits .and .u32 (bits .xor .u32 (Int.fdiv (bits .xor .u32 p0 (IntKind.wrap .u32 p1)) (2 ^ min (Int.toNat 4) 32)) (rdD 0 glob2 (bits .and .u32 (bits .xor .u32 p0 (IntKind.wrap .u32 p1)) 15))) 15)))]) rfl ⟨rfl, trivial⟩ ⟨fun b_ => if b_ < w.heap.size then o b_ else (fun _ => 0) (o0 b_), rfl, hs.close0 o (fun _ => 0)⟩

/-! tidewrack/sum.Of -/
theorem sum_Of_calls (K : Nat) (Ap0 : Option Addr) (cp0 : Nat) (p0 : List ByteArray) (w : World) (o : Nat → Nat) (Lg2 : Nat) (hg2 : Ft (RdC (encInt .u32) (some ⟨2, 0, none⟩) glob2) w o Lg2) (Lp0 : Nat) (hp0 : Ft (RdC encStr Ap0 p0) w o Lp0) (hcp0 : (p0).length ≤ cp0)  (r : Int) (H : sum_Of K p0 = some r) :
    Calls Tryd.prog 57 #[.slice Ap0 (p0).length cp0] w (Ret fun v_ w' => ∃ o' : Nat → Nat, v_ = .int .u32 r ∧ St [] w o w' o') := by
  refine x_enter (vs := [.slice Ap0 (p0).length cp0]) Tryd.func57 rfl rfl rfl fun a hk => ?_
  obtain ⟨o0, hs, h0⟩ := St.start w o
  have fg2 := h0 _ _ hg2
  have f900000 := h0 _ _ hp0
  clear h0
  rw [sum_Of] at H
  refine x_seq ?_
  refine wpIn_region_lit ?_
  refine x_run tab hk (k := 1) (lv := []) (ks := [0]) (e' := [(0, .slice Ap0 (p0).length cp0)]) rfl trivial fun a hk => ?_
  refine wpListIn_nil ?_
  refine then_n ?_
  refine x_seq ?_
  refine wpIn_region_lit ?_
  refine x_run tab hk (k := 1) (lv := []) (ks := [0, 3]) (e' := [(0, .slice Ap0 (p0).length cp0), (3, .int .u32 4294967295)]) rfl trivial fun a hk => ?_
  refine wpListIn_nil ?_
  refine then_n ?_
  refine x_mid (fun a_ w_ => ∃ o327 : Nat → Nat, ∃ x328 : Int, Kn 27 a_ [(3, .int .u32 x328)] ∧ St [] w (fun _ => 0) w_ o327 ∧ Ft (RdC (encInt .u32) (some ⟨2, 0, none⟩) glob2) w_ o327 0 ∧ sum_Of_j1 x328 = some r) ?_ ?_
  rotate_left
  · rintro a w329 ⟨o327, x328, hk, hs, fg2, H⟩
    rw [sum_Of_j1] at H
    refine x_seq ?_
    refine wpIn_region_lit ?_
    refine x_run tab hk (k := 3) (lv := []) (ks := [2]) (e' := [(2, .int .u32 (bits .xor .u32 4294967295 x328))]) rfl trivial fun a hk => ?_
    refine wpListIn_nil ?_
    refine then_n ?_
    refine wpIn_ret ?_
    obtain rfl := Option.some.inj H
    exact x_retG hk (rs := [.tmp 2]) (vs := [.int .u32 (bits .xor .u32 4294967295 x328)]) rfl ⟨rfl, trivial⟩ ⟨fun b_ => if b_ < w.heap.size then o b_ else (fun _ => 0) (o327 b_), rfl, hs.close0 o (fun _ => 0)⟩
  refine x_seq ?_
  refine wpIn_region_lit ?_
  refine x_run tab hk (k := 3) (lv := []) (ks := [3, 7, 8, 9]) (e' := [(3, .int .u32 4294967295), (7, .slice Ap0 (p0).length cp0), (8, .int .i64 ((p0).length : Int)), (9, .int .i64 0)]) rfl trivial fun a hk => ?_
  refine wpListIn_nil ?_
  refine then_n ?_
  refine wpIn_block ?_
  refine x_loop (fun j_ a_ w_ => ∃ o435 : Nat → Nat, ∃ x436 : Int, ∃ A437 : Option Addr, ∃ c438 : Nat, ∃ x441 : Int, Kn 27 a_ [(3, .int .u32 x436), (7, .slice A437 (p0).length c438), (8, .int .i64 ((p0).length : Int)), (9, .int .i64 x441)] ∧ St [] w (fun _ => 0) w_ o435 ∧ Ft (RdC encStr A437 p0) w_ o435 0 ∧ Ft (RdC (encInt .u32) (some ⟨2, 0, none⟩) glob2) w_ o435 0 ∧ (p0).length ≤ c438 ∧ sum_Of_l2 K p0 j_ x436 x441 = some r) (k := K) ⟨o0, 4294967295, Ap0, cp0, 0, (by exact Kn.pick (ks := [3, 7, 8, 9]) hk rfl), hs, f900000, fg2, hcp0, H⟩ (by rintro _ _ ⟨_, _, _, _, _, _, _, _, _, _, H_⟩; exact absurd (show (none : Option Int) = some r from H_) (by simp)) ?_
  rintro k545 a w544 ⟨o435, x436, A437, c438, x441, hk, hs, f439, fg2, hc440, H⟩
  rw [sum_Of_l2] at H
  obtain ⟨lp546, hlp547⟩ : ∃ lp_, lp_ = sum_Of_l2 K p0 k545 := ⟨_, rfl⟩
  rw [← hlp547] at H
  refine x_seq ?_
  refine wpIn_region_lit ?_
  refine x_run tab hk (k := 1) (lv := []) (ks := [3, 7, 8, 9, 10]) (e' := [(3, .int .u32 x436), (7, .slice A437 (p0).length c438), (8, .int .i64 ((p0).length : Int)), (9, .int .i64 x441), (10, .bool (decide (x441 < ((p0).length : Int))))]) rfl trivial fun a hk => ?_
  refine wpListIn_nil ?_
  refine then_n ?_
  refine x_seq ?_
  cases b548 : (decide (x441 < ((p0).length : Int)))
  · rw [b548] at hk H
    replace H := bifF H
    refine x_if hk (b := false) rfl ?_
    refine (show Code.wpIn _ _ _ _ _ _ _ from ?_)
    refine wpIn_exit ?_
    refine then_x ?_
    refine then_x ?_
    refine blk_x ?_
    refine then_n ?_
    exact ⟨o435, x436, (by exact Kn.pick (ks := [3]) hk rfl), hs, fg2, H⟩
  · rw [b548] at hk H
    replace H := bifT H
    refine x_if hk (b := true) rfl ?_
    refine (show Code.wpIn _ _ _ _ _ _ _ from ?_)
    refine wpIn_skip ?_
    refine then_n ?_
    refine x_mid (fun a_ w_ => ∃ o601 : Nat → Nat, ∃ x602 : Int, ∃ A603 : Option Addr, ∃ c604 : Nat, Kn 27 a_ [(3, .int .u32 x602), (7, .slice A603 (p0).length c604), (8, .int .i64 ((p0).length : Int)), (9, .int .i64 x441)] ∧ St [] w (fun _ => 0) w_ o601 ∧ Ft (RdC encStr A603 p0) w_ o601 0 ∧ Ft (RdC (encInt .u32) (some ⟨2, 0, none⟩) glob2) w_ o601 0 ∧ (p0).length ≤ c604 ∧ sum_Of_j3 x441 lp546 x602 = some r) ?_ ?_
    rotate_left
    · rintro a w607 ⟨o601, x602, A603, c604, hk, hs, f605, fg2, hc606, H⟩
      rw [sum_Of_j3] at H
      refine wpIn_region_lit ?_
      refine x_run tab hk (k := 2) (lv := []) (ks := [3, 7, 8, 9]) (e' := [(3, .int .u32 x602), (7, .slice A603 (p0).length c604), (8, .int .i64 ((p0).length : Int)), (9, .int .i64 (IntKind.wrap .i64 (x441 + 1)))]) rfl trivial fun a hk => ?_
      refine wpListIn_nil ?_
      refine then_n ?_
      exact ⟨k545, Nat.le_refl _, o601, x602, A603, c604, (IntKind.wrap .i64 (x441 + 1)), (by exact Kn.pick (ks := [3, 7, 8, 9]) hk rfl), hs, f605, fg2, hc606, (hlp547 ▸ H)⟩
    refine wpIn_block ?_
    refine x_seq ?_
    refine wpIn_region_lit ?_
    obtain ⟨q608, H⟩ := ifS H
    obtain ⟨ad609, hAad609⟩ := RdC.addr f439.now q608
    have hk_C := hk
    have f439_C := f439
    have fg2_C := fg2
    subst hAad609
    have hk := hk_C
    clear hk_C
    have f439 := f439_C
    clear f439_C
    have fg2 := fg2_C
    clear fg2_C
    refine x_run tab hk (k := 3) (lv := [.string (rdD (⟨#[]⟩ : ByteArray) p0 x441)]) (ks := [3, 5, 7, 8, 9]) (e' := [(3, .int .u32 x436), (5, .string (rdD (⟨#[]⟩ : ByteArray) p0 x441)), (7, .slice (some ad609) (p0).length c438), (8, .int .i64 ((p0).length : Int)), (9, .int .i64 x441)]) rfl ⟨q608, (load1 tab rfl (RdC.at0 (E := encStr) (d := (⟨#[]⟩ : ByteArray)) (i := x441) f439.now q608 rfl)), trivial⟩ fun a hk => ?_
    refine wpListIn_nil ?_
    refine then_n ?_
    refine x_seq ?_
    refine wpIn_region_lit ?_
    refine x_run tab hk (k := 3) (lv := []) (ks := [3, 5, 7, 8, 9, 14, 15]) (e' := [(3, .int .u32 x436), (5, .string (rdD (⟨#[]⟩ : ByteArray) p0 x441)), (7, .slice (some ad609) (p0).length c438), (8, .int .i64 ((p0).length : Int)), (9, .int .i64 x441), (14, .int .i64 (((rdD (⟨#[]⟩ : ByteArray) p0 x441)).size : Int)), (15, .int .i64 0)]) rfl trivial fun a hk => ?_
    refine wpListIn_nil ?_
    refine then_n ?_
    refine wpIn_block ?_
    refine x_loop (fun j_ a_ w_ => ∃ o623 : Nat → Nat, ∃ x624 : Int, ∃ x625 : Int, Kn 27 a_ [(3, .int .u32 x624), (5, .string (rdD (⟨#[]⟩ : ByteArray) p0 x441)), (7, .slice (some ad609) (p0).length c438), (8, .int .i64 ((p0).length : Int)), (9, .int .i64 x441), (14, .int .i64 (((rdD (⟨#[]⟩ : ByteArray) p0 x441)).size : Int)), (15, .int .i64 x625)] ∧ St [] w (fun _ => 0) w_ o623 ∧ Ft (RdC encStr (some ad609) p0) w_ o623 0 ∧ Ft (RdC (encInt .u32) (some ⟨2, 0, none⟩) glob2) w_ o623 0 ∧ sum_Of_l4 p0 x441 lp546 j_ x624 x625 = some r) (k := K) ⟨o435, x436, 0, (by exact Kn.pick (ks := [3, 5, 7, 8, 9, 14, 15]) hk rfl), hs, f439, fg2, H⟩ (by rintro _ _ ⟨_, _, _, _, _, _, _, H_⟩; exact absurd (show (none : Option Int) = some r from H_) (by simp)) ?_
    rintro k637 a w636 ⟨o623, x624, x625, hk, hs, f439, fg2, H⟩
    rw [sum_Of_l4] at H
    obtain ⟨lp638, hlp639⟩ : ∃ lp_, lp_ = sum_Of_l4 p0 x441 lp546 k637 := ⟨_, rfl⟩
    rw [← hlp639] at H
    refine x_seq ?_
    refine wpIn_region_lit ?_
    refine x_run tab hk (k := 1) (lv := []) (ks := [3, 5, 7, 8, 9, 14, 15, 16]) (e' := [(3, .int .u32 x624), (5, .string (rdD (⟨#[]⟩ : ByteArray) p0 x441)), (7, .slice (some ad609) (p0).length c438), (8, .int .i64 ((p0).length : Int)), (9, .int .i64 x441), (14, .int .i64 (((rdD (⟨#[]⟩ : ByteArray) p0 x441)).size : Int)), (15, .int .i64 x625), (16, .bool (decide (x625 < (((rdD (⟨#[]⟩ : ByteArray) p0 x441)).size : Int))))]) rfl trivial fun a hk => ?_
    refine wpListIn_nil ?_
    refine then_n ?_
    refine x_seq ?_
    cases b640 : (decide (x625 < (((rdD (⟨#[]⟩ : ByteArray) p0 x441)).size : Int)))
    · rw [b640] at hk H
      replace H := bifF H
      refine x_if hk (b := false) rfl ?_
      refine (show Code.wpIn _ _ _ _ _ _ _ from ?_)
      refine wpIn_exit ?_
      refine then_x ?_
      refine then_x ?_
      refine blk_x ?_
      refine blk_n ?_
      refine then_n ?_
      exact ⟨o623, x624, (some ad609), c438, (by exact Kn.pick (ks := [3, 7, 8, 9]) hk rfl), hs, f439, fg2, hc440, H⟩
    · rw [b640] at hk H
      replace H := bifT H
      refine x_if hk (b := true) rfl ?_
      refine (show Code.wpIn _ _ _ _ _ _ _ from ?_)
      refine wpIn_skip ?_
      refine then_n ?_
      refine x_seq ?_
      refine wpIn_block ?_
      refine x_seq ?_
      refine wpIn_region_lit ?_
      refine x_run tab hk (k := 2) (lv := []) (ks := [3, 5, 6, 7, 8, 9, 14, 15]) (e' := [(3, .int .u32 x624), (5, .string (rdD (⟨#[]⟩ : ByteArray) p0 x441)), (6, .int .i64 x625), (7, .slice (some ad609) (p0).length c438), (8, .int .i64 ((p0).length : Int)), (9, .int .i64 x441), (14, .int .i64 (((rdD (⟨#[]⟩ : ByteArray) p0 x441)).size : Int)), (15, .int .i64 x625)]) rfl trivial fun a hk => ?_
      refine wpListIn_nil ?_
      refine then_n ?_
      refine wpIn_region_lit ?_
      obtain ⟨q641, H⟩ := ifS H
      refine x_run tab hk (k := 4) (lv := []) (ks := [5, 7, 8, 9, 14, 15, 18, 21]) (e' := [(5, .string (rdD (⟨#[]⟩ : ByteArray) p0 x441)), (7, .slice (some ad609) (p0).length c438), (8, .int .i64 ((p0).length : Int)), (9, .int .i64 x441), (14, .int .i64 (((rdD (⟨#[]⟩ : ByteArray) p0 x441)).size : Int)), (15, .int .i64 x625), (18, .int .u32 x624), (21, .int .u8 (bt (rdD (⟨#[]⟩ : ByteArray) p0 x441) x625))]) rfl ⟨q641, trivial⟩ fun a hk => ?_
      refine x_op hk rfl ?_
      obtain ⟨t645, hc646, H⟩ := bindS H
      refine op_call hk ent_62 (vs := [.int .u32 x624, .int .u8 (bt (rdD (⟨#[]⟩ : ByteArray) p0 x441) x625)]) rfl (sum_step_calls x624 (bt (rdD (⟨#[]⟩ : ByteArray) p0 x441) x625) _ o623 0 fg2   _ hc646) ?_
      rintro _ w647 ⟨o648, rfl, st649⟩
      replace f439 := f439.st st649 (by decide)
      replace fg2 := fg2.st st649 (by decide)
      replace hs := hs.loc0 st649 (by decide)
      have hk := hk.put 22 (.int .u32 t645) rfl
      refine x_run tab hk (k := 1) (lv := []) (ks := [3, 5, 7, 8, 9, 14, 15]) (e' := [(3, .int .u32 t645), (5, .string (rdD (⟨#[]⟩ : ByteArray) p0 x441)), (7, .slice (some ad609) (p0).length c438), (8, .int .i64 ((p0).length : Int)), (9, .int .i64 x441), (14, .int .i64 (((rdD (⟨#[]⟩ : ByteArray) p0 x441)).size : Int)), (15, .int .i64 x625)]) rfl trivial fun a hk => ?_
      refine wpListIn_nil ?_
      refine blk_n ?_
      refine then_n ?_
      refine wpIn_region_lit ?_
      refine x_run tab hk (k := 2) (lv := []) (ks := [3, 5, 7, 8, 9, 14, 15]) (e' := [(3, .int .u32 t645), (5, .string (rdD (⟨#[]⟩ : ByteArray) p0 x441)), (7, .slice (some ad609) (p0).length c438), (8, .int .i64 ((p0).length : Int)), (9, .int .i64 x441), (14, .int .i64 (((rdD (⟨#[]⟩ : ByteArray) p0 x441)).size : Int)), (15, .int .i64 (IntKind.wrap .i64 (x625 + 1)))]) rfl trivial fun a hk => ?_
      refine wpListIn_nil ?_
      refine then_n ?_
      exact ⟨k637, Nat.le_refl _, o648, t645, (IntKind.wrap .i64 (x625 + 1)), (by exact Kn.pick (ks := [3, 5, 7, 8, 9, 14, 15]) hk rfl), hs, f439, fg2, (hlp639 ▸ H)⟩

end Go.Proofs.YthmdgjdgnfoloaaDoor
