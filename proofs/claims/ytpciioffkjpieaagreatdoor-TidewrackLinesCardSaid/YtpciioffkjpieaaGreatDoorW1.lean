/- Walks, printed by an own program: the machine's calls compute the plain functions. -/
import Derived.Test.YtpciioffkjpieaaGreatDoorW0
set_option linter.unusedVariables false
set_option linter.unusedSimpArgs false
namespace Go.Proofs.YtpciioffkjpieaaGreatDoor
open Go Go.Proofs.XC
/-! tidewrack/grid.clip -/
theorem grid_clip_calls (p0 : Int) (p1 : Int) (p2 : Int) (w : World) (o : Nat → Nat)   (r : Int) (H : grid_clip p0 p1 p2 = some r) :
    Calls Tryz.prog 52 #[.int .i64 p0, .int .i64 p1, .int .i64 p2] w (Ret fun v_ w' => ∃ o' : Nat → Nat, v_ = .int .i64 r ∧ St [] w o w' o') := by
  refine x_enter (vs := [.int .i64 p0, .int .i64 p1, .int .i64 p2]) Tryz.func52 rfl rfl rfl fun a hk => ?_
  obtain ⟨o0, hs, h0⟩ := St.start w o
  clear h0
  rw [grid_clip] at H
  refine x_seq ?_
  refine wpIn_region_lit ?_
  refine x_run tab hk (k := 1) (lv := []) (ks := [0, 1, 2]) (e' := [(0, .int .i64 p0), (1, .int .i64 p1), (2, .int .i64 p2)]) rfl trivial fun a hk => ?_
  refine wpListIn_nil ?_
  refine then_n ?_
  refine x_seq ?_
  refine wpIn_region_lit ?_
  refine x_run tab hk (k := 6) (lv := []) (ks := [6]) (e' := [(6, .int .i64 (mxI p1 (mnI p0 p2)))]) rfl trivial fun a hk => ?_
  refine wpListIn_nil ?_
  refine then_n ?_
  refine wpIn_ret ?_
  obtain rfl := Option.some.inj H
  exact x_retG hk (rs := [.tmp 6]) (vs := [.int .i64 (mxI p1 (mnI p0 p2))]) rfl ⟨rfl, trivial⟩ ⟨fun b_ => if b_ < w.heap.size then o b_ else (fun _ => 0) (o0 b_), rfl, hs.close0 o (fun _ => 0)⟩

/-! tidewrack/grid.size -/
theorem grid_size_calls (p0 : Int) (w : World) (o : Nat → Nat)   (r : Int) (H : grid_size p0 = some r) :
    Calls Tryz.prog 22 #[.int .i64 p0] w (Ret fun v_ w' => ∃ o' : Nat → Nat, v_ = .int .i64 r ∧ St [] w o w' o') := by
  refine x_enter (vs := [.int .i64 p0]) Tryz.func22 rfl rfl rfl fun a hk => ?_
  obtain ⟨o0, hs, h0⟩ := St.start w o
  clear h0
  rw [grid_size] at H
  refine x_seq ?_
  refine wpIn_region_lit ?_
  refine x_run tab hk (k := 1) (lv := []) (ks := [0]) (e' := [(0, .int .i64 p0)]) rfl trivial fun a hk => ?_
  refine wpListIn_nil ?_
  refine then_n ?_
  refine x_seq ?_
  refine wpIn_region_lit ?_
  refine x_run tab hk (k := 1) (lv := []) (ks := [3]) (e' := [(3, .int .i64 p0)]) rfl trivial fun a hk => ?_
  refine x_op hk rfl ?_
  obtain ⟨t4, hc5, H⟩ := bindS H
  refine op_call hk ent_52 (vs := [.int .i64 p0, .int .i64 1, .int .i64 1000]) rfl (grid_clip_calls p0 1 1000 _ o0    _ hc5) ?_
  rintro _ w6 ⟨o7, rfl, st8⟩
  replace hs := hs.loc0 st8 (by decide)
  have hk := hk.put 4 (.int .i64 t4) rfl
  refine x_run tab hk (k := 1) (lv := []) (ks := [2]) (e' := [(2, .int .i64 t4)]) rfl trivial fun a hk => ?_
  refine wpListIn_nil ?_
  refine then_n ?_
  refine wpIn_ret ?_
  obtain rfl := Option.some.inj H
  exact x_retG hk (rs := [.tmp 2]) (vs := [.int .i64 t4]) rfl ⟨rfl, trivial⟩ ⟨fun b_ => if b_ < w.heap.size then o b_ else (fun _ => 0) (o7 b_), rfl, hs.close0 o (fun _ => 0)⟩

/-! tidewrack/row.clip -/
theorem row_clip_calls (p0 : Int) (p1 : Int) (p2 : Int) (w : World) (o : Nat → Nat)   (r : Int) (H : row_clip p0 p1 p2 = some r) :
    Calls Tryz.prog 54 #[.int .i64 p0, .int .i64 p1, .int .i64 p2] w (Ret fun v_ w' => ∃ o' : Nat → Nat, v_ = .int .i64 r ∧ St [] w o w' o') := by
  refine x_enter (vs := [.int .i64 p0, .int .i64 p1, .int .i64 p2]) Tryz.func54 rfl rfl rfl fun a hk => ?_
  obtain ⟨o0, hs, h0⟩ := St.start w o
  clear h0
  rw [row_clip] at H
  refine x_seq ?_
  refine wpIn_region_lit ?_
  refine x_run tab hk (k := 1) (lv := []) (ks := [0, 1, 2]) (e' := [(0, .int .i64 p0), (1, .int .i64 p1), (2, .int .i64 p2)]) rfl trivial fun a hk => ?_
  refine wpListIn_nil ?_
  refine then_n ?_
  refine x_seq ?_
  refine wpIn_region_lit ?_
  refine x_run tab hk (k := 6) (lv := []) (ks := [6]) (e' := [(6, .int .i64 (mxI p1 (mnI p0 p2)))]) rfl trivial fun a hk => ?_
  refine wpListIn_nil ?_
  refine then_n ?_
  refine wpIn_ret ?_
  obtain rfl := Option.some.inj H
  exact x_retG hk (rs := [.tmp 6]) (vs := [.int .i64 (mxI p1 (mnI p0 p2))]) rfl ⟨rfl, trivial⟩ ⟨fun b_ => if b_ < w.heap.size then o b_ else (fun _ => 0) (o0 b_), rfl, hs.close0 o (fun _ => 0)⟩

/-! tidewrack/row.blank -/
theorem row_blank_calls (p0 : Int) (w : World) (o : Nat → Nat)   (r : T77) (H : row_blank p0 = some r) :
    Calls Tryz.prog 30 #[.int .i64 p0] w (Ret fun v_ w' => ∃ o' : Nat → Nat, v_ = .agg #[.int .i32 r.Rune, .int .i64 r.Style, .int .i64 r.Part] ∧ St [] w o w' o') := by
  refine x_enter (vs := [.int .i64 p0]) Tryz.func30 rfl rfl rfl fun a hk => ?_
  obtain ⟨o0, hs, h0⟩ := St.start w o
  clear h0
  rw [row_blank] at H
  refine x_seq ?_
  refine wpIn_region_lit ?_
  refine x_op hk rfl ?_
  refine op_alloc (o := o0) tab (t := 78) (cs := [.int .i32 0, .int .i64 0, .int .i64 0]) rfl rfl 1 fun bx4 w1 o2 st3 f5 => ?_
  replace hs := hs.loc0 st3 (by decide)
  have hk := hk.put 2 (.pointer (some ⟨bx4, 0, none⟩)) rfl
  refine wpListIn_nil ?_
  refine then_n ?_
  refine x_seq ?_
  refine wpIn_region_lit ?_
  refine x_run tab hk (k := 2) (lv := []) (ks := [2, 4]) (e' := [(2, .pointer (some ⟨bx4, 0, none⟩)), (4, .agg #[.int .i32 32, .int .i64 p0, .int .i64 0])]) rfl trivial fun a hk => ?_
  refine x_op hk rfl ?_
  refine op_store tab hk (t := 78) (v := .agg #[.int .i32 32, .int .i64 p0, .int .i64 0]) (b := bx4) (k := 0) (cs' := [.int .i32 32, .int .i64 p0, .int .i64 0]) rfl rfl rfl rfl rfl rfl f5 rfl rfl fun w6 o7 st8 f5_ => ?_
  replace hs := hs.loc0 st8 (by decide)
  replace f5 := f5_
  refine wpListIn_nil ?_
  refine then_n ?_
  refine wpIn_ret ?_
  obtain rfl := Option.some.inj H
  exact x_retG hk (rs := [.cell 2 78]) (vs := [.agg #[.int .i32 32, .int .i64 p0, .int .i64 0]]) rfl ⟨⟨_, rfl, load_box tab rfl rfl f5.now (k := 0) rfl rfl⟩, trivial⟩ ⟨fun b_ => if b_ < w.heap.size then o b_ else (fun _ => 0) (o7 b_), rfl, hs.close0 o (fun _ => 0)⟩

/-! math/bits.Mul32 -/
theorem bits_Mul32_calls (p0 : Int) (p1 : Int) (w : World) (o : Nat → Nat)   (r : Int × Int) (H : bits_Mul32 p0 p1 = some r) :
    Calls Tryz.prog 104 #[.int .u32 p0, .int .u32 p1] w (Ret fun v_ w' => ∃ o' : Nat → Nat, v_ = .tuple #[.int .u32 r.1, .int .u32 r.2] ∧ St [] w o w' o') := by
  refine x_enter (vs := [.int .u32 p0, .int .u32 p1]) Tryz.func104 rfl rfl rfl fun a hk => ?_
  obtain ⟨o0, hs, h0⟩ := St.start w o
  clear h0
  rw [bits_Mul32] at H
  refine x_seq ?_
  refine wpIn_region_lit ?_
  refine x_run tab hk (k := 2) (lv := []) (ks := [0, 1]) (e' := [(0, .int .u32 p0), (1, .int .u32 p1)]) rfl trivial fun a hk => ?_
  refine wpListIn_nil ?_
  refine then_n ?_
  refine x_seq ?_
  refine wpIn_region_lit ?_
  refine x_run tab hk (k := 6) (lv := []) (ks := [6]) (e' := [(6, .int .u64 (IntKind.wrap .u64 ((IntKind.wrap .u64 p0) * (IntKind.wrap .u64 p1))))]) rfl trivial fun a hk => ?_
  refine wpListIn_nil ?_
  refine then_n ?_
  refine x_seq ?_
  refine wpIn_region_lit ?_
  refine x_run tab hk (k := 7) (lv := []) (ks := [4, 5]) (e' := [(4, .int .u32 (IntKind.wrap .u32 (Int.fdiv (IntKind.wrap .u64 ((IntKind.wrap .u64 p0) * (IntKind.wrap .u64 p1))) (2 ^ min (Int.toNat 32) 64)))), (5, .int .u32 (IntKind.wrap .u32 (IntKind.wrap .u64 ((IntKind.wrap .u64 p0) * (IntKind.wrap .u64 p1)))))]) rfl ⟨(show 0 ≤ (32 : Int) from by decide), trivial⟩ fun a hk => ?_
  refine wpListIn_nil ?_
  refine then_n ?_
  refine wpIn_ret ?_
  obtain rfl := Option.some.inj H
  exact x_retG hk (rs := [.tmp 4, .tmp 5]) (vs := [.int .u32 (IntKind.wrap .u32 (Int.fdiv (IntKind.wrap .u64 ((IntKind.wrap .u64 p0) * (IntKind.wrap .u64 p1))) (2 ^ min (Int.toNat 32) 64))), .int .u32 (IntKind.wrap .u32 (IntKind.wrap .u64 ((IntKind.wrap .u64 p0) * (IntKind.wrap .u64 p1))))]) rfl ⟨rfl, rfl, trivial⟩ ⟨fun b_ => if b_ < w.heap.size then o b_ else (fun _ => 0) (o0 b_), rfl, hs.close0 o (fun _ => 0)⟩

/-! math/bits.Mul64 -/
set_option maxHeartbeats 4000000 in
set_option maxRecDepth 20000 in
theorem bits_Mul64_calls (p0 : Int) (p1 : Int) (w : World) (o : Nat → Nat)   (r : Int × Int) (H : bits_Mul64 p0 p1 = some r) :
    Calls Tryz.prog 105 #[.int .u64 p0, .int .u64 p1] w (Ret fun v_ w' => ∃ o' : Nat → Nat, v_ = .tuple #[.int .u64 r.1, .int .u64 r.2] ∧ St [] w o w' o') := by
  refine x_enter (vs := [.int .u64 p0, .int .u64 p1]) Tryz.func105 rfl rfl rfl fun a hk => ?_
  obtain ⟨o0, hs, h0⟩ := St.start w o
  clear h0
  rw [bits_Mul64] at H
  refine x_seq ?_
  refine wpIn_region_lit ?_
  refine x_run tab hk (k := 2) (lv := []) (ks := [0, 1]) (e' := [(0, .int .u64 p0), (1, .int .u64 p1)]) rfl trivial fun a hk => ?_
  refine wpListIn_nil ?_
  refine then_n ?_
  refine x_seq ?_
  refine wpIn_region_lit ?_
  refine x_run tab hk (k := 3) (lv := []) (ks := [0, 1, 6]) (e' := [(0, .int .u64 p0), (1, .int .u64 p1), (6, .int .u64 (bits .and .u64 p0 4294967295))]) rfl trivial fun a hk => ?_
  refine wpListIn_nil ?_
  refine then_n ?_
  refine x_seq ?_
  refine wpIn_region_lit ?_
  refine x_run tab hk (k := 3) (lv := []) (ks := [0, 1, 6, 7]) (e' := [(0, .int .u64 p0), (1, .int .u64 p1), (6, .int .u64 (bits .and .u64 p0 4294967295)), (7, .int .u64 (Int.fdiv p0 (2 ^ min (Int.toNat 32) 64)))]) rfl ⟨(show 0 ≤ (32 : Int) from by decide), trivial⟩ fun a hk => ?_
  refine wpListIn_nil ?_
  refine then_n ?_
  refine x_seq ?_
  refine wpIn_region_lit ?_
  refine x_run tab hk (k := 3) (lv := []) (ks := [0, 1, 6, 7, 8]) (e' := [(0, .int .u64 p0), (1, .int .u64 p1), (6, .int .u64 (bits .and .u64 p0 4294967295)), (7, .int .u64 (Int.fdiv p0 (2 ^ min (Int.toNat 32) 64))), (8, .int .u64 (bits .and .u64 p1 4294967295))]) rfl trivial fun a hk => ?_
  refine wpListIn_nil ?_
  refine then_n ?_
  refine x_seq ?_
  refine wpIn_region_lit ?_
  refine x_run tab hk (k := 3) (lv := []) (ks := [0, 1, 6, 7, 8, 9]) (e' := [(0, .int .u64 p0), (1, .int .u64 p1), (6, .int .u64 (bits .and .u64 p0 4294967295)), (7, .int .u64 (Int.fdiv p0 (2 ^ min (Int.toNat 32) 64))), (8, .int .u64 (bits .and .u64 p1 4294967295)), (9, .int .u64 (Int.fdiv p1 (2 ^ min (Int.toNat 32) 64)))]) rfl ⟨(show 0 ≤ (32 : Int) from by decide), trivial⟩ fun a hk => ?_
  refine wpListIn_nil ?_
  refine then_n ?_
  refine x_seq ?_
  refine wpIn_region_lit ?_
  refine x_run tab hk (k := 4) (lv := []) (ks := [0, 1, 6, 7, 8, 9, 10]) (e' := [(0, .int .u64 p0), (1, .int .u64 p1), (6, .int .u64 (bits .and .u64 p0 4294967295)), (7, .int .u64 (Int.fdiv p0 (2 ^ min (Int.toNat 32) 64))), (8, .int .u64 (bits .and .u64 p1 4294967295)), (9, .int .u64 (Int.fdiv p1 (2 ^ min (Int.toNat 32) 64))), (10, .int .u64 (IntKind.wrap .u64 ((bits .and .u64 p0 4294967295) * (bits .and .u64 p1 4294967295))))]) rfl trivial fun a hk => ?_
  refine wpListIn_nil ?_
  refine then_n ?_
  refine x_seq ?_
  refine wpIn_region_lit ?_
  refine x_run tab hk (k := 7) (lv := []) (ks := [0, 1, 6, 7, 9, 11]) (e' := [(0, .int .u64 p0), (1, .int .u64 p1), (6, .int .u64 (bits .and .u64 p0 4294967295)), (7, .int .u64 (Int.fdiv p0 (2 ^ min (Int.toNat 32) 64))), (9, .int .u64 (Int.fdiv p1 (2 ^ min (Int.toNat 32) 64))), (11, .int .u64 (IntKind.wrap .u64 ((IntKind.wrap .u64 ((Int.fdiv p0 (2 ^ min (Int.toNat 32) 64)) * (bits .and .u64 p1 4294967295))) + (Int.fdiv (IntKind.wrap .u64 ((bits .and .u64 p0 4294967295) * (bits .and .u64 p1 4294967295))) (2 ^ min (Int.toNat 32) 64)))))]) rfl ⟨(show 0 ≤ (32 : Int) from by decide), trivial⟩ fun a hk => ?_
  refine wpListIn_nil ?_
  refine then_n ?_
  refine x_seq ?_
  refine wpIn_region_lit ?_
  refine x_run tab hk (k := 3) (lv := []) (ks := [0, 1, 6, 7, 9, 11, 12]) (e' := [(0, .int .u64 p0), (1, .int .u64 p1), (6, .int .u64 (bits .and .u64 p0 4294967295)), (7, .int .u64 (Int.fdiv p0 (2 ^ min (Int.toNat 32) 64))), (9, .int .u64 (Int.fdiv p1 (2 ^ min (Int.toNat 32) 64))), (11, .int .u64 (IntKind.wrap .u64 ((IntKind.wrap .u64 ((Int.fdiv p0 (2 ^ min (Int.toNat 32) 64)) * (bits .and .u64 p1 4294967295))) + (Int.fdiv (IntKind.wrap .u64 ((bits .and .u64 p0 4294967295) * (bits .and .u64 p1 4294967295))) (2 ^ min (Int.toNat 32) 64))))), (12, .int .u64 (bits .and .u64 (IntKind.wrap .u64 ((IntKind.wrap .u64 ((Int.fdiv p0 (2 ^ min (Int.toNat 32) 64)) * (bits .and .u64 p1 4294967295))) + (Int.fdiv (IntKind.wrap .u64 ((bits .and .u64 p0 4294967295) * (bits .and .u64 p1 4294967295))) (2 ^ min (Int.toNat 32) 64)))) 4294967295))]) rfl trivial fun a hk => ?_
  refine wpListIn_nil ?_
  refine then_n ?_
  refine x_seq ?_
  refine wpIn_region_lit ?_
  refine x_run tab hk (k := 3) (lv := []) (ks := [0, 1, 6, 7, 9, 12, 13]) (e' := [(0, .int .u64 p0), (1, .int .u64 p1), (6, .int .u64 (bits .and .u64 p0 4294967295)), (7, .int .u64 (Int.fdiv p0 (2 ^ min (Int.toNat 32) 64))), (9, .int .u64 (Int.fdiv p1 (2 ^ min (Int.toNat 32) 64))), (12, .int .u64 (bits .and .u64 (IntKind.wrap .u64 ((IntKind.wrap .u64 ((Int.fdiv p0 (2 ^ min (Int.toNat 32) 64)) * (bits .and .u64 p1 4294967295))) + (Int.fdiv (IntKind.wrap .u64 ((bits .and .u64 p0 4294967295) * (bits .and .u64 p1 4294967295))) (2 ^ min (Int.toNat 32) 64)))) 4294967295)), (13, .int .u64 (Int.fdiv (IntKind.wrap .u64 ((IntKind.wrap .u64 ((Int.fdiv p0 (2 ^ min (Int.toNat 32) 64)) * (bits .and .u64 p1 4294967295))) + (Int.fdiv (IntKind.wrap .u64 ((bits .and .u64 p0 4294967295) * (bits .and .u64 p1 4294967295))) (2 ^ min (Int.toNat 32) 64)))) (2 ^ min (Int.toNat 32) 64)))]) rfl ⟨(show 0 ≤ (32 : Int) from by decide), trivial⟩ fun a hk => ?_
  refine wpListIn_nil ?_
  refine then_n ?_
  refine x_seq ?_
  refine wpIn_region_lit ?_
  refine x_run tab hk (k := 6) (lv := []) (ks := [0, 1, 7, 9, 12, 13]) (e' := [(0, .int .u64 p0), (1, .int .u64 p1), (7, .int .u64 (Int.fdiv p0 (2 ^ min (Int.toNat 32) 64))), (9, .int .u64 (Int.fdiv p1 (2 ^ min (Int.toNat 32) 64))), (12, .int .u64 (IntKind.wrap .u64 ((bits .and .u64 (IntKind.wrap .u64 ((IntKind.wrap .u64 ((Int.fdiv p0 (2 ^ min (Int.toNat 32) 64)) * (bits .and .u64 p1 4294967295))) + (Int.fdiv (IntKind.wrap .u64 ((bits .and .u64 p0 4294967295) * (bits .and .u64 p1 4294967295))) (2 ^ min (Int.toNat 32) 64)))) 4294967295) + (IntKind.wrap .u64 ((bits .and .u64 p0 4294967295) * (Int.fdiv p1 (2 ^ min (Int.toNat 32) 64))))))), (13, .int .u64 (Int.fdiv (IntKind.wrap .u64 ((IntKind.wrap .u64 ((Int.fdiv p0 (2 ^ min (Int.toNat 32) 64)) * (bits .and .u64 p1 4294967295))) + (Int.fdiv (IntKind.wrap .u64 ((bits .and .u64 p0 4294967295) * (bits .and .u64 p1 4294967295))) (2 ^ min (Int.toNat 32) 64)))) (2 ^ min (Int.toNat 32) 64)))]) rfl trivial fun a hk => ?_
  refine wpListIn_nil ?_
  refine then_n ?_
  refine x_seq ?_
  refine wpIn_region_lit ?_
  refine x_run tab hk (k := 9) (lv := []) (ks := [0, 1, 4]) (e' := [(0, .int .u64 p0), (1, .int .u64 p1), (4, .int .u64 (IntKind.wrap .u64 ((IntKind.wrap .u64 ((IntKind.wrap .u64 ((Int.fdiv p0 (2 ^ min (Int.toNat 32) 64)) * (Int.fdiv p1 (2 ^ min (Int.toNat 32) 64)))) + (Int.fdiv (IntKind.wrap .u64 ((IntKind.wrap .u64 ((Int.fdiv p0 (2 ^ min (Int.toNat 32) 64)) * (bits .and .u64 p1 4294967295))) + (Int.fdiv (IntKind.wrap .u64 ((bits .and .u64 p0 4294967295) * (bits .and .u64 p1 4294967295))) (2 ^ min (Int.toNat 32) 64)))) (2 ^ min (Int.toNat 32) 64)))) + (Int.fdiv (IntKind.wrap .u64 ((bits .and .u64 (IntKind.wrap .u64 ((IntKind.wrap .u64 ((Int.fdiv p0 (2 ^ min (Int.toNat 32) 64)) * (bits .and .u64 p1 4294967295))) + (Int.fdiv (IntKind.wrap .u64 ((bits .and .u64 p0 4294967295) * (bits .and .u64 p1 4294967295))) (2 ^ min (Int.toNat 32) 64)))) 4294967295) + (IntKind.wrap .u64 ((bits .and .u64 p0 4294967295) * (Int.fdiv p1 (2 ^ min (Int.toNat 32) 64)))))) (2 ^ min (Int.toNat 32) 64)))))]) rfl ⟨(show 0 ≤ (32 : Int) from by decide), trivial⟩ fun a hk => ?_
  refine wpListIn_nil ?_
  refine then_n ?_
  refine x_seq ?_
  refine wpIn_region_lit ?_
  refine x_run tab hk (k := 4) (lv := []) (ks := [4, 5]) (e' := [(4, .int .u64 (IntKind.wrap .u64 ((IntKind.wrap .u64 ((IntKind.wrap .u64 ((Int.fdiv p0 (2 ^ min (Int.toNat 32) 64)) * (Int.fdiv p1 (2 ^ min (Int.toNat 32) 64)))) + (Int.fdiv (IntKind.wrap .u64 ((IntKind.wrap .u64 ((Int.fdiv p0 (2 ^ min (Int.toNat 32) 64)) * (bits .and .u64 p1 4294967295))) + (Int.fdiv (IntKind.wrap .u64 ((bits .and .u64 p0 4294967295) * (bits .and .u64 p1 4294967295))) (2 ^ min (Int.toNat 32) 64)))) (2 ^ min (Int.toNat 32) 64)))) + (Int.fdiv (IntKind.wrap .u64 ((bits .and .u64 (IntKind.wrap .u64 ((IntKind.wrap .u64 ((Int.fdiv p0 (2 ^ min (Int.toNat 32) 64)) * (bits .and .u64 p1 4294967295))) + (Int.fdiv (IntKind.wrap .u64 ((bits .and .u64 p0 4294967295) * (bits .and .u64 p1 4294967295))) (2 ^ min (Int.toNat 32) 64)))) 4294967295) + (IntKind.wrap .u64 ((bits .and .u64 p0 4294967295) * (Int.fdiv p1 (2 ^ min (Int.toNat 32) 64)))))) (2 ^ min (Int.toNat 32) 64))))), (5, .int .u64 (IntKind.wrap .u64 (p0 * p1)))]) rfl trivial fun a hk => ?_
  refine wpListIn_nil ?_
  refine then_n ?_
  refine wpIn_ret ?_
  obtain rfl := Option.some.inj H
  exact x_retG hk (rs := [.tmp 4, .tmp 5]) (vs := [.int .u64 (IntKind.wrap .u64 ((IntKind.wrap .u64 ((IntKind.wrap .u64 ((Int.fdiv p0 (2 ^ min (Int.toNat 32) 64)) * (Int.fdiv p1 (2 ^ min (Int.toNat 32) 64)))) + (Int.fdiv (IntKind.wrap .u64 ((IntKind.wrap .u64 ((Int.fdiv p0 (2 ^ min (Int.toNat 32) 64)) * (bits .and .u64 p1 4294967295))) + (Int.fdiv (IntKind.wrap .u64 ((bits .and .u64 p0 4294967295) * (bits .and .u64 p1 4294967295))) (2 ^ min (Int.toNat 32) 64)))) (2 ^ min (Int.toNat 32) 64)))) + (Int.fdiv (IntKind.wrap .u64 ((bits .and .u64 (IntKind.wrap .u64 ((IntKind.wrap .u64 ((Int.fdiv p0 (2 ^ min (Int.toNat 32) 64)) * (bits .and .u64 p1 4294967295))) + (Int.fdiv (IntKind.wrap .u64 ((bits .and .u64 p0 4294967295) * (bits .and .u64 p1 4294967295))) (2 ^ min (Int.toNat 32) 64)))) 4294967295) + (IntKind.wrap .u64 ((bits .and .u64 p0 4294967295) * (Int.fdiv p1 (2 ^ min (Int.toNat 32) 64)))))) (2 ^ min (Int.toNat 32) 64)))), .int .u64 (IntKind.wrap .u64 (p0 * p1))]) rfl ⟨rfl, rfl, trivial⟩ ⟨fun b_ => if b_ < w.heap.size then o b_ else (fun _ => 0) (o0 b_), rfl, hs.close0 o (fun _ => 0)⟩

/-! math/bits.Mul -/
theorem bits_Mul_calls (p0 : Int) (p1 : Int) (w : World) (o : Nat → Nat)   (r : Int × Int) (H : bits_Mul p0 p1 = some r) :
    Calls Tryz.prog 99 #[.int .u64 p0, .int .u64 p1] w (Ret fun v_ w' => ∃ o' : Nat → Nat, v_ = .tuple #[.int .u64 r.1, .int .u64 r.2] ∧ St [] w o w' o') := by
  refine x_enter (vs := [.int .u64 p0, .int .u64 p1]) Tryz.func99 rfl rfl rfl fun a hk => ?_
  obtain ⟨o0, hs, h0⟩ := St.start w o
  clear h0
  rw [bits_Mul] at H
  refine x_seq ?_
  refine wpIn_region_lit ?_
  refine x_run tab hk (k := 2) (lv := []) (ks := [0, 1]) (e' := [(0, .int .u64 p0), (1, .int .u64 p1)]) rfl trivial fun a hk => ?_
  refine wpListIn_nil ?_
  refine then_n ?_
  refine x_seq ?_
  refine x_if hk (b := false) rfl ?_
  refine (show Code.wpIn _ _ _ _ _ _ _ from ?_)
  refine wpIn_skip ?_
  refine then_n ?_
  refine x_seq ?_
  refine wpIn_region_lit ?_
  refine x_run tab hk (k := 2) (lv := []) (ks := [23, 24]) (e' := [(23, .int .u64 p0), (24, .int .u64 p1)]) rfl trivial fun a hk => ?_
  refine x_op hk rfl ?_
  obtain ⟨t4, hc5, H⟩ := bindS H
  refine op_call hk ent_105 (vs := [.int .u64 p0, .int .u64 p1]) rfl (bits_Mul64_calls p0 p1 _ o0    _ hc5) ?_
  rintro _ w6 ⟨o7, rfl, st8⟩
  replace hs := hs.loc0 st8 (by decide)
  have hk := hk.put 25 (.tuple #[.int .u64 t4.1, .int .u64 t4.2]) rfl
  refine x_run tab hk (k := 5) (lv := []) (ks := [8, 9]) (e' := [(8, .int .u64 t4.1), (9, .int .u64 t4.2)]) rfl trivial fun a hk => ?_
  refine wpListIn_nil ?_
  refine then_n ?_
  refine x_seq ?_
  refine wpIn_region_lit ?_
  refine x_run tab hk (k := 4) (lv := []) (ks := [4, 5]) (e' := [(4, .int .u64 t4.1), (5, .int .u64 t4.2)]) rfl trivial fun a hk => ?_
  refine wpListIn_nil ?_
  refine then_n ?_
  refine wpIn_ret ?_
  obtain rfl := Option.some.inj H
  exact x_retG hk (rs := [.tmp 4, .tmp 5]) (vs := [.int .u64 t4.1, .int .u64 t4.2]) rfl ⟨rfl, rfl, trivial⟩ ⟨fun b_ => if b_ < w.heap.size then o b_ else (fun _ => 0) (o7 b_), rfl, hs.close0 o (fun _ => 0)⟩

/-! slices.Repeat[[]tidewrack/row.Cell,tidewrack/row.Cell] -/
abbrev R_1 (l_ : Nat) : Nat := if l_ = 1 then 6 else l_
abbrev R_2 (l_ : Nat) : Nat := if l_ = 6 then 4 else l_
set_option maxHeartbeats 4000000 in
set_option maxRecDepth 20000 in
theorem slices_Repeat_calls (K : Nat) (Ap0 : Option Addr) (cp0 : Nat) (p0 : List T77) (p1 : Int) (w : World) (o : Nat → Nat) (Lp0 : Nat) (hp0 : Ft (RdC ET77 Ap0 p0) w o Lp0) (hcp0 : (p0).length ≤ cp0)  (R0 : Nat) (r : List T77) (H : slices_Repeat K p0 p1 = some r) :
    Calls Tryz.prog 84 #[.slice Ap0 (p0).length cp0, .int .i64 p1] w (Ret fun v_ w' => ∃ o' : Nat → Nat, ∃ A0 : Option Addr, ∃ c0 : Nat, v_ = .slice A0 (r).length c0 ∧ St [] w o w' o' ∧ Ft (Own ET77 78 (.slice A0 (r).length c0) r) w' o' R0 ∧ (r).length ≤ c0) := by
  refine x_enter (vs := [.slice Ap0 (p0).length cp0, .int .i64 p1]) Tryz.func84 rfl rfl rfl fun a hk => ?_
  obtain ⟨o0, hs, h0⟩ := St.start w o
  have f900000 := h0 _ _ hp0
  clear h0
  rw [slices_Repeat] at H
  refine x_seq ?_
  refine wpIn_region_lit ?_
  refine x_run tab hk (k := 1) (lv := []) (ks := [0, 1]) (e' := [(0, .slice Ap0 (p0).length cp0), (1, .int .i64 p1)]) rfl trivial fun a hk => ?_
  refine wpListIn_nil ?_
  refine then_n ?_
  refine x_mid (fun a_ w_ => ∃ o5 : Nat → Nat, Kn 48 a_ [(0, .slice Ap0 (p0).length cp0), (1, .int .i64 p1)] ∧ St [] w (fun _ => 0) w_ o5 ∧ Ft (RdC ET77 Ap0 p0) w_ o5 0 ∧ slices_Repeat_j1 K p0 p1 = some r) ?_ ?_
  rotate_left
  · rintro a w6 ⟨o5, hk, hs, f900000, H⟩
    rw [slices_Repeat_j1] at H
    refine x_seq ?_
    refine wpIn_region_lit ?_
    refine x_run tab hk (k := 5) (lv := []) (ks := [0, 15, 17]) (e' := [(0, .slice Ap0 (p0).length cp0), (15, .int .u64 (IntKind.wrap .u64 ((p0).length : Int))), (17, .int .u64 (IntKind.wrap .u64 p1))]) rfl trivial fun a hk => ?_
    refine x_op hk rfl ?_
    obtain ⟨t10, hc11, H⟩ := bindS H
    refine op_call hk ent_99 (vs := [.int .u64 (IntKind.wrap .u64 ((p0).length : Int)), .int .u64 (IntKind.wrap .u64 p1)]) rfl (bits_Mul_calls (IntKind.wrap .u64 ((p0).length : Int)) (IntKind.wrap .u64 p1) _ o5    _ hc11) ?_
    rintro _ w12 ⟨o13, rfl, st14⟩
    replace f900000 := f900000.st st14 (by decide)
    replace hs := hs.loc0 st14 (by decide)
    have hk := hk.put 18 (.tuple #[.int .u64 t10.1, .int .u64 t10.2]) rfl
    refine x_run tab hk (k := 5) (lv := []) (ks := [0, 5, 6]) (e' := [(0, .slice Ap0 (p0).length cp0), (5, .int .u64 t10.1), (6, .int .u64 t10.2)]) rfl trivial fun a hk => ?_
    refine wpListIn_nil ?_
    refine then_n ?_
    refine x_mid (fun a_ w_ => ∃ o30 : Nat → Nat, Kn 48 a_ [(0, .slice Ap0 (p0).length cp0), (6, .int .u64 t10.2)] ∧ St [] w (fun _ => 0) w_ o30 ∧ Ft (RdC ET77 Ap0 p0) w_ o30 0 ∧ slices_Repeat_j2 K p0 t10 = some r) ?_ ?_
    rotate_left
    · rintro a w31 ⟨o30, hk, hs, f900000, H⟩
      rw [slices_Repeat_j2] at H
      refine x_seq ?_
      refine wpIn_region_lit ?_
      refine x_run tab hk (k := 2) (lv := []) (ks := [0, 29]) (e' := [(0, .slice Ap0 (p0).length cp0), (29, .int .i64 (IntKind.wrap .i64 t10.2))]) rfl trivial fun a hk => ?_
      refine x_op hk rfl ?_
      obtain ⟨q35, H⟩ := ifS H
      obtain ⟨q36, H⟩ := ifS H
      refine op_make (o := o30) (E := ET77) (zx := zT77) tab hk rfl rfl rfl rfl rfl q35 q36 1 fun A37 c38 w32 o33 st34 f39 hc40 => ?_
      replace f900000 := f900000.st st34 (by decide)
      replace hs := hs.loc0 st34 (by decide)
      have hk := hk.put 30 (.slice A37 ((List.replicate (Int.toNat (IntKind.wrap .i64 t10.2)) (zT77 : T77))).length c38) rfl
      refine x_run tab hk (k := 1) (lv := []) (ks := [0, 7]) (e' := [(0, .slice Ap0 (p0).length cp0), (7, .slice A37 ((List.replicate (Int.toNat (IntKind.wrap .i64 t10.2)) (zT77 : T77))).length c38)]) rfl trivial fun a hk => ?_
      refine wpListIn_nil ?_
      refine then_n ?_
      refine x_seq ?_
      refine wpIn_region_lit ?_
      refine x_run tab hk (k := 2) (lv := []) (ks := [7, 31, 32]) (e' := [(7, .slice A37 ((List.replicate (Int.toNat (IntKind.wrap .i64 t10.2)) (zT77 : T77))).length c38), (31, .slice A37 ((List.replicate (Int.toNat (IntKind.wrap .i64 t10.2)) (zT77 : T77))).length c38), (32, .slice Ap0 (p0).length cp0)]) rfl trivial fun a hk => ?_
      refine x_op hk rfl ?_
      refine op_copy0 tab hk (E := ET77) (xs := (List.replicate (Int.toNat (IntKind.wrap .i64 t10.2)) (zT77 : T77))) (ys := p0) rfl rfl hc40 rfl rfl f39 f900000.now fun w41 st43 f39_ => ?_
      replace f900000 := f900000.st st43 (by decide)
      replace hs := hs.loc0 st43 (by decide)
      replace f39 := f39_
      have hl44 : (cpy 0 (List.replicate (Int.toNat (IntKind.wrap .i64 t10.2)) (zT77 : T77)) p0).length = ((List.replicate (Int.toNat (IntKind.wrap .i64 t10.2)) (zT77 : T77))).length := cpy_len (Nat.zero_le _)
      replace hk := Kn.re hk [7, 31, 32] (e2 := [(7, .slice A37 ((cpy 0 (List.replicate (Int.toNat (IntKind.wrap .i64 t10.2)) (zT77 : T77)) p0)).length c38), (31, .slice A37 ((cpy 0 (List.replicate (Int.toNat (IntKind.wrap .i64 t10.2)) (zT77 : T77)) p0)).length c38), (32, .slice Ap0 (p0).length cp0)]) rfl (by rw [hl44])
      have hk := hk.put 33 (.int .i64 ((min (p0).length (((List.replicate (Int.toNat (IntKind.wrap .i64 t10.2)) (zT77 : T77))).length - 0) : Nat) : Int)) rfl
      refine x_run tab hk (k := 1) (lv := []) (ks := [7, 8]) (e' := [(7, .slice A37 ((cpy 0 (List.replicate (Int.toNat (IntKind.wrap .i64 t10.2)) (zT77 : T77)) p0)).length c38), (8, .int .i64 ((min (p0).length (((List.replicate (Int.toNat (IntKind.wrap .i64 t10.2)) (zT77 : T77))).length - 0) : Nat) : Int))]) rfl trivial fun a hk => ?_
      refine wpListIn_nil ?_
      refine then_n ?_
      refine x_mid (fun a_ w_ => ∃ o177 : Nat → Nat, ∃ A178 : Option Addr, ∃ c179 : Nat, ∃ l180 : List T77, Kn 48 a_ [(7, .slice A178 (l180).length c179)] ∧ St [] w (fun _ => 0) w_ o177 ∧ Ft (Own ET77 78 (.slice A178 (l180).length c179) l180) w_ o177 4 ∧ (l180).length ≤ c179 ∧ slices_Repeat_j3 l180 = some r) ?_ ?_
      rotate_left
      · rintro a w183 ⟨o177, A178, c179, l180, hk, hs, f181, hc182, H⟩
        rw [slices_Repeat_j3] at H
        refine x_seq ?_
        refine wpIn_region_lit ?_
        refine x_run tab hk (k := 2) (lv := []) (ks := [4]) (e' := [(4, .slice A178 (l180).length c179)]) rfl trivial fun a hk => ?_
        refine wpListIn_nil ?_
        refine then_n ?_
        refine wpIn_ret ?_
        obtain rfl := Option.some.inj H
        exact x_retG hk (rs := [.tmp 4]) (vs := [.slice A178 (l180).length c179]) rfl ⟨rfl, trivial⟩ ⟨fun b_ => if b_ < w.heap.size then o b_ else (fun _ => R0) (o177 b_), A178, c179, rfl, hs.close0 o (fun _ => R0), hs.close_ft (o := o) (ρ := fun _ => R0) f181 (by decide) rfl, hc182⟩
      refine wpIn_block ?_
      refine x_loop (fun j_ a_ w_ => ∃ o223 : Nat → Nat, ∃ A224 : Option Addr, ∃ c225 : Nat, ∃ l226 : List T77, ∃ x229 : Int, Kn 48 a_ [(7, .slice A224 (l226).length c225), (8, .int .i64 x229)] ∧ St [] w (fun _ => 0) w_ o223 ∧ Ft (Own ET77 78 (.slice A224 (l226).length c225) l226) w_ o223 6 ∧ (l226).length ≤ c225 ∧ slices_Repeat_l4 j_ l226 x229 = some r) (k := K) ⟨(fun b_ => R_1 (o33 b_)), A37, c38, (cpy 0 (List.replicate (Int.toNat (IntKind.wrap .i64 t10.2)) (zT77 : T77)) p0), ((min (p0).length (((List.replicate (Int.toNat (IntKind.wrap .i64 t10.2)) (zT77 : T77))).length - 0) : Nat) : Int), (by exact Kn.pick (ks := [7, 8]) hk rfl), (hs.relab0 R_1 rfl), (f39.relab R_1 rfl), (by rw [cpy_len (Nat.zero_le _)]; exact hc40), H⟩ (fun _ _ z => z.elim fun _ z => z.elim fun _ z => z.elim fun _ z => z.elim fun _ z => z.elim fun _ z => z.elim fun _ z => z.elim fun _ z => z.elim fun _ z => z.elim fun _ z => absurd (show (none : Option (List T77)) = some r from z) (by simp)) ?_
      rintro k267 a w266 ⟨o223, A224, c225, l226, x229, hk, hs, f227, hc228, H⟩
      rw [slices_Repeat_l4] at H
      obtain ⟨lp268, hlp269⟩ : ∃ lp_, lp_ = slices_Repeat_l4 k267 := ⟨_, rfl⟩
      rw [← hlp269] at H
      refine x_seq ?_
      refine x_seq ?_
      refine wpIn_region_lit ?_
      refine x_run tab hk (k := 4) (lv := []) (ks := [7, 8, 37]) (e' := [(7, .slice A224 (l226).length c225), (8, .int .i64 x229), (37, .bool (decide (x229 < ((l226).length : Int))))]) rfl trivial fun a hk => ?_
      refine wpListIn_nil ?_
      refine then_n ?_
      cases b270 : (decide (x229 < ((l226).length : Int)))
      · rw [b270] at hk H
        replace H := bifF H
        refine x_if hk (b := false) rfl ?_
        refine (show Code.wpIn _ _ _ _ _ _ _ from ?_)
        refine wpIn_exit ?_
        refine then_x ?_
        refine then_x ?_
        refine blk_x ?_
        refine then_n ?_
        exact ⟨(fun b_ => R_2 (o223 b_)), A224, c225, l226, (by exact Kn.pick (ks := [7]) hk rfl), (hs.relab0 R_2 rfl), (f227.relab R_2 rfl), hc228, H⟩
      · rw [b270] at hk H
        replace H := bifT H
        refine x_if hk (b := true) rfl ?_
        refine (show Code.wpIn _ _ _ _ _ _ _ from ?_)
        refine wpIn_skip ?_
        refine then_n ?_
        refine wpIn_block ?_
        refine xd_begin (o := o223) (fun W_ => True) mixed rfl rfl fun w293 st294 => ?_
        replace f227 := f227.st st294 (by decide)
        replace hs := hs.loc0 st294 (by decide)
        obtain ⟨q295, H⟩ := ifS H
        obtain ⟨q296, H⟩ := ifS H
        obtain ⟨A297, c298, ak300, f299, hc301⟩ := ask_take (P := Tryz.prog) tab (t := 64) rfl rfl f227 hc228 (k := .i64) x229 q295 q296
        refine xd_take tab hk (k := 3) (is := [0, 1, 2, 3, 4, 5, 6]) (ls' := #[true, true, true, true, true, true, true, false, false, false]) (lv := [(.slice (if c225 = (Int.toNat x229) then A224 else (A224).map (·.add ((Int.toNat x229) * 3))) ((l226).length - (Int.toNat x229)) (c225 - (Int.toNat x229))), .slice A297 ((List.take (Int.toNat x229) l226)).length c298]) (ks := [7, 8, 38, 41, 44]) (e' := [(7, .slice A224 (l226).length c225), (8, .int .i64 x229), (38, .int .i64 x229), (41, (.slice (if c225 = (Int.toNat x229) then A224 else (A224).map (·.add ((Int.toNat x229) * 3))) ((l226).length - (Int.toNat x229)) (c225 - (Int.toNat x229)))), (44, .slice A297 ((List.take (Int.toNat x229) l226)).length c298)]) (by kernel_rfl) rfl rfl (by kernel_rfl) (np_blk (np_then (np_blk (np_then np_body)))) trivial (fun W_ hS => ⟨(ask_rest tab rfl rfl q295 q296 hc228 rfl rfl), (ak300 rfl rfl _), trivial⟩) fun a hk => ?_
        refine xd_op hk (i := 7) (by kernel_rfl) rfl rfl ?_
        refine op_copy (m := (Int.toNat x229)) tab hk (E := ET77) (xs := l226) (ys := (List.take (Int.toNat x229) l226)) rfl rfl (by have := q296; omega) hc228 rfl rfl f227 (Own.rd f299.now) fun w302 st304 f227_ => ?_
        replace hs := hs.loc0 st304 (by decide)
        replace f227 := f227_
        have hl305 : (cpy (Int.toNat x229) l226 (List.take (Int.toNat x229) l226)).length = (l226).length := cpy_len (by have := q296; omega)
        replace hk := Kn.re hk [7, 8, 38] (e2 := [(7, .slice A224 ((cpy (Int.toNat x229) l226 (List.take (Int.toNat x229) l226))).length c225), (8, .int .i64 x229), (38, .int .i64 x229)]) rfl (by rw [hl305])
        have hk := hk.put 45 (.int .i64 ((min ((List.take (Int.toNat x229) l226)).length ((l226).length - (Int.toNat x229)) : Nat) : Int)) rfl
        refine ⟨.inr trivial, ?_⟩
        refine xd_take tab hk (k := 0) (is := [8, 9]) (ls' := #[true, true, true, true, true, true, true, true, true, true]) (lv := []) (ks := [7, 8]) (e' := [(7, .slice A224 ((cpy (Int.toNat x229) l226 (List.take (Int.toNat x229) l226))).length c225), (8, .int .i64 (IntKind.wrap .i64 (x229 + ((min ((List.take (Int.toNat x229) l226)).length ((l226).length - (Int.toNat x229)) : Nat) : Int))))]) (by kernel_rfl) rfl rfl (by kernel_rfl) (np_blk (np_then (np_blk (np_then np_body)))) trivial (fun W_ hS => trivial) fun a hk => ?_
        refine xd_done (by kernel_rfl) ?_
        refine blk_n ?_
        refine then_n ?_
        exact ⟨k267, Nat.le_refl _, o223, A224, c225, (cpy (Int.toNat x229) l226 (List.take (Int.toNat x229) l226)), (IntKind.wrap .i64 (x229 + ((min ((List.take (Int.toNat x229) l226)).length ((l226).length - (Int.toNat x229)) : Nat) : Int))), (by exact Kn.pick (ks := [7, 8]) hk rfl), hs, f227, (by rw [cpy_len (by have := q296; omega)]; exact hc228), (hlp269 ▸ H)⟩
    refine x_mid (fun a_ w_ => ∃ o313 : Nat → Nat, ∃ x314 : Bool, Kn 48 a_ [(0, .slice Ap0 (p0).length cp0), (6, .int .u64 t10.2), (26, .bool x314)] ∧ St [] w (fun _ => 0) w_ o313 ∧ Ft (RdC ET77 Ap0 p0) w_ o313 0 ∧ slices_Repeat_j5 K p0 t10 x314 = some r) ?_ ?_
    rotate_left
    · rintro a w315 ⟨o313, x314, hk, hs, f900000, H⟩
      rw [slices_Repeat_j5] at H
      cases b316 : x314
      · rw [b316] at hk H
        replace H := bifF H
        refine x_if hk (b := false) rfl ?_
        refine (show Code.wpIn _ _ _ _ _ _ _ from ?_)
        refine wpIn_skip ?_
        refine then_n ?_
        exact ⟨o313, (by exact Kn.pick (ks := [0, 6]) hk rfl), hs, f900000, H⟩
      · rw [b316] at hk H
        replace H := bifT H
        refine x_if hk (b := true) rfl ?_
        refine (show Code.wpIn _ _ _ _ _ _ _ from ?_)
        refine wpIn_region_lit ?_
        exact absurd H (by simp)
    refine wpIn_region_lit ?_
    refine x_run tab hk (k := 3) (lv := []) (ks := [0, 6, 23]) (e' := [(0, .slice Ap0 (p0).length cp0), (6, .int .u64 t10.2), (23, .bool (decide (t10.1 > (0 : Int))))]) rfl trivial fun a hk => ?_
    cases b317 : (decide (t10.1 > (0 : Int)))
    · rw [b317] at hk H
      replace H := bifF H
      refine x_run tab hk (k := 3) (lv := []) (ks := [0, 6, 26]) (e' := [(0, .slice Ap0 (p0).length cp0), (6, .int .u64 t10.2), (26, .bool (decide (t10.2 > (9223372036854775807 : Int))))]) rfl trivial fun a hk => ?_
      refine wpListIn_nil ?_
      refine then_n ?_
      exact ⟨o13, (decide (t10.2 > (9223372036854775807 : Int))), (by exact Kn.pick (ks := [0, 6, 26]) hk rfl), hs, f900000, H⟩
    · rw [b317] at hk H
      replace H := bifT H
      refine x_run tab hk (k := 3) (lv := []) (ks := [0, 6, 26]) (e' := [(0, .slice Ap0 (p0).length cp0), (6, .int .u64 t10.2), (26, .bool true)]) rfl trivial fun a hk => ?_
      refine wpListIn_nil ?_
      refine then_n ?_
      exact ⟨o13, true, (by exact Kn.pick (ks := [0, 6, 26]) hk rfl), hs, f900000, H⟩
  refine x_seq ?_
  refine wpIn_region_lit ?_
  refine x_run tab hk (k := 2) (lv := []) (ks := [0, 1, 10]) (e' := [(0, .slice Ap0 (p0).length cp0), (1, .int .i64 p1), (10, .bool (decide (p1 < (0 : Int))))]) rfl trivial fun a hk => ?_
  refine wpListIn_nil ?_
  refine then_n ?_
  cases b318 : (decide (p1 < (0 : Int)))
  · rw [b318] at hk H
    replace H := bifF H
    refine x_if hk (b := false) rfl ?_
    refine (show Code.wpIn _ _ _ _ _ _ _ from ?_)
    refine wpIn_skip ?_
    refine then_n ?_
    exact ⟨o0, (by exact Kn.pick (ks := [0, 1]) hk rfl), hs, f900000, H⟩
  · rw [b318] at hk H
    replace H := bifT H
    refine x_if hk (b := true) rfl ?_
    refine (show Code.wpIn _ _ _ _ _ _ _ from ?_)
    refine wpIn_region_lit ?_
    exact absurd H (by simp)

/-! tidewrack/row.blanks -/
set_option maxHeartbeats 4000000 in
set_option maxRecDepth 20000 in
theorem row_blanks_calls (K : Nat) (p0 : Int) (p1 : Int) (w : World) (o : Nat → Nat)   (R0 : Nat) (r : List T77) (H : row_blanks K p0 p1 = some r) :
    Calls Tryz.prog 53 #[.int .i64 p0, .int .i64 p1] w (Ret fun v_ w' => ∃ o' : Nat → Nat, ∃ A0 : Option Addr, ∃ c0 : Nat, v_ = .slice A0 (r).length c0 ∧ St [] w o w' o' ∧ Ft (Own ET77 78 (.slice A0 (r).length c0) r) w' o' R0 ∧ (r).length ≤ c0) := by
  refine x_enter (vs := [.int .i64 p0, .int .i64 p1]) Tryz.func53 rfl rfl rfl fun a hk => ?_
  obtain ⟨o0, hs, h0⟩ := St.start w o
  clear h0
  rw [row_blanks] at H
  refine x_seq ?_
  refine wpIn_region_lit ?_
  refine x_run tab hk (k := 1) (lv := []) (ks := [0, 1]) (e' := [(0, .int .i64 p0), (1, .int .i64 p1)]) rfl trivial fun a hk => ?_
  refine wpListIn_nil ?_
  refine then_n ?_
  refine x_seq ?_
  refine wpIn_region_lit ?_
  refine x_run tab hk (k := 1) (lv := []) (ks := [0, 5]) (e' := [(0, .int .i64 p0), (5, .int .i64 p1)]) rfl trivial fun a hk => ?_
  refine x_op hk rfl ?_
  obtain ⟨t4, hc5, H⟩ := bindS H
  refine op_call hk ent_30 (vs := [.int .i64 p1]) rfl (row_blank_calls p1 _ o0    _ hc5) ?_
  rintro _ w6 ⟨o7, rfl, st8⟩
  replace hs := hs.loc0 st8 (by decide)
  have hk := hk.put 6 (.agg #[.int .i32 t4.Rune, .int .i64 t4.Style, .int .i64 t4.Part]) rfl
  refine x_op hk rfl ?_
  refine op_slice (o := o7) tab hk (vs := [.agg #[.int .i32 t4.Rune, .int .i64 t4.Style, .int .i64 t4.Part]]) (cs := [.int .i32 t4.Rune, .int .i64 t4.Style, .int .i64 t4.Part]) rfl rfl rfl rfl rfl rfl rfl rfl rfl 1 fun bx12 w9 o10 st11 f13 => ?_
  replace hs := hs.loc0 st11 (by decide)
  have f14 : Ft (Own ET77 78 (.slice (some ⟨bx12, 0, none⟩) (([t4] : List T77)).length 1) ([t4] : List T77)) w9 o10 1 := f13.imp fun _ h_ => Own.of_box h_ rfl (by simp)
  have hk := hk.put 7 (.slice (some ⟨bx12, 0, none⟩) (([t4] : List T77)).length 1) rfl
  refine x_run tab hk (k := 2) (lv := []) (ks := [7, 9]) (e' := [(7, .slice (some ⟨bx12, 0, none⟩) (([t4] : List T77)).length 1), (9, .int .i64 (mxI 0 p0))]) rfl trivial fun a hk => ?_
  refine x_op hk rfl ?_
  obtain ⟨t18, hc19, H⟩ := bindS H
  refine op_call hk ent_84 (vs := [.slice (some ⟨bx12, 0, none⟩) (([t4] : List T77)).length 1, .int .i64 (mxI 0 p0)]) rfl (slices_Repeat_calls K (some ⟨bx12, 0, none⟩) 1 ([t4] : List T77) (mxI 0 p0) _ o10 _ (f14.imp fun _ h_ => Own.rd h_) (Nat.le_refl _) 2  _ hc19) ?_
  rintro _ w20 ⟨o21, A23, c24, rfl, st22, f25, hc26⟩
  replace f14 := f14.st st22 (by decide)
  replace hs := hs.loc0 st22 (by decide)
  have hk := hk.put 10 (.slice A23 (t18).length c24) rfl
  refine x_run tab hk (k := 1) (lv := []) (ks := [4]) (e' := [(4, .slice A23 (t18).length c24)]) rfl trivial fun a hk => ?_
  refine wpListIn_nil ?_
  refine then_n ?_
  refine wpIn_ret ?_
  obtain rfl := Option.some.inj H
  exact x_retG hk (rs := [.tmp 4]) (vs := [.slice A23 (t18).length c24]) rfl ⟨rfl, trivial⟩ ⟨fun b_ => if b_ < w.heap.size then o b_ else (fun _ => R0) (o21 b_), A23, c24, rfl, hs.close0 o (fun _ => R0), hs.close_ft (o := o) (ρ := fun _ => R0) f25 (by decide) rfl, hc26⟩

/-! tidewrack/row.Blank -/
set_option maxHeartbeats 4000000 in
set_option maxRecDepth 20000 in
theorem row_Blank_calls (K : Nat) (p0 : Int) (p1 : Int) (w : World) (o : Nat → Nat)   (R0 : Nat) (r : T65) (H : row_Blank K p0 p1 = some r) :
    Calls Tryz.prog 23 #[.int .i64 p0, .int .i64 p1] w (Ret fun v_ w' => ∃ o' : Nat → Nat, ∃ A0 : Option Addr, ∃ c0 : Nat, v_ = .agg #[.slice A0 (r.Cells).length c0, .bool r.Wrapped] ∧ St [] w o w' o' ∧ Ft (Own ET77 78 (.slice A0 (r.Cells).length c0) r.Cells) w' o' R0 ∧ (r.Cells).length ≤ c0) := by
  refine x_enter (vs := [.int .i64 p0, .int .i64 p1]) Tryz.func23 rfl rfl rfl fun a hk => ?_
  obtain ⟨o0, hs, h0⟩ := St.start w o
  clear h0
  rw [row_Blank] at H
  refine x_seq ?_
  refine wpIn_region_lit ?_
  refine x_op hk rfl ?_
  refine op_alloc (o := o0) tab (t := 66) (cs := [.slice none 0 0, .bool false]) rfl rfl 1 fun bx4 w1 o2 st3 f5 => ?_
  replace hs := hs.loc0 st3 (by decide)
  have hk := hk.put 4 (.pointer (some ⟨bx4, 0, none⟩)) rfl
  refine wpListIn_nil ?_
  refine then_n ?_
  refine x_seq ?_
  refine wpIn_region_lit ?_
  refine x_run tab hk (k := 1) (lv := []) (ks := [1, 4, 5]) (e' := [(1, .int .i64 p1), (4, .pointer (some ⟨bx4, 0, none⟩)), (5, .int .i64 p0)]) rfl trivial fun a hk => ?_
  refine x_op hk rfl ?_
  obtain ⟨t9, hc10, H⟩ := bindS H
  refine op_call hk ent_54 (vs := [.int .i64 p0, .int .i64 0, .int .i64 1000]) rfl (row_clip_calls p0 0 1000 _ o2    _ hc10) ?_
  rintro _ w11 ⟨o12, rfl, st13⟩
  replace f5 := f5.st st13 (by decide)
  replace hs := hs.loc0 st13 (by decide)
  have hk := hk.put 6 (.int .i64 t9) rfl
  refine x_run tab hk (k := 1) (lv := []) (ks := [4, 6, 7]) (e' := [(4, .pointer (some ⟨bx4, 0, none⟩)), (6, .int .i64 t9), (7, .int .i64 p1)]) rfl trivial fun a hk => ?_
  refine x_op hk rfl ?_
  obtain ⟨t17, hc18, H⟩ := bindS H
  refine op_call hk ent_53 (vs := [.int .i64 t9, .int .i64 p1]) rfl (row_blanks_calls K t9 p1 _ o12  2  _ hc18) ?_
  rintro _ w19 ⟨o20, A22, c23, rfl, st21, f24, hc25⟩
  replace f5 := f5.st st21 (by decide)
  replace hs := hs.loc0 st21 (by decide)
  have hk := hk.put 8 (.slice A22 (t17).length c23) rfl
  refine x_run tab hk (k := 1) (lv := []) (ks := [4, 9]) (e' := [(4, .pointer (some ⟨bx4, 0, none⟩)), (9, .agg #[.slice A22 (t17).length c23, .bool false])]) rfl trivial fun a hk => ?_
  refine x_op hk rfl ?_
  refine op_store tab hk (t := 66) (v := .agg #[.slice A22 (t17).length c23, .bool false]) (b := bx4) (k := 0) (cs' := [.slice A22 (t17).length c23, .bool false]) rfl rfl rfl rfl rfl rfl f5 rfl rfl fun w26 o27 st28 f5_ => ?_
  replace f24 := f24.st st28 (by decide)
  replace hs := hs.loc0 st28 (by decide)
  replace f5 := f5_
  refine wpListIn_nil ?_
  refine then_n ?_
  refine wpIn_ret ?_
  obtain rfl := Option.some.inj H
  exact x_retG hk (rs := [.cell 4 66]) (vs := [.agg #[.slice A22 (t17).length c23, .bool false]]) rfl ⟨⟨_, rfl, load_box tab rfl rfl f5.now (k := 0) rfl rfl⟩, trivial⟩ ⟨fun b_ => if b_ < w.heap.size then o b_ else (fun _ => R0) (o27 b_), A22, c23, rfl, hs.close0 o (fun _ => R0), hs.close_ft (o := o) (ρ := fun _ => R0) f24 (by decide) rfl, hc25⟩

/-! tidewrack/grid.New -/
abbrev R_3 (LF R1 R0 : Nat) (l_ : Nat) : Nat := if l_ = 1 then LF else if l_ = 226 then R1 else if l_ = 227 then R0 else 0
abbrev R_4 (l_ : Nat) : Nat := if l_ = 2 then 309 else l_
abbrev R_5 (l_ : Nat) : Nat := if l_ = 308 then 226 else if l_ = 309 then 227 else l_
abbrev R_6 (l_ : Nat) : Nat := if l_ = 415 then 308 else if l_ = 416 then 309 else l_
abbrev R_7 (l_ : Nat) : Nat := if l_ = 430 then 1 else l_
abbrev R_8 (l_ : Nat) : Nat := if l_ = 428 then 415 else if l_ = 429 then 416 else l_
abbrev R_9 (l_ : Nat) : Nat := if l_ = 436 then 1 else l_
abbrev R_10 (l_ : Nat) : Nat := if l_ = 434 then 415 else if l_ = 435 then 416 else l_
abbrev R_11 (l_ : Nat) : Nat := if l_ = 444 then 1 else l_
abbrev R_12 (l_ : Nat) : Nat := if l_ = 442 then 415 else if l_ = 443 then 416 else l_
abbrev R_13 (l_ : Nat) : Nat := if l_ = 447 then 415 else if l_ = 448 then 416 else l_
abbrev R_14 (l_ : Nat) : Nat := if l_ = 439 then 442 else if l_ = 440 then 443 else if l_ = 441 then 444 else l_
abbrev R_15 (l_ : Nat) : Nat := if l_ = 441 then 1 else l_
abbrev R_16 (l_ : Nat) : Nat := if l_ = 439 then 447 else if l_ = 440 then 448 else if l_ = 446 then 449 else l_
abbrev R_17 (l_ : Nat) : Nat := if l_ = 432 then 434 else if l_ = 433 then 435 else l_
abbrev R_18 (l_ : Nat) : Nat := if l_ = 432 then 439 else if l_ = 433 then 440 else if l_ = 438 then 441 else l_
abbrev R_19 (l_ : Nat) : Nat := if l_ = 308 then 428 else if l_ = 309 then 429 else l_
abbrev R_20 (l_ : Nat) : Nat := if l_ = 308 then 432 else if l_ = 309 then 433 else l_
set_option maxHeartbeats 4000000 in
set_option maxRecDepth 20000 in
theorem grid_New_calls (K : Nat) (p0 : Int) (p1 : Int) (w : World) (o : Nat → Nat) (LF : Nat)  (hd0 : ([LF] : List Nat).Nodup) (R0 : Nat) (R1 : Nat) (r : T74) (H : grid_New K p0 p1 = some r) :
    Calls Tryz.prog 11 #[.int .i64 p0, .int .i64 p1] w (Ret fun v_ w' => ∃ o' : Nat → Nat, ∃ b0 : Nat, ∃ A0 : Option Addr, ∃ c0 : Nat, v_ = .pointer (some ⟨b0, 0, none⟩) ∧ St [] w o w' o' ∧ Ft (Bx b0 75 [.int .i64 r.w, .slice A0 (r.l).length c0]) w' o' R0 ∧ NOwn dT65 66 A0 c0 r.l w' o' R1 LF ∧ (r.l).length ≤ c0) := by
  refine x_enter (vs := [.int .i64 p0, .int .i64 p1]) Tryz.func11 rfl rfl rfl fun a hk => ?_
  obtain ⟨oi, hs0, h0, h1, hob, hoz, hoa⟩ := St.startM2 w o (m := 1) hd0 rfl
  have hs := hs0 []
  clear h0 h1 hs0
  rw [grid_New] at H
  refine x_seq ?_
  refine wpIn_region_lit ?_
  refine x_run tab hk (k := 1) (lv := []) (ks := [0, 1]) (e' := [(0, .int .i64 p0), (1, .int .i64 p1)]) rfl trivial fun a hk => ?_
  refine wpListIn_nil ?_
  refine then_n ?_
  refine x_seq ?_
  refine wpIn_region_lit ?_
  refine x_run tab hk (k := 1) (lv := []) (ks := [1, 6]) (e' := [(1, .int .i64 p1), (6, .int .i64 p0)]) rfl trivial fun a hk => ?_
  refine x_op hk rfl ?_
  obtain ⟨t4, hc5, H⟩ := bindS H
  refine op_call hk ent_22 (vs := [.int .i64 p0]) rfl (grid_size_calls p0 _ oi    _ hc5) ?_
  rintro _ w6 ⟨o7, rfl, st8⟩
  replace hs := hs.locQ st8 hob rfl
  have hk := hk.put 7 (.int .i64 t4) rfl
  refine x_run tab hk (k := 1) (lv := []) (ks := [1, 8]) (e' := [(1, .int .i64 p1), (8, .agg #[.int .i64 t4, .slice none 0 0])]) rfl trivial fun a hk => ?_
  refine x_op hk rfl ?_
  refine op_box (o := o7) (t := 75) (v := .agg #[.int .i64 t4, .slice none 0 0]) (cs := [.int .i64 t4, .slice none 0 0]) hk rfl rfl 2 fun bx12 w9 o10 st11 f13 => ?_
  replace hs := hs.locQ st11 hob rfl
  have hk := hk.put 9 (.pointer (some ⟨bx12, 0, none⟩)) rfl
  refine x_run tab hk (k := 1) (lv := []) (ks := [1, 5]) (e' := [(1, .int .i64 p1), (5, .pointer (some ⟨bx12, 0, none⟩))]) rfl trivial fun a hk => ?_
  refine wpListIn_nil ?_
  refine then_n ?_
  refine x_mid (fun a_ w_ => ∃ o2197 : Nat → Nat, ∃ A2198 : Option Addr, ∃ c2199 : Nat, ∃ l2200 : List T65, Kn 30 a_ [(5, .pointer (some ⟨bx12, 0, none⟩))] ∧ St [] w oi w_ o2197 ∧ Ft (Bx bx12 75 [.int .i64 t4, .slice A2198 (l2200).length c2199]) w_ o2197 227 ∧ NOwn dT65 66 A2198 c2199 l2200 w_ o2197 226 1 ∧ (l2200).length ≤ c2199 ∧ grid_New_j1 t4 l2200 = some r) ?_ ?_
  rotate_left
  · rintro a w2203 ⟨o2197, A2198, c2199, l2200, hk, hs, f13, f2201, hc2202, H⟩
    rw [grid_New_j1] at H
    refine x_seq ?_
    refine wpIn_region_lit ?_
    refine x_run tab hk (k := 2) (lv := []) (ks := [4]) (e' := [(4, .pointer (some ⟨bx12, 0, none⟩))]) rfl trivial fun a hk => ?_
    refine wpListIn_nil ?_
    refine then_n ?_
    refine wpIn_ret ?_
    obtain rfl := Option.some.inj H
    exact x_retG hk (rs := [.tmp 4]) (vs := [.pointer (some ⟨bx12, 0, none⟩)]) rfl ⟨rfl, trivial⟩ ⟨cl w oi o [] (R_3 LF R1 R0) o2197, bx12, A2198, c2199, rfl, hs.closeF (Lm := []) (Sh := []) hoa rfl (R_3 LF R1 R0), hs.closeM_ft (o := o) (ρ := R_3 LF R1 R0) f13 (lab_none hob rfl) rfl, f2201.conv (fun _ h_ => hs.closeM_ft (o := o) (ρ := R_3 LF R1 R0) h_ (lab_none hob rfl) rfl) (fun _ h_ => hs.closeM_ft (o := o) (ρ := R_3 LF R1 R0) h_ (lab_at hoa (i := 0) rfl) rfl), hc2202⟩
  refine x_seq ?_
  refine wpIn_region_lit ?_
  refine x_run tab hk (k := 1) (lv := []) (ks := [5, 10]) (e' := [(5, .pointer (some ⟨bx12, 0, none⟩)), (10, .int .i64 p1)]) rfl trivial fun a hk => ?_
  refine x_op hk rfl ?_
  obtain ⟨t2207, hc2208, H⟩ := bindS H
  refine op_call hk ent_22 (vs := [.int .i64 p1]) rfl (grid_size_calls p1 _ o10    _ hc2208) ?_
  rintro _ w2209 ⟨o2210, rfl, st2211⟩
  replace f13 := f13.st st2211 (by decide)
  replace hs := hs.locQ st2211 hob rfl
  have hk := hk.put 11 (.int .i64 t2207) rfl
  refine x_run tab hk (k := 1) (lv := []) (ks := [5, 11, 12]) (e' := [(5, .pointer (some ⟨bx12, 0, none⟩)), (11, .int .i64 t2207), (12, .int .i64 0)]) rfl trivial fun a hk => ?_
  refine wpListIn_nil ?_
  refine then_n ?_
  refine wpIn_block ?_
  refine x_loop (fun j_ a_ w_ => ∃ o2932 : Nat → Nat, ∃ A2933 : Option Addr, ∃ c2934 : Nat, ∃ l2935 : List T65, ∃ x2938 : Int, Kn 30 a_ [(5, .pointer (some ⟨bx12, 0, none⟩)), (11, .int .i64 t2207), (12, .int .i64 x2938)] ∧ St [] w oi w_ o2932 ∧ Ft (Bx bx12 75 [.int .i64 t4, .slice A2933 (l2935).length c2934]) w_ o2932 309 ∧ NOwn dT65 66 A2933 c2934 l2935 w_ o2932 308 1 ∧ (l2935).length ≤ c2934 ∧ grid_New_l2 K t4 t2207 j_ l2935 x2938 = some r) (k := K) ⟨(fun b_ => R_4 (o2210 b_)), none, 0, ([] : List T65), 0, (by exact Kn.pick (ks := [5, 11, 12]) hk rfl), (hs.relabM hob R_4 (by decide)), (f13.relab R_4 rfl), (NOwn.nil _ _ _ _ _ _), (by simp), H⟩ (fun _ _ z => z.elim fun _ z => z.elim fun _ z => z.elim fun _ z => z.elim fun _ z => z.elim fun _ z => z.elim fun _ z => z.elim fun _ z => z.elim fun _ z => z.elim fun _ z => z.elim fun _ z => absurd (show (none : Option T74) = some r from z) (by simp)) ?_
  rintro k3657 a w3656 ⟨o2932, A2933, c2934, l2935, x2938, hk, hs, f13, f2936, hc2937, H⟩
  rw [grid_New_l2] at H
  obtain ⟨lp3658, hlp3659⟩ : ∃ lp_, lp_ = grid_New_l2 K t4 t2207 k3657 := ⟨_, rfl⟩
  rw [← hlp3659] at H
  refine x_seq ?_
  refine wpIn_region_lit ?_
  refine x_run tab hk (k := 1) (lv := []) (ks := [5, 11, 12, 13]) (e' := [(5, .pointer (some ⟨bx12, 0, none⟩)), (11, .int .i64 t2207), (12, .int .i64 x2938), (13, .bool (decide (x2938 < t2207)))]) rfl trivial fun a hk => ?_
  refine wpListIn_nil ?_
  refine then_n ?_
  refine x_seq ?_
  cases b3660 : (decide (x2938 < t2207))
  · rw [b3660] at hk H
    replace H := bifF H
    refine x_if hk (b := false) rfl ?_
    refine (show Code.wpIn _ _ _ _ _ _ _ from ?_)
    refine wpIn_exit ?_
    refine then_x ?_
    refine then_x ?_
    refine blk_x ?_
    refine then_n ?_
    exact ⟨(fun b_ => R_5 (o2932 b_)), A2933, c2934, l2935, (by exact Kn.pick (ks := [5]) hk rfl), (hs.relabM hob R_5 (by decide)), (f13.relab R_5 rfl), (f2936.relab R_5 rfl), hc2937, H⟩
  · rw [b3660] at hk H
    replace H := bifT H
    refine x_if hk (b := true) rfl ?_
    refine (show Code.wpIn _ _ _ _ _ _ _ from ?_)
    refine wpIn_skip ?_
    refine then_n ?_
    refine x_seq ?_
    refine wpIn_block ?_
    refine x_cut (fun a_ w_ => ∃ o4036 : Nat → Nat, ∃ A4037 : Option Addr, ∃ c4038 : Nat, ∃ l4039 : List T65, Kn 30 a_ [(5, .pointer (some ⟨bx12, 0, none⟩)), (11, .int .i64 t2207), (12, .int .i64 x2938)] ∧ St [] w oi w_ o4036 ∧ Ft (Bx bx12 75 [.int .i64 t4, .slice A4037 (l4039).length c4038]) w_ o4036 416 ∧ NOwn dT65 66 A4037 c4038 l4039 w_ o4036 415 1 ∧ (l4039).length ≤ c4038 ∧ grid_New_j3 x2938 lp3658 l4039 = some r) ?_ ?_
    rotate_left
    · rintro a w4042 ⟨o4036, A4037, c4038, l4039, hk, hs, f13, f4040, hc4041, H⟩
      rw [grid_New_j3] at H
      refine blk_n ?_
      refine then_n ?_
      refine wpIn_region_lit ?_
      refine x_run tab hk (k := 2) (lv := []) (ks := [5, 11, 12]) (e' := [(5, .pointer (some ⟨bx12, 0, none⟩)), (11, .int .i64 t2207), (12, .int .i64 (IntKind.wrap .i64 (x2938 + 1)))]) rfl trivial fun a hk => ?_
      refine wpListIn_nil ?_
      refine then_n ?_
      exact ⟨k3657, Nat.le_refl _, (fun b_ => R_6 (o4036 b_)), A4037, c4038, l4039, (IntKind.wrap .i64 (x2938 + 1)), (by exact Kn.pick (ks := [5, 11, 12]) hk rfl), (hs.relabM hob R_6 (by decide)), (f13.relab R_6 rfl), (f4040.relab R_6 rfl), hc4041, (hlp3659 ▸ H)⟩
    obtain ⟨t4077, hc4078, H⟩ := bindS H
    obtain ⟨q4097, H⟩ := ifS H
    refine xd_begin (o := o2932) (fun W_ => True) mixed rfl rfl fun w4207 st4208 => ?_
    replace f13 := f13.st st4208 (by decide)
    replace f2936 := f2936.st st4208 (by decide)
    replace hs := hs.locQ st4208 hob rfl
    refine xd_abs fun G hG => ?_
    have N4214 : ∀ (a_ : Act) (w_ : World), (∃ o4212 : Nat → Nat, Kn 30 a_ [(5, .pointer (some ⟨bx12, 0, none⟩)), (11, .int .i64 t2207), (12, .int .i64 x2938), (14, .pointer (some ⟨bx12, 0, none⟩)), (18, .slice A2933 (l2935).length c2934), (21, .pointer (some ⟨bx12, 0, none⟩))] ∧ St [] w oi w_ o4212 ∧ Ft (Bx bx12 75 [.int .i64 t4, .slice A2933 (l2935).length c2934]) w_ o4212 429 ∧ NOwn dT65 66 A2933 c2934 l2935 w_ o4212 428 1) → G 7 #[true, true, true, true, true, true, true, true, false, false, false, false, false, false, false] a_ w_ := by
      rintro a w4213 ⟨o4212, hk, hs, f13, f2936⟩
      refine xd_of hG ?_
      refine xd_op hk (i := 8) (by kernel_rfl) rfl rfl ?_
      refine op_quiet tab hk (lv := [.int .i64 t4]) (v := .int .i64 t4) rfl ⟨(load1 tab rfl ((Bx.cell f13.now 0).trans rfl)), trivial⟩ ?_
      have hk := hk.put 22 (.int .i64 t4) rfl
      refine ⟨.inr trivial, ?_⟩
      refine xd_op hk (i := 9) (by kernel_rfl) rfl rfl ?_
      refine op_call hk ent_23 (vs := [.int .i64 t4, .int .i64 0]) rfl (row_Blank_calls K t4 0 _ o4212  430  _ hc4078) ?_
      rintro _ w4218 ⟨o4219, A4221, c4222, rfl, st4220, f4223, hc4224⟩
      replace f13 := f13.st st4220 (by decide)
      replace f2936 := f2936.st st4220 (by decide)
      replace hs := hs.locQ st4220 hob rfl
      have hk := hk.put 23 (.agg #[.slice A4221 (t4077.Cells).length c4222, .bool t4077.Wrapped]) rfl
      refine ⟨.inr trivial, ?_⟩
      refine xd_op hk (i := 10) (by kernel_rfl) rfl rfl ?_
      obtain ⟨o4228, hR4229⟩ := relab_ex o4219 R_7
      replace hs : St [] w oi w4218 o4228 := by rw [hR4229]; exact (hs.relabM hob R_7 (by decide))
      replace f13 : Ft (Bx bx12 75 [.int .i64 t4, .slice A2933 (l2935).length c2934]) w4218 o4228 429 := by rw [hR4229]; exact f13.relab R_7 rfl
      replace f2936 : NOwn dT65 66 A2933 c2934 l2935 w4218 o4228 428 1 := by rw [hR4229]; exact f2936.relab R_7 rfl
      replace f4223 : Ft (Own ET77 78 (.slice A4221 (t4077.Cells).length c4222) t4077.Cells) w4218 o4228 1 := by rw [hR4229]; exact f4223.relab R_7 rfl
      refine op_slice (o := o4228) tab hk (vs := [.agg #[.slice A4221 (t4077.Cells).length c4222, .bool t4077.Wrapped]]) (cs := [.slice A4221 (t4077.Cells).length c4222, .bool t4077.Wrapped]) rfl rfl rfl rfl rfl rfl rfl rfl rfl 431 fun bx4230 w4225 o4226 st4227 f4231 => ?_
      replace f13 := f13.st st4227 (by decide)
      replace f2936 := f2936.st st4227 (by decide)
      replace f4223 := f4223.st st4227 (by decide)
      replace hs := hs.locQ st4227 hob rfl
      have f4232 : NOwn dT65 66 (some ⟨bx4230, 0, none⟩) 1 ([t4077] : List T65) w4225 o4226 431 1 := NOwn.litD (D := dT65) f4231 [(⟨t4077, A4221, c4222⟩ : NT65)] rfl (Inn.consD (D := dT65) (r := (⟨t4077, A4221, c4222⟩ : NT65)) ((f4223.imp fun _ h_ => Own.rd h_).imp fun _ h_ => ⟨h_, hc4224⟩) (Inn.nilD _ _ _ _)) rfl (Nat.le_of_ble_eq_true rfl)
      have hk := hk.put 24 (.slice (some ⟨bx4230, 0, none⟩) (([t4077] : List T65)).length 1) rfl
      refine ⟨.inr trivial, ?_⟩
      refine xd_op hk (i := 11) (by kernel_rfl) rfl rfl ?_
      refine op_appendN (o := o4226) (D := dT65) (xs := l2935) (ys := ([t4077] : List T65)) tab hk rfl rfl rfl rfl rfl rfl rfl f2936 f4232.rd (by decide) q4097 fun A4236 c4237 w4233 o4234 st4235 f4238 hc4239 => ?_
      replace f13 := f13.st st4235 (by decide)
      replace f4223 := f4223.st st4235 (by decide)
      replace f4232 := f4232.st st4235 (by decide)
      replace hs := hs.locQ st4235 hob rfl
      have hk := hk.put 25 (.slice A4236 ((l2935 ++ ([t4077] : List T65))).length c4237) rfl
      refine ⟨.inr trivial, ?_⟩
      refine xd_take tab hk (k := 1) (is := [12, 13]) (ls' := #[true, true, true, true, true, true, true, true, true, true, true, true, true, true, false]) (lv := []) (ks := [5, 11, 12, 25, 27]) (e' := [(5, .pointer (some ⟨bx12, 0, none⟩)), (11, .int .i64 t2207), (12, .int .i64 x2938), (25, .slice A4236 ((l2935 ++ ([t4077] : List T65))).length c4237), (27, .pointer (some ((⟨bx12, 0, none⟩ : Addr).add 1)))]) (by kernel_rfl) rfl rfl (by kernel_rfl) (np_then (np_blk (np_then (np_then (np_blk (np_then np_body)))))) trivial (fun W_ hS => trivial) fun a hk => ?_
      refine xd_op hk (i := 14) (by kernel_rfl) rfl rfl ?_
      refine op_store tab hk (t := 40) (v := .slice A4236 ((l2935 ++ ([t4077] : List T65))).length c4237) (b := bx12) (k := 1) (cs' := [.int .i64 t4, .slice A4236 ((l2935 ++ ([t4077] : List T65))).length c4237]) rfl rfl rfl rfl rfl rfl f13 rfl rfl fun w4240 o4241 st4242 f13_ => ?_
      replace f4223 := f4223.st st4242 (by decide)
      replace f4232 := f4232.st st4242 (by decide)
      replace f4238 := f4238.st st4242 (by decide)
      replace hs := hs.locQ st4242 hob rfl
      replace f13 := f13_
      refine ⟨.inr trivial, ?_⟩
      refine xd_done (by kernel_rfl) ?_
      refine then_n ?_
      exact ⟨(fun b_ => R_8 (o4241 b_)), A4236, c4237, (l2935 ++ ([t4077] : List T65)), (by exact Kn.pick (ks := [5, 11, 12]) hk rfl), (hs.relabM hob R_8 (by decide)), (f13.relab R_8 rfl), (f4238.relab R_8 rfl), hc4239, H⟩
    have N4254 : ∀ (a_ : Act) (w_ : World), (∃ o4252 : Nat → Nat, Kn 30 a_ [(5, .pointer (some ⟨bx12, 0, none⟩)), (11, .int .i64 t2207), (12, .int .i64 x2938), (14, .pointer (some ⟨bx12, 0, none⟩)), (18, .slice A2933 (l2935).length c2934), (22, .int .i64 t4)] ∧ St [] w oi w_ o4252 ∧ Ft (Bx bx12 75 [.int .i64 t4, .slice A2933 (l2935).length c2934]) w_ o4252 435 ∧ NOwn dT65 66 A2933 c2934 l2935 w_ o4252 434 1) → G 6 #[true, true, true, true, true, true, true, true, true, false, false, false, false, false, false] a_ w_ := by
      rintro a w4253 ⟨o4252, hk, hs, f13, f2936⟩
      refine xd_of hG ?_
      refine xd_op hk (i := 9) (by kernel_rfl) rfl rfl ?_
      refine op_call hk ent_23 (vs := [.int .i64 t4, .int .i64 0]) rfl (row_Blank_calls K t4 0 _ o4252  436  _ hc4078) ?_
      rintro _ w4258 ⟨o4259, A4261, c4262, rfl, st4260, f4263, hc4264⟩
      replace f13 := f13.st st4260 (by decide)
      replace f2936 := f2936.st st4260 (by decide)
      replace hs := hs.locQ st4260 hob rfl
      have hk := hk.put 23 (.agg #[.slice A4261 (t4077.Cells).length c4262, .bool t4077.Wrapped]) rfl
      refine ⟨.inr trivial, ?_⟩
      refine xd_op hk (i := 10) (by kernel_rfl) rfl rfl ?_
      obtain ⟨o4268, hR4269⟩ := relab_ex o4259 R_9
      replace hs : St [] w oi w4258 o4268 := by rw [hR4269]; exact (hs.relabM hob R_9 (by decide))
      replace f13 : Ft (Bx bx12 75 [.int .i64 t4, .slice A2933 (l2935).length c2934]) w4258 o4268 435 := by rw [hR4269]; exact f13.relab R_9 rfl
      replace f2936 : NOwn dT65 66 A2933 c2934 l2935 w4258 o4268 434 1 := by rw [hR4269]; exact f2936.relab R_9 rfl
      replace f4263 : Ft (Own ET77 78 (.slice A4261 (t4077.Cells).length c4262) t4077.Cells) w4258 o4268 1 := by rw [hR4269]; exact f4263.relab R_9 rfl
      refine op_slice (o := o4268) tab hk (vs := [.agg #[.slice A4261 (t4077.Cells).length c4262, .bool t4077.Wrapped]]) (cs := [.slice A4261 (t4077.Cells).length c4262, .bool t4077.Wrapped]) rfl rfl rfl rfl rfl rfl rfl rfl rfl 437 fun bx4270 w4265 o4266 st4267 f4271 => ?_
      replace f13 := f13.st st4267 (by decide)
      replace f2936 := f2936.st st4267 (by decide)
      replace f4263 := f4263.st st4267 (by decide)
      replace hs := hs.locQ st4267 hob rfl
      have f4272 : NOwn dT65 66 (some ⟨bx4270, 0, none⟩) 1 ([t4077] : List T65) w4265 o4266 437 1 := NOwn.litD (D := dT65) f4271 [(⟨t4077, A4261, c4262⟩ : NT65)] rfl (Inn.consD (D := dT65) (r := (⟨t4077, A4261, c4262⟩ : NT65)) ((f4263.imp fun _ h_ => Own.rd h_).imp fun _ h_ => ⟨h_, hc4264⟩) (Inn.nilD _ _ _ _)) rfl (Nat.le_of_ble_eq_true rfl)
      have hk := hk.put 24 (.slice (some ⟨bx4270, 0, none⟩) (([t4077] : List T65)).length 1) rfl
      refine ⟨.inr trivial, ?_⟩
      refine xd_op hk (i := 11) (by kernel_rfl) rfl rfl ?_
      refine op_appendN (o := o4266) (D := dT65) (xs := l2935) (ys := ([t4077] : List T65)) tab hk rfl rfl rfl rfl rfl rfl rfl f2936 f4272.rd (by decide) q4097 fun A4276 c4277 w4273 o4274 st4275 f4278 hc4279 => ?_
      replace f13 := f13.st st4275 (by decide)
      replace f4263 := f4263.st st4275 (by decide)
      replace f4272 := f4272.st st4275 (by decide)
      replace hs := hs.locQ st4275 hob rfl
      have hk := hk.put 25 (.slice A4276 ((l2935 ++ ([t4077] : List T65))).length c4277) rfl
      refine ⟨.inr trivial, ?_⟩
      refine xd_take tab hk (k := 1) (is := [12, 13]) (ls' := #[true, true, true, true, true, true, true, true, true, true, true, true, true, true, false]) (lv := []) (ks := [5, 11, 12, 25, 27]) (e' := [(5, .pointer (some ⟨bx12, 0, none⟩)), (11, .int .i64 t2207), (12, .int .i64 x2938), (25, .slice A4276 ((l2935 ++ ([t4077] : List T65))).length c4277), (27, .pointer (some ((⟨bx12, 0, none⟩ : Addr).add 1)))]) (by kernel_rfl) rfl rfl (by kernel_rfl) (np_then (np_blk (np_then (np_then (np_blk (np_then np_body)))))) trivial (fun W_ hS => trivial) fun a hk => ?_
      refine xd_op hk (i := 14) (by kernel_rfl) rfl rfl ?_
      refine op_store tab hk (t := 40) (v := .slice A4276 ((l2935 ++ ([t4077] : List T65))).length c4277) (b := bx12) (k := 1) (cs' := [.int .i64 t4, .slice A4276 ((l2935 ++ ([t4077] : List T65))).length c4277]) rfl rfl rfl rfl rfl rfl f13 rfl rfl fun w4280 o4281 st4282 f13_ => ?_
      replace f4263 := f4263.st st4282 (by decide)
      replace f4272 := f4272.st st4282 (by decide)
      replace f4278 := f4278.st st4282 (by decide)
      replace hs := hs.locQ st4282 hob rfl
      replace f13 := f13_
      refine ⟨.inr trivial, ?_⟩
      refine xd_done (by kernel_rfl) ?_
      refine then_n ?_
      exact ⟨(fun b_ => R_10 (o4281 b_)), A4276, c4277, (l2935 ++ ([t4077] : List T65)), (by exact Kn.pick (ks := [5, 11, 12]) hk rfl), (hs.relabM hob R_10 (by decide)), (f13.relab R_10 rfl), (f4278.relab R_10 rfl), hc4279, H⟩
    have N4324 : ∀ (a_ : Act) (w_ : World), (∃ o4318 : Nat → Nat, ∃ A4319 : Option Addr, ∃ c4320 : Nat, Kn 30 a_ [(5, .pointer (some ⟨bx12, 0, none⟩)), (11, .int .i64 t2207), (12, .int .i64 x2938), (14, .pointer (some ⟨bx12, 0, none⟩)), (18, .slice A2933 (l2935).length c2934), (23, .agg #[.slice A4319 (t4077.Cells).length c4320, .bool t4077.Wrapped])] ∧ St [] w oi w_ o4318 ∧ Ft (Bx bx12 75 [.int .i64 t4, .slice A2933 (l2935).length c2934]) w_ o4318 443 ∧ NOwn dT65 66 A2933 c2934 l2935 w_ o4318 442 1 ∧ Ft (Own ET77 78 (.slice A4319 (t4077.Cells).length c4320) t4077.Cells) w_ o4318 444 ∧ (t4077.Cells).length ≤ c4320) → G 5 #[true, true, true, true, true, true, true, true, true, true, false, false, false, false, false] a_ w_ := by
      rintro a w4323 ⟨o4318, A4319, c4320, hk, hs, f13, f2936, f4321, hc4322⟩
      refine xd_of hG ?_
      refine xd_op hk (i := 10) (by kernel_rfl) rfl rfl ?_
      obtain ⟨o4328, hR4329⟩ := relab_ex o4318 R_11
      replace hs : St [] w oi w4323 o4328 := by rw [hR4329]; exact (hs.relabM hob R_11 (by decide))
      replace f13 : Ft (Bx bx12 75 [.int .i64 t4, .slice A2933 (l2935).length c2934]) w4323 o4328 443 := by rw [hR4329]; exact f13.relab R_11 rfl
      replace f2936 : NOwn dT65 66 A2933 c2934 l2935 w4323 o4328 442 1 := by rw [hR4329]; exact f2936.relab R_11 rfl
      replace f4321 : Ft (Own ET77 78 (.slice A4319 (t4077.Cells).length c4320) t4077.Cells) w4323 o4328 1 := by rw [hR4329]; exact f4321.relab R_11 rfl
      refine op_slice (o := o4328) tab hk (vs := [.agg #[.slice A4319 (t4077.Cells).length c4320, .bool t4077.Wrapped]]) (cs := [.slice A4319 (t4077.Cells).length c4320, .bool t4077.Wrapped]) rfl rfl rfl rfl rfl rfl rfl rfl rfl 445 fun bx4330 w4325 o4326 st4327 f4331 => ?_
      replace f13 := f13.st st4327 (by decide)
      replace f2936 := f2936.st st4327 (by decide)
      replace f4321 := f4321.st st4327 (by decide)
      replace hs := hs.locQ st4327 hob rfl
      have f4332 : NOwn dT65 66 (some ⟨bx4330, 0, none⟩) 1 ([t4077] : List T65) w4325 o4326 445 1 := NOwn.litD (D := dT65) f4331 [(⟨t4077, A4319, c4320⟩ : NT65)] rfl (Inn.consD (D := dT65) (r := (⟨t4077, A4319, c4320⟩ : NT65)) ((f4321.imp fun _ h_ => Own.rd h_).imp fun _ h_ => ⟨h_, hc4322⟩) (Inn.nilD _ _ _ _)) rfl (Nat.le_of_ble_eq_true rfl)
      have hk := hk.put 24 (.slice (some ⟨bx4330, 0, none⟩) (([t4077] : List T65)).length 1) rfl
      refine ⟨.inr trivial, ?_⟩
      refine xd_op hk (i := 11) (by kernel_rfl) rfl rfl ?_
      refine op_appendN (o := o4326) (D := dT65) (xs := l2935) (ys := ([t4077] : List T65)) tab hk rfl rfl rfl rfl rfl rfl rfl f2936 f4332.rd (by decide) q4097 fun A4336 c4337 w4333 o4334 st4335 f4338 hc4339 => ?_
      replace f13 := f13.st st4335 (by decide)
      replace f4321 := f4321.st st4335 (by decide)
      replace f4332 := f4332.st st4335 (by decide)
      replace hs := hs.locQ st4335 hob rfl
      have hk := hk.put 25 (.slice A4336 ((l2935 ++ ([t4077] : List T65))).length c4337) rfl
      refine ⟨.inr trivial, ?_⟩
      refine xd_take tab hk (k := 1) (is := [12, 13]) (ls' := #[true, true, true, true, true, true, true, true, true, true, true, true, true, true, false]) (lv := []) (ks := [5, 11, 12, 25, 27]) (e' := [(5, .pointer (some ⟨bx12, 0, none⟩)), (11, .int .i64 t2207), (12, .int .i64 x2938), (25, .slice A4336 ((l2935 ++ ([t4077] : List T65))).length c4337), (27, .pointer (some ((⟨bx12, 0, none⟩ : Addr).add 1)))]) (by kernel_rfl) rfl rfl (by kernel_rfl) (np_then (np_blk (np_then (np_then (np_blk (np_then np_body)))))) trivial (fun W_ hS => trivial) fun a hk => ?_
      refine xd_op hk (i := 14) (by kernel_rfl) rfl rfl ?_
      refine op_store tab hk (t := 40) (v := .slice A4336 ((l2935 ++ ([t4077] : List T65))).length c4337) (b := bx12) (k := 1) (cs' := [.int .i64 t4, .slice A4336 ((l2935 ++ ([t4077] : List T65))).length c4337]) rfl rfl rfl rfl rfl rfl f13 rfl rfl fun w4340 o4341 st4342 f13_ => ?_
      replace f4321 := f4321.st st4342 (by decide)
      replace f4332 := f4332.st st4342 (by decide)
      replace f4338 := f4338.st st4342 (by decide)
      replace hs := hs.locQ st4342 hob rfl
      replace f13 := f13_
      refine ⟨.inr trivial, ?_⟩
      refine xd_done (by kernel_rfl) ?_
      refine then_n ?_
      exact ⟨(fun b_ => R_12 (o4341 b_)), A4336, c4337, (l2935 ++ ([t4077] : List T65)), (by exact Kn.pick (ks := [5, 11, 12]) hk rfl), (hs.relabM hob R_12 (by decide)), (f13.relab R_12 rfl), (f4338.relab R_12 rfl), hc4339, H⟩
    have N4366 : ∀ (a_ : Act) (w_ : World), (∃ o4360 : Nat → Nat, ∃ A4361 : Option Addr, ∃ c4362 : Nat, Kn 30 a_ [(5, .pointer (some ⟨bx12, 0, none⟩)), (11, .int .i64 t2207), (12, .int .i64 x2938), (14, .pointer (some ⟨bx12, 0, none⟩)), (17, .pointer (some ((⟨bx12, 0, none⟩ : Addr).add 1))), (24, .slice A4361 (([t4077] : List T65)).length c4362)] ∧ St [] w oi w_ o4360 ∧ Ft (Bx bx12 75 [.int .i64 t4, .slice A2933 (l2935).length c2934]) w_ o4360 448 ∧ NOwn dT65 66 A2933 c2934 l2935 w_ o4360 447 1 ∧ NOwn dT65 66 A4361 c4362 ([t4077] : List T65) w_ o4360 449 1 ∧ (([t4077] : List T65)).length ≤ c4362) → G 5 #[true, true, true, true, false, true, true, true, true, true, true, false, false, false, false] a_ w_ := by
      rintro a w4365 ⟨o4360, A4361, c4362, hk, hs, f13, f2936, f4363, hc4364⟩
      refine xd_of hG ?_
      refine xd_op hk (i := 4) (by kernel_rfl) rfl rfl ?_
      refine op_quiet tab hk (lv := [.slice A2933 (l2935).length c2934]) (v := .slice A2933 (l2935).length c2934) rfl ⟨(load1 tab rfl ((Bx.cell f13.now 1).trans rfl)), trivial⟩ ?_
      have hk := hk.put 18 (.slice A2933 (l2935).length c2934) rfl
      refine ⟨.inr trivial, ?_⟩
      refine xd_op hk (i := 11) (by kernel_rfl) rfl rfl ?_
      refine op_appendN (o := o4360) (D := dT65) (xs := l2935) (ys := ([t4077] : List T65)) tab hk rfl rfl rfl rfl rfl rfl rfl f2936 f4363.rd (by decide) q4097 fun A4370 c4371 w4367 o4368 st4369 f4372 hc4373 => ?_
      replace f13 := f13.st st4369 (by decide)
      replace f4363 := f4363.st st4369 (by decide)
      replace hs := hs.locQ st4369 hob rfl
      have hk := hk.put 25 (.slice A4370 ((l2935 ++ ([t4077] : List T65))).length c4371) rfl
      refine ⟨.inr trivial, ?_⟩
      refine xd_take tab hk (k := 1) (is := [12, 13]) (ls' := #[true, true, true, true, true, true, true, true, true, true, true, true, true, true, false]) (lv := []) (ks := [5, 11, 12, 25, 27]) (e' := [(5, .pointer (some ⟨bx12, 0, none⟩)), (11, .int .i64 t2207), (12, .int .i64 x2938), (25, .slice A4370 ((l2935 ++ ([t4077] : List T65))).length c4371), (27, .pointer (some ((⟨bx12, 0, none⟩ : Addr).add 1)))]) (by kernel_rfl) rfl rfl (by kernel_rfl) (np_then (np_blk (np_then (np_then (np_blk (np_then np_body)))))) trivial (fun W_ hS => trivial) fun a hk => ?_
      refine xd_op hk (i := 14) (by kernel_rfl) rfl rfl ?_
      refine op_store tab hk (t := 40) (v := .slice A4370 ((l2935 ++ ([t4077] : List T65))).length c4371) (b := bx12) (k := 1) (cs' := [.int .i64 t4, .slice A4370 ((l2935 ++ ([t4077] : List T65))).length c4371]) rfl rfl rfl rfl rfl rfl f13 rfl rfl fun w4374 o4375 st4376 f13_ => ?_
      replace f4363 := f4363.st st4376 (by decide)
      replace f4372 := f4372.st st4376 (by decide)
      replace hs := hs.locQ st4376 hob rfl
      replace f13 := f13_
      refine ⟨.inr trivial, ?_⟩
      refine xd_done (by kernel_rfl) ?_
      refine then_n ?_
      exact ⟨(fun b_ => R_13 (o4375 b_)), A4370, c4371, (l2935 ++ ([t4077] : List T65)), (by exact Kn.pick (ks := [5, 11, 12]) hk rfl), (hs.relabM hob R_13 (by decide)), (f13.relab R_13 rfl), (f4372.relab R_13 rfl), hc4373, H⟩
    have N4308 : ∀ (a_ : Act) (w_ : World), (∃ o4302 : Nat → Nat, ∃ A4303 : Option Addr, ∃ c4304 : Nat, Kn 30 a_ [(5, .pointer (some ⟨bx12, 0, none⟩)), (11, .int .i64 t2207), (12, .int .i64 x2938), (14, .pointer (some ⟨bx12, 0, none⟩)), (17, .pointer (some ((⟨bx12, 0, none⟩ : Addr).add 1))), (23, .agg #[.slice A4303 (t4077.Cells).length c4304, .bool t4077.Wrapped])] ∧ St [] w oi w_ o4302 ∧ Ft (Bx bx12 75 [.int .i64 t4, .slice A2933 (l2935).length c2934]) w_ o4302 440 ∧ NOwn dT65 66 A2933 c2934 l2935 w_ o4302 439 1 ∧ Ft (Own ET77 78 (.slice A4303 (t4077.Cells).length c4304) t4077.Cells) w_ o4302 441 ∧ (t4077.Cells).length ≤ c4304) → G 6 #[true, true, true, true, false, true, true, true, true, true, false, false, false, false, false] a_ w_ := by
      rintro a w4307 ⟨o4302, A4303, c4304, hk, hs, f13, f2936, f4305, hc4306⟩
      refine xd_of hG ?_
      refine xd_each [4, 10] (by kernel_rfl) rfl ⟨?_, ?_, trivial⟩
      · refine xd_one hk rfl rfl ?_
        refine op_quiet tab hk (lv := [.slice A2933 (l2935).length c2934]) (v := .slice A2933 (l2935).length c2934) rfl ⟨(load1 tab rfl ((Bx.cell f13.now 1).trans rfl)), trivial⟩ ?_
        have hk := hk.put 18 (.slice A2933 (l2935).length c2934) rfl
        refine ⟨.inr trivial, ?_⟩
        exact xd_to hG rfl (N4324 _ _ ⟨(fun b_ => R_14 (o4302 b_)), A4303, c4304, (by exact Kn.pick (ks := [5, 11, 12, 14, 18, 23]) hk rfl), (hs.relabM hob R_14 (by decide)), (f13.relab R_14 rfl), (f2936.relab R_14 rfl), (f4305.relab R_14 rfl), hc4306⟩)
      · refine xd_one hk rfl rfl ?_
        obtain ⟨o4346, hR4347⟩ := relab_ex o4302 R_15
        replace hs : St [] w oi w4307 o4346 := by rw [hR4347]; exact (hs.relabM hob R_15 (by decide))
        replace f13 : Ft (Bx bx12 75 [.int .i64 t4, .slice A2933 (l2935).length c2934]) w4307 o4346 440 := by rw [hR4347]; exact f13.relab R_15 rfl
        replace f2936 : NOwn dT65 66 A2933 c2934 l2935 w4307 o4346 439 1 := by rw [hR4347]; exact f2936.relab R_15 rfl
        replace f4305 : Ft (Own ET77 78 (.slice A4303 (t4077.Cells).length c4304) t4077.Cells) w4307 o4346 1 := by rw [hR4347]; exact f4305.relab R_15 rfl
        refine op_slice (o := o4346) tab hk (vs := [.agg #[.slice A4303 (t4077.Cells).length c4304, .bool t4077.Wrapped]]) (cs := [.slice A4303 (t4077.Cells).length c4304, .bool t4077.Wrapped]) rfl rfl rfl rfl rfl rfl rfl rfl rfl 446 fun bx4348 w4343 o4344 st4345 f4349 => ?_
        replace f13 := f13.st st4345 (by decide)
        replace f2936 := f2936.st st4345 (by decide)
        replace f4305 := f4305.st st4345 (by decide)
        replace hs := hs.locQ st4345 hob rfl
        have f4350 : NOwn dT65 66 (some ⟨bx4348, 0, none⟩) 1 ([t4077] : List T65) w4343 o4344 446 1 := NOwn.litD (D := dT65) f4349 [(⟨t4077, A4303, c4304⟩ : NT65)] rfl (Inn.consD (D := dT65) (r := (⟨t4077, A4303, c4304⟩ : NT65)) ((f4305.imp fun _ h_ => Own.rd h_).imp fun _ h_ => ⟨h_, hc4306⟩) (Inn.nilD _ _ _ _)) rfl (Nat.le_of_ble_eq_true rfl)
        have hk := hk.put 24 (.slice (some ⟨bx4348, 0, none⟩) (([t4077] : List T65)).length 1) rfl
        refine ⟨.inr trivial, ?_⟩
        exact xd_to hG rfl (N4366 _ _ ⟨(fun b_ => R_16 (o4344 b_)), (some ⟨bx4348, 0, none⟩), 1, (by exact Kn.pick (ks := [5, 11, 12, 14, 17, 24]) hk rfl), (hs.relabM hob R_16 (by decide)), (f13.relab R_16 rfl), (f2936.relab R_16 rfl), (f4350.relab R_16 rfl), (Nat.le_refl _)⟩)
    have N4248 : ∀ (a_ : Act) (w_ : World), (∃ o4246 : Nat → Nat, Kn 30 a_ [(5, .pointer (some ⟨bx12, 0, none⟩)), (11, .int .i64 t2207), (12, .int .i64 x2938), (14, .pointer (some ⟨bx12, 0, none⟩)), (17, .pointer (some ((⟨bx12, 0, none⟩ : Addr).add 1))), (22, .int .i64 t4)] ∧ St [] w oi w_ o4246 ∧ Ft (Bx bx12 75 [.int .i64 t4, .slice A2933 (l2935).length c2934]) w_ o4246 433 ∧ NOwn dT65 66 A2933 c2934 l2935 w_ o4246 432 1) → G 7 #[true, true, true, true, false, true, true, true, true, false, false, false, false, false, false] a_ w_ := by
      rintro a w4247 ⟨o4246, hk, hs, f13, f2936⟩
      refine xd_of hG ?_
      refine xd_each [4, 9] (by kernel_rfl) rfl ⟨?_, ?_, trivial⟩
      · refine xd_one hk rfl rfl ?_
        refine op_quiet tab hk (lv := [.slice A2933 (l2935).length c2934]) (v := .slice A2933 (l2935).length c2934) rfl ⟨(load1 tab rfl ((Bx.cell f13.now 1).trans rfl)), trivial⟩ ?_
        have hk := hk.put 18 (.slice A2933 (l2935).length c2934) rfl
        refine ⟨.inr trivial, ?_⟩
        exact xd_to hG rfl (N4254 _ _ ⟨(fun b_ => R_17 (o4246 b_)), (by exact Kn.pick (ks := [5, 11, 12, 14, 18, 22]) hk rfl), (hs.relabM hob R_17 (by decide)), (f13.relab R_17 rfl), (f2936.relab R_17 rfl)⟩)
      · refine xd_one hk rfl rfl ?_
        refine op_call hk ent_23 (vs := [.int .i64 t4, .int .i64 0]) rfl (row_Blank_calls K t4 0 _ o4246  438  _ hc4078) ?_
        rintro _ w4286 ⟨o4287, A4289, c4290, rfl, st4288, f4291, hc4292⟩
        replace f13 := f13.st st4288 (by decide)
        replace f2936 := f2936.st st4288 (by decide)
        replace hs := hs.locQ st4288 hob rfl
        have hk := hk.put 23 (.agg #[.slice A4289 (t4077.Cells).length c4290, .bool t4077.Wrapped]) rfl
        refine ⟨.inr trivial, ?_⟩
        exact xd_to hG rfl (N4308 _ _ ⟨(fun b_ => R_18 (o4287 b_)), A4289, c4290, (by exact Kn.pick (ks := [5, 11, 12, 14, 17, 23]) hk rfl), (hs.relabM hob R_18 (by decide)), (f13.relab R_18 rfl), (f2936.relab R_18 rfl), (f4291.relab R_18 rfl), hc4292⟩)
    refine xd_of hG ?_
    refine xd_take tab hk (k := 8) (is := [0, 1, 2, 3, 5, 6, 7]) (ls' := #[true, true, true, true, false, true, true, true, false, false, false, false, false, false, false]) (lv := []) (ks := [5, 11, 12, 14, 17, 21]) (e' := [(5, .pointer (some ⟨bx12, 0, none⟩)), (11, .int .i64 t2207), (12, .int .i64 x2938), (14, .pointer (some ⟨bx12, 0, none⟩)), (17, .pointer (some ((⟨bx12, 0, none⟩ : Addr).add 1))), (21, .pointer (some ⟨bx12, 0, none⟩))]) (by kernel_rfl) rfl rfl (by kernel_rfl) (np_then (np_blk (np_then (np_then (np_blk (np_then np_body)))))) trivial (fun W_ hS => trivial) fun a hk => ?_
    refine xd_each [4, 8] (by kernel_rfl) rfl ⟨?_, ?_, trivial⟩
    · refine xd_one hk rfl rfl ?_
      refine op_quiet tab hk (lv := [.slice A2933 (l2935).length c2934]) (v := .slice A2933 (l2935).length c2934) rfl ⟨(load1 tab rfl ((Bx.cell f13.now 1).trans rfl)), trivial⟩ ?_
      have hk := hk.put 18 (.slice A2933 (l2935).length c2934) rfl
      refine ⟨.inr trivial, ?_⟩
      exact xd_to hG rfl (N4214 _ _ ⟨(fun b_ => R_19 (o2932 b_)), (by exact Kn.pick (ks := [5, 11, 12, 14, 18, 21]) hk rfl), (hs.relabM hob R_19 (by decide)), (f13.relab R_19 rfl), (f2936.relab R_19 rfl)⟩)
    · refine xd_one hk rfl rfl ?_
      refine op_quiet tab hk (lv := [.int .i64 t4]) (v := .int .i64 t4) rfl ⟨(load1 tab rfl ((Bx.cell f13.now 0).trans rfl)), trivial⟩ ?_
      have hk := hk.put 22 (.int .i64 t4) rfl
      refine ⟨.inr trivial, ?_⟩
      exact xd_to hG rfl (N4248 _ _ ⟨(fun b_ => R_20 (o2932 b_)), (by exact Kn.pick (ks := [5, 11, 12, 14, 17, 22]) hk rfl), (hs.relabM hob R_20 (by decide)), (f13.relab R_20 rfl), (f2936.relab R_20 rfl)⟩)

/-! (*tidewrack/grid.Grid).Size -/
abbrev R_21 (LF : Nat) (l_ : Nat) : Nat := if l_ = 1 then LF else 0
theorem grid_Grid_Size_calls (bp0 : Nat) (Ap0_0 : Option Addr) (cp0_0 : Nat) (p0 : T74) (w : World) (o : Nat → Nat) (LF : Nat) (Lp0 : Nat) (hp0 : Ft (Bx bp0 75 [.int .i64 p0.w, .slice Ap0_0 (p0.l).length cp0_0]) w o Lp0) (Lp0_0 : Nat) (hp0_0 : NRd dT65 Ap0_0 p0.l w o Lp0_0 LF) (hcp0_0 : (p0.l).length ≤ cp0_0) (hd0 : ([LF] : List Nat).Nodup) (hd1 : Lp0_0 ∉ [LF]) (hd2 : Lp0 ∉ [LF]) (r : Int × Int) (H : grid_Grid_Size p0 = some r) :
    Calls Tryz.prog 12 #[.pointer (some ⟨bp0, 0, none⟩)] w (Ret fun v_ w' => ∃ o' : Nat → Nat, v_ = .tuple #[.int .i64 r.1, .int .i64 r.2] ∧ St [] w o w' o') := by
  refine x_enter (vs := [.pointer (some ⟨bp0, 0, none⟩)]) Tryz.func12 rfl rfl rfl fun a hk => ?_
  obtain ⟨oi, hs0, h0, h1, hob, hoz, hoa⟩ := St.startM2 w o (m := 1) hd0 rfl
  have hs := hs0 []
  have f900000 := hp0_0.conv (fun P_ => h0 P_ _ hd1) (fun _ h_ => h1 0 1 h_ rfl rfl)
  have f900019 := h0 _ _ hd2 hp0
  clear h0 h1 hs0
  rw [grid_Grid_Size] at H
  refine x_seq ?_
  refine wpIn_region_lit ?_
  refine x_run tab hk (k := 2) (lv := []) (ks := [0]) (e' := [(0, .pointer (some ⟨bp0, 0, none⟩))]) rfl trivial fun a hk => ?_
  refine wpListIn_nil ?_
  refine then_n ?_
  refine x_seq ?_
  refine xd_begin (o := oi) (fun W_ => (Bx bp0 75 [.int .i64 p0.w, .slice Ap0_0 (p0.l).length cp0_0]) W_ ∧ True) mixed rfl rfl fun w1 st2 => ?_
  replace f900000 := f900000.st st2 (by decide)
  replace f900019 := f900019.st st2 (by decide)
  replace hs := hs.locQ st2 hob rfl
  refine xd_take tab hk (k := 0) (is := [0, 1, 2, 3, 4, 5, 6, 7, 8, 9, 10]) (ls' := #[true, true, true, true, true, true, true, true, true, true, true]) (lv := [.int .i64 p0.w, .slice Ap0_0 (p0.l).length cp0_0]) (ks := [2, 3]) (e' := [(2, .int .i64 p0.w), (3, .int .i64 ((p0.l).length : Int))]) (by kernel_rfl) rfl rfl (by kernel_rfl) (np_then np_body) ⟨f900019.now, trivial⟩ (fun W_ hS => ⟨(load1 tab rfl ((Bx.cell hS.1 0).trans rfl)), (load1 tab rfl ((Bx.cell hS.1 1).trans rfl)), trivial⟩) fun a hk => ?_
  refine xd_done (by kernel_rfl) ?_
  refine then_n ?_
  refine wpIn_ret ?_
  obtain rfl := Option.some.inj H
  exact x_retG hk (rs := [.tmp 2, .tmp 3]) (vs := [.int .i64 p0.w, .int .i64 ((p0.l).length : Int)]) rfl ⟨rfl, rfl, trivial⟩ ⟨cl w oi o [] (R_21 LF) oi, rfl, hs.closeF (Lm := []) (Sh := []) hoa rfl (R_21 LF)⟩

/-! tidewrack/screen.New -/
abbrev R_22 (LF R1 R2 R0 : Nat) (l_ : Nat) : Nat := if l_ = 1 then LF else if l_ = 2 then R1 else if l_ = 3 then R2 else if l_ = 4 then R0 else 0
set_option maxHeartbeats 4000000 in
set_option maxRecDepth 20000 in
theorem screen_New_calls (K : Nat) (p0 : Int) (p1 : Int) (w : World) (o : Nat → Nat) (LF : Nat)  (hd0 : ([LF] : List Nat).Nodup) (R0 : Nat) (R1 : Nat) (R2 : Nat) (r : T55) (H : screen_New K p0 p1 = some r) :
    Calls Tryz.prog 4 #[.int .i64 p0, .int .i64 p1] w (Ret fun v_ w' => ∃ o' : Nat → Nat, ∃ b0 : Nat, ∃ b1 : Nat, ∃ A0 : Option Addr, ∃ c0 : Nat, v_ = .pointer (some ⟨b0, 0, none⟩) ∧ St [] w o w' o' ∧ Ft (Bx b0 56 [.pointer (some ⟨b1, 0, none⟩), .int .i64 r.spot_x, .int .i64 r.spot_y, .int .i64 r.spot_style_Fore, .int .i64 r.spot_style_Back, .bool r.spot_style_Bold, .bool r.spot_style_Under, .bool r.spot_style_Inverse, .int .i64 r.saved_x, .int .i64 r.saved_y, .int .i64 r.saved_style_Fore, .int .i64 r.saved_style_Back, .bool r.saved_style_Bold, .bool r.saved_style_Under, .bool r.saved_style_Inverse, .bool r.waiting, .int .i64 r.top, .int .i64 r.bottom, .bool r.wraps, .string r.title]) w' o' R0 ∧ Ft (Bx b1 75 [.int .i64 r.g_w, .slice A0 (r.g_l).length c0]) w' o' R1 ∧ NOwn dT65 66 A0 c0 r.g_l w' o' R2 LF ∧ (r.g_l).length ≤ c0) := by
  refine x_enter (vs := [.int .i64 p0, .int .i64 p1]) Tryz.func4 rfl rfl rfl fun a hk => ?_
  obtain ⟨oi, hs0, h0, h1, hob, hoz, hoa⟩ := St.startM2 w o (m := 1) hd0 rfl
  have hs := hs0 []
  clear h0 h1 hs0
  rw [screen_New] at H
  refine x_seq ?_
  refine wpIn_region_lit ?_
  refine x_run tab hk (k := 1) (lv := []) (ks := [0, 1]) (e' := [(0, .int .i64 p0), (1, .int .i64 p1)]) rfl trivial fun a hk => ?_
  refine wpListIn_nil ?_
  refine then_n ?_
  refine x_seq ?_
  refine wpIn_region_lit ?_
  refine x_run tab hk (k := 2) (lv := []) (ks := [6, 7]) (e' := [(6, .int .i64 p0), (7, .int .i64 p1)]) rfl trivial fun a hk => ?_
  refine x_op hk rfl ?_
  obtain ⟨t4, hc5, H⟩ := bindS H
  refine op_call hk ent_11 (vs := [.int .i64 p0, .int .i64 p1]) rfl (grid_New_calls K p0 p1 _ oi 1 (by decide) 2 3  _ hc5) ?_
  rintro _ w6 ⟨o7, bx9, A11, c12, rfl, st8, f10, f13, hc14⟩
  replace hs := hs.locQ st8 hob rfl
  have hk := hk.put 8 (.pointer (some ⟨bx9, 0, none⟩)) rfl
  refine x_run tab hk (k := 1) (lv := []) (ks := [9]) (e' := [(9, .agg #[.pointer (some ⟨bx9, 0, none⟩), .int .i64 0, .int .i64 0, .int .i64 0, .int .i64 0, .bool false, .bool false, .bool false, .int .i64 0, .int .i64 0, .int .i64 0, .int .i64 0, .bool false, .bool false, .bool false, .bool false, .int .i64 0, .int .i64 0, .bool true, .string (⟨#[]⟩ : ByteArray)])]) rfl trivial fun a hk => ?_
  refine x_op hk rfl ?_
  refine op_box (o := o7) (t := 56) (v := .agg #[.pointer (some ⟨bx9, 0, none⟩), .int .i64 0, .int .i64 0, .int .i64 0, .int .i64 0, .bool false, .bool false, .bool false, .int .i64 0, .int .i64 0, .int .i64 0, .int .i64 0, .bool false, .bool false, .bool false, .bool false, .int .i64 0, .int .i64 0, .bool true, .string (⟨#[]⟩ : ByteArray)]) (cs := [.pointer (some ⟨bx9, 0, none⟩), .int .i64 0, .int .i64 0, .int .i64 0, .int .i64 0, .bool false, .bool false, .bool false, .int .i64 0, .int .i64 0, .int .i64 0, .int .i64 0, .bool false, .bool false, .bool false, .bool false, .int .i64 0, .int .i64 0, .bool true, .string (⟨#[]⟩ : ByteArray)]) hk rfl rfl 4 fun bx18 w15 o16 st17 f19 => ?_
  replace f10 := f10.st st17 (by decide)
  replace f13 := f13.st st17 (by decide)
  replace hs := hs.locQ st17 hob rfl
  have hk := hk.put 10 (.pointer (some ⟨bx18, 0, none⟩)) rfl
  refine x_run tab hk (k := 1) (lv := []) (ks := [5]) (e' := [(5, .pointer (some ⟨bx18, 0, none⟩))]) rfl trivial fun a hk => ?_
  refine wpListIn_nil ?_
  refine then_n ?_
  refine x_seq ?_
  refine wpIn_region_lit ?_
  refine x_run tab hk (k := 5) (lv := [.pointer (some ⟨bx9, 0, none⟩)]) (ks := [5, 12, 16]) (e' := [(5, .pointer (some ⟨bx18, 0, none⟩)), (12, .pointer (some ⟨bx18, 0, none⟩)), (16, .pointer (some ⟨bx9, 0, none⟩))]) rfl ⟨(load1 tab rfl ((Bx.cell f19.now 0).trans rfl)), trivial⟩ fun a hk => ?_
  refine x_op hk rfl ?_
  obtain ⟨t23, hc24, H⟩ := bindS H
  refine op_call hk ent_12 (vs := [.pointer (some ⟨bx9, 0, none⟩)]) rfl (grid_Grid_Size_calls bx9 A11 c12 t4 _ o16 1 2 f10 _ f13.rd hc14 (by decide) (by decide) (by decide)   _ hc24) ?_
  rintro _ w25 ⟨o26, rfl, st27⟩
  replace f10 := f10.st st27 (by decide)
  replace f13 := f13.st st27 (by decide)
  replace f19 := f19.st st27 (by decide)
  replace hs := hs.locQ st27 hob rfl
  have hk := hk.put 17 (.tuple #[.int .i64 t23.1, .int .i64 t23.2]) rfl
  refine x_run tab hk (k := 5) (lv := []) (ks := [5, 19, 21]) (e' := [(5, .pointer (some ⟨bx18, 0, none⟩)), (19, .int .i64 t23.2), (21, .pointer (some ((⟨bx18, 0, none⟩ : Addr).add 17)))]) rfl trivial fun a hk => ?_
  refine x_op hk rfl ?_
  refine op_store tab hk (t := 3) (v := .int .i64 t23.2) (b := bx18) (k := 17) (cs' := [.pointer (some ⟨bx9, 0, none⟩), .int .i64 0, .int .i64 0, .int .i64 0, .int .i64 0, .bool false, .bool false, .bool false, .int .i64 0, .int .i64 0, .int .i64 0, .int .i64 0, .bool false, .bool false, .bool false, .bool false, .int .i64 0, .int .i64 t23.2, .bool true, .string (⟨#[]⟩ : ByteArray)]) rfl rfl rfl rfl rfl rfl f19 rfl rfl fun w28 o29 st30 f19_ => ?_
  replace f10 := f10.st st30 (by decide)
  replace f13 := f13.st st30 (by decide)
  replace hs := hs.locQ st30 hob rfl
  replace f19 := f19_
  refine wpListIn_nil ?_
  refine then_n ?_
  refine x_seq ?_
  refine wpIn_region_lit ?_
  refine x_run tab hk (k := 7) (lv := [.int .i64 t23.2]) (ks := [5, 26, 28]) (e' := [(5, .pointer (some ⟨bx18, 0, none⟩)), (26, .int .i64 (IntKind.wrap .i64 (t23.2 - 1))), (28, .pointer (some ((⟨bx18, 0, none⟩ : Addr).add 17)))]) rfl ⟨(load1 tab rfl ((Bx.cell f19.now 17).trans rfl)), trivial⟩ fun a hk => ?_
  refine x_op hk rfl ?_
  refine op_store tab hk (t := 3) (v := .int .i64 (IntKind.wrap .i64 (t23.2 - 1))) (b := bx18) (k := 17) (cs' := [.pointer (some ⟨bx9, 0, none⟩), .int .i64 0, .int .i64 0, .int .i64 0, .int .i64 0, .bool false, .bool false, .bool false, .int .i64 0, .int .i64 0, .int .i64 0, .int .i64 0, .bool false, .bool false, .bool false, .bool false, .int .i64 0, .int .i64 (IntKind.wrap .i64 (t23.2 - 1)), .bool true, .string (⟨#[]⟩ : ByteArray)]) rfl rfl rfl rfl rfl rfl f19 rfl rfl fun w31 o32 st33 f19_ => ?_
  replace f10 := f10.st st33 (by decide)
  replace f13 := f13.st st33 (by decide)
  replace hs := hs.locQ st33 hob rfl
  replace f19 := f19_
  refine wpListIn_nil ?_
  refine then_n ?_
  refine x_seq ?_
  refine wpIn_region_lit ?_
  refine x_run tab hk (k := 2) (lv := []) (ks := [4]) (e' := [(4, .pointer (some ⟨bx18, 0, none⟩))]) rfl trivial fun a hk => ?_
  refine wpListIn_nil ?_
  refine then_n ?_
  refine wpIn_ret ?_
  obtain rfl := Option.some.inj H
  exact x_retG hk (rs := [.tmp 4]) (vs := [.pointer (some ⟨bx18, 0, none⟩)]) rfl ⟨rfl, trivial⟩ ⟨cl w oi o [] (R_22 LF R1 R2 R0) o32, bx18, bx9, A11, c12, rfl, hs.closeF (Lm := []) (Sh := []) hoa rfl (R_22 LF R1 R2 R0), hs.closeM_ft (o := o) (ρ := R_22 LF R1 R2 R0) f19 (lab_none hob rfl) rfl, hs.closeM_ft (o := o) (ρ := R_22 LF R1 R2 R0) f10 (lab_none hob rfl) rfl, f13.conv (fun _ h_ => hs.closeM_ft (o := o) (ρ := R_22 LF R1 R2 R0) h_ (lab_none hob rfl) rfl) (fun _ h_ => hs.closeM_ft (o := o) (ρ := R_22 LF R1 R2 R0) h_ (lab_at hoa (i := 0) rfl) rfl), hc14⟩

/-! tidewrack/book.New -/
abbrev R_23 (LF R2 R0 : Nat) (l_ : Nat) : Nat := if l_ = 1 then LF else if l_ = 2 then R2 else if l_ = 3 then R0 else 0
set_option maxHeartbeats 4000000 in
set_option maxRecDepth 20000 in
theorem book_New_calls  (w : World) (o : Nat → Nat) (LF : Nat)  (hd0 : ([LF] : List Nat).Nodup) (R0 : Nat) (R1 : Nat) (R2 : Nat) (R3 : Nat) (r : T60) (H : book_New = some r) :
    Calls Tryz.prog 5 #[] w (Ret fun v_ w' => ∃ o' : Nat → Nat, ∃ b0 : Nat, ∃ A0 : Option Addr, ∃ c0 : Nat, ∃ A1 : Option Addr, ∃ c1 : Nat, ∃ A2 : Option Addr, ∃ c2 : Nat, v_ = .pointer (some ⟨b0, 0, none⟩) ∧ St [] w o w' o' ∧ Ft (Bx b0 61 [.slice A0 (r.l).length c0, .slice A1 (r.chains).length c1, .slice A2 (r.begun).length c2]) w' o' R0 ∧ NOwn (dRows ET46) 43 A0 c0 r.l w' o' R1 LF ∧ (r.l).length ≤ c0 ∧ Ft (Own (encInt .i64) 3 (.slice A1 (r.chains).length c1) r.chains) w' o' R2 ∧ (r.chains).length ≤ c1 ∧ Ft (Own ET46 47 (.slice A2 (r.begun).length c2) r.begun) w' o' R3 ∧ (r.begun).length ≤ c2) := by
  refine x_enter (vs := []) Tryz.func5 rfl rfl rfl fun a hk => ?_
  obtain ⟨oi, hs0, h0, h1, hob, hoz, hoa⟩ := St.startM2 w o (m := 1) hd0 rfl
  have hs := hs0 []
  clear h0 h1 hs0
  rw [book_New] at H
  refine x_seq ?_
  refine wpIn_region_lit ?_
  refine x_run tab hk (k := 1) (lv := []) (ks := []) (e' := []) rfl trivial fun a hk => ?_
  refine wpListIn_nil ?_
  refine then_n ?_
  refine x_seq ?_
  refine wpIn_region_lit ?_
  refine x_op hk rfl ?_
  refine op_slice (o := oi) tab hk (vs := [.int .i64 0]) (cs := [.int .i64 0]) rfl rfl rfl rfl rfl rfl rfl rfl rfl 2 fun bx4 w1 o2 st3 f5 => ?_
  replace hs := hs.locQ st3 hob rfl
  have f6 : Ft (Own (encInt .i64) 3 (.slice (some ⟨bx4, 0, none⟩) (([0] : List Int)).length 1) ([0] : List Int)) w1 o2 2 := f5.imp fun _ h_ => Own.of_box h_ rfl (by simp)
  have hk := hk.put 1 (.slice (some ⟨bx4, 0, none⟩) (([0] : List Int)).length 1) rfl
  refine x_run tab hk (k := 1) (lv := []) (ks := [2]) (e' := [(2, .agg #[.slice none 0 0, .slice (some ⟨bx4, 0, none⟩) (([0] : List Int)).length 1, .slice none 0 0])]) rfl trivial fun a hk => ?_
  refine x_op hk rfl ?_
  refine op_box (o := o2) (t := 61) (v := .agg #[.slice none 0 0, .slice (some ⟨bx4, 0, none⟩) (([0] : List Int)).length 1, .slice none 0 0]) (cs := [.slice none 0 0, .slice (some ⟨bx4, 0, none⟩) (([0] : List Int)).length 1, .slice none 0 0]) hk rfl rfl 3 fun bx10 w7 o8 st9 f11 => ?_
  replace f6 := f6.st st9 (by decide)
  replace hs := hs.locQ st9 hob rfl
  have hk := hk.put 3 (.pointer (some ⟨bx10, 0, none⟩)) rfl
  refine x_run tab hk (k := 1) (lv := []) (ks := [0]) (e' := [(0, .pointer (some ⟨bx10, 0, none⟩))]) rfl trivial fun a hk => ?_
  refine wpListIn_nil ?_
  refine then_n ?_
  refine wpIn_ret ?_
  obtain rfl := Option.some.inj H
  exact x_retG hk (rs := [.tmp 0]) (vs := [.pointer (some ⟨bx10, 0, none⟩)]) rfl ⟨rfl, trivial⟩ ⟨cl w oi o [] (R_23 LF R2 R0) o8, bx10, none, 0, (some ⟨bx4, 0, none⟩), 1, none, 0, rfl, hs.closeF (Lm := []) (Sh := []) hoa rfl (R_23 LF R2 R0), hs.closeM_ft (o := o) (ρ := R_23 LF R2 R0) f11 (lab_none hob rfl) rfl, (NOwn.nil _ _ _ _ _ _), (by simp), hs.closeM_ft (o := o) (ρ := R_23 LF R2 R0) f6 (lab_none hob rfl) rfl, (Nat.le_refl _), (Ft.of_all (fun _ => Own.nil _ _ _) _ _ _), (by simp)⟩

/-! (tidewrack/glyph.Decoder).End -/
set_option maxHeartbeats 4000000 in
set_option maxRecDepth 20000 in
theorem glyph_Decoder_End_calls (p0 : T30) (w : World) (o : Nat → Nat)   (R0 : Nat) (r : List Int) (H : glyph_Decoder_End p0 = some r) :
    Calls Tryz.prog 56 #[.agg #[.int .u8 p0.Lead, .int .i32 p0.Rune, .int .i64 p0.Need]] w (Ret fun v_ w' => ∃ o' : Nat → Nat, ∃ A0 : Option Addr, ∃ c0 : Nat, v_ = .slice A0 (r).length c0 ∧ St [] w o w' o' ∧ Ft (Own (encInt .i32) 21 (.slice A0 (r).length c0) r) w' o' R0 ∧ (r).length ≤ c0) := by
  refine x_enter (vs := [.agg #[.int .u8 p0.Lead, .int .i32 p0.Rune, .int .i64 p0.Need]]) Tryz.func56 rfl rfl rfl fun a hk => ?_
  obtain ⟨o0, hs, h0⟩ := St.start w o
  clear h0
  rw [glyph_Decoder_End] at H
  refine x_seq ?_
  refine wpIn_region_lit ?_
  refine x_op hk rfl ?_
  refine op_box (o := o0) (t := 31) (v := .agg #[.int .u8 p0.Lead, .int .i32 p0.Rune, .int .i64 p0.Need]) (cs := [.int .u8 p0.Lead, .int .i32 p0.Rune, .int .i64 p0.Need]) hk rfl rfl 1 fun bx4 w1 o2 st3 f5 => ?_
  replace hs := hs.loc0 st3 (by decide)
  have hk := hk.put 1 (.pointer (some ⟨bx4, 0, none⟩)) rfl
  refine x_run tab hk (k := 1) (lv := []) (ks := [1]) (e' := [(1, .pointer (some ⟨bx4, 0, none⟩))]) rfl trivial fun a hk => ?_
  refine wpListIn_nil ?_
  refine then_n ?_
  refine x_seq ?_
  refine x_seq ?_
  refine wpIn_region_lit ?_
  refine x_run tab hk (k := 3) (lv := [.int .i64 p0.Need]) (ks := [5]) (e' := [(5, .bool (decide (p0.Need ≤ (0 : Int))))]) rfl ⟨(load1 tab rfl ((Bx.cell f5.now 2).trans rfl)), trivial⟩ fun a hk => ?_
  refine wpListIn_nil ?_
  refine then_n ?_
  cases b6 : (decide (p0.Need ≤ (0 : Int)))
  · rw [b6] at hk H
    replace H := bifF H
    refine x_if hk (b := false) rfl ?_
    refine (show Code.wpIn _ _ _ _ _ _ _ from ?_)
    refine wpIn_skip ?_
    refine then_n ?_
    refine x_seq ?_
    refine wpIn_region_lit ?_
    refine x_op hk rfl ?_
    refine op_slice (o := o2) tab hk (vs := [.int .i32 65533]) (cs := [.int .i32 65533]) rfl rfl rfl rfl rfl rfl rfl rfl rfl 2 fun bx10 w7 o8 st9 f11 => ?_
    replace hs := hs.loc0 st9 (by decide)
    have f12 : Ft (Own (encInt .i32) 21 (.slice (some ⟨bx10, 0, none⟩) (([65533] : List Int)).length 1) ([65533] : List Int)) w7 o8 2 := f11.imp fun _ h_ => Own.of_box h_ rfl (by simp)
    have hk := hk.put 6 (.slice (some ⟨bx10, 0, none⟩) (([65533] : List Int)).length 1) rfl
    refine x_run tab hk (k := 1) (lv := []) (ks := [2]) (e' := [(2, .slice (some ⟨bx10, 0, none⟩) (([65533] : List Int)).length 1)]) rfl trivial fun a hk => ?_
    refine wpListIn_nil ?_
    refine then_n ?_
    refine wpIn_ret ?_
    obtain rfl := Option.some.inj H
    exact x_retG hk (rs := [.tmp 2]) (vs := [.slice (some ⟨bx10, 0, none⟩) (([65533] : List Int)).length 1]) rfl ⟨rfl, trivial⟩ ⟨fun b_ => if b_ < w.heap.size then o b_ else (fun _ => R0) (o8 b_), (some ⟨bx10, 0, none⟩), 1, rfl, hs.close0 o (fun _ => R0), hs.close_ft (o := o) (ρ := fun _ => R0) f12 (by decide) rfl, (Nat.le_refl _)⟩
  · rw [b6] at hk H
    replace H := bifT H
    refine x_if hk (b := true) rfl ?_
    refine (show Code.wpIn _ _ _ _ _ _ _ from ?_)
    refine x_seq ?_
    refine wpIn_region_lit ?_
    refine x_run tab hk (k := 1) (lv := []) (ks := [2]) (e' := [(2, .slice none 0 0)]) rfl trivial fun a hk => ?_
    refine wpListIn_nil ?_
    refine then_n ?_
    refine wpIn_ret ?_
    refine then_r ?_
    obtain rfl := Option.some.inj H
    exact x_retG hk (rs := [.tmp 2]) (vs := [.slice none 0 0]) rfl ⟨rfl, trivial⟩ ⟨fun b_ => if b_ < w.heap.size then o b_ else (fun _ => 0) (o2 b_), none, 0, rfl, hs.close0 o (fun _ => 0), (Ft.of_all (fun _ => Own.nil _ _ _) _ _ _), (by simp)⟩

/-! (*tidewrack/seq.Parser).tell -/
abbrev R_24 (LF Lp0 Lp0_0 Lp0_1 : Nat) (l_ : Nat) : Nat := if l_ = 1 then LF else if l_ = 2 then Lp0 else if l_ = 3 then Lp0_0 else if l_ = 4 then Lp0_1 else 0
abbrev R_25 (l_ : Nat) : Nat := if l_ = 5 then 20 else l_
abbrev R_26 (l_ : Nat) : Nat := if l_ = 5 then 23 else if l_ = 22 then 24 else l_
set_option maxHeartbeats 4000000 in
set_option maxRecDepth 20000 in
theorem seq_Parser_tell_calls (bp0 : Nat) (Ap0_0 : Option Addr) (cp0_0 : Nat) (Ap0_1 : Option Addr) (cp0_1 : Nat) (p0 : T33) (Ap1_0 : Option Addr) (cp1_0 : Nat) (p1 : T37) (w : World) (o : Nat → Nat) (LF : Nat) (Lp0 : Nat) (hp0 : Ft (Bx bp0 34 [.int .i64 p0.state, .bool p0.order_private_, .bool p0.order_wrong, .bool p0.order_any, .bool p0.order_some, .int .i64 p0.order_n, .slice Ap0_0 (p0.order_nums).length cp0_0, .string p0.text, .int .u8 p0.runes_Lead, .int .i32 p0.runes_Rune, .int .i64 p0.runes_Need, .slice Ap0_1 (p0.out).length cp0_1]) w o Lp0) (Lp0_0 : Nat) (hp0_0 : Ft (Own (encInt .i64) 3 (.slice Ap0_0 (p0.order_nums).length cp0_0) p0.order_nums) w o Lp0_0) (hcp0_0 : (p0.order_nums).length ≤ cp0_0) (Lp0_1 : Nat) (hp0_1 : NOwn dT37 38 Ap0_1 cp0_1 p0.out w o Lp0_1 LF) (hcp0_1 : (p0.out).length ≤ cp0_1) (hp1_0 : Ft (RdC (encInt .i64) Ap1_0 p1.Nums) w o LF) (hcp1_0 : (p1.Nums).length ≤ cp1_0) (hd0 : ([LF, Lp0, Lp0_0, Lp0_1] : List Nat).Nodup) (r : T33) (H : seq_Parser_tell p0 p1 = some r) :
    Calls Tryz.prog 59 #[.pointer (some ⟨bp0, 0, none⟩), .agg #[.int .i64 p1.Kind, .int .i32 p1.Rune, .int .u8 p1.Byte, .bool p1.Private, .slice Ap1_0 (p1.Nums).length cp1_0, .string p1.Text]] w (Ret fun v_ w' => ∃ o' : Nat → Nat, ∃ A0 : Option Addr, ∃ c0 : Nat, ∃ A1 : Option Addr, ∃ c1 : Nat, v_ = .tuple #[] ∧ St [Lp0, Lp0_0, Lp0_1] w o w' o' ∧ Ft (Bx bp0 34 [.int .i64 r.state, .bool r.order_private_, .bool r.order_wrong, .bool r.order_any, .bool r.order_some, .int .i64 r.order_n, .slice A0 (r.order_nums).length c0, .string r.text, .int .u8 r.runes_Lead, .int .i32 r.runes_Rune, .int .i64 r.runes_Need, .slice A1 (r.out).length c1]) w' o' Lp0 ∧ Ft (Own (encInt .i64) 3 (.slice A0 (r.order_nums).length c0) r.order_nums) w' o' Lp0_0 ∧ (r.order_nums).length ≤ c0 ∧ NOwn dT37 38 A1 c1 r.out w' o' Lp0_1 LF ∧ (r.out).length ≤ c1) := by
  refine x_enter (vs := [.pointer (some ⟨bp0, 0, none⟩), .agg #[.int .i64 p1.Kind, .int .i32 p1.Rune, .int .u8 p1.Byte, .bool p1.Private, .slice Ap1_0 (p1.Nums).length cp1_0, .string p1.Text]]) Tryz.func59 rfl rfl rfl fun a hk => ?_
  obtain ⟨oi, hs0, h0, h1, hob, hoz, hoa⟩ := St.startM2 w o (m := 4) hd0 rfl
  have hs := hs0 [2, 3, 4]
  have f900000 := h1 2 3 hp0_0 rfl rfl
  have f900001 := hp0_1.conv (fun _ h_ => h1 3 4 h_ rfl rfl) (fun _ h_ => h1 0 1 h_ rfl rfl)
  have f900019 := h1 1 2 hp0 rfl rfl
  have f900020 := h1 0 1 hp1_0 rfl rfl
  clear h0 h1 hs0
  rw [seq_Parser_tell] at H
  refine x_seq ?_
  refine wpIn_region_lit ?_
  refine x_op hk rfl ?_
  refine op_box (o := oi) (t := 38) (v := .agg #[.int .i64 p1.Kind, .int .i32 p1.Rune, .int .u8 p1.Byte, .bool p1.Private, .slice Ap1_0 (p1.Nums).length cp1_0, .string p1.Text]) (cs := [.int .i64 p1.Kind, .int .i32 p1.Rune, .int .u8 p1.Byte, .bool p1.Private, .slice Ap1_0 (p1.Nums).length cp1_0, .string p1.Text]) hk rfl rfl 5 fun bx4 w1 o2 st3 f5 => ?_
  replace f900000 := f900000.st st3 (by decide)
  replace f900001 := f900001.st st3 (by decide)
  replace f900019 := f900019.st st3 (by decide)
  replace f900020 := f900020.st st3 (by decide)
  replace hs := hs.locQ st3 hob rfl
  have hk := hk.put 3 (.pointer (some ⟨bx4, 0, none⟩)) rfl
  refine wpListIn_nil ?_
  refine then_n ?_
  refine x_cut (fun a_ w_ => ∃ o154 : Nat → Nat, ∃ A155 : Option Addr, ∃ c156 : Nat, Kn 14 a_ [] ∧ St [2, 3, 4] w oi w_ o154 ∧ NOwn dT37 38 A155 c156 (p0.out ++ ([p1] : List T37)) w_ o154 4 1 ∧ Ft (Own (encInt .i64) 3 (.slice Ap0_0 (p0.order_nums).length cp0_0) p0.order_nums) w_ o154 3 ∧ Ft (Bx bp0 34 [.int .i64 p0.state, .bool p0.order_private_, .bool p0.order_wrong, .bool p0.order_any, .bool p0.order_some, .int .i64 p0.order_n, .slice Ap0_0 (p0.order_nums).length cp0_0, .string p0.text, .int .u8 p0.runes_Lead, .int .i32 p0.runes_Rune, .int .i64 p0.runes_Need, .slice A155 ((p0.out ++ ([p1] : List T37))).length c156]) w_ o154 2 ∧ ((p0.out ++ ([p1] : List T37))).length ≤ c156 ∧ seq_Parser_tell_j1 p0 p1 = some r) ?_ ?_
  rotate_left
  · rintro a w159 ⟨o154, A155, c156, hk, hs, f157, f900000, f900019, hc158, H⟩
    rw [seq_Parser_tell_j1] at H
    obtain rfl := Option.some.inj H
    exact x_endG hk (rs := []) (vs := []) rfl trivial ⟨cl w oi o [2, 3, 4] (R_24 LF Lp0 Lp0_0 Lp0_1) o154, Ap0_0, cp0_0, A155, c156, rfl, hs.closeF (Lm := [Lp0, Lp0_0, Lp0_1]) (Sh := []) hoa rfl (R_24 LF Lp0 Lp0_0 Lp0_1), hs.closeM_ft (o := o) (ρ := R_24 LF Lp0 Lp0_0 Lp0_1) f900019 (lab_at hoa (i := 1) rfl) rfl, hs.closeM_ft (o := o) (ρ := R_24 LF Lp0 Lp0_0 Lp0_1) f900000 (lab_at hoa (i := 2) rfl) rfl, hcp0_0, f157.conv (fun _ h_ => hs.closeM_ft (o := o) (ρ := R_24 LF Lp0 Lp0_0 Lp0_1) h_ (lab_at hoa (i := 3) rfl) rfl) (fun _ h_ => hs.closeM_ft (o := o) (ρ := R_24 LF Lp0 Lp0_0 Lp0_1) h_ (lab_at hoa (i := 0) rfl) rfl), hc158⟩
  obtain ⟨q186, H⟩ := ifS H
  refine xd_begin (o := o2) (fun W_ => (Bx bx4 38 [.int .i64 p1.Kind, .int .i32 p1.Rune, .int .u8 p1.Byte, .bool p1.Private, .slice Ap1_0 (p1.Nums).length cp1_0, .string p1.Text]) W_ ∧ True) mixed rfl rfl fun w226 st227 => ?_
  replace f5 := f5.st st227 (by decide)
  replace f900000 := f900000.st st227 (by decide)
  replace f900001 := f900001.st st227 (by decide)
  replace f900019 := f900019.st st227 (by decide)
  replace f900020 := f900020.st st227 (by decide)
  replace hs := hs.locQ st227 hob rfl
  refine xd_abs fun G hG => ?_
  have N233 : ∀ (a_ : Act) (w_ : World), (∃ o231 : Nat → Nat, Kn 14 a_ [(4, .pointer (some ⟨bp0, 0, none⟩)), (8, .slice Ap0_1 (p0.out).length cp0_1), (9, .agg #[.int .i64 p1.Kind, .int .i32 p1.Rune, .int .u8 p1.Byte, .bool p1.Private, .slice Ap1_0 (p1.Nums).length cp1_0, .string p1.Text])] ∧ St [2, 3, 4] w oi w_ o231 ∧ Ft (Bx bx4 38 [.int .i64 p1.Kind, .int .i32 p1.Rune, .int .u8 p1.Byte, .bool p1.Private, .slice Ap1_0 (p1.Nums).length cp1_0, .string p1.Text]) w_ o231 20 ∧ Ft (Own (encInt .i64) 3 (.slice Ap0_0 (p0.order_nums).length cp0_0) p0.order_nums) w_ o231 3 ∧ NOwn dT37 38 Ap0_1 cp0_1 p0.out w_ o231 4 1 ∧ Ft (Bx bp0 34 [.int .i64 p0.state, .bool p0.order_private_, .bool p0.order_wrong, .bool p0.order_any, .bool p0.order_some, .int .i64 p0.order_n, .slice Ap0_0 (p0.order_nums).length cp0_0, .string p0.text, .int .u8 p0.runes_Lead, .int .i32 p0.runes_Rune, .int .i64 p0.runes_Need, .slice Ap0_1 (p0.out).length cp0_1]) w_ o231 2 ∧ Ft (RdC (encInt .i64) Ap1_0 p1.Nums) w_ o231 1) → G 5 #[true, true, true, true, true, true, false, false, false, false, false] a_ w_ := by
    rintro a w232 ⟨o231, hk, hs, f5, f900000, f900001, f900019, f900020⟩
    refine xd_of hG ?_
    refine xd_op hk (i := 6) (by kernel_rfl) rfl rfl ?_
    refine op_slice (o := o231) tab hk (vs := [.agg #[.int .i64 p1.Kind, .int .i32 p1.Rune, .int .u8 p1.Byte, .bool p1.Private, .slice Ap1_0 (p1.Nums).length cp1_0, .string p1.Text]]) (cs := [.int .i64 p1.Kind, .int .i32 p1.Rune, .int .u8 p1.Byte, .bool p1.Private, .slice Ap1_0 (p1.Nums).length cp1_0, .string p1.Text]) rfl rfl rfl rfl rfl rfl rfl rfl rfl 21 fun bx237 w234 o235 st236 f238 => ?_
    replace f5 := f5.st st236 (by decide)
    replace f900000 := f900000.st st236 (by decide)
    replace f900001 := f900001.st st236 (by decide)
    replace f900019 := f900019.st st236 (by decide)
    replace f900020 := f900020.st st236 (by decide)
    replace hs := hs.locQ st236 hob rfl
    have f239 : NOwn dT37 38 (some ⟨bx237, 0, none⟩) 1 ([p1] : List T37) w234 o235 21 1 := NOwn.litD (D := dT37) f238 [(⟨p1, Ap1_0, cp1_0⟩ : NT37)] rfl (Inn.consD (D := dT37) (r := (⟨p1, Ap1_0, cp1_0⟩ : NT37)) (f900020.imp fun _ h_ => ⟨h_, hcp1_0⟩) (Inn.nilD _ _ _ _)) rfl (Nat.le_of_ble_eq_true rfl)
    have hk := hk.put 10 (.slice (some ⟨bx237, 0, none⟩) (([p1] : List T37)).length 1) rfl
    refine ⟨.inr ⟨f5.now, trivial⟩, ?_⟩
    refine xd_op hk (i := 7) (by kernel_rfl) rfl rfl ?_
    refine op_appendN (o := o235) (D := dT37) (xs := p0.out) (ys := ([p1] : List T37)) tab hk rfl rfl rfl rfl rfl rfl rfl f900001 f239.rd (by decide) q186 fun A243 c244 w240 o241 st242 f245 hc246 => ?_
    replace f239 := f239.st st242 (by decide)
    replace f5 := f5.st st242 (by decide)
    replace f900000 := f900000.st st242 (by decide)
    replace f900019 := f900019.st st242 (by decide)
    replace f900020 := f900020.st st242 (by decide)
    replace hs := hs.locQ st242 hob rfl
    have hk := hk.put 11 (.slice A243 ((p0.out ++ ([p1] : List T37))).length c244) rfl
    refine ⟨.inr ⟨f5.now, trivial⟩, ?_⟩
    refine xd_take tab hk (k := 1) (is := [8, 9]) (ls' := #[true, true, true, true, true, true, true, true, true, true, false]) (lv := []) (ks := [11, 13]) (e' := [(11, .slice A243 ((p0.out ++ ([p1] : List T37))).length c244), (13, .pointer (some ((⟨bp0, 0, none⟩ : Addr).add 11)))]) (by kernel_rfl) rfl rfl (by kernel_rfl) (np_then np_body) ⟨f5.now, trivial⟩ (fun W_ hS => trivial) fun a hk => ?_
    refine xd_op hk (i := 10) (by kernel_rfl) rfl rfl ?_
    refine op_store tab hk (t := 32) (v := .slice A243 ((p0.out ++ ([p1] : List T37))).length c244) (b := bp0) (k := 11) (cs' := [.int .i64 p0.state, .bool p0.order_private_, .bool p0.order_wrong, .bool p0.order_any, .bool p0.order_some, .int .i64 p0.order_n, .slice Ap0_0 (p0.order_nums).length cp0_0, .string p0.text, .int .u8 p0.runes_Lead, .int .i32 p0.runes_Rune, .int .i64 p0.runes_Need, .slice A243 ((p0.out ++ ([p1] : List T37))).length c244]) rfl rfl rfl rfl rfl rfl f900019 rfl rfl fun w247 o248 st249 f900019_ => ?_
    replace f239 := f239.st st249 (by decide)
    replace f245 := f245.st st249 (by decide)
    replace f5 := f5.st st249 (by decide)
    replace f900000 := f900000.st st249 (by decide)
    replace f900020 := f900020.st st249 (by decide)
    replace hs := hs.locQ st249 hob rfl
    replace f900019 := f900019_
    refine ⟨.inr ⟨f5.now, trivial⟩, ?_⟩
    refine xd_done (by kernel_rfl) ?_
    refine then_n ?_
    exact ⟨o248, A243, c244, (by exact Kn.pick (ks := []) hk rfl), hs, f245, f900000, f900019, hc246, H⟩
  have N271 : ∀ (a_ : Act) (w_ : World), (∃ o265 : Nat → Nat, ∃ A266 : Option Addr, ∃ c267 : Nat, Kn 14 a_ [(4, .pointer (some ⟨bp0, 0, none⟩)), (7, .pointer (some ((⟨bp0, 0, none⟩ : Addr).add 11))), (10, .slice A266 (([p1] : List T37)).length c267)] ∧ St [2, 3, 4] w oi w_ o265 ∧ NOwn dT37 38 A266 c267 ([p1] : List T37) w_ o265 24 1 ∧ Ft (Bx bx4 38 [.int .i64 p1.Kind, .int .i32 p1.Rune, .int .u8 p1.Byte, .bool p1.Private, .slice Ap1_0 (p1.Nums).length cp1_0, .string p1.Text]) w_ o265 23 ∧ Ft (Own (encInt .i64) 3 (.slice Ap0_0 (p0.order_nums).length cp0_0) p0.order_nums) w_ o265 3 ∧ NOwn dT37 38 Ap0_1 cp0_1 p0.out w_ o265 4 1 ∧ Ft (Bx bp0 34 [.int .i64 p0.state, .bool p0.order_private_, .bool p0.order_wrong, .bool p0.order_any, .bool p0.order_some, .int .i64 p0.order_n, .slice Ap0_0 (p0.order_nums).length cp0_0, .string p0.text, .int .u8 p0.runes_Lead, .int .i32 p0.runes_Rune, .int .i64 p0.runes_Need, .slice Ap0_1 (p0.out).length cp0_1]) w_ o265 2 ∧ Ft (RdC (encInt .i64) Ap1_0 p1.Nums) w_ o265 1 ∧ (([p1] : List T37)).length ≤ c267) → G 5 #[true, true, true, true, false, true, true, false, false, false, false] a_ w_ := by
    refine fun a w270 z0 => z0.elim fun o265 z1 => z1.elim fun A266 z2 => z2.elim fun c267 z3 => z3.elim fun hk z4 => z4.elim fun hs z5 => z5.elim fun f268 z6 => z6.elim fun f5 z7 => z7.elim fun f900000 z8 => z8.elim fun f900001 z9 => z9.elim fun f900019 z10 => z10.elim fun f900020 hc269 => ?_
    clear z0 z1 z2 z3 z4 z5 z6 z7 z8 z9 z10
    refine xd_of hG ?_
    refine xd_op hk (i := 4) (by kernel_rfl) rfl rfl ?_
    refine op_quiet tab hk (lv := [.slice Ap0_1 (p0.out).length cp0_1]) (v := .slice Ap0_1 (p0.out).length cp0_1) rfl ⟨(load1 tab rfl ((Bx.cell f900019.now 11).trans rfl)), trivial⟩ ?_
    have hk := hk.put 8 (.slice Ap0_1 (p0.out).length cp0_1) rfl
    refine ⟨.inr ⟨f5.now, trivial⟩, ?_⟩
    refine xd_op hk (i := 7) (by kernel_rfl) rfl rfl ?_
    refine op_appendN (o := o265) (D := dT37) (xs := p0.out) (ys := ([p1] : List T37)) tab hk rfl rfl rfl rfl rfl rfl rfl f900001 f268.rd (by decide) q186 fun A275 c276 w272 o273 st274 f277 hc278 => ?_
    replace f268 := f268.st st274 (by decide)
    replace f5 := f5.st st274 (by decide)
    replace f900000 := f900000.st st274 (by decide)
    replace f900019 := f900019.st st274 (by decide)
    replace f900020 := f900020.st st274 (by decide)
    replace hs := hs.locQ st274 hob rfl
    have hk := hk.put 11 (.slice A275 ((p0.out ++ ([p1] : List T37))).length c276) rfl
    refine ⟨.inr ⟨f5.now, trivial⟩, ?_⟩
    refine xd_take tab hk (k := 1) (is := [8, 9]) (ls' := #[true, true, true, true, true, true, true, true, true, true, false]) (lv := []) (ks := [11, 13]) (e' := [(11, .slice A275 ((p0.out ++ ([p1] : List T37))).length c276), (13, .pointer (some ((⟨bp0, 0, none⟩ : Addr).add 11)))]) (by kernel_rfl) rfl rfl (by kernel_rfl) (np_then np_body) ⟨f5.now, trivial⟩ (fun W_ hS => trivial) fun a hk => ?_
    refine xd_op hk (i := 10) (by kernel_rfl) rfl rfl ?_
    refine op_store tab hk (t := 32) (v := .slice A275 ((p0.out ++ ([p1] : List T37))).length c276) (b := bp0) (k := 11) (cs' := [.int .i64 p0.state, .bool p0.order_private_, .bool p0.order_wrong, .bool p0.order_any, .bool p0.order_some, .int .i64 p0.order_n, .slice Ap0_0 (p0.order_nums).length cp0_0, .string p0.text, .int .u8 p0.runes_Lead, .int .i32 p0.runes_Rune, .int .i64 p0.runes_Need, .slice A275 ((p0.out ++ ([p1] : List T37))).length c276]) rfl rfl rfl rfl rfl rfl f900019 rfl rfl fun w279 o280 st281 f900019_ => ?_
    replace f268 := f268.st st281 (by decide)
    replace f277 := f277.st st281 (by decide)
    replace f5 := f5.st st281 (by decide)
    replace f900000 := f900000.st st281 (by decide)
    replace f900020 := f900020.st st281 (by decide)
    replace hs := hs.locQ st281 hob rfl
    replace f900019 := f900019_
    refine ⟨.inr ⟨f5.now, trivial⟩, ?_⟩
    refine xd_done (by kernel_rfl) ?_
    refine then_n ?_
    exact ⟨o280, A275, c276, (by exact Kn.pick (ks := []) hk rfl), hs, f277, f900000, f900019, hc278, H⟩
  refine xd_of hG ?_
  refine xd_take tab hk (k := 6) (is := [0, 1, 2, 3, 5]) (ls' := #[true, true, true, true, false, true, false, false, false, false, false]) (lv := [.agg #[.int .i64 p1.Kind, .int .i32 p1.Rune, .int .u8 p1.Byte, .bool p1.Private, .slice Ap1_0 (p1.Nums).length cp1_0, .string p1.Text]]) (ks := [4, 7, 9]) (e' := [(4, .pointer (some ⟨bp0, 0, none⟩)), (7, .pointer (some ((⟨bp0, 0, none⟩ : Addr).add 11))), (9, .agg #[.int .i64 p1.Kind, .int .i32 p1.Rune, .int .u8 p1.Byte, .bool p1.Private, .slice Ap1_0 (p1.Nums).length cp1_0, .string p1.Text])]) (by kernel_rfl) rfl rfl (by kernel_rfl) (np_then np_body) ⟨f5.now, trivial⟩ (fun W_ hS => ⟨(load_box tab rfl rfl hS.1 (k := 0) rfl rfl), trivial⟩) fun a hk => ?_
  refine xd_each [4, 6] (by kernel_rfl) rfl ⟨?_, ?_, trivial⟩
  · refine xd_one hk rfl rfl ?_
    refine op_quiet tab hk (lv := [.slice Ap0_1 (p0.out).length cp0_1]) (v := .slice Ap0_1 (p0.out).length cp0_1) rfl ⟨(load1 tab rfl ((Bx.cell f900019.now 11).trans rfl)), trivial⟩ ?_
    have hk := hk.put 8 (.slice Ap0_1 (p0.out).length cp0_1) rfl
    refine ⟨.inr ⟨f5.now, trivial⟩, ?_⟩
    exact xd_to hG rfl (N233 _ _ ⟨(fun b_ => R_25 (o2 b_)), (by exact Kn.pick (ks := [4, 8, 9]) hk rfl), (hs.relabM hob R_25 (by decide)), (f5.relab R_25 rfl), (f900000.relab R_25 rfl), (f900001.relab R_25 rfl), (f900019.relab R_25 rfl), (f900020.relab R_25 rfl)⟩)
  · refine xd_one hk rfl rfl ?_
    refine op_slice (o := o2) tab hk (vs := [.agg #[.int .i64 p1.Kind, .int .i32 p1.Rune, .int .u8 p1.Byte, .bool p1.Private, .slice Ap1_0 (p1.Nums).length cp1_0, .string p1.Text]]) (cs := [.int .i64 p1.Kind, .int .i32 p1.Rune, .int .u8 p1.Byte, .bool p1.Private, .slice Ap1_0 (p1.Nums).length cp1_0, .string p1.Text]) rfl rfl rfl rfl rfl rfl rfl rfl rfl 22 fun bx253 w250 o251 st252 f254 => ?_
    replace f5 := f5.st st252 (by decide)
    replace f900000 := f900000.st st252 (by decide)
    replace f900001 := f900001.st st252 (by decide)
    replace f900019 := f900019.st st252 (by decide)
    replace f900020 := f900020.st st252 (by decide)
    replace hs := hs.locQ st252 hob rfl
    have f255 : NOwn dT37 38 (some ⟨bx253, 0, none⟩) 1 ([p1] : List T37) w250 o251 22 1 := NOwn.litD (D := dT37) f254 [(⟨p1, Ap1_0, cp1_0⟩ : NT37)] rfl (Inn.consD (D := dT37) (r := (⟨p1, Ap1_0, cp1_0⟩ : NT37)) (f900020.imp fun _ h_ => ⟨h_, hcp1_0⟩) (Inn.nilD _ _ _ _)) rfl (Nat.le_of_ble_eq_true rfl)
    have hk := hk.put 10 (.slice (some ⟨bx253, 0, none⟩) (([p1] : List T37)).length 1) rfl
    refine ⟨.inr ⟨f5.now, trivial⟩, ?_⟩
    exact xd_to hG rfl (N271 _ _ ⟨(fun b_ => R_26 (o251 b_)), (some ⟨bx253, 0, none⟩), 1, (by exact Kn.pick (ks := [4, 7, 10]) hk rfl), (hs.relabM hob R_26 (by decide)), (f255.relab R_26 rfl), (f5.relab R_26 rfl), (f900000.relab R_26 rfl), (f900001.relab R_26 rfl), (f900019.relab R_26 rfl), (f900020.relab R_26 rfl), (Nat.le_refl _)⟩)

/-! (*tidewrack/seq.Parser).print -/
abbrev R_27 (LF Lp0 Lp0_0 Lp0_1 : Nat) (l_ : Nat) : Nat := if l_ = 1 then LF else if l_ = 2 then Lp0 else if l_ = 3 then Lp0_0 else if l_ = 4 then Lp0_1 else 0
set_option maxHeartbeats 4000000 in
set_option maxRecDepth 20000 in
theorem seq_Parser_print_calls (K : Nat) (bp0 : Nat) (Ap0_0 : Option Addr) (cp0_0 : Nat) (Ap0_1 : Option Addr) (cp0_1 : Nat) (p0 : T33) (Ap1 : Option Addr) (cp1 : Nat) (p1 : List Int) (w : World) (o : Nat → Nat) (LF : Nat) (Lp0 : Nat) (hp0 : Ft (Bx bp0 34 [.int .i64 p0.state, .bool p0.order_private_, .bool p0.order_wrong, .bool p0.order_any, .bool p0.order_some, .int .i64 p0.order_n, .slice Ap0_0 (p0.order_nums).length cp0_0, .string p0.text, .int .u8 p0.runes_Lead, .int .i32 p0.runes_Rune, .int .i64 p0.runes_Need, .slice Ap0_1 (p0.out).length cp0_1]) w o Lp0) (Lp0_0 : Nat) (hp0_0 : Ft (Own (encInt .i64) 3 (.slice Ap0_0 (p0.order_nums).length cp0_0) p0.order_nums) w o Lp0_0) (hcp0_0 : (p0.order_nums).length ≤ cp0_0) (Lp0_1 : Nat) (hp0_1 : NOwn dT37 38 Ap0_1 cp0_1 p0.out w o Lp0_1 LF) (hcp0_1 : (p0.out).length ≤ cp0_1) (Lp1 : Nat) (hp1 : Ft (RdC (encInt .i32) Ap1 p1) w o Lp1) (hcp1 : (p1).length ≤ cp1) (hd0 : ([LF, Lp0, Lp0_0, Lp0_1] : List Nat).Nodup) (hd1 : Lp1 ∉ [LF, Lp0, Lp0_0, Lp0_1]) (r : T33) (H : seq_Parser_print K p0 p1 = some r) :
    Calls Tryz.prog 55 #[.pointer (some ⟨bp0, 0, none⟩), .slice Ap1 (p1).length cp1] w (Ret fun v_ w' => ∃ o' : Nat → Nat, ∃ A0 : Option Addr, ∃ c0 : Nat, ∃ A1 : Option Addr, ∃ c1 : Nat, v_ = .tuple #[] ∧ St [Lp0, Lp0_0, Lp0_1] w o w' o' ∧ Ft (Bx bp0 34 [.int .i64 r.state, .bool r.order_private_, .bool r.order_wrong, .bool r.order_any, .bool r.order_some, .int .i64 r.order_n, .slice A0 (r.order_nums).length c0, .string r.text, .int .u8 r.runes_Lead, .int .i32 r.runes_Rune, .int .i64 r.runes_Need, .slice A1 (r.out).length c1]) w' o' Lp0 ∧ Ft (Own (encInt .i64) 3 (.slice A0 (r.order_nums).length c0) r.order_nums) w' o' Lp0_0 ∧ (r.order_nums).length ≤ c0 ∧ NOwn dT37 38 A1 c1 r.out w' o' Lp0_1 LF ∧ (r.out).length ≤ c1) := by
  refine x_enter (vs := [.pointer (some ⟨bp0, 0, none⟩), .slice Ap1 (p1).length cp1]) Tryz.func55 rfl rfl rfl fun a hk => ?_
  obtain ⟨oi, hs0, h0, h1, hob, hoz, hoa⟩ := St.startM2 w o (m := 4) hd0 rfl
  have hs := hs0 [2, 3, 4]
  have f900000 := h1 2 3 hp0_0 rfl rfl
  have f900001 := hp0_1.conv (fun _ h_ => h1 3 4 h_ rfl rfl) (fun _ h_ => h1 0 1 h_ rfl rfl)
  have f900019 := h1 1 2 hp0 rfl rfl
  have f900020 := h0 _ _ hd1 hp1
  clear h0 h1 hs0
  rw [seq_Parser_print] at H
  refine x_seq ?_
  refine wpIn_region_lit ?_
  refine x_run tab hk (k := 3) (lv := []) (ks := [0, 6, 7, 8]) (e' := [(0, .pointer (some ⟨bp0, 0, none⟩)), (6, .slice Ap1 (p1).length cp1), (7, .int .i64 ((p1).length : Int)), (8, .int .i64 0)]) rfl trivial fun a hk => ?_
  refine wpListIn_nil ?_
  refine then_n ?_
  refine wpIn_block ?_
  refine x_loop (fun j_ a_ w_ => ∃ o24 : Nat → Nat, ∃ x25 : Int, ∃ x26 : Bool, ∃ x27 : Bool, ∃ x28 : Bool, ∃ x29 : Bool, ∃ x30 : Int, ∃ A31 : Option Addr, ∃ c32 : Nat, ∃ l33 : List Int, ∃ x36 : ByteArray, ∃ x37 : Int, ∃ x38 : Int, ∃ x39 : Int, ∃ A40 : Option Addr, ∃ c41 : Nat, ∃ l42 : List T37, ∃ x45 : Int, Kn 17 a_ [(0, .pointer (some ⟨bp0, 0, none⟩)), (6, .slice Ap1 (p1).length cp1), (7, .int .i64 ((p1).length : Int)), (8, .int .i64 x45)] ∧ St [2, 3, 4] w oi w_ o24 ∧ Ft (Own (encInt .i64) 3 (.slice A31 (l33).length c32) l33) w_ o24 3 ∧ NOwn dT37 38 A40 c41 l42 w_ o24 4 1 ∧ Ft (Bx bp0 34 [.int .i64 x25, .bool x26, .bool x27, .bool x28, .bool x29, .int .i64 x30, .slice A31 (l33).length c32, .string x36, .int .u8 x37, .int .i32 x38, .int .i64 x39, .slice A40 (l42).length c41]) w_ o24 2 ∧ Ft (RdC (encInt .i32) Ap1 p1) w_ o24 0 ∧ (l33).length ≤ c32 ∧ (l42).length ≤ c41 ∧ seq_Parser_print_l1 p1 j_ x25 x26 x27 x28 x29 x30 l33 x36 x37 x38 x39 l42 x45 = some r) (k := K) ⟨oi, p0.state, p0.order_private_, p0.order_wrong, p0.order_any, p0.order_some, p0.order_n, Ap0_0, cp0_0, p0.order_nums, p0.text, p0.runes_Lead, p0.runes_Rune, p0.runes_Need, Ap0_1, cp0_1, p0.out, 0, (by exact Kn.pick (ks := [0, 6, 7, 8]) hk rfl), hs, f900000, f900001, f900019, f900020, hcp0_0, hcp0_1, H⟩ (fun _ _ z => z.elim fun _ z => z.elim fun _ z => z.elim fun _ z => z.elim fun _ z => z.elim fun _ z => z.elim fun _ z => z.elim fun _ z => z.elim fun _ z => z.elim fun _ z => z.elim fun _ z => z.elim fun _ z => z.elim fun _ z => z.elim fun _ z => z.elim fun _ z => z.elim fun _ z => z.elim fun _ z => z.elim fun _ z => z.elim fun _ z => z.elim fun _ z => z.elim fun _ z => z.elim fun _ z => z.elim fun _ z => z.elim fun _ z => z.elim fun _ z => z.elim fun _ z => z.elim fun _ z => absurd (show (none : Option T33) = some r from z) (by simp)) ?_
  refine fun k67 a w66 z0 => z0.elim fun o24 z1 => z1.elim fun x25 z2 => z2.elim fun x26 z3 => z3.elim fun x27 z4 => z4.elim fun x28 z5 => z5.elim fun x29 z6 => z6.elim fun x30 z7 => z7.elim fun A31 z8 => z8.elim fun c32 z9 => z9.elim fun l33 z10 => z10.elim fun x36 z11 => z11.elim fun x37 z12 => z12.elim fun x38 z13 => z13.elim fun x39 z14 => z14.elim fun A40 z15 => z15.elim fun c41 z16 => z16.elim fun l42 z17 => z17.elim fun x45 z18 => z18.elim fun hk z19 => z19.elim fun hs z20 => z20.elim fun f34 z21 => z21.elim fun f43 z22 => z22.elim fun f900019 z23 => z23.elim fun f900020 z24 => z24.elim fun hc35 z25 => z25.elim fun hc44 H => ?_
  clear z0 z1 z2 z3 z4 z5 z6 z7 z8 z9 z10 z11 z12 z13 z14 z15 z16 z17 z18 z19 z20 z21 z22 z23 z24 z25
  rw [seq_Parser_print_l1] at H
  obtain ⟨lp68, hlp69⟩ : ∃ lp_, lp_ = seq_Parser_print_l1 p1 k67 := ⟨_, rfl⟩
  rw [← hlp69] at H
  refine x_seq ?_
  refine wpIn_region_lit ?_
  refine x_run tab hk (k := 1) (lv := []) (ks := [0, 6, 7, 8, 9]) (e' := [(0, .pointer (some ⟨bp0, 0, none⟩)), (6, .slice Ap1 (p1).length cp1), (7, .int .i64 ((p1).length : Int)), (8, .int .i64 x45), (9, .bool (decide (x45 < ((p1).length : Int))))]) rfl trivial fun a hk => ?_
  refine wpListIn_nil ?_
  refine then_n ?_
  refine x_seq ?_
  cases b70 : (decide (x45 < ((p1).length : Int)))
  · rw [b70] at hk H
    replace H := bifF H
    refine x_if hk (b := false) rfl ?_
    refine (show Code.wpIn _ _ _ _ _ _ _ from ?_)
    refine wpIn_exit ?_
    refine then_x ?_
    refine then_x ?_
    refine blk_x ?_
    obtain rfl := Option.some.inj H
    exact x_endG hk (rs := []) (vs := []) rfl trivial ⟨cl w oi o [2, 3, 4] (R_27 LF Lp0 Lp0_0 Lp0_1) o24, A31, c32, A40, c41, rfl, hs.closeF (Lm := [Lp0, Lp0_0, Lp0_1]) (Sh := []) hoa rfl (R_27 LF Lp0 Lp0_0 Lp0_1), hs.closeM_ft (o := o) (ρ := R_27 LF Lp0 Lp0_0 Lp0_1) f900019 (lab_at hoa (i := 1) rfl) rfl, hs.closeM_ft (o := o) (ρ := R_27 LF Lp0 Lp0_0 Lp0_1) f34 (lab_at hoa (i := 2) rfl) rfl, hc35, f43.conv (fun _ h_ => hs.closeM_ft (o := o) (ρ := R_27 LF Lp0 Lp0_0 Lp0_1) h_ (lab_at hoa (i := 3) rfl) rfl) (fun _ h_ => hs.closeM_ft (o := o) (ρ := R_27 LF Lp0 Lp0_0 Lp0_1) h_ (lab_at hoa (i := 0) rfl) rfl), hc44⟩
  · rw [b70] at hk H
    replace H := bifT H
    refine x_if hk (b := true) rfl ?_
    refine (show Code.wpIn _ _ _ _ _ _ _ from ?_)
    refine wpIn_skip ?_
    refine then_n ?_
    refine x_seq ?_
    refine wpIn_block ?_
    refine x_seq ?_
    refine wpIn_region_lit ?_
    obtain ⟨q71, H⟩ := ifS H
    obtain ⟨ad72, hAad72⟩ := RdC.addr f900020.now q71
    have hk_C := hk
    have f34_C := f34
    have f43_C := f43
    have f900019_C := f900019
    have f900020_C := f900020
    subst hAad72
    have hk := hk_C
    clear hk_C
    have f34 := f34_C
    clear f34_C
    have f43 := f43_C
    clear f43_C
    have f900019 := f900019_C
    clear f900019_C
    have f900020 := f900020_C
    clear f900020_C
    refine x_run tab hk (k := 3) (lv := [.int .i32 (rdD 0 p1 x45)]) (ks := [0, 5, 6, 7, 8]) (e' := [(0, .pointer (some ⟨bp0, 0, none⟩)), (5, .int .i32 (rdD 0 p1 x45)), (6, .slice (some ad72) (p1).length cp1), (7, .int .i64 ((p1).length : Int)), (8, .int .i64 x45)]) rfl ⟨q71, (load1 tab rfl (RdC.at0 (E := (encInt .i32)) (d := 0) (i := x45) f900020.now q71 rfl)), trivial⟩ fun a hk => ?_
    refine wpListIn_nil ?_
    refine then_n ?_
    refine wpIn_region_lit ?_
    refine x_run tab hk (k := 3) (lv := []) (ks := [0, 6, 7, 8, 12, 14]) (e' := [(0, .pointer (some ⟨bp0, 0, none⟩)), (6, .slice (some ad72) (p1).length cp1), (7, .int .i64 ((p1).length : Int)), (8, .int .i64 x45), (12, .pointer (some ⟨bp0, 0, none⟩)), (14, .agg #[.int .i64 1, .int .i32 (rdD 0 p1 x45), .int .u8 0, .bool false, .slice none 0 0, .string (⟨#[]⟩ : ByteArray)])]) rfl trivial fun a hk => ?_
    refine x_op hk rfl ?_
    obtain ⟨t76, hc77, H⟩ := bindS H
    refine op_call hk ent_59 (vs := [.pointer (some ⟨bp0, 0, none⟩), .agg #[.int .i64 1, .int .i32 (rdD 0 p1 x45), .int .u8 0, .bool false, .slice none 0 0, .string (⟨#[]⟩ : ByteArray)]]) rfl (seq_Parser_tell_calls bp0 A31 c32 A40 c41 (⟨x25, x26, x27, x28, x29, x30, l33, x36, x37, x38, x39, l42⟩ : T33) none 0 (⟨1, (rdD 0 p1 x45), 0, false, ([] : List Int), (⟨#[]⟩ : ByteArray)⟩ : T37) _ o24 1 2 f900019 3 f34 hc35 4 f43 hc44 (Ft.of_all (fun _ => RdC.nilr _ _ _) _ _ _) (Nat.le_refl _) (by decide)   _ hc77) ?_
    rintro _ w78 ⟨o79, A82, c83, A86, c87, rfl, st80, f81, f84, hc85, f88, hc89⟩
    replace f900020 := f900020.st st80 (by decide)
    replace hs := hs.locQ st80 hob rfl
    have hk := hk.put 15 (.tuple #[]) rfl
    refine wpListIn_nil ?_
    refine blk_n ?_
    refine then_n ?_
    refine wpIn_region_lit ?_
    refine x_run tab hk (k := 2) (lv := []) (ks := [0, 6, 7, 8]) (e' := [(0, .pointer (some ⟨bp0, 0, none⟩)), (6, .slice (some ad72) (p1).length cp1), (7, .int .i64 ((p1).length : Int)), (8, .int .i64 (IntKind.wrap .i64 (x45 + 1)))]) rfl trivial fun a hk => ?_
    refine wpListIn_nil ?_
    refine then_n ?_
    exact ⟨k67, Nat.le_refl _, o79, t76.state, t76.order_private_, t76.order_wrong, t76.order_any, t76.order_some, t76.order_n, A82, c83, t76.order_nums, t76.text, t76.runes_Lead, t76.runes_Rune, t76.runes_Need, A86, c87, t76.out, (IntKind.wrap .i64 (x45 + 1)), (by exact Kn.pick (ks := [0, 6, 7, 8]) hk rfl), hs, f84, f88, f81, f900020, hc85, hc89, (hlp69 ▸ H)⟩

/-! (*tidewrack/seq.Parser).common -/
abbrev R_28 (LF Lp0 Lp0_0 Lp0_1 : Nat) (l_ : Nat) : Nat := if l_ = 1 then LF else if l_ = 2 then Lp0 else if l_ = 3 then Lp0_0 else if l_ = 4 then Lp0_1 else 0
set_option maxHeartbeats 4000000 in
set_option maxRecDepth 20000 in
theorem seq_Parser_common_calls (bp0 : Nat) (Ap0_0 : Option Addr) (cp0_0 : Nat) (Ap0_1 : Option Addr) (cp0_1 : Nat) (p0 : T33) (p1 : Int) (w : World) (o : Nat → Nat) (LF : Nat) (Lp0 : Nat) (hp0 : Ft (Bx bp0 34 [.int .i64 p0.state, .bool p0.order_private_, .bool p0.order_wrong, .bool p0.order_any, .bool p0.order_some, .int .i64 p0.order_n, .slice Ap0_0 (p0.order_nums).length cp0_0, .string p0.text, .int .u8 p0.runes_Lead, .int .i32 p0.runes_Rune, .int .i64 p0.runes_Need, .slice Ap0_1 (p0.out).length cp0_1]) w o Lp0) (Lp0_0 : Nat) (hp0_0 : Ft (Own (encInt .i64) 3 (.slice Ap0_0 (p0.order_nums).length cp0_0) p0.order_nums) w o Lp0_0) (hcp0_0 : (p0.order_nums).length ≤ cp0_0) (Lp0_1 : Nat) (hp0_1 : NOwn dT37 38 Ap0_1 cp0_1 p0.out w o Lp0_1 LF) (hcp0_1 : (p0.out).length ≤ cp0_1) (hd0 : ([LF, Lp0, Lp0_0, Lp0_1] : List Nat).Nodup) (r : Bool × T33) (H : seq_Parser_common p0 p1 = some r) :
    Calls Tryz.prog 57 #[.pointer (some ⟨bp0, 0, none⟩), .int .u8 p1] w (Ret fun v_ w' => ∃ o' : Nat → Nat, ∃ A0 : Option Addr, ∃ c0 : Nat, ∃ A1 : Option Addr, ∃ c1 : Nat, v_ = .bool r.1 ∧ St [Lp0, Lp0_0, Lp0_1] w o w' o' ∧ Ft (Bx bp0 34 [.int .i64 r.2.state, .bool r.2.order_private_, .bool r.2.order_wrong, .bool r.2.order_any, .bool r.2.order_some, .int .i64 r.2.order_n, .slice A0 (r.2.order_nums).length c0, .string r.2.text, .int .u8 r.2.runes_Lead, .int .i32 r.2.runes_Rune, .int .i64 r.2.runes_Need, .slice A1 (r.2.out).length c1]) w' o' Lp0 ∧ Ft (Own (encInt .i64) 3 (.slice A0 (r.2.order_nums).length c0) r.2.order_nums) w' o' Lp0_0 ∧ (r.2.order_nums).length ≤ c0 ∧ NOwn dT37 38 A1 c1 r.2.out w' o' Lp0_1 LF ∧ (r.2.out).length ≤ c1) := by
  refine x_enter (vs := [.pointer (some ⟨bp0, 0, none⟩), .int .u8 p1]) Tryz.func57 rfl rfl rfl fun a hk => ?_
  obtain ⟨oi, hs0, h0, h1, hob, hoz, hoa⟩ := St.startM2 w o (m := 4) hd0 rfl
  have hs := hs0 [2, 3, 4]
  have f900000 := h1 2 3 hp0_0 rfl rfl
  have f900001 := hp0_1.conv (fun _ h_ => h1 3 4 h_ rfl rfl) (fun _ h_ => h1 0 1 h_ rfl rfl)
  have f900019 := h1 1 2 hp0 rfl rfl
  clear h0 h1 hs0
  rw [seq_Parser_common] at H
  refine x_seq ?_
  refine wpIn_region_lit ?_
  refine x_run tab hk (k := 1) (lv := []) (ks := [0, 1]) (e' := [(0, .pointer (some ⟨bp0, 0, none⟩)), (1, .int .u8 p1)]) rfl trivial fun a hk => ?_
  refine wpListIn_nil ?_
  refine then_n ?_
  refine x_seq ?_
  refine wpIn_block ?_
  refine x_mid (fun a_ w_ => ∃ o8 : Nat → Nat, ∃ x9 : Bool, Kn 30 a_ [(0, .pointer (some ⟨bp0, 0, none⟩)), (1, .int .u8 p1), (7, .bool x9)] ∧ St [2, 3, 4] w oi w_ o8 ∧ Ft (Own (encInt .i64) 3 (.slice Ap0_0 (p0.order_nums).length cp0_0) p0.order_nums) w_ o8 3 ∧ NOwn dT37 38 Ap0_1 cp0_1 p0.out w_ o8 4 1 ∧ Ft (Bx bp0 34 [.int .i64 p0.state, .bool p0.order_private_, .bool p0.order_wrong, .bool p0.order_any, .bool p0.order_some, .int .i64 p0.order_n, .slice Ap0_0 (p0.order_nums).length cp0_0, .string p0.text, .int .u8 p0.runes_Lead, .int .i32 p0.runes_Rune, .int .i64 p0.runes_Need, .slice Ap0_1 (p0.out).length cp0_1]) w_ o8 2 ∧ seq_Parser_common_j1 p0 p1 x9 = some r) ?_ ?_
  rotate_left
  · rintro a w10 ⟨o8, x9, hk, hs, f900000, f900001, f900019, H⟩
    rw [seq_Parser_common_j1] at H
    cases b11 : x9
    · rw [b11] at hk H
      replace H := bifF H
      refine x_if hk (b := false) rfl ?_
      refine (show Code.wpIn _ _ _ _ _ _ _ from ?_)
      refine x_seq ?_
      refine wpIn_region_lit ?_
      refine x_run tab hk (k := 3) (lv := []) (ks := [0, 1, 17]) (e' := [(0, .pointer (some ⟨bp0, 0, none⟩)), (1, .int .u8 p1), (17, .bool (p1 == (27 : Int)))]) rfl trivial fun a hk => ?_
      refine wpListIn_nil ?_
      refine then_n ?_
      cases b12 : (p1 == (27 : Int))
      · rw [b12] at hk H
        replace H := bifF H
        refine x_if hk (b := false) rfl ?_
        refine (show Code.wpIn _ _ _ _ _ _ _ from ?_)
        refine x_seq ?_
        refine wpIn_region_lit ?_
        refine x_run tab hk (k := 3) (lv := []) (ks := [0, 1, 23]) (e' := [(0, .pointer (some ⟨bp0, 0, none⟩)), (1, .int .u8 p1), (23, .bool (decide (p1 < (32 : Int))))]) rfl trivial fun a hk => ?_
        refine wpListIn_nil ?_
        refine then_n ?_
        cases b13 : (decide (p1 < (32 : Int)))
        · rw [b13] at hk H
          replace H := bifF H
          refine x_if hk (b := false) rfl ?_
          refine (show Code.wpIn _ _ _ _ _ _ _ from ?_)
          refine x_seq ?_
          refine wpIn_region_lit ?_
          refine x_run tab hk (k := 3) (lv := []) (ks := [4]) (e' := [(4, .bool (p1 == (127 : Int)))]) rfl trivial fun a hk => ?_
          refine wpListIn_nil ?_
          refine then_n ?_
          refine wpIn_ret ?_
          refine blk_r ?_
          refine then_r ?_
          obtain rfl := Option.some.inj H
          exact x_retG hk (rs := [.tmp 4]) (vs := [.bool (p1 == (127 : Int))]) rfl ⟨rfl, trivial⟩ ⟨cl w oi o [2, 3, 4] (R_28 LF Lp0 Lp0_0 Lp0_1) o8, Ap0_0, cp0_0, Ap0_1, cp0_1, rfl, hs.closeF (Lm := [Lp0, Lp0_0, Lp0_1]) (Sh := []) hoa rfl (R_28 LF Lp0 Lp0_0 Lp0_1), hs.closeM_ft (o := o) (ρ := R_28 LF Lp0 Lp0_0 Lp0_1) f900019 (lab_at hoa (i := 1) rfl) rfl, hs.closeM_ft (o := o) (ρ := R_28 LF Lp0 Lp0_0 Lp0_1) f900000 (lab_at hoa (i := 2) rfl) rfl, hcp0_0, f900001.conv (fun _ h_ => hs.closeM_ft (o := o) (ρ := R_28 LF Lp0 Lp0_0 Lp0_1) h_ (lab_at hoa (i := 3) rfl) rfl) (fun _ h_ => hs.closeM_ft (o := o) (ρ := R_28 LF Lp0 Lp0_0 Lp0_1) h_ (lab_at hoa (i := 0) rfl) rfl), hcp0_1⟩
        · rw [b13] at hk H
          replace H := bifT H
          refine x_if hk (b := true) rfl ?_
          refine (show Code.wpIn _ _ _ _ _ _ _ from ?_)
          refine wpIn_region_lit ?_
          refine x_run tab hk (k := 3) (lv := []) (ks := [26, 28]) (e' := [(26, .pointer (some ⟨bp0, 0, none⟩)), (28, .agg #[.int .i64 2, .int .i32 0, .int .u8 p1, .bool false, .slice none 0 0, .string (⟨#[]⟩ : ByteArray)])]) rfl trivial fun a hk => ?_
          refine x_op hk rfl ?_
          obtain ⟨t17, hc18, H⟩ := bindS H
          refine op_call hk ent_59 (vs := [.pointer (some ⟨bp0, 0, none⟩), .agg #[.int .i64 2, .int .i32 0, .int .u8 p1, .bool false, .slice none 0 0, .string (⟨#[]⟩ : ByteArray)]]) rfl (seq_Parser_tell_calls bp0 Ap0_0 cp0_0 Ap0_1 cp0_1 p0 none 0 (⟨2, 0, p1, false, ([] : List Int), (⟨#[]⟩ : ByteArray)⟩ : T37) _ o8 1 2 f900019 3 f900000 hcp0_0 4 f900001 hcp0_1 (Ft.of_all (fun _ => RdC.nilr _ _ _) _ _ _) (Nat.le_refl _) (by decide)   _ hc18) ?_
          rintro _ w19 ⟨o20, A23, c24, A27, c28, rfl, st21, f22, f25, hc26, f29, hc30⟩
          replace hs := hs.locQ st21 hob rfl
          have hk := hk.put 29 (.tuple #[]) rfl
          refine wpListIn_nil ?_
          refine blk_n ?_
          refine then_n ?_
          refine x_seq ?_
          refine wpIn_region_lit ?_
          refine x_run tab hk (k := 1) (lv := []) (ks := [4]) (e' := [(4, .bool true)]) rfl trivial fun a hk => ?_
          refine wpListIn_nil ?_
          refine then_n ?_
          refine wpIn_ret ?_
          obtain rfl := Option.some.inj H
          exact x_retG hk (rs := [.tmp 4]) (vs := [.bool true]) rfl ⟨rfl, trivial⟩ ⟨cl w oi o [2, 3, 4] (R_28 LF Lp0 Lp0_0 Lp0_1) o20, A23, c24, A27, c28, rfl, hs.closeF (Lm := [Lp0, Lp0_0, Lp0_1]) (Sh := []) hoa rfl (R_28 LF Lp0 Lp0_0 Lp0_1), hs.closeM_ft (o := o) (ρ := R_28 LF Lp0 Lp0_0 Lp0_1) f22 (lab_at hoa (i := 1) rfl) rfl, hs.closeM_ft (o := o) (ρ := R_28 LF Lp0 Lp0_0 Lp0_1) f25 (lab_at hoa (i := 2) rfl) rfl, hc26, f29.conv (fun _ h_ => hs.closeM_ft (o := o) (ρ := R_28 LF Lp0 Lp0_0 Lp0_1) h_ (lab_at hoa (i := 3) rfl) rfl) (fun _ h_ => hs.closeM_ft (o := o) (ρ := R_28 LF Lp0 Lp0_0 Lp0_1) h_ (lab_at hoa (i := 0) rfl) rfl), hc30⟩
      · rw [b12] at hk H
        replace H := bifT H
        refine x_if hk (b := true) rfl ?_
        refine (show Code.wpIn _ _ _ _ _ _ _ from ?_)
        refine wpIn_region_lit ?_
        refine x_run tab hk (k := 3) (lv := []) (ks := [22]) (e' := [(22, .pointer (some ⟨bp0, 0, none⟩))]) rfl trivial fun a hk => ?_
        refine x_op hk rfl ?_
        refine op_store tab hk (t := 3) (v := .int .i64 1) (b := bp0) (k := 0) (cs' := [.int .i64 1, .bool p0.order_private_, .bool p0.order_wrong, .bool p0.order_any, .bool p0.order_some, .int .i64 p0.order_n, .slice Ap0_0 (p0.order_nums).length cp0_0, .string p0.text, .int .u8 p0.runes_Lead, .int .i32 p0.runes_Rune, .int .i64 p0.runes_Need, .slice Ap0_1 (p0.out).length cp0_1]) rfl rfl rfl rfl rfl rfl f900019 rfl rfl fun w31 o32 st33 f900019_ => ?_
        replace f900000 := f900000.st st33 (by decide)
        replace f900001 := f900001.st st33 (by decide)
        replace hs := hs.locQ st33 hob rfl
        replace f900019 := f900019_
        refine wpListIn_nil ?_
        refine blk_n ?_
        refine then_n ?_
        refine x_seq ?_
        refine wpIn_region_lit ?_
        refine x_run tab hk (k := 1) (lv := []) (ks := [4]) (e' := [(4, .bool true)]) rfl trivial fun a hk => ?_
        refine wpListIn_nil ?_
        refine then_n ?_
        refine wpIn_ret ?_
        obtain rfl := Option.some.inj H
        exact x_retG hk (rs := [.tmp 4]) (vs := [.bool true]) rfl ⟨rfl, trivial⟩ ⟨cl w oi o [2, 3, 4] (R_28 LF Lp0 Lp0_0 Lp0_1) o32, Ap0_0, cp0_0, Ap0_1, cp0_1, rfl, hs.closeF (Lm := [Lp0, Lp0_0, Lp0_1]) (Sh := []) hoa rfl (R_28 LF Lp0 Lp0_0 Lp0_1), hs.closeM_ft (o := o) (ρ := R_28 LF Lp0 Lp0_0 Lp0_1) f900019 (lab_at hoa (i := 1) rfl) rfl, hs.closeM_ft (o := o) (ρ := R_28 LF Lp0 Lp0_0 Lp0_1) f900000 (lab_at hoa (i := 2) rfl) rfl, hcp0_0, f900001.conv (fun _ h_ => hs.closeM_ft (o := o) (ρ := R_28 LF Lp0 Lp0_0 Lp0_1) h_ (lab_at hoa (i := 3) rfl) rfl) (fun _ h_ => hs.closeM_ft (o := o) (ρ := R_28 LF Lp0 Lp0_0 Lp0_1) h_ (lab_at hoa (i := 0) rfl) rfl), hcp0_1⟩
    · rw [b11] at hk H
      replace H := bifT H
      refine x_if hk (b := true) rfl ?_
      refine (show Code.wpIn _ _ _ _ _ _ _ from ?_)
      refine wpIn_region_lit ?_
      refine x_run tab hk (k := 3) (lv := []) (ks := [16]) (e' := [(16, .pointer (some ⟨bp0, 0, none⟩))]) rfl trivial fun a hk => ?_
      refine x_op hk rfl ?_
      refine op_store tab hk (t := 3) (v := .int .i64 0) (b := bp0) (k := 0) (cs' := [.int .i64 0, .bool p0.order_private_, .bool p0.order_wrong, .bool p0.order_any, .bool p0.order_some, .int .i64 p0.order_n, .slice Ap0_0 (p0.order_nums).length cp0_0, .string p0.text, .int .u8 p0.runes_Lead, .int .i32 p0.runes_Rune, .int .i64 p0.runes_Need, .slice Ap0_1 (p0.out).length cp0_1]) rfl rfl rfl rfl rfl rfl f900019 rfl rfl fun w34 o35 st36 f900019_ => ?_
      replace f900000 := f900000.st st36 (by decide)
      replace f900001 := f900001.st st36 (by decide)
      replace hs := hs.locQ st36 hob rfl
      replace f900019 := f900019_
      refine wpListIn_nil ?_
      refine blk_n ?_
      refine then_n ?_
      refine x_seq ?_
      refine wpIn_region_lit ?_
      refine x_run tab hk (k := 1) (lv := []) (ks := [4]) (e' := [(4, .bool true)]) rfl trivial fun a hk => ?_
      refine wpListIn_nil ?_
      refine then_n ?_
      refine wpIn_ret ?_
      obtain rfl := Option.some.inj H
      exact x_retG hk (rs := [.tmp 4]) (vs := [.bool true]) rfl ⟨rfl, trivial⟩ ⟨cl w oi o [2, 3, 4] (R_28 LF Lp0 Lp0_0 Lp0_1) o35, Ap0_0, cp0_0, Ap0_1, cp0_1, rfl, hs.closeF (Lm := [Lp0, Lp0_0, Lp0_1]) (Sh := []) hoa rfl (R_28 LF Lp0 Lp0_0 Lp0_1), hs.closeM_ft (o := o) (ρ := R_28 LF Lp0 Lp0_0 Lp0_1) f900019 (lab_at hoa (i := 1) rfl) rfl, hs.closeM_ft (o := o) (ρ := R_28 LF Lp0 Lp0_0 Lp0_1) f900000 (lab_at hoa (i := 2) rfl) rfl, hcp0_0, f900001.conv (fun _ h_ => hs.closeM_ft (o := o) (ρ := R_28 LF Lp0 Lp0_0 Lp0_1) h_ (lab_at hoa (i := 3) rfl) rfl) (fun _ h_ => hs.closeM_ft (o := o) (ρ := R_28 LF Lp0 Lp0_0 Lp0_1) h_ (lab_at hoa (i := 0) rfl) rfl), hcp0_1⟩
  refine wpIn_region_lit ?_
  refine x_run tab hk (k := 3) (lv := []) (ks := [0, 1, 10]) (e' := [(0, .pointer (some ⟨bp0, 0, none⟩)), (1, .int .u8 p1), (10, .bool (p1 == (24 : Int)))]) rfl trivial fun a hk => ?_
  cases b37 : (p1 == (24 : Int))
  · rw [b37] at hk H
    replace H := bifF H
    refine x_run tab hk (k := 4) (lv := []) (ks := [0, 1, 7]) (e' := [(0, .pointer (some ⟨bp0, 0, none⟩)), (1, .int .u8 p1), (7, .bool (p1 == (26 : Int)))]) rfl trivial fun a hk => ?_
    refine wpListIn_nil ?_
    refine then_n ?_
    exact ⟨oi, (p1 == (26 : Int)), (by exact Kn.pick (ks := [0, 1, 7]) hk rfl), hs, f900000, f900001, f900019, H⟩
  · rw [b37] at hk H
    replace H := bifT H
    refine x_run tab hk (k := 4) (lv := []) (ks := [0, 1, 7]) (e' := [(0, .pointer (some ⟨bp0, 0, none⟩)), (1, .int .u8 p1), (7, .bool true)]) rfl trivial fun a hk => ?_
    refine wpListIn_nil ?_
    refine then_n ?_
    exact ⟨oi, true, (by exact Kn.pick (ks := [0, 1, 7]) hk rfl), hs, f900000, f900001, f900019, H⟩

/-! tidewrack/glyph.begin -/
set_option maxHeartbeats 4000000 in
set_option maxRecDepth 20000 in
theorem glyph_begin_calls (p0 : Int) (w : World) (o : Nat → Nat) (Lg3 : Nat) (hg3 : Ft (RdC ET141 (some ⟨3, 0, none⟩) glob3) w o Lg3)   (R0 : Nat) (r : T30 × (List Int)) (H : glyph_begin p0 = some r) :
    Calls Tryz.prog 85 #[.int .u8 p0] w (Ret fun v_ w' => ∃ o' : Nat → Nat, ∃ A0 : Option Addr, ∃ c0 : Nat, v_ = .tuple #[.agg #[.int .u8 r.1.Lead, .int .i32 r.1.Rune, .int .i64 r.1.Need], .slice A0 (r.2).length c0] ∧ St [] w o w' o' ∧ Ft (Own (encInt .i32) 21 (.slice A0 (r.2).length c0) r.2) w' o' R0 ∧ (r.2).length ≤ c0) := by
  refine x_enter (vs := [.int .u8 p0]) Tryz.func85 rfl rfl rfl fun a hk => ?_
  obtain ⟨o0, hs, h0⟩ := St.start w o
  have fg3 := h0 _ _ hg3
  clear h0
  rw [glyph_begin] at H
  refine x_seq ?_
  refine wpIn_region_lit ?_
  refine x_op hk rfl ?_
  refine op_alloc (o := o0) tab (t := 31) (cs := [.int .u8 0, .int .i32 0, .int .i64 0]) rfl rfl 1 fun bx4 w1 o2 st3 f5 => ?_
  replace fg3 := fg3.st st3 (by decide)
  replace hs := hs.loc0 st3 (by decide)
  have hk := hk.put 2 (.pointer (some ⟨bx4, 0, none⟩)) rfl
  refine x_run tab hk (k := 1) (lv := []) (ks := [0, 2]) (e' := [(0, .int .u8 p0), (2, .pointer (some ⟨bx4, 0, none⟩))]) rfl trivial fun a hk => ?_
  refine wpListIn_nil ?_
  refine then_n ?_
  refine x_seq ?_
  refine x_seq ?_
  refine wpIn_region_lit ?_
  refine x_run tab hk (k := 2) (lv := []) (ks := [0, 2, 7]) (e' := [(0, .int .u8 p0), (2, .pointer (some ⟨bx4, 0, none⟩)), (7, .bool (decide (p0 < (128 : Int))))]) rfl trivial fun a hk => ?_
  refine wpListIn_nil ?_
  refine then_n ?_
  cases b6 : (decide (p0 < (128 : Int)))
  · rw [b6] at hk H
    replace H := bifF H
    refine x_if hk (b := false) rfl ?_
    refine (show Code.wpIn _ _ _ _ _ _ _ from ?_)
    refine wpIn_skip ?_
    refine then_n ?_
    refine x_seq ?_
    refine wpIn_region_lit ?_
    refine x_run tab hk (k := 1) (lv := []) (ks := [0, 2, 13]) (e' := [(0, .int .u8 p0), (2, .pointer (some ⟨bx4, 0, none⟩)), (13, .int .u8 p0)]) rfl trivial fun a hk => ?_
    exact absurd H (by simp)
  · rw [b6] at hk H
    replace H := bifT H
    refine x_if hk (b := true) rfl ?_
    refine (show Code.wpIn _ _ _ _ _ _ _ from ?_)
    refine x_seq ?_
    refine wpIn_region_lit ?_
    refine x_run tab hk (k := 3) (lv := []) (ks := [2, 8, 10]) (e' := [(2, .pointer (some ⟨bx4, 0, none⟩)), (8, .agg #[.int .u8 0, .int .i32 0, .int .i64 0]), (10, .int .i32 (IntKind.wrap .i32 p0))]) rfl trivial fun a hk => ?_
    refine x_op hk rfl ?_
    refine op_slice (o := o2) tab hk (vs := [.int .i32 (IntKind.wrap .i32 p0)]) (cs := [.int .i32 (IntKind.wrap .i32 p0)]) rfl rfl rfl rfl rfl rfl rfl rfl rfl 2 fun bx10 w7 o8 st9 f11 => ?_
    replace f5 := f5.st st9 (by decide)
    replace fg3 := fg3.st st9 (by decide)
    replace hs := hs.loc0 st9 (by decide)
    have f12 : Ft (Own (encInt .i32) 21 (.slice (some ⟨bx10, 0, none⟩) (([(IntKind.wrap .i32 p0)] : List Int)).length 1) ([(IntKind.wrap .i32 p0)] : List Int)) w7 o8 2 := f11.imp fun _ h_ => Own.of_box h_ rfl (by simp)
    have hk := hk.put 11 (.slice (some ⟨bx10, 0, none⟩) (([(IntKind.wrap .i32 p0)] : List Int)).length 1) rfl
    refine x_op hk rfl ?_
    refine op_store tab hk (t := 31) (v := .agg #[.int .u8 0, .int .i32 0, .int .i64 0]) (b := bx4) (k := 0) (cs' := [.int .u8 0, .int .i32 0, .int .i64 0]) rfl rfl rfl rfl rfl rfl f5 rfl rfl fun w13 o14 st15 f5_ => ?_
    replace f12 := f12.st st15 (by decide)
    replace fg3 := fg3.st st15 (by decide)
    replace hs := hs.loc0 st15 (by decide)
    replace f5 := f5_
    refine x_run tab hk (k := 1) (lv := []) (ks := [2, 3]) (e' := [(2, .pointer (some ⟨bx4, 0, none⟩)), (3, .slice (some ⟨bx10, 0, none⟩) (([(IntKind.wrap .i32 p0)] : List Int)).length 1)]) rfl trivial fun a hk => ?_
    refine wpListIn_nil ?_
    refine then_n ?_
    refine wpIn_ret ?_
    refine then_r ?_
    obtain rfl := Option.some.inj H
    exact x_retG hk (rs := [.cell 2 31, .tmp 3]) (vs := [.agg #[.int .u8 0, .int .i32 0, .int .i64 0], .slice (some ⟨bx10, 0, none⟩) (([(IntKind.wrap .i32 p0)] : List Int)).length 1]) rfl ⟨⟨_, rfl, load_box tab rfl rfl f5.now (k := 0) rfl rfl⟩, rfl, trivial⟩ ⟨fun b_ => if b_ < w.heap.size then o b_ else (fun _ => R0) (o14 b_), (some ⟨bx10, 0, none⟩), 1, rfl, hs.close0 o (fun _ => R0), hs.close_ft (o := o) (ρ := fun _ => R0) f12 (by decide) rfl, (Nat.le_refl _)⟩

/-! (tidewrack/glyph.Decoder).Next -/
set_option maxHeartbeats 4000000 in
set_option maxRecDepth 20000 in
theorem glyph_Decoder_Next_calls (p0 : T30) (p1 : Int) (w : World) (o : Nat → Nat) (Lg3 : Nat) (hg3 : Ft (RdC ET141 (some ⟨3, 0, none⟩) glob3) w o Lg3)   (R0 : Nat) (r : T30 × (List Int)) (H : glyph_Decoder_Next p0 p1 = some r) :
    Calls Tryz.prog 58 #[.agg #[.int .u8 p0.Lead, .int .i32 p0.Rune, .int .i64 p0.Need], .int .u8 p1] w (Ret fun v_ w' => ∃ o' : Nat → Nat, ∃ A0 : Option Addr, ∃ c0 : Nat, v_ = .tuple #[.agg #[.int .u8 r.1.Lead, .int .i32 r.1.Rune, .int .i64 r.1.Need], .slice A0 (r.2).length c0] ∧ St [] w o w' o' ∧ Ft (Own (encInt .i32) 21 (.slice A0 (r.2).length c0) r.2) w' o' R0 ∧ (r.2).length ≤ c0) := by
  refine x_enter (vs := [.agg #[.int .u8 p0.Lead, .int .i32 p0.Rune, .int .i64 p0.Need], .int .u8 p1]) Tryz.func58 rfl rfl rfl fun a hk => ?_
  obtain ⟨o0, hs, h0⟩ := St.start w o
  have fg3 := h0 _ _ hg3
  clear h0
  rw [glyph_Decoder_Next] at H
  refine x_seq ?_
  refine wpIn_region_lit ?_
  refine x_op hk rfl ?_
  refine op_box (o := o0) (t := 31) (v := .agg #[.int .u8 p0.Lead, .int .i32 p0.Rune, .int .i64 p0.Need]) (cs := [.int .u8 p0.Lead, .int .i32 p0.Rune, .int .i64 p0.Need]) hk rfl rfl 1 fun bx4 w1 o2 st3 f5 => ?_
  replace fg3 := fg3.st st3 (by decide)
  replace hs := hs.loc0 st3 (by decide)
  have hk := hk.put 2 (.pointer (some ⟨bx4, 0, none⟩)) rfl
  refine x_op hk rfl ?_
  refine op_alloc (o := o2) tab (t := 31) (cs := [.int .u8 0, .int .i32 0, .int .i64 0]) rfl rfl 2 fun bx9 w6 o7 st8 f10 => ?_
  replace f5 := f5.st st8 (by decide)
  replace fg3 := fg3.st st8 (by decide)
  replace hs := hs.loc0 st8 (by decide)
  have hk := hk.put 4 (.pointer (some ⟨bx9, 0, none⟩)) rfl
  refine x_run tab hk (k := 1) (lv := []) (ks := [1, 2, 4]) (e' := [(1, .int .u8 p1), (2, .pointer (some ⟨bx4, 0, none⟩)), (4, .pointer (some ⟨bx9, 0, none⟩))]) rfl trivial fun a hk => ?_
  refine wpListIn_nil ?_
  refine then_n ?_
  refine x_seq ?_
  refine x_seq ?_
  refine wpIn_region_lit ?_
  refine x_run tab hk (k := 3) (lv := [.int .i64 p0.Need]) (ks := [1, 2, 4, 10]) (e' := [(1, .int .u8 p1), (2, .pointer (some ⟨bx4, 0, none⟩)), (4, .pointer (some ⟨bx9, 0, none⟩)), (10, .bool (decide (p0.Need ≤ (0 : Int))))]) rfl ⟨(load1 tab rfl ((Bx.cell f5.now 2).trans rfl)), trivial⟩ fun a hk => ?_
  refine wpListIn_nil ?_
  refine then_n ?_
  cases b11 : (decide (p0.Need ≤ (0 : Int)))
  · rw [b11] at hk H
    replace H := bifF H
    refine x_if hk (b := false) rfl ?_
    refine (show Code.wpIn _ _ _ _ _ _ _ from ?_)
    refine wpIn_skip ?_
    refine then_n ?_
    refine x_seq ?_
    refine x_seq ?_
    refine wpIn_region_lit ?_
    refine x_run tab hk (k := 2) (lv := [.agg #[.int .u8 p0.Lead, .int .i32 p0.Rune, .int .i64 p0.Need]]) (ks := [1, 2, 4, 15, 16]) (e' := [(1, .int .u8 p1), (2, .pointer (some ⟨bx4, 0, none⟩)), (4, .pointer (some ⟨bx9, 0, none⟩)), (15, .agg #[.int .u8 p0.Lead, .int .i32 p0.Rune, .int .i64 p0.Need]), (16, .int .u8 p1)]) rfl ⟨(load_box tab rfl rfl f5.now (k := 0) rfl rfl), trivial⟩ fun a hk => ?_
    exact absurd H (by simp)
  · rw [b11] at hk H
    replace H := bifT H
    refine x_if hk (b := true) rfl ?_
    refine (show Code.wpIn _ _ _ _ _ _ _ from ?_)
    refine x_seq ?_
    refine wpIn_region_lit ?_
    refine x_run tab hk (k := 1) (lv := []) (ks := [4, 11]) (e' := [(4, .pointer (some ⟨bx9, 0, none⟩)), (11, .int .u8 p1)]) rfl trivial fun a hk => ?_
    refine x_op hk rfl ?_
    obtain ⟨t15, hc16, H⟩ := bindS H
    refine op_call hk ent_85 (vs := [.int .u8 p1]) rfl (glyph_begin_calls p1 _ o7 0 fg3 3  _ hc16) ?_
    rintro _ w17 ⟨o18, A20, c21, rfl, st19, f22, hc23⟩
    replace f10 := f10.st st19 (by decide)
    replace fg3 := fg3.st st19 (by decide)
    replace hs := hs.loc0 st19 (by decide)
    have hk := hk.put 12 (.tuple #[.agg #[.int .u8 t15.1.Lead, .int .i32 t15.1.Rune, .int .i64 t15.1.Need], .slice A20 (t15.2).length c21]) rfl
    refine x_run tab hk (k := 2) (lv := []) (ks := [4, 13, 14]) (e' := [(4, .pointer (some ⟨bx9, 0, none⟩)), (13, .agg #[.int .u8 t15.1.Lead, .int .i32 t15.1.Rune, .int .i64 t15.1.Need]), (14, .slice A20 (t15.2).length c21)]) rfl trivial fun a hk => ?_
    refine x_op hk rfl ?_
    refine op_store tab hk (t := 31) (v := .agg #[.int .u8 t15.1.Lead, .int .i32 t15.1.Rune, .int .i64 t15.1.Need]) (b := bx9) (k := 0) (cs' := [.int .u8 t15.1.Lead, .int .i32 t15.1.Rune, .int .i64 t15.1.Need]) rfl rfl rfl rfl rfl rfl f10 rfl rfl fun w24 o25 st26 f10_ => ?_
    replace f22 := f22.st st26 (by decide)
    replace fg3 := fg3.st st26 (by decide)
    replace hs := hs.loc0 st26 (by decide)
    replace f10 := f10_
    refine x_run tab hk (k := 1) (lv := []) (ks := [4, 5]) (e' := [(4, .pointer (some ⟨bx9, 0, none⟩)), (5, .slice A20 (t15.2).length c21)]) rfl trivial fun a hk => ?_
    refine wpListIn_nil ?_
    refine then_n ?_
    refine wpIn_ret ?_
    refine then_r ?_
    obtain rfl := Option.some.inj H
    exact x_retG hk (rs := [.cell 4 31, .tmp 5]) (vs := [.agg #[.int .u8 t15.1.Lead, .int .i32 t15.1.Rune, .int .i64 t15.1.Need], .slice A20 (t15.2).length c21]) rfl ⟨⟨_, rfl, load_box tab rfl rfl f10.now (k := 0) rfl rfl⟩, rfl, trivial⟩ ⟨fun b_ => if b_ < w.heap.size then o b_ else (fun _ => R0) (o25 b_), A20, c21, rfl, hs.close0 o (fun _ => R0), hs.close_ft (o := o) (ρ := fun _ => R0) f22 (by decide) rfl, hc23⟩

/-! (*tidewrack/seq.Parser).onGround -/
abbrev R_29 (LF Lp0 Lp0_0 Lp0_1 : Nat) (l_ : Nat) : Nat := if l_ = 1 then LF else if l_ = 2 then Lp0 else if l_ = 3 then Lp0_0 else if l_ = 4 then Lp0_1 else 0
set_option maxHeartbeats 4000000 in
set_option maxRecDepth 20000 in
theorem seq_Parser_onGround_calls (K : Nat) (bp0 : Nat) (Ap0_0 : Option Addr) (cp0_0 : Nat) (Ap0_1 : Option Addr) (cp0_1 : Nat) (p0 : T33) (p1 : Int) (w : World) (o : Nat → Nat) (LF : Nat) (Lg3 : Nat) (hg3 : Ft (RdC ET141 (some ⟨3, 0, none⟩) glob3) w o Lg3) (Lp0 : Nat) (hp0 : Ft (Bx bp0 34 [.int .i64 p0.state, .bool p0.order_private_, .bool p0.order_wrong, .bool p0.order_any, .bool p0.order_some, .int .i64 p0.order_n, .slice Ap0_0 (p0.order_nums).length cp0_0, .string p0.text, .int .u8 p0.runes_Lead, .int .i32 p0.runes_Rune, .int .i64 p0.runes_Need, .slice Ap0_1 (p0.out).length cp0_1]) w o Lp0) (Lp0_0 : Nat) (hp0_0 : Ft (Own (encInt .i64) 3 (.slice Ap0_0 (p0.order_nums).length cp0_0) p0.order_nums) w o Lp0_0) (hcp0_0 : (p0.order_nums).length ≤ cp0_0) (Lp0_1 : Nat) (hp0_1 : NOwn dT37 38 Ap0_1 cp0_1 p0.out w o Lp0_1 LF) (hcp0_1 : (p0.out).length ≤ cp0_1) (hd0 : ([LF, Lp0, Lp0_0, Lp0_1] : List Nat).Nodup) (hd1 : Lg3 ∉ [LF, Lp0, Lp0_0, Lp0_1]) (r : T33) (H : seq_Parser_onGround K p0 p1 = some r) :
    Calls Tryz.prog 24 #[.pointer (some ⟨bp0, 0, none⟩), .int .u8 p1] w (Ret fun v_ w' => ∃ o' : Nat → Nat, ∃ A0 : Option Addr, ∃ c0 : Nat, ∃ A1 : Option Addr, ∃ c1 : Nat, v_ = .tuple #[] ∧ St [Lp0, Lp0_0, Lp0_1] w o w' o' ∧ Ft (Bx bp0 34 [.int .i64 r.state, .bool r.order_private_, .bool r.order_wrong, .bool r.order_any, .bool r.order_some, .int .i64 r.order_n, .slice A0 (r.order_nums).length c0, .string r.text, .int .u8 r.runes_Lead, .int .i32 r.runes_Rune, .int .i64 r.runes_Need, .slice A1 (r.out).length c1]) w' o' Lp0 ∧ Ft (Own (encInt .i64) 3 (.slice A0 (r.order_nums).length c0) r.order_nums) w' o' Lp0_0 ∧ (r.order_nums).length ≤ c0 ∧ NOwn dT37 38 A1 c1 r.out w' o' Lp0_1 LF ∧ (r.out).length ≤ c1) := by
  refine x_enter (vs := [.pointer (some ⟨bp0, 0, none⟩), .int .u8 p1]) Tryz.func24 rfl rfl rfl fun a hk => ?_
  obtain ⟨oi, hs0, h0, h1, hob, hoz, hoa⟩ := St.startM2 w o (m := 4) hd0 rfl
  have hs := hs0 [2, 3, 4]
  have fg3 := h0 _ _ hd1 hg3
  have f900000 := h1 2 3 hp0_0 rfl rfl
  have f900001 := hp0_1.conv (fun _ h_ => h1 3 4 h_ rfl rfl) (fun _ h_ => h1 0 1 h_ rfl rfl)
  have f900019 := h1 1 2 hp0 rfl rfl
  clear h0 h1 hs0
  rw [seq_Parser_onGround] at H
  refine x_mid (fun a_ w_ => ∃ o65 : Nat → Nat, Kn 40 a_ [(0, .pointer (some ⟨bp0, 0, none⟩)), (1, .int .u8 p1)] ∧ St [2, 3, 4] w oi w_ o65 ∧ Ft (Own (encInt .i64) 3 (.slice Ap0_0 (p0.order_nums).length cp0_0) p0.order_nums) w_ o65 3 ∧ NOwn dT37 38 Ap0_1 cp0_1 p0.out w_ o65 4 1 ∧ Ft (Bx bp0 34 [.int .i64 p0.state, .bool p0.order_private_, .bool p0.order_wrong, .bool p0.order_any, .bool p0.order_some, .int .i64 p0.order_n, .slice Ap0_0 (p0.order_nums).length cp0_0, .string p0.text, .int .u8 p0.runes_Lead, .int .i32 p0.runes_Rune, .int .i64 p0.runes_Need, .slice Ap0_1 (p0.out).length cp0_1]) w_ o65 2 ∧ Ft (RdC ET141 (some ⟨3, 0, none⟩) glob3) w_ o65 0 ∧ seq_Parser_onGround_j1 K p0 p1 = some r) ?_ ?_
  rotate_left
  · rintro a w66 ⟨o65, hk, hs, f900000, f900001, f900019, fg3, H⟩
    rw [seq_Parser_onGround_j1] at H
    refine x_seq ?_
    refine wpIn_region_lit ?_
    refine x_run tab hk (k := 1) (lv := []) (ks := [0, 1]) (e' := [(0, .pointer (some ⟨bp0, 0, none⟩)), (1, .int .u8 p1)]) rfl trivial fun a hk => ?_
    refine wpListIn_nil ?_
    refine then_n ?_
    refine x_seq ?_
    refine wpIn_region_lit ?_
    refine x_run tab hk (k := 6) (lv := [.agg #[.int .u8 p0.runes_Lead, .int .i32 p0.runes_Rune, .int .i64 p0.runes_Need]]) (ks := [0, 26, 30, 31]) (e' := [(0, .pointer (some ⟨bp0, 0, none⟩)), (26, .pointer (some ⟨bp0, 0, none⟩)), (30, .agg #[.int .u8 p0.runes_Lead, .int .i32 p0.runes_Rune, .int .i64 p0.runes_Need]), (31, .int .u8 p1)]) rfl ⟨(load_box tab rfl rfl f900019.now (k := 8) rfl rfl), trivial⟩ fun a hk => ?_
    refine x_op hk rfl ?_
    obtain ⟨t70, hc71, H⟩ := bindS H
    refine op_call hk ent_58 (vs := [.agg #[.int .u8 p0.runes_Lead, .int .i32 p0.runes_Rune, .int .i64 p0.runes_Need], .int .u8 p1]) rfl (glyph_Decoder_Next_calls (⟨p0.runes_Lead, p0.runes_Rune, p0.runes_Need⟩ : T30) p1 _ o65 0 fg3 6  _ hc71) ?_
    rintro _ w72 ⟨o73, A75, c76, rfl, st74, f77, hc78⟩
    replace f900000 := f900000.st st74 (by decide)
    replace f900001 := f900001.st st74 (by decide)
    replace f900019 := f900019.st st74 (by decide)
    replace fg3 := fg3.st st74 (by decide)
    replace hs := hs.locQ st74 hob rfl
    have hk := hk.put 32 (.tuple #[.agg #[.int .u8 t70.1.Lead, .int .i32 t70.1.Rune, .int .i64 t70.1.Need], .slice A75 (t70.2).length c76]) rfl
    refine x_run tab hk (k := 5) (lv := []) (ks := [0, 33, 34, 36]) (e' := [(0, .pointer (some ⟨bp0, 0, none⟩)), (33, .agg #[.int .u8 t70.1.Lead, .int .i32 t70.1.Rune, .int .i64 t70.1.Need]), (34, .slice A75 (t70.2).length c76), (36, .pointer (some ((⟨bp0, 0, none⟩ : Addr).add 8)))]) rfl trivial fun a hk => ?_
    refine x_op hk rfl ?_
    refine op_store tab hk (t := 31) (v := .agg #[.int .u8 t70.1.Lead, .int .i32 t70.1.Rune, .int .i64 t70.1.Need]) (b := bp0) (k := 8) (cs' := [.int .i64 p0.state, .bool p0.order_private_, .bool p0.order_wrong, .bool p0.order_any, .bool p0.order_some, .int .i64 p0.order_n, .slice Ap0_0 (p0.order_nums).length cp0_0, .string p0.text, .int .u8 t70.1.Lead, .int .i32 t70.1.Rune, .int .i64 t70.1.Need, .slice Ap0_1 (p0.out).length cp0_1]) rfl rfl rfl rfl rfl rfl f900019 rfl rfl fun w79 o80 st81 f900019_ => ?_
    replace f77 := f77.st st81 (by decide)
    replace f900000 := f900000.st st81 (by decide)
    replace f900001 := f900001.st st81 (by decide)
    replace fg3 := fg3.st st81 (by decide)
    replace hs := hs.locQ st81 hob rfl
    replace f900019 := f900019_
    refine x_run tab hk (k := 1) (lv := []) (ks := [0, 4]) (e' := [(0, .pointer (some ⟨bp0, 0, none⟩)), (4, .slice A75 (t70.2).length c76)]) rfl trivial fun a hk => ?_
    refine wpListIn_nil ?_
    refine then_n ?_
    refine wpIn_region_lit ?_
    refine x_run tab hk (k := 2) (lv := []) (ks := [37, 38]) (e' := [(37, .pointer (some ⟨bp0, 0, none⟩)), (38, .slice A75 (t70.2).length c76)]) rfl trivial fun a hk => ?_
    refine x_op hk rfl ?_
    obtain ⟨t85, hc86, H⟩ := bindS H
    refine op_call hk ent_55 (vs := [.pointer (some ⟨bp0, 0, none⟩), .slice A75 (t70.2).length c76]) rfl (seq_Parser_print_calls K bp0 Ap0_0 cp0_0 Ap0_1 cp0_1 (⟨p0.state, p0.order_private_, p0.order_wrong, p0.order_any, p0.order_some, p0.order_n, p0.order_nums, p0.text, t70.1.Lead, t70.1.Rune, t70.1.Need, p0.out⟩ : T33) A75 c76 t70.2 _ o80 1 2 f900019 3 f900000 hcp0_0 4 f900001 hcp0_1 _ (f77.imp fun _ h_ => Own.rd h_) hc78 (by decide) (by decide)   _ hc86) ?_
    rintro _ w87 ⟨o88, A91, c92, A95, c96, rfl, st89, f90, f93, hc94, f97, hc98⟩
    replace f77 := f77.st st89 (by decide)
    replace fg3 := fg3.st st89 (by decide)
    replace hs := hs.locQ st89 hob rfl
    have hk := hk.put 39 (.tuple #[]) rfl
    refine wpListIn_nil ?_
    obtain rfl := Option.some.inj H
    exact x_endG hk (rs := []) (vs := []) rfl trivial ⟨cl w oi o [2, 3, 4] (R_29 LF Lp0 Lp0_0 Lp0_1) o88, A91, c92, A95, c96, rfl, hs.closeF (Lm := [Lp0, Lp0_0, Lp0_1]) (Sh := []) hoa rfl (R_29 LF Lp0 Lp0_0 Lp0_1), hs.closeM_ft (o := o) (ρ := R_29 LF Lp0 Lp0_0 Lp0_1) f90 (lab_at hoa (i := 1) rfl) rfl, hs.closeM_ft (o := o) (ρ := R_29 LF Lp0 Lp0_0 Lp0_1) f93 (lab_at hoa (i := 2) rfl) rfl, hc94, f97.conv (fun _ h_ => hs.closeM_ft (o := o) (ρ := R_29 LF Lp0 Lp0_0 Lp0_1) h_ (lab_at hoa (i := 3) rfl) rfl) (fun _ h_ => hs.closeM_ft (o := o) (ρ := R_29 LF Lp0 Lp0_0 Lp0_1) h_ (lab_at hoa (i := 0) rfl) rfl), hc98⟩
  refine x_mid (fun a_ w_ => ∃ o106 : Nat → Nat, ∃ x107 : Bool, Kn 40 a_ [(0, .pointer (some ⟨bp0, 0, none⟩)), (1, .int .u8 p1), (10, .bool x107)] ∧ St [2, 3, 4] w oi w_ o106 ∧ Ft (Own (encInt .i64) 3 (.slice Ap0_0 (p0.order_nums).length cp0_0) p0.order_nums) w_ o106 3 ∧ NOwn dT37 38 Ap0_1 cp0_1 p0.out w_ o106 4 1 ∧ Ft (Bx bp0 34 [.int .i64 p0.state, .bool p0.order_private_, .bool p0.order_wrong, .bool p0.order_any, .bool p0.order_some, .int .i64 p0.order_n, .slice Ap0_0 (p0.order_nums).length cp0_0, .string p0.text, .int .u8 p0.runes_Lead, .int .i32 p0.runes_Rune, .int .i64 p0.runes_Need, .slice Ap0_1 (p0.out).length cp0_1]) w_ o106 2 ∧ Ft (RdC ET141 (some ⟨3, 0, none⟩) glob3) w_ o106 0 ∧ seq_Parser_onGround_j2 K p0 p1 x107 = some r) ?_ ?_
  rotate_left
  · rintro a w108 ⟨o106, x107, hk, hs, f900000, f900001, f900019, fg3, H⟩
    rw [seq_Parser_onGround_j2] at H
    cases b109 : x107
    · rw [b109] at hk H
      replace H := bifF H
      refine x_if hk (b := false) rfl ?_
      refine (show Code.wpIn _ _ _ _ _ _ _ from ?_)
      refine wpIn_skip ?_
      refine then_n ?_
      exact ⟨o106, (by exact Kn.pick (ks := [0, 1]) hk rfl), hs, f900000, f900001, f900019, fg3, H⟩
    · rw [b109] at hk H
      replace H := bifT H
      refine x_if hk (b := true) rfl ?_
      refine (show Code.wpIn _ _ _ _ _ _ _ from ?_)
      refine x_seq ?_
      refine wpIn_region_lit ?_
      refine x_run tab hk (k := 5) (lv := [.agg #[.int .u8 p0.runes_Lead, .int .i32 p0.runes_Rune, .int .i64 p0.runes_Need]]) (ks := [0, 1, 11, 15]) (e' := [(0, .pointer (some ⟨bp0, 0, none⟩)), (1, .int .u8 p1), (11, .pointer (some ⟨bp0, 0, none⟩)), (15, .agg #[.int .u8 p0.runes_Lead, .int .i32 p0.runes_Rune, .int .i64 p0.runes_Need])]) rfl ⟨(load_box tab rfl rfl f900019.now (k := 8) rfl rfl), trivial⟩ fun a hk => ?_
      refine x_op hk rfl ?_
      obtain ⟨t113, hc114, H⟩ := bindS H
      refine op_call hk ent_56 (vs := [.agg #[.int .u8 p0.runes_Lead, .int .i32 p0.runes_Rune, .int .i64 p0.runes_Need]]) rfl (glyph_Decoder_End_calls (⟨p0.runes_Lead, p0.runes_Rune, p0.runes_Need⟩ : T30) _ o106  7  _ hc114) ?_
      rintro _ w115 ⟨o116, A118, c119, rfl, st117, f120, hc121⟩
      replace f900000 := f900000.st st117 (by decide)
      replace f900001 := f900001.st st117 (by decide)
      replace f900019 := f900019.st st117 (by decide)
      replace fg3 := fg3.st st117 (by decide)
      replace hs := hs.locQ st117 hob rfl
      have hk := hk.put 16 (.slice A118 (t113).length c119) rfl
      refine x_op hk rfl ?_
      obtain ⟨t125, hc126, H⟩ := bindS H
      refine op_call hk ent_55 (vs := [.pointer (some ⟨bp0, 0, none⟩), .slice A118 (t113).length c119]) rfl (seq_Parser_print_calls K bp0 Ap0_0 cp0_0 Ap0_1 cp0_1 p0 A118 c119 t113 _ o116 1 2 f900019 3 f900000 hcp0_0 4 f900001 hcp0_1 _ (f120.imp fun _ h_ => Own.rd h_) hc121 (by decide) (by decide)   _ hc126) ?_
      rintro _ w127 ⟨o128, A131, c132, A135, c136, rfl, st129, f130, f133, hc134, f137, hc138⟩
      replace f120 := f120.st st129 (by decide)
      replace fg3 := fg3.st st129 (by decide)
      replace hs := hs.locQ st129 hob rfl
      have hk := hk.put 17 (.tuple #[]) rfl
      refine wpListIn_nil ?_
      refine then_n ?_
      refine x_seq ?_
      refine wpIn_region_lit ?_
      refine x_run tab hk (k := 4) (lv := []) (ks := [0, 1, 19, 21]) (e' := [(0, .pointer (some ⟨bp0, 0, none⟩)), (1, .int .u8 p1), (19, .agg #[.int .u8 0, .int .i32 0, .int .i64 0]), (21, .pointer (some ((⟨bp0, 0, none⟩ : Addr).add 8)))]) rfl trivial fun a hk => ?_
      refine x_op hk rfl ?_
      refine op_store tab hk (t := 31) (v := .agg #[.int .u8 0, .int .i32 0, .int .i64 0]) (b := bp0) (k := 8) (cs' := [.int .i64 t125.state, .bool t125.order_private_, .bool t125.order_wrong, .bool t125.order_any, .bool t125.order_some, .int .i64 t125.order_n, .slice A131 (t125.order_nums).length c132, .string t125.text, .int .u8 0, .int .i32 0, .int .i64 0, .slice A135 (t125.out).length c136]) rfl rfl rfl rfl rfl rfl f130 rfl rfl fun w139 o140 st141 f130_ => ?_
      replace f133 := f133.st st141 (by decide)
      replace f137 := f137.st st141 (by decide)
      replace fg3 := fg3.st st141 (by decide)
      replace hs := hs.locQ st141 hob rfl
      replace f130 := f130_
      refine wpListIn_nil ?_
      refine then_n ?_
      refine x_seq ?_
      refine wpIn_region_lit ?_
      refine x_run tab hk (k := 2) (lv := []) (ks := [22, 23]) (e' := [(22, .pointer (some ⟨bp0, 0, none⟩)), (23, .int .u8 p1)]) rfl trivial fun a hk => ?_
      refine x_op hk rfl ?_
      obtain ⟨t145, hc146, H⟩ := bindS H
      refine op_call hk ent_57 (vs := [.pointer (some ⟨bp0, 0, none⟩), .int .u8 p1]) rfl (seq_Parser_common_calls bp0 A131 c132 A135 c136 (⟨t125.state, t125.order_private_, t125.order_wrong, t125.order_any, t125.order_some, t125.order_n, t125.order_nums, t125.text, 0, 0, 0, t125.out⟩ : T33) p1 _ o140 1 2 f130 3 f133 hc134 4 f137 hc138 (by decide)   _ hc146) ?_
      rintro _ w147 ⟨o148, A151, c152, A155, c156, rfl, st149, f150, f153, hc154, f157, hc158⟩
      replace fg3 := fg3.st st149 (by decide)
      replace hs := hs.locQ st149 hob rfl
      have hk := hk.put 24 (.bool t145.1) rfl
      refine wpListIn_nil ?_
      refine then_n ?_
      refine wpIn_ret ?_
      refine then_r ?_
      obtain rfl := Option.some.inj H
      exact x_retG hk (rs := []) (vs := []) rfl trivial ⟨cl w oi o [2, 3, 4] (R_29 LF Lp0 Lp0_0 Lp0_1) o148, A151, c152, A155, c156, rfl, hs.closeF (Lm := [Lp0, Lp0_0, Lp0_1]) (Sh := []) hoa rfl (R_29 LF Lp0 Lp0_0 Lp0_1), hs.closeM_ft (o := o) (ρ := R_29 LF Lp0 Lp0_0 Lp0_1) f150 (lab_at hoa (i := 1) rfl) rfl, hs.closeM_ft (o := o) (ρ := R_29 LF Lp0 Lp0_0 Lp0_1) f153 (lab_at hoa (i := 2) rfl) rfl, hc154, f157.conv (fun _ h_ => hs.closeM_ft (o := o) (ρ := R_29 LF Lp0 Lp0_0 Lp0_1) h_ (lab_at hoa (i := 3) rfl) rfl) (fun _ h_ => hs.closeM_ft (o := o) (ρ := R_29 LF Lp0 Lp0_0 Lp0_1) h_ (lab_at hoa (i := 0) rfl) rfl), hc158⟩
  refine wpIn_region_lit ?_
  refine x_run tab hk (k := 3) (lv := []) (ks := [0, 1, 7]) (e' := [(0, .pointer (some ⟨bp0, 0, none⟩)), (1, .int .u8 p1), (7, .bool (decide (p1 < (32 : Int))))]) rfl trivial fun a hk => ?_
  cases b159 : (decide (p1 < (32 : Int)))
  · rw [b159] at hk H
    replace H := bifF H
    refine x_run tab hk (k := 3) (lv := []) (ks := [0, 1, 10]) (e' := [(0, .pointer (some ⟨bp0, 0, none⟩)), (1, .int .u8 p1), (10, .bool (p1 == (127 : Int)))]) rfl trivial fun a hk => ?_
    refine wpListIn_nil ?_
    refine then_n ?_
    exact ⟨oi, (p1 == (127 : Int)), (by exact Kn.pick (ks := [0, 1, 10]) hk rfl), hs, f900000, f900001, f900019, fg3, H⟩
  · rw [b159] at hk H
    replace H := bifT H
    refine x_run tab hk (k := 3) (lv := []) (ks := [0, 1, 10]) (e' := [(0, .pointer (some ⟨bp0, 0, none⟩)), (1, .int .u8 p1), (10, .bool true)]) rfl trivial fun a hk => ?_
    refine wpListIn_nil ?_
    refine then_n ?_
    exact ⟨oi, true, (by exact Kn.pick (ks := [0, 1, 10]) hk rfl), hs, f900000, f900001, f900019, fg3, H⟩

/-! (*tidewrack/seq.Parser).one -/
abbrev R_30 (LF Lp0 Lp0_0 Lp0_1 : Nat) (l_ : Nat) : Nat := if l_ = 1 then LF else if l_ = 2 then Lp0 else if l_ = 3 then Lp0_0 else if l_ = 4 then Lp0_1 else 0
set_option maxHeartbeats 4000000 in
set_option maxRecDepth 20000 in
theorem seq_Parser_one_calls (K : Nat) (bp0 : Nat) (Ap0_0 : Option Addr) (cp0_0 : Nat) (Ap0_1 : Option Addr) (cp0_1 : Nat) (p0 : T33) (p1 : Int) (w : World) (o : Nat → Nat) (LF : Nat) (Lg3 : Nat) (hg3 : Ft (RdC ET141 (some ⟨3, 0, none⟩) glob3) w o Lg3) (Lp0 : Nat) (hp0 : Ft (Bx bp0 34 [.int .i64 p0.state, .bool p0.order_private_, .bool p0.order_wrong, .bool p0.order_any, .bool p0.order_some, .int .i64 p0.order_n, .slice Ap0_0 (p0.order_nums).length cp0_0, .string p0.text, .int .u8 p0.runes_Lead, .int .i32 p0.runes_Rune, .int .i64 p0.runes_Need, .slice Ap0_1 (p0.out).length cp0_1]) w o Lp0) (Lp0_0 : Nat) (hp0_0 : Ft (Own (encInt .i64) 3 (.slice Ap0_0 (p0.order_nums).length cp0_0) p0.order_nums) w o Lp0_0) (hcp0_0 : (p0.order_nums).length ≤ cp0_0) (Lp0_1 : Nat) (hp0_1 : NOwn dT37 38 Ap0_1 cp0_1 p0.out w o Lp0_1 LF) (hcp0_1 : (p0.out).length ≤ cp0_1) (hd0 : ([LF, Lp0, Lp0_0, Lp0_1] : List Nat).Nodup) (hd1 : Lg3 ∉ [LF, Lp0, Lp0_0, Lp0_1]) (r : T33) (H : seq_Parser_one K p0 p1 = some r) :
    Calls Tryz.prog 13 #[.pointer (some ⟨bp0, 0, none⟩), .int .u8 p1] w (Ret fun v_ w' => ∃ o' : Nat → Nat, ∃ A0 : Option Addr, ∃ c0 : Nat, ∃ A1 : Option Addr, ∃ c1 : Nat, v_ = .tuple #[] ∧ St [Lp0, Lp0_0, Lp0_1] w o w' o' ∧ Ft (Bx bp0 34 [.int .i64 r.state, .bool r.order_private_, .bool r.order_wrong, .bool r.order_any, .bool r.order_some, .int .i64 r.order_n, .slice A0 (r.order_nums).length c0, .string r.text, .int .u8 r.runes_Lead, .int .i32 r.runes_Rune, .int .i64 r.runes_Need, .slice A1 (r.out).length c1]) w' o' Lp0 ∧ Ft (Own (encInt .i64) 3 (.slice A0 (r.order_nums).length c0) r.order_nums) w' o' Lp0_0 ∧ (r.order_nums).length ≤ c0 ∧ NOwn dT37 38 A1 c1 r.out w' o' Lp0_1 LF ∧ (r.out).length ≤ c1) := by
  refine x_enter (vs := [.pointer (some ⟨bp0, 0, none⟩), .int .u8 p1]) Tryz.func13 rfl rfl rfl fun a hk => ?_
  obtain ⟨oi, hs0, h0, h1, hob, hoz, hoa⟩ := St.startM2 w o (m := 4) hd0 rfl
  have hs := hs0 [2, 3, 4]
  have fg3 := h0 _ _ hd1 hg3
  have f900000 := h1 2 3 hp0_0 rfl rfl
  have f900001 := hp0_1.conv (fun _ h_ => h1 3 4 h_ rfl rfl) (fun _ h_ => h1 0 1 h_ rfl rfl)
  have f900019 := h1 1 2 hp0 rfl rfl
  clear h0 h1 hs0
  rw [seq_Parser_one] at H
  refine x_seq ?_
  refine wpIn_region_lit ?_
  refine x_run tab hk (k := 4) (lv := [.int .i64 p0.state]) (ks := [0, 1, 7]) (e' := [(0, .pointer (some ⟨bp0, 0, none⟩)), (1, .int .u8 p1), (7, .int .i64 p0.state)]) rfl ⟨(load1 tab rfl ((Bx.cell f900019.now 0).trans rfl)), trivial⟩ fun a hk => ?_
  refine wpListIn_nil ?_
  refine then_n ?_
  refine wpIn_block ?_
  refine x_seq ?_
  refine wpIn_region_lit ?_
  refine x_run tab hk (k := 2) (lv := []) (ks := [0, 1, 7, 18]) (e' := [(0, .pointer (some ⟨bp0, 0, none⟩)), (1, .int .u8 p1), (7, .int .i64 p0.state), (18, .bool (p0.state == (0 : Int)))]) rfl trivial fun a hk => ?_
  refine wpListIn_nil ?_
  refine then_n ?_
  cases b1 : (p0.state == (0 : Int))
  · rw [b1] at hk H
    replace H := bifF H
    refine x_if hk (b := false) rfl ?_
    refine (show Code.wpIn _ _ _ _ _ _ _ from ?_)
    refine x_seq ?_
    refine wpIn_region_lit ?_
    refine x_run tab hk (k := 2) (lv := []) (ks := [0, 1, 7, 23]) (e' := [(0, .pointer (some ⟨bp0, 0, none⟩)), (1, .int .u8 p1), (7, .int .i64 p0.state), (23, .bool (p0.state == (1 : Int)))]) rfl trivial fun a hk => ?_
    refine wpListIn_nil ?_
    refine then_n ?_
    cases b2 : (p0.state == (1 : Int))
    · rw [b2] at hk H
      replace H := bifF H
      refine x_if hk (b := false) rfl ?_
      refine (show Code.wpIn _ _ _ _ _ _ _ from ?_)
      refine x_seq ?_
      refine wpIn_region_lit ?_
      refine x_run tab hk (k := 2) (lv := []) (ks := [0, 1, 7, 28]) (e' := [(0, .pointer (some ⟨bp0, 0, none⟩)), (1, .int .u8 p1), (7, .int .i64 p0.state), (28, .bool (p0.state == (2 : Int)))]) rfl trivial fun a hk => ?_
      refine wpListIn_nil ?_
      refine then_n ?_
      cases b3 : (p0.state == (2 : Int))
      · rw [b3] at hk H
        replace H := bifF H
        refine x_if hk (b := false) rfl ?_
        refine (show Code.wpIn _ _ _ _ _ _ _ from ?_)
        refine x_seq ?_
        refine wpIn_region_lit ?_
        refine x_run tab hk (k := 2) (lv := []) (ks := [0, 1, 7, 33]) (e' := [(0, .pointer (some ⟨bp0, 0, none⟩)), (1, .int .u8 p1), (7, .int .i64 p0.state), (33, .bool (p0.state == (3 : Int)))]) rfl trivial fun a hk => ?_
        refine wpListIn_nil ?_
        refine then_n ?_
        cases b4 : (p0.state == (3 : Int))
        · rw [b4] at hk H
          replace H := bifF H
          refine x_if hk (b := false) rfl ?_
          refine (show Code.wpIn _ _ _ _ _ _ _ from ?_)
          refine x_seq ?_
          refine wpIn_region_lit ?_
          refine x_run tab hk (k := 2) (lv := []) (ks := [0, 1, 38]) (e' := [(0, .pointer (some ⟨bp0, 0, none⟩)), (1, .int .u8 p1), (38, .bool (p0.state == (4 : Int)))]) rfl trivial fun a hk => ?_
          refine wpListIn_nil ?_
          refine then_n ?_
          cases b5 : (p0.state == (4 : Int))
          · rw [b5] at hk H
            replace H := bifF H
            refine x_if hk (b := false) rfl ?_
            refine (show Code.wpIn _ _ _ _ _ _ _ from ?_)
            refine x_seq ?_
            refine x_seq ?_
            refine wpIn_region_lit ?_
            refine x_run tab hk (k := 2) (lv := []) (ks := [0, 1, 9]) (e' := [(0, .pointer (some ⟨bp0, 0, none⟩)), (1, .int .u8 p1), (9, .bool (p1 == (92 : Int)))]) rfl trivial fun a hk => ?_
            refine wpListIn_nil ?_
            refine then_n ?_
            cases b6 : (p1 == (92 : Int))
            · rw [b6] at hk H
              replace H := bifF H
              refine x_if hk (b := false) rfl ?_
              refine (show Code.wpIn _ _ _ _ _ _ _ from ?_)
              refine wpIn_skip ?_
              refine then_n ?_
              refine x_seq ?_
              refine wpIn_region_lit ?_
              refine x_run tab hk (k := 3) (lv := []) (ks := [0, 1, 14]) (e' := [(0, .pointer (some ⟨bp0, 0, none⟩)), (1, .int .u8 p1), (14, .pointer (some ⟨bp0, 0, none⟩))]) rfl trivial fun a hk => ?_
              refine x_op hk rfl ?_
              refine op_store tab hk (t := 3) (v := .int .i64 1) (b := bp0) (k := 0) (cs' := [.int .i64 1, .bool p0.order_private_, .bool p0.order_wrong, .bool p0.order_any, .bool p0.order_some, .int .i64 p0.order_n, .slice Ap0_0 (p0.order_nums).length cp0_0, .string p0.text, .int .u8 p0.runes_Lead, .int .i32 p0.runes_Rune, .int .i64 p0.runes_Need, .slice Ap0_1 (p0.out).length cp0_1]) rfl rfl rfl rfl rfl rfl f900019 rfl rfl fun w7 o8 st9 f900019_ => ?_
              replace f900000 := f900000.st st9 (by decide)
              replace f900001 := f900001.st st9 (by decide)
              replace fg3 := fg3.st st9 (by decide)
              replace hs := hs.locQ st9 hob rfl
              replace f900019 := f900019_
              refine wpListIn_nil ?_
              refine then_n ?_
              refine wpIn_region_lit ?_
              refine x_run tab hk (k := 2) (lv := []) (ks := [15, 16]) (e' := [(15, .pointer (some ⟨bp0, 0, none⟩)), (16, .int .u8 p1)]) rfl trivial fun a hk => ?_
              exact absurd H (by simp)
            · rw [b6] at hk H
              replace H := bifT H
              refine x_if hk (b := true) rfl ?_
              refine (show Code.wpIn _ _ _ _ _ _ _ from ?_)
              refine x_seq ?_
              refine wpIn_region_lit ?_
              refine x_run tab hk (k := 1) (lv := []) (ks := [10]) (e' := [(10, .pointer (some ⟨bp0, 0, none⟩))]) rfl trivial fun a hk => ?_
              exact absurd H (by simp)
          · rw [b5] at hk H
            replace H := bifT H
            refine x_if hk (b := true) rfl ?_
            refine (show Code.wpIn _ _ _ _ _ _ _ from ?_)
            refine wpIn_region_lit ?_
            refine x_run tab hk (k := 2) (lv := []) (ks := [40, 41]) (e' := [(40, .pointer (some ⟨bp0, 0, none⟩)), (41, .int .u8 p1)]) rfl trivial fun a hk => ?_
            exact absurd H (by simp)
        · rw [b4] at hk H
          replace H := bifT H
          refine x_if hk (b := true) rfl ?_
          refine (show Code.wpIn _ _ _ _ _ _ _ from ?_)
          refine wpIn_region_lit ?_
          refine x_run tab hk (k := 2) (lv := []) (ks := [35, 36]) (e' := [(35, .pointer (some ⟨bp0, 0, none⟩)), (36, .int .u8 p1)]) rfl trivial fun a hk => ?_
          exact absurd H (by simp)
      · rw [b3] at hk H
        replace H := bifT H
        refine x_if hk (b := true) rfl ?_
        refine (show Code.wpIn _ _ _ _ _ _ _ from ?_)
        refine wpIn_region_lit ?_
        refine x_run tab hk (k := 2) (lv := []) (ks := [30, 31]) (e' := [(30, .pointer (some ⟨bp0, 0, none⟩)), (31, .int .u8 p1)]) rfl trivial fun a hk => ?_
        exact absurd H (by simp)
    · rw [b2] at hk H
      replace H := bifT H
      refine x_if hk (b := true) rfl ?_
      refine (show Code.wpIn _ _ _ _ _ _ _ from ?_)
      refine wpIn_region_lit ?_
      refine x_run tab hk (k := 2) (lv := []) (ks := [25, 26]) (e' := [(25, .pointer (some ⟨bp0, 0, none⟩)), (26, .int .u8 p1)]) rfl trivial fun a hk => ?_
      exact absurd H (by simp)
  · rw [b1] at hk H
    replace H := bifT H
    refine x_if hk (b := true) rfl ?_
    refine (show Code.wpIn _ _ _ _ _ _ _ from ?_)
    refine wpIn_region_lit ?_
    refine x_run tab hk (k := 2) (lv := []) (ks := [20, 21]) (e' := [(20, .pointer (some ⟨bp0, 0, none⟩)), (21, .int .u8 p1)]) rfl trivial fun a hk => ?_
    refine x_op hk rfl ?_
    obtain ⟨t13, hc14, H⟩ := bindS H
    refine op_call hk ent_24 (vs := [.pointer (some ⟨bp0, 0, none⟩), .int .u8 p1]) rfl (seq_Parser_onGround_calls K bp0 Ap0_0 cp0_0 Ap0_1 cp0_1 p0 p1 _ oi 1 0 fg3 2 f900019 3 f900000 hcp0_0 4 f900001 hcp0_1 (by decide) (by decide)   _ hc14) ?_
    rintro _ w15 ⟨o16, A19, c20, A23, c24, rfl, st17, f18, f21, hc22, f25, hc26⟩
    replace fg3 := fg3.st st17 (by decide)
    replace hs := hs.locQ st17 hob rfl
    have hk := hk.put 22 (.tuple #[]) rfl
    refine wpListIn_nil ?_
    refine blk_n ?_
    obtain rfl := Option.some.inj H
    exact x_endG hk (rs := []) (vs := []) rfl trivial ⟨cl w oi o [2, 3, 4] (R_30 LF Lp0 Lp0_0 Lp0_1) o16, A19, c20, A23, c24, rfl, hs.closeF (Lm := [Lp0, Lp0_0, Lp0_1]) (Sh := []) hoa rfl (R_30 LF Lp0 Lp0_0 Lp0_1), hs.closeM_ft (o := o) (ρ := R_30 LF Lp0 Lp0_0 Lp0_1) f18 (lab_at hoa (i := 1) rfl) rfl, hs.closeM_ft (o := o) (ρ := R_30 LF Lp0 Lp0_0 Lp0_1) f21 (lab_at hoa (i := 2) rfl) rfl, hc22, f25.conv (fun _ h_ => hs.closeM_ft (o := o) (ρ := R_30 LF Lp0 Lp0_0 Lp0_1) h_ (lab_at hoa (i := 3) rfl) rfl) (fun _ h_ => hs.closeM_ft (o := o) (ρ := R_30 LF Lp0 Lp0_0 Lp0_1) h_ (lab_at hoa (i := 0) rfl) rfl), hc26⟩

/-! (*tidewrack/seq.Parser).Feed -/
abbrev R_31 (LF Lp0 Lp0_0 R0 : Nat) (l_ : Nat) : Nat := if l_ = 1 then LF else if l_ = 2 then Lp0 else if l_ = 3 then Lp0_0 else if l_ = 4 then R0 else 0
set_option maxHeartbeats 4000000 in
set_option maxRecDepth 20000 in
theorem seq_Parser_Feed_calls (K : Nat) (bp0 : Nat) (Ap0_0 : Option Addr) (cp0_0 : Nat) (Ap0_1 : Option Addr) (cp0_1 : Nat) (p0 : T33) (p1 : ByteArray) (w : World) (o : Nat → Nat) (LF : Nat) (Lg3 : Nat) (hg3 : Ft (RdC ET141 (some ⟨3, 0, none⟩) glob3) w o Lg3) (Lp0 : Nat) (hp0 : Ft (Bx bp0 34 [.int .i64 p0.state, .bool p0.order_private_, .bool p0.order_wrong, .bool p0.order_any, .bool p0.order_some, .int .i64 p0.order_n, .slice Ap0_0 (p0.order_nums).length cp0_0, .string p0.text, .int .u8 p0.runes_Lead, .int .i32 p0.runes_Rune, .int .i64 p0.runes_Need, .slice Ap0_1 (p0.out).length cp0_1]) w o Lp0) (Lp0_0 : Nat) (hp0_0 : Ft (Own (encInt .i64) 3 (.slice Ap0_0 (p0.order_nums).length cp0_0) p0.order_nums) w o Lp0_0) (hcp0_0 : (p0.order_nums).length ≤ cp0_0) (Lp0_1 : Nat) (hp0_1 : NOwn dT37 38 Ap0_1 cp0_1 p0.out w o Lp0_1 LF) (hcp0_1 : (p0.out).length ≤ cp0_1) (hd0 : ([LF, Lp0, Lp0_0, Lp0_1] : List Nat).Nodup) (hd1 : Lg3 ∉ [LF, Lp0, Lp0_0, Lp0_1]) (R0 : Nat) (r : (List T37) × T33) (H : seq_Parser_Feed K p0 p1 = some r) :
    Calls Tryz.prog 6 #[.pointer (some ⟨bp0, 0, none⟩), .string p1] w (Ret fun v_ w' => ∃ o' : Nat → Nat, ∃ A0 : Option Addr, ∃ c0 : Nat, ∃ A1 : Option Addr, ∃ c1 : Nat, v_ = .slice A0 (r.1).length c0 ∧ St [Lp0, Lp0_0, Lp0_1] w o w' o' ∧ NOwn dT37 38 A0 c0 r.1 w' o' R0 LF ∧ (r.1).length ≤ c0 ∧ Ft (Bx bp0 34 [.int .i64 r.2.state, .bool r.2.order_private_, .bool r.2.order_wrong, .bool r.2.order_any, .bool r.2.order_some, .int .i64 r.2.order_n, .slice A1 (r.2.order_nums).length c1, .string r.2.text, .int .u8 r.2.runes_Lead, .int .i32 r.2.runes_Rune, .int .i64 r.2.runes_Need, .slice none 0 0]) w' o' Lp0 ∧ Ft (Own (encInt .i64) 3 (.slice A1 (r.2.order_nums).length c1) r.2.order_nums) w' o' Lp0_0 ∧ (r.2.order_nums).length ≤ c1 ∧ NOwn dT37 38 none 0 r.2.out w' o' Lp0_1 LF ∧ (r.2.out).length ≤ 0) := by
  refine x_enter (vs := [.pointer (some ⟨bp0, 0, none⟩), .string p1]) Tryz.func6 rfl rfl rfl fun a hk => ?_
  obtain ⟨oi, hs0, h0, h1, hob, hoz, hoa⟩ := St.startM2 w o (m := 4) hd0 rfl
  have hs := hs0 [2, 3, 4]
  have fg3 := h0 _ _ hd1 hg3
  have f900000 := h1 2 3 hp0_0 rfl rfl
  have f900001 := hp0_1.conv (fun _ h_ => h1 3 4 h_ rfl rfl) (fun _ h_ => h1 0 1 h_ rfl rfl)
  have f900019 := h1 1 2 hp0 rfl rfl
  clear h0 h1 hs0
  rw [seq_Parser_Feed] at H
  refine x_seq ?_
  refine wpIn_region_lit ?_
  refine x_run tab hk (k := 1) (lv := []) (ks := [0, 1]) (e' := [(0, .pointer (some ⟨bp0, 0, none⟩)), (1, .string p1)]) rfl trivial fun a hk => ?_
  refine wpListIn_nil ?_
  refine then_n ?_
  refine x_mid (fun a_ w_ => ∃ o112 : Nat → Nat, ∃ x113 : Int, ∃ x114 : Bool, ∃ x115 : Bool, ∃ x116 : Bool, ∃ x117 : Bool, ∃ x118 : Int, ∃ A119 : Option Addr, ∃ c120 : Nat, ∃ l121 : List Int, ∃ x124 : ByteArray, ∃ x125 : Int, ∃ x126 : Int, ∃ x127 : Int, ∃ A128 : Option Addr, ∃ c129 : Nat, ∃ l130 : List T37, Kn 26 a_ [(0, .pointer (some ⟨bp0, 0, none⟩))] ∧ St [2, 3, 4] w oi w_ o112 ∧ Ft (Own (encInt .i64) 3 (.slice A119 (l121).length c120) l121) w_ o112 3 ∧ NOwn dT37 38 A128 c129 l130 w_ o112 4 1 ∧ Ft (Bx bp0 34 [.int .i64 x113, .bool x114, .bool x115, .bool x116, .bool x117, .int .i64 x118, .slice A119 (l121).length c120, .string x124, .int .u8 x125, .int .i32 x126, .int .i64 x127, .slice A128 (l130).length c129]) w_ o112 2 ∧ Ft (RdC ET141 (some ⟨3, 0, none⟩) glob3) w_ o112 0 ∧ (l121).length ≤ c120 ∧ (l130).length ≤ c129 ∧ seq_Parser_Feed_j1 x113 x114 x115 x116 x117 x118 l121 x124 x125 x126 x127 l130 = some r) ?_ ?_
  rotate_left
  · refine fun a w133 z0 => z0.elim fun o112 z1 => z1.elim fun x113 z2 => z2.elim fun x114 z3 => z3.elim fun x115 z4 => z4.elim fun x116 z5 => z5.elim fun x117 z6 => z6.elim fun x118 z7 => z7.elim fun A119 z8 => z8.elim fun c120 z9 => z9.elim fun l121 z10 => z10.elim fun x124 z11 => z11.elim fun x125 z12 => z12.elim fun x126 z13 => z13.elim fun x127 z14 => z14.elim fun A128 z15 => z15.elim fun c129 z16 => z16.elim fun l130 z17 => z17.elim fun hk z18 => z18.elim fun hs z19 => z19.elim fun f122 z20 => z20.elim fun f131 z21 => z21.elim fun f900019 z22 => z22.elim fun fg3 z23 => z23.elim fun hc123 z24 => z24.elim fun hc132 H => ?_
    clear z0 z1 z2 z3 z4 z5 z6 z7 z8 z9 z10 z11 z12 z13 z14 z15 z16 z17 z18 z19 z20 z21 z22 z23 z24
    rw [seq_Parser_Feed_j1] at H
    refine x_seq ?_
    refine wpIn_region_lit ?_
    refine x_run tab hk (k := 5) (lv := [.slice A128 (l130).length c129]) (ks := [0, 6]) (e' := [(0, .pointer (some ⟨bp0, 0, none⟩)), (6, .slice A128 (l130).length c129)]) rfl ⟨(load1 tab rfl ((Bx.cell f900019.now 11).trans rfl)), trivial⟩ fun a hk => ?_
    refine wpListIn_nil ?_
    refine then_n ?_
    refine x_seq ?_
    refine wpIn_region_lit ?_
    refine x_run tab hk (k := 3) (lv := []) (ks := [6, 24]) (e' := [(6, .slice A128 (l130).length c129), (24, .pointer (some ((⟨bp0, 0, none⟩ : Addr).add 11)))]) rfl trivial fun a hk => ?_
    refine x_op hk rfl ?_
    refine op_store tab hk (t := 32) (v := .slice none 0 0) (b := bp0) (k := 11) (cs' := [.int .i64 x113, .bool x114, .bool x115, .bool x116, .bool x117, .int .i64 x118, .slice A119 (l121).length c120, .string x124, .int .u8 x125, .int .i32 x126, .int .i64 x127, .slice none 0 0]) rfl rfl rfl rfl rfl rfl f900019 rfl rfl fun w134 o135 st136 f900019_ => ?_
    replace f122 := f122.st st136 (by decide)
    replace f131 := f131.st st136 (by decide)
    replace fg3 := fg3.st st136 (by decide)
    replace hs := hs.locQ st136 hob rfl
    replace f900019 := f900019_
    refine wpListIn_nil ?_
    refine then_n ?_
    refine x_seq ?_
    refine wpIn_region_lit ?_
    refine x_run tab hk (k := 2) (lv := []) (ks := [4]) (e' := [(4, .slice A128 (l130).length c129)]) rfl trivial fun a hk => ?_
    refine wpListIn_nil ?_
    refine then_n ?_
    refine wpIn_ret ?_
    obtain rfl := Option.some.inj H
    exact x_retG hk (rs := [.tmp 4]) (vs := [.slice A128 (l130).length c129]) rfl ⟨rfl, trivial⟩ ⟨cl w oi o [2, 3, 4] (R_31 LF Lp0 Lp0_0 R0) o135, A128, c129, A119, c120, rfl, hs.closeF (Lm := [Lp0, Lp0_0, Lp0_1]) (Sh := []) hoa rfl (R_31 LF Lp0 Lp0_0 R0), f131.conv (fun _ h_ => hs.closeMM_ft (o := o) (ρ := R_31 LF Lp0 Lp0_0 R0) h_ (by decide) rfl) (fun _ h_ => hs.closeM_ft (o := o) (ρ := R_31 LF Lp0 Lp0_0 R0) h_ (lab_at hoa (i := 0) rfl) rfl), hc132, hs.closeM_ft (o := o) (ρ := R_31 LF Lp0 Lp0_0 R0) f900019 (lab_at hoa (i := 1) rfl) rfl, hs.closeM_ft (o := o) (ρ := R_31 LF Lp0 Lp0_0 R0) f122 (lab_at hoa (i := 2) rfl) rfl, hc123, (NOwn.nil _ _ _ _ _ _), (Nat.le_refl _)⟩
  refine x_seq ?_
  refine wpIn_region_lit ?_
  refine x_run tab hk (k := 3) (lv := []) (ks := [0, 1, 8, 9]) (e' := [(0, .pointer (some ⟨bp0, 0, none⟩)), (1, .string p1), (8, .int .i64 ((p1).size : Int)), (9, .int .i64 0)]) rfl trivial fun a hk => ?_
  refine wpListIn_nil ?_
  refine then_n ?_
  refine wpIn_block ?_
  refine x_loop (fun j_ a_ w_ => ∃ o159 : Nat → Nat, ∃ x160 : Int, ∃ x161 : Bool, ∃ x162 : Bool, ∃ x163 : Bool, ∃ x164 : Bool, ∃ x165 : Int, ∃ A166 : Option Addr, ∃ c167 : Nat, ∃ l168 : List Int, ∃ x171 : ByteArray, ∃ x172 : Int, ∃ x173 : Int, ∃ x174 : Int, ∃ A175 : Option Addr, ∃ c176 : Nat, ∃ l177 : List T37, ∃ x180 : Int, Kn 26 a_ [(0, .pointer (some ⟨bp0, 0, none⟩)), (1, .string p1), (8, .int .i64 ((p1).size : Int)), (9, .int .i64 x180)] ∧ St [2, 3, 4] w oi w_ o159 ∧ Ft (Own (encInt .i64) 3 (.slice A166 (l168).length c167) l168) w_ o159 3 ∧ NOwn dT37 38 A175 c176 l177 w_ o159 4 1 ∧ Ft (Bx bp0 34 [.int .i64 x160, .bool x161, .bool x162, .bool x163, .bool x164, .int .i64 x165, .slice A166 (l168).length c167, .string x171, .int .u8 x172, .int .i32 x173, .int .i64 x174, .slice A175 (l177).length c176]) w_ o159 2 ∧ Ft (RdC ET141 (some ⟨3, 0, none⟩) glob3) w_ o159 0 ∧ (l168).length ≤ c167 ∧ (l177).length ≤ c176 ∧ seq_Parser_Feed_l2 K p1 j_ x160 x161 x162 x163 x164 x165 l168 x171 x172 x173 x174 l177 x180 = some r) (k := K) ⟨oi, p0.state, p0.order_private_, p0.order_wrong, p0.order_any, p0.order_some, p0.order_n, Ap0_0, cp0_0, p0.order_nums, p0.text, p0.runes_Lead, p0.runes_Rune, p0.runes_Need, Ap0_1, cp0_1, p0.out, 0, (by exact Kn.pick (ks := [0, 1, 8, 9]) hk rfl), hs, f900000, f900001, f900019, fg3, hcp0_0, hcp0_1, H⟩ (fun _ _ z => z.elim fun _ z => z.elim fun _ z => z.elim fun _ z => z.elim fun _ z => z.elim fun _ z => z.elim fun _ z => z.elim fun _ z => z.elim fun _ z => z.elim fun _ z => z.elim fun _ z => z.elim fun _ z => z.elim fun _ z => z.elim fun _ z => z.elim fun _ z => z.elim fun _ z => z.elim fun _ z => z.elim fun _ z => z.elim fun _ z => z.elim fun _ z => z.elim fun _ z => z.elim fun _ z => z.elim fun _ z => z.elim fun _ z => z.elim fun _ z => z.elim fun _ z => z.elim fun _ z => absurd (show (none : Option ((List T37) × T33)) = some r from z) (by simp)) ?_
  refine fun k201 a w200 z0 => z0.elim fun o159 z1 => z1.elim fun x160 z2 => z2.elim fun x161 z3 => z3.elim fun x162 z4 => z4.elim fun x163 z5 => z5.elim fun x164 z6 => z6.elim fun x165 z7 => z7.elim fun A166 z8 => z8.elim fun c167 z9 => z9.elim fun l168 z10 => z10.elim fun x171 z11 => z11.elim fun x172 z12 => z12.elim fun x173 z13 => z13.elim fun x174 z14 => z14.elim fun A175 z15 => z15.elim fun c176 z16 => z16.elim fun l177 z17 => z17.elim fun x180 z18 => z18.elim fun hk z19 => z19.elim fun hs z20 => z20.elim fun f169 z21 => z21.elim fun f178 z22 => z22.elim fun f900019 z23 => z23.elim fun fg3 z24 => z24.elim fun hc170 z25 => z25.elim fun hc179 H => ?_
  clear z0 z1 z2 z3 z4 z5 z6 z7 z8 z9 z10 z11 z12 z13 z14 z15 z16 z17 z18 z19 z20 z21 z22 z23 z24 z25
  rw [seq_Parser_Feed_l2] at H
  obtain ⟨lp202, hlp203⟩ : ∃ lp_, lp_ = seq_Parser_Feed_l2 K p1 k201 := ⟨_, rfl⟩
  rw [← hlp203] at H
  refine x_seq ?_
  refine wpIn_region_lit ?_
  refine x_run tab hk (k := 1) (lv := []) (ks := [0, 1, 8, 9, 10]) (e' := [(0, .pointer (some ⟨bp0, 0, none⟩)), (1, .string p1), (8, .int .i64 ((p1).size : Int)), (9, .int .i64 x180), (10, .bool (decide (x180 < ((p1).size : Int))))]) rfl trivial fun a hk => ?_
  refine wpListIn_nil ?_
  refine then_n ?_
  refine x_seq ?_
  cases b204 : (decide (x180 < ((p1).size : Int)))
  · rw [b204] at hk H
    replace H := bifF H
    refine x_if hk (b := false) rfl ?_
    refine (show Code.wpIn _ _ _ _ _ _ _ from ?_)
    refine wpIn_exit ?_
    refine then_x ?_
    refine then_x ?_
    refine blk_x ?_
    refine then_n ?_
    exact ⟨o159, x160, x161, x162, x163, x164, x165, A166, c167, l168, x171, x172, x173, x174, A175, c176, l177, (by exact Kn.pick (ks := [0]) hk rfl), hs, f169, f178, f900019, fg3, hc170, hc179, H⟩
  · rw [b204] at hk H
    replace H := bifT H
    refine x_if hk (b := true) rfl ?_
    refine (show Code.wpIn _ _ _ _ _ _ _ from ?_)
    refine wpIn_skip ?_
    refine then_n ?_
    refine x_seq ?_
    refine wpIn_block ?_
    refine x_seq ?_
    refine wpIn_region_lit ?_
    refine x_run tab hk (k := 2) (lv := []) (ks := [0, 1, 5, 8, 9]) (e' := [(0, .pointer (some ⟨bp0, 0, none⟩)), (1, .string p1), (5, .int .i64 x180), (8, .int .i64 ((p1).size : Int)), (9, .int .i64 x180)]) rfl trivial fun a hk => ?_
    refine wpListIn_nil ?_
    refine then_n ?_
    refine wpIn_region_lit ?_
    obtain ⟨q205, H⟩ := ifS H
    refine x_run tab hk (k := 4) (lv := []) (ks := [0, 1, 8, 9, 12, 15]) (e' := [(0, .pointer (some ⟨bp0, 0, none⟩)), (1, .string p1), (8, .int .i64 ((p1).size : Int)), (9, .int .i64 x180), (12, .pointer (some ⟨bp0, 0, none⟩)), (15, .int .u8 (bt p1 x180))]) rfl ⟨q205, trivial⟩ fun a hk => ?_
    refine x_op hk rfl ?_
    obtain ⟨t209, hc210, H⟩ := bindS H
    refine op_call hk ent_13 (vs := [.pointer (some ⟨bp0, 0, none⟩), .int .u8 (bt p1 x180)]) rfl (seq_Parser_one_calls K bp0 A166 c167 A175 c176 (⟨x160, x161, x162, x163, x164, x165, l168, x171, x172, x173, x174, l177⟩ : T33) (bt p1 x180) _ o159 1 0 fg3 2 f900019 3 f169 hc170 4 f178 hc179 (by decide) (by decide)   _ hc210) ?_
    rintro _ w211 ⟨o212, A215, c216, A219, c220, rfl, st213, f214, f217, hc218, f221, hc222⟩
    replace fg3 := fg3.st st213 (by decide)
    replace hs := hs.locQ st213 hob rfl
    have hk := hk.put 16 (.tuple #[]) rfl
    refine wpListIn_nil ?_
    refine blk_n ?_
    refine then_n ?_
    refine wpIn_region_lit ?_
    refine x_run tab hk (k := 2) (lv := []) (ks := [0, 1, 8, 9]) (e' := [(0, .pointer (some ⟨bp0, 0, none⟩)), (1, .string p1), (8, .int .i64 ((p1).size : Int)), (9, .int .i64 (IntKind.wrap .i64 (x180 + 1)))]) rfl trivial fun a hk => ?_
    refine wpListIn_nil ?_
    refine then_n ?_
    exact ⟨k201, Nat.le_refl _, o212, t209.state, t209.order_private_, t209.order_wrong, t209.order_any, t209.order_some, t209.order_n, A215, c216, t209.order_nums, t209.text, t209.runes_Lead, t209.runes_Rune, t209.runes_Need, A219, c220, t209.out, (IntKind.wrap .i64 (x180 + 1)), (by exact Kn.pick (ks := [0, 1, 8, 9]) hk rfl), hs, f217, f221, f214, fg3, hc218, hc222, (hlp203 ▸ H)⟩

/-! tidewrack/wide.in -/
set_option maxHeartbeats 4000000 in
set_option maxRecDepth 20000 in
theorem wide_in_calls (K : Nat) (Ap0 : Option Addr) (cp0 : Nat) (p0 : List T109) (p1 : Int) (w : World) (o : Nat → Nat) (Lp0 : Nat) (hp0 : Ft (RdC ET109 Ap0 p0) w o Lp0) (hcp0 : (p0).length ≤ cp0)  (r : Bool) (H : wide_in K p0 p1 = some r) :
    Calls Tryz.prog 65 #[.slice Ap0 (p0).length cp0, .int .i32 p1] w (Ret fun v_ w' => ∃ o' : Nat → Nat, v_ = .bool r ∧ St [] w o w' o') := by
  refine x_enter (vs := [.slice Ap0 (p0).length cp0, .int .i32 p1]) Tryz.func65 rfl rfl rfl fun a hk => ?_
  obtain ⟨o0, hs, h0⟩ := St.start w o
  have f900000 := h0 _ _ hp0
  clear h0
  rw [wide_in] at H
  refine x_seq ?_
  refine wpIn_region_lit ?_
  refine x_run tab hk (k := 1) (lv := []) (ks := [0, 1]) (e' := [(0, .slice Ap0 (p0).length cp0), (1, .int .i32 p1)]) rfl trivial fun a hk => ?_
  refine wpListIn_nil ?_
  refine then_n ?_
  refine x_seq ?_
  refine wpIn_region_lit ?_
  refine x_run tab hk (k := 4) (lv := []) (ks := [0, 1, 5, 6]) (e' := [(0, .slice Ap0 (p0).length cp0), (1, .int .i32 p1), (5, .int .i64 0), (6, .int .i64 ((p0).length : Int))]) rfl trivial fun a hk => ?_
  refine wpListIn_nil ?_
  refine then_n ?_
  refine x_mid (fun a_ w_ => ∃ o29 : Nat → Nat, ∃ x30 : Int, Kn 40 a_ [(0, .slice Ap0 (p0).length cp0), (1, .int .i32 p1), (5, .int .i64 x30)] ∧ St [] w (fun _ => 0) w_ o29 ∧ Ft (RdC ET109 Ap0 p0) w_ o29 0 ∧ wide_in_j1 p0 p1 x30 = some r) ?_ ?_
  rotate_left
  · rintro a w31 ⟨o29, x30, hk, hs, f900000, H⟩
    rw [wide_in_j1] at H
    refine x_seq ?_
    refine wpIn_region_lit ?_
    refine x_run tab hk (k := 5) (lv := []) (ks := [0, 1, 5, 31]) (e' := [(0, .slice Ap0 (p0).length cp0), (1, .int .i32 p1), (5, .int .i64 x30), (31, .bool (decide (x30 < ((p0).length : Int))))]) rfl trivial fun a hk => ?_
    cases b32 : (decide (x30 < ((p0).length : Int)))
    · rw [b32] at hk H
      replace H := bifF H
      refine x_run tab hk (k := 9) (lv := []) (ks := [4]) (e' := [(4, .bool false)]) rfl trivial fun a hk => ?_
      refine wpListIn_nil ?_
      refine then_n ?_
      refine wpIn_ret ?_
      obtain rfl := Option.some.inj H
      exact x_retG hk (rs := [.tmp 4]) (vs := [.bool false]) rfl ⟨rfl, trivial⟩ ⟨fun b_ => if b_ < w.heap.size then o b_ else (fun _ => 0) (o29 b_), rfl, hs.close0 o (fun _ => 0)⟩
    · rw [b32] at hk H
      replace H := bifT H
      obtain ⟨q33, H⟩ := ifS H
      obtain ⟨ad34, hAad34⟩ := RdC.addr f900000.now q33
      have hk_C := hk
      have f900000_C := f900000
      subst hAad34
      have hk := hk_C
      clear hk_C
      have f900000 := f900000_C
      clear f900000_C
      refine x_run tab hk (k := 9) (lv := [.int .i32 ((rdD zT109 p0 x30).from_)]) (ks := [4]) (e' := [(4, .bool (decide (((rdD zT109 p0 x30).from_) ≤ p1)))]) rfl ⟨q33, (load1 tab rfl (RdC.at (E := ET109) (d := zT109) (i := x30) (j := 0) f900000.now q33 rfl)), trivial⟩ fun a hk => ?_
      refine wpListIn_nil ?_
      refine then_n ?_
      refine wpIn_ret ?_
      obtain rfl := Option.some.inj H
      exact x_retG hk (rs := [.tmp 4]) (vs := [.bool (decide (((rdD zT109 p0 x30).from_) ≤ p1))]) rfl ⟨rfl, trivial⟩ ⟨fun b_ => if b_ < w.heap.size then o b_ else (fun _ => 0) (o29 b_), rfl, hs.close0 o (fun _ => 0)⟩
  refine wpIn_block ?_
  refine x_loop (fun j_ a_ w_ => ∃ o42 : Nat → Nat, ∃ x43 : Int, ∃ x44 : Int, Kn 40 a_ [(0, .slice Ap0 (p0).length cp0), (1, .int .i32 p1), (5, .int .i64 x43), (6, .int .i64 x44)] ∧ St [] w (fun _ => 0) w_ o42 ∧ Ft (RdC ET109 Ap0 p0) w_ o42 0 ∧ wide_in_l2 p0 p1 j_ x43 x44 = some r) (k := K) ⟨o0, 0, ((p0).length : Int), (by exact Kn.pick (ks := [0, 1, 5, 6]) hk rfl), hs, f900000, H⟩ (fun _ _ z => z.elim fun _ z => z.elim fun _ z => z.elim fun _ z => z.elim fun _ z => z.elim fun _ z => z.elim fun _ z => absurd (show (none : Option Bool) = some r from z) (by simp)) ?_
  rintro k50 a w49 ⟨o42, x43, x44, hk, hs, f900000, H⟩
  rw [wide_in_l2] at H
  obtain ⟨lp51, hlp52⟩ : ∃ lp_, lp_ = wide_in_l2 p0 p1 k50 := ⟨_, rfl⟩
  rw [← hlp52] at H
  refine x_seq ?_
  refine x_seq ?_
  refine wpIn_region_lit ?_
  refine x_run tab hk (k := 3) (lv := []) (ks := [0, 1, 5, 6, 12]) (e' := [(0, .slice Ap0 (p0).length cp0), (1, .int .i32 p1), (5, .int .i64 x43), (6, .int .i64 x44), (12, .bool (decide (x43 < x44)))]) rfl trivial fun a hk => ?_
  refine wpListIn_nil ?_
  refine then_n ?_
  cases b53 : (decide (x43 < x44))
  · rw [b53] at hk H
    replace H := bifF H
    refine x_if hk (b := false) rfl ?_
    refine (show Code.wpIn _ _ _ _ _ _ _ from ?_)
    refine wpIn_exit ?_
    refine then_x ?_
    refine then_x ?_
    refine blk_x ?_
    refine then_n ?_
    exact ⟨o42, x43, (by exact Kn.pick (ks := [0, 1, 5]) hk rfl), hs, f900000, H⟩
  · rw [b53] at hk H
    replace H := bifT H
    refine x_if hk (b := true) rfl ?_
    refine (show Code.wpIn _ _ _ _ _ _ _ from ?_)
    refine wpIn_skip ?_
    refine then_n ?_
    refine wpIn_block ?_
    refine x_seq ?_
    refine wpIn_region_lit ?_
    refine x_run tab hk (k := 5) (lv := []) (ks := [0, 1, 5, 6, 7]) (e' := [(0, .slice Ap0 (p0).length cp0), (1, .int .i32 p1), (5, .int .i64 x43), (6, .int .i64 x44), (7, .int .i64 (IntKind.wrap .i64 (Int.tdiv (IntKind.wrap .i64 (x43 + x44)) 2)))]) rfl ⟨(show (2 : Int) ≠ 0 from by decide), trivial⟩ fun a hk => ?_
    refine wpListIn_nil ?_
    refine then_n ?_
    refine x_seq ?_
    refine wpIn_region_lit ?_
    obtain ⟨q54, H⟩ := ifS H
    obtain ⟨ad55, hAad55⟩ := RdC.addr f900000.now q54
    have hk_C := hk
    have f900000_C := f900000
    subst hAad55
    have hk := hk_C
    clear hk_C
    have f900000 := f900000_C
    clear f900000_C
    refine x_run tab hk (k := 7) (lv := [.int .i32 ((rdD zT109 p0 (IntKind.wrap .i64 (Int.tdiv (IntKind.wrap .i64 (x43 + x44)) 2))).to)]) (ks := [0, 1, 5, 6, 7, 23]) (e' := [(0, .slice (some ad55) (p0).length cp0), (1, .int .i32 p1), (5, .int .i64 x43), (6, .int .i64 x44), (7, .int .i64 (IntKind.wrap .i64 (Int.tdiv (IntKind.wrap .i64 (x43 + x44)) 2))), (23, .bool (decide (((rdD zT109 p0 (IntKind.wrap .i64 (Int.tdiv (IntKind.wrap .i64 (x43 + x44)) 2))).to) < p1)))]) rfl ⟨q54, (load1 tab rfl (RdC.at (E := ET109) (d := zT109) (i := (IntKind.wrap .i64 (Int.tdiv (IntKind.wrap .i64 (x43 + x44)) 2))) (j := 1) f900000.now q54 rfl)), trivial⟩ fun a hk => ?_
    refine wpListIn_nil ?_
    refine then_n ?_
    cases b56 : (decide (((rdD zT109 p0 (IntKind.wrap .i64 (Int.tdiv (IntKind.wrap .i64 (x43 + x44)) 2))).to) < p1))
    · rw [b56] at hk H
      replace H := bifF H
      refine x_if hk (b := false) rfl ?_
      refine (show Code.wpIn _ _ _ _ _ _ _ from ?_)
      refine wpIn_region_lit ?_
      refine x_run tab hk (k := 2) (lv := []) (ks := [0, 1, 5, 6]) (e' := [(0, .slice (some ad55) (p0).length cp0), (1, .int .i32 p1), (5, .int .i64 x43), (6, .int .i64 (IntKind.wrap .i64 (Int.tdiv (IntKind.wrap .i64 (x43 + x44)) 2)))]) rfl trivial fun a hk => ?_
      refine wpListIn_nil ?_
      refine blk_n ?_
      refine then_n ?_
      exact ⟨k50, Nat.le_refl _, o42, x43, (IntKind.wrap .i64 (Int.tdiv (IntKind.wrap .i64 (x43 + x44)) 2)), (by exact Kn.pick (ks := [0, 1, 5, 6]) hk rfl), hs, f900000, (hlp52 ▸ H)⟩
    · rw [b56] at hk H
      replace H := bifT H
      refine x_if hk (b := true) rfl ?_
      refine (show Code.wpIn _ _ _ _ _ _ _ from ?_)
      refine wpIn_region_lit ?_
      refine x_run tab hk (k := 3) (lv := []) (ks := [0, 1, 5, 6]) (e' := [(0, .slice (some ad55) (p0).length cp0), (1, .int .i32 p1), (5, .int .i64 (IntKind.wrap .i64 ((IntKind.wrap .i64 (Int.tdiv (IntKind.wrap .i64 (x43 + x44)) 2)) + 1))), (6, .int .i64 x44)]) rfl trivial fun a hk => ?_
      refine wpListIn_nil ?_
      refine blk_n ?_
      refine then_n ?_
      exact ⟨k50, Nat.le_refl _, o42, (IntKind.wrap .i64 ((IntKind.wrap .i64 (Int.tdiv (IntKind.wrap .i64 (x43 + x44)) 2)) + 1)), x44, (by exact Kn.pick (ks := [0, 1, 5, 6]) hk rfl), hs, f900000, (hlp52 ▸ H)⟩

/-! tidewrack/wide.Of -/
set_option maxHeartbeats 4000000 in
set_option maxRecDepth 20000 in
theorem wide_Of_calls (K : Nat) (p0 : Int) (w : World) (o : Nat → Nat) (Lg0 : Nat) (hg0 : Ft (RdC ET109 (some ⟨0, 0, none⟩) glob0) w o Lg0) (Lg1 : Nat) (hg1 : Ft (RdC ET109 (some ⟨1, 0, none⟩) glob1) w o Lg1)   (r : Int) (H : wide_Of K p0 = some r) :
    Calls Tryz.prog 32 #[.int .i32 p0] w (Ret fun v_ w' => ∃ o' : Nat → Nat, v_ = .int .i64 r ∧ St [] w o w' o') := by
  refine x_enter (vs := [.int .i32 p0]) Tryz.func32 rfl rfl rfl fun a hk => ?_
  obtain ⟨o0, hs, h0⟩ := St.start w o
  have fg0 := h0 _ _ hg0
  have fg1 := h0 _ _ hg1
  clear h0
  rw [wide_Of] at H
  refine x_seq ?_
  refine wpIn_region_lit ?_
  refine x_run tab hk (k := 1) (lv := []) (ks := [0]) (e' := [(0, .int .i32 p0)]) rfl trivial fun a hk => ?_
  refine wpListIn_nil ?_
  refine then_n ?_
  refine x_seq ?_
  refine wpIn_block ?_
  refine x_seq ?_
  refine wpIn_region_lit ?_
  refine x_run tab hk (k := 2) (lv := [.slice (some ⟨0, 0, none⟩) (glob0).length 13]) (ks := [0, 4, 5]) (e' := [(0, .int .i32 p0), (4, .slice (some ⟨0, 0, none⟩) (glob0).length 13), (5, .int .i32 p0)]) rfl ⟨(ask_whole tab rfl rfl rfl), trivial⟩ fun a hk => ?_
  refine x_op hk rfl ?_
  obtain ⟨t4, hc5, H⟩ := bindS H
  refine op_call hk ent_65 (vs := [.slice (some ⟨0, 0, none⟩) (glob0).length 13, .int .i32 p0]) rfl (wide_in_calls K (some ⟨0, 0, none⟩) 13 glob0 p0 _ o0 _ fg0 (by decide)   _ hc5) ?_
  rintro _ w6 ⟨o7, rfl, st8⟩
  replace fg0 := fg0.st st8 (by decide)
  replace fg1 := fg1.st st8 (by decide)
  replace hs := hs.loc0 st8 (by decide)
  have hk := hk.put 6 (.bool t4) rfl
  refine x_run tab hk (k := 1) (lv := []) (ks := [0, 3]) (e' := [(0, .int .i32 p0), (3, .bool t4)]) rfl trivial fun a hk => ?_
  refine wpListIn_nil ?_
  refine then_n ?_
  cases b9 : t4
  · rw [b9] at hk H
    replace H := bifF H
    refine x_if hk (b := false) rfl ?_
    refine (show Code.wpIn _ _ _ _ _ _ _ from ?_)
    refine x_seq ?_
    refine wpIn_region_lit ?_
    refine x_run tab hk (k := 2) (lv := [.slice (some ⟨1, 0, none⟩) (glob1).length 14]) (ks := [8, 9]) (e' := [(8, .slice (some ⟨1, 0, none⟩) (glob1).length 14), (9, .int .i32 p0)]) rfl ⟨(ask_whole tab rfl rfl rfl), trivial⟩ fun a hk => ?_
    refine x_op hk rfl ?_
    obtain ⟨t13, hc14, H⟩ := bindS H
    refine op_call hk ent_65 (vs := [.slice (some ⟨1, 0, none⟩) (glob1).length 14, .int .i32 p0]) rfl (wide_in_calls K (some ⟨1, 0, none⟩) 14 glob1 p0 _ o7 _ fg1 (by decide)   _ hc14) ?_
    rintro _ w15 ⟨o16, rfl, st17⟩
    replace fg0 := fg0.st st17 (by decide)
    replace fg1 := fg1.st st17 (by decide)
    replace hs := hs.loc0 st17 (by decide)
    have hk := hk.put 10 (.bool t13) rfl
    refine x_run tab hk (k := 1) (lv := []) (ks := [7]) (e' := [(7, .bool t13)]) rfl trivial fun a hk => ?_
    refine wpListIn_nil ?_
    refine then_n ?_
    cases b18 : t13
    · rw [b18] at hk H
      replace H := bifF H
      refine x_if hk (b := false) rfl ?_
      refine (show Code.wpIn _ _ _ _ _ _ _ from ?_)
      refine wpIn_skip ?_
      refine blk_n ?_
      refine then_n ?_
      refine x_seq ?_
      refine wpIn_region_lit ?_
      refine x_run tab hk (k := 1) (lv := []) (ks := [2]) (e' := [(2, .int .i64 1)]) rfl trivial fun a hk => ?_
      refine wpListIn_nil ?_
      refine then_n ?_
      refine wpIn_ret ?_
      obtain rfl := Option.some.inj H
      exact x_retG hk (rs := [.tmp 2]) (vs := [.int .i64 1]) rfl ⟨rfl, trivial⟩ ⟨fun b_ => if b_ < w.heap.size then o b_ else (fun _ => 0) (o16 b_), rfl, hs.close0 o (fun _ => 0)⟩
    · rw [b18] at hk H
      replace H := bifT H
      refine x_if hk (b := true) rfl ?_
      refine (show Code.wpIn _ _ _ _ _ _ _ from ?_)
      refine x_seq ?_
      refine wpIn_region_lit ?_
      refine x_run tab hk (k := 1) (lv := []) (ks := [2]) (e' := [(2, .int .i64 2)]) rfl trivial fun a hk => ?_
      refine wpListIn_nil ?_
      refine then_n ?_
      refine wpIn_ret ?_
      refine blk_r ?_
      refine then_r ?_
      obtain rfl := Option.some.inj H
      exact x_retG hk (rs := [.tmp 2]) (vs := [.int .i64 2]) rfl ⟨rfl, trivial⟩ ⟨fun b_ => if b_ < w.heap.size then o b_ else (fun _ => 0) (o16 b_), rfl, hs.close0 o (fun _ => 0)⟩
  · rw [b9] at hk H
    replace H := bifT H
    refine x_if hk (b := true) rfl ?_
    refine (show Code.wpIn _ _ _ _ _ _ _ from ?_)
    refine x_seq ?_
    refine wpIn_region_lit ?_
    refine x_run tab hk (k := 1) (lv := []) (ks := [2]) (e' := [(2, .int .i64 0)]) rfl trivial fun a hk => ?_
    refine wpListIn_nil ?_
    refine then_n ?_
    refine wpIn_ret ?_
    refine blk_r ?_
    refine then_r ?_
    obtain rfl := Option.some.inj H
    exact x_retG hk (rs := [.tmp 2]) (vs := [.int .i64 0]) rfl ⟨rfl, trivial⟩ ⟨fun b_ => if b_ < w.heap.size then o b_ else (fun _ => 0) (o7 b_), rfl, hs.close0 o (fun _ => 0)⟩

/-! slices.Clone[[]tidewrack/row.Cell,tidewrack/row.Cell] -/
set_option maxHeartbeats 4000000 in
set_option maxRecDepth 20000 in
theorem slices_Clone_calls (Ap0 : Option Addr) (cp0 : Nat) (p0 : List T77) (w : World) (o : Nat → Nat) (Lp0 : Nat) (hp0 : Ft (RdC ET77 Ap0 p0) w o Lp0) (hcp0 : (p0).length ≤ cp0)  (R0 : Nat) (r : List T77) (H : slices_Clone p0 = some r) :
    Calls Tryz.prog 93 #[.slice Ap0 (p0).length cp0] w (Ret fun v_ w' => ∃ o' : Nat → Nat, ∃ A0 : Option Addr, ∃ c0 : Nat, v_ = .slice A0 (r).length c0 ∧ St [] w o w' o' ∧ Ft (Own ET77 78 (.slice A0 (r).length c0) r) w' o' R0 ∧ (r).length ≤ c0) := by
  refine x_enter (vs := [.slice Ap0 (p0).length cp0]) Tryz.func93 rfl rfl rfl fun a hk => ?_
  obtain ⟨o0, hs, h0⟩ := St.start w o
  have f900000 := h0 _ _ hp0
  clear h0
  rw [slices_Clone] at H
  refine x_seq ?_
  refine wpIn_region_lit ?_
  refine x_run tab hk (k := 1) (lv := []) (ks := [0]) (e' := [(0, .slice Ap0 (p0).length cp0)]) rfl trivial fun a hk => ?_
  refine wpListIn_nil ?_
  refine then_n ?_
  refine x_seq ?_
  refine x_seq ?_
  refine wpIn_region_lit ?_
  refine x_run tab hk (k := 1) (lv := []) (ks := [0, 3]) (e' := [(0, .slice Ap0 (p0).length cp0), (3, .slice Ap0 (p0).length cp0)]) rfl trivial fun a hk => ?_
  rcases none_or Ap0 with hAad1 | ⟨ad1, hAad1⟩
  · have hk_C := hk
    have f900000_C := f900000
    subst hAad1
    have hk := hk_C
    clear hk_C
    have f900000 := f900000_C
    clear f900000_C
    have hz2 : p0 = [] := RdC.none f900000.now
    replace H : (some ([] : List T77)) = some r := by (try rw [hz2] at H); simpa using H
    refine x_run tab hk (k := 1) (lv := []) (ks := [0, 4]) (e' := [(0, .slice none (p0).length cp0), (4, .bool true)]) rfl trivial fun a hk => ?_
    refine wpListIn_nil ?_
    refine then_n ?_
    refine x_if hk (b := true) rfl ?_
    refine (show Code.wpIn _ _ _ _ _ _ _ from ?_)
    refine x_seq ?_
    refine wpIn_region_lit ?_
    refine x_run tab hk (k := 1) (lv := []) (ks := [2]) (e' := [(2, .slice none 0 0)]) rfl trivial fun a hk => ?_
    refine wpListIn_nil ?_
    refine then_n ?_
    refine wpIn_ret ?_
    refine then_r ?_
    obtain rfl := Option.some.inj H
    exact x_retG hk (rs := [.tmp 2]) (vs := [.slice none 0 0]) rfl ⟨rfl, trivial⟩ ⟨fun b_ => if b_ < w.heap.size then o b_ else (fun _ => 0) (o0 b_), none, 0, rfl, hs.close0 o (fun _ => 0), (Ft.of_all (fun _ => Own.nil _ _ _) _ _ _), (by simp)⟩
  · have hk_C := hk
    have f900000_C := f900000
    subst hAad1
    have hk := hk_C
    clear hk_C
    have f900000 := f900000_C
    clear f900000_C
    refine x_run tab hk (k := 1) (lv := []) (ks := [0, 4]) (e' := [(0, .slice (some ad1) (p0).length cp0), (4, .bool false)]) rfl trivial fun a hk => ?_
    refine wpListIn_nil ?_
    refine then_n ?_
    refine x_if hk (b := false) rfl ?_
    refine (show Code.wpIn _ _ _ _ _ _ _ from ?_)
    refine wpIn_skip ?_
    refine then_n ?_
    refine x_seq ?_
    refine wpIn_region_lit ?_
    refine x_op hk rfl ?_
    refine op_slice (o := o0) tab hk (vs := []) (cs := []) rfl rfl rfl rfl rfl rfl rfl rfl rfl 1 fun bx6 w3 o4 st5 f7 => ?_
    replace f900000 := f900000.st st5 (by decide)
    replace hs := hs.loc0 st5 (by decide)
    have f8 : Ft (Own ET77 78 (.slice (some ⟨bx6, 0, none⟩) (([] : List T77)).length 0) ([] : List T77)) w3 o4 1 := f7.imp fun _ h_ => Own.of_box h_ rfl (by simp)
    have hk := hk.put 5 (.slice (some ⟨bx6, 0, none⟩) (([] : List T77)).length 0) rfl
    refine x_run tab hk (k := 1) (lv := []) (ks := [5, 6]) (e' := [(5, .slice (some ⟨bx6, 0, none⟩) (([] : List T77)).length 0), (6, .slice (some ad1) (p0).length cp0)]) rfl trivial fun a hk => ?_
    refine x_op hk rfl ?_
    obtain ⟨q12, H⟩ := ifS H
    refine op_append (o := o4) (E := ET77) (xs := ([] : List T77)) (ys := p0) tab hk rfl rfl rfl rfl rfl rfl rfl f8 f900000.now q12 fun A13 c14 w9 o10 st11 f15 hc16 => ?_
    replace f900000 := f900000.st st11 (by decide)
    replace hs := hs.loc0 st11 (by decide)
    have hk := hk.put 7 (.slice A13 ((([] : List T77) ++ p0)).length c14) rfl
    refine x_run tab hk (k := 1) (lv := []) (ks := [2]) (e' := [(2, .slice A13 ((([] : List T77) ++ p0)).length c14)]) rfl trivial fun a hk => ?_
    refine wpListIn_nil ?_
    refine then_n ?_
    refine wpIn_ret ?_
    obtain rfl := Option.some.inj H
    exact x_retG hk (rs := [.tmp 2]) (vs := [.slice A13 ((([] : List T77) ++ p0)).length c14]) rfl ⟨rfl, trivial⟩ ⟨fun b_ => if b_ < w.heap.size then o b_ else (fun _ => R0) (o10 b_), A13, c14, rfl, hs.close0 o (fun _ => R0), hs.close_ft (o := o) (ρ := fun _ => R0) f15 (by decide) rfl, hc16⟩

/-! tidewrack/grid.own -/
set_option maxHeartbeats 4000000 in
set_option maxRecDepth 20000 in
theorem grid_own_calls (Ap0_0 : Option Addr) (cp0_0 : Nat) (p0 : T65) (w : World) (o : Nat → Nat) (Lp0_0 : Nat) (hp0_0 : Ft (RdC ET77 Ap0_0 p0.Cells) w o Lp0_0) (hcp0_0 : (p0.Cells).length ≤ cp0_0)  (R0 : Nat) (r : T65) (H : grid_own p0 = some r) :
    Calls Tryz.prog 92 #[.agg #[.slice Ap0_0 (p0.Cells).length cp0_0, .bool p0.Wrapped]] w (Ret fun v_ w' => ∃ o' : Nat → Nat, ∃ A0 : Option Addr, ∃ c0 : Nat, v_ = .agg #[.slice A0 (r.Cells).length c0, .bool r.Wrapped] ∧ St [] w o w' o' ∧ Ft (Own ET77 78 (.slice A0 (r.Cells).length c0) r.Cells) w' o' R0 ∧ (r.Cells).length ≤ c0) := by
  refine x_enter (vs := [.agg #[.slice Ap0_0 (p0.Cells).length cp0_0, .bool p0.Wrapped]]) Tryz.func92 rfl rfl rfl fun a hk => ?_
  obtain ⟨o0, hs, h0⟩ := St.start w o
  have f900000 := h0 _ _ hp0_0
  clear h0
  rw [grid_own] at H
  refine x_seq ?_
  refine wpIn_region_lit ?_
  refine x_op hk rfl ?_
  refine op_box (o := o0) (t := 66) (v := .agg #[.slice Ap0_0 (p0.Cells).length cp0_0, .bool p0.Wrapped]) (cs := [.slice Ap0_0 (p0.Cells).length cp0_0, .bool p0.Wrapped]) hk rfl rfl 1 fun bx4 w1 o2 st3 f5 => ?_
  replace f900000 := f900000.st st3 (by decide)
  replace hs := hs.loc0 st3 (by decide)
  have hk := hk.put 1 (.pointer (some ⟨bx4, 0, none⟩)) rfl
  refine x_op hk rfl ?_
  refine op_alloc (o := o2) tab (t := 66) (cs := [.slice none 0 0, .bool false]) rfl rfl 2 fun bx9 w6 o7 st8 f10 => ?_
  replace f5 := f5.st st8 (by decide)
  replace f900000 := f900000.st st8 (by decide)
  replace hs := hs.loc0 st8 (by decide)
  have hk := hk.put 2 (.pointer (some ⟨bx9, 0, none⟩)) rfl
  refine wpListIn_nil ?_
  refine then_n ?_
  refine x_seq ?_
  refine xd_begin (o := o7) (fun W_ => (Bx bx4 66 [.slice Ap0_0 (p0.Cells).length cp0_0, .bool p0.Wrapped]) W_ ∧ True) mixed rfl rfl fun w38 st39 => ?_
  replace f10 := f10.st st39 (by decide)
  replace f5 := f5.st st39 (by decide)
  replace f900000 := f900000.st st39 (by decide)
  replace hs := hs.loc0 st39 (by decide)
  refine xd_take tab hk (k := 3) (is := [0, 1, 3, 4]) (ls' := #[true, true, false, true, true, false, false]) (lv := [.slice Ap0_0 (p0.Cells).length cp0_0, .bool p0.Wrapped]) (ks := [2, 4, 7]) (e' := [(2, .pointer (some ⟨bx9, 0, none⟩)), (4, .slice Ap0_0 (p0.Cells).length cp0_0), (7, .bool p0.Wrapped)]) (by kernel_rfl) rfl rfl (by kernel_rfl) (np_then np_body) ⟨f5.now, trivial⟩ (fun W_ hS => ⟨(load1 tab rfl ((Bx.cell hS.1 0).trans rfl)), (load1 tab rfl ((Bx.cell hS.1 1).trans rfl)), trivial⟩) fun a hk => ?_
  refine xd_op hk (i := 2) (by kernel_rfl) rfl rfl ?_
  obtain ⟨t43, hc44, H⟩ := bindS H
  refine op_call hk ent_93 (vs := [.slice Ap0_0 (p0.Cells).length cp0_0]) rfl (slices_Clone_calls Ap0_0 cp0_0 p0.Cells _ o7 _ f900000 hcp0_0 5  _ hc44) ?_
  rintro _ w45 ⟨o46, A48, c49, rfl, st47, f50, hc51⟩
  replace f10 := f10.st st47 (by decide)
  replace f5 := f5.st st47 (by decide)
  replace f900000 := f900000.st st47 (by decide)
  replace hs := hs.loc0 st47 (by decide)
  have hk := hk.put 5 (.slice A48 (t43).length c49) rfl
  refine ⟨.inr ⟨f5.now, trivial⟩, ?_⟩
  refine xd_take tab hk (k := 1) (is := [5]) (ls' := #[true, true, true, true, true, true, false]) (lv := []) (ks := [2, 8]) (e' := [(2, .pointer (some ⟨bx9, 0, none⟩)), (8, .agg #[.slice A48 (t43).length c49, .bool p0.Wrapped])]) (by kernel_rfl) rfl rfl (by kernel_rfl) (np_then np_body) ⟨f5.now, trivial⟩ (fun W_ hS => trivial) fun a hk => ?_
  refine xd_op hk (i := 6) (by kernel_rfl) rfl rfl ?_
  refine op_store tab hk (t := 66) (v := .agg #[.slice A48 (t43).length c49, .bool p0.Wrapped]) (b := bx9) (k := 0) (cs' := [.slice A48 (t43).length c49, .bool p0.Wrapped]) rfl rfl rfl rfl rfl rfl f10 rfl rfl fun w52 o53 st54 f10_ => ?_
  replace f5 := f5.st st54 (by decide)
  replace f50 := f50.st st54 (by decide)
  replace f900000 := f900000.st st54 (by decide)
  replace hs := hs.loc0 st54 (by decide)
  replace f10 := f10_
  refine ⟨.inl (by kernel_rfl), ?_⟩
  refine xd_done (by kernel_rfl) ?_
  refine then_n ?_
  refine wpIn_ret ?_
  obtain rfl := Option.some.inj H
  exact x_retG hk (rs := [.cell 2 66]) (vs := [.agg #[.slice A48 (t43).length c49, .bool p0.Wrapped]]) rfl ⟨⟨_, rfl, load_box tab rfl rfl f10.now (k := 0) rfl rfl⟩, trivial⟩ ⟨fun b_ => if b_ < w.heap.size then o b_ else (fun _ => R0) (o53 b_), A48, c49, rfl, hs.close0 o (fun _ => R0), hs.close_ft (o := o) (ρ := fun _ => R0) f50 (by decide) rfl, hc51⟩

/-! (*tidewrack/grid.Grid).Row -/
abbrev R_32 (LF R0 : Nat) (l_ : Nat) : Nat := if l_ = 1 then LF else if l_ = 5 then R0 else 0
abbrev R_33 (l_ : Nat) : Nat := if l_ = 6 then 4 else l_
abbrev R_34 (LF : Nat) (l_ : Nat) : Nat := if l_ = 1 then LF else 0
abbrev R_35 (l_ : Nat) : Nat := if l_ = 2 then 6 else l_
set_option maxHeartbeats 4000000 in
set_option maxRecDepth 20000 in
theorem grid_Grid_Row_calls (bp0 : Nat) (Ap0_0 : Option Addr) (cp0_0 : Nat) (p0 : T74) (p1 : Int) (w : World) (o : Nat → Nat) (LF : Nat) (Lp0 : Nat) (hp0 : Ft (Bx bp0 75 [.int .i64 p0.w, .slice Ap0_0 (p0.l).length cp0_0]) w o Lp0) (Lp0_0 : Nat) (hp0_0 : NRd dT65 Ap0_0 p0.l w o Lp0_0 LF) (hcp0_0 : (p0.l).length ≤ cp0_0) (hd0 : ([LF] : List Nat).Nodup) (hd1 : Lp0_0 ∉ [LF]) (hd2 : Lp0 ∉ [LF]) (R0 : Nat) (r : T65) (H : grid_Grid_Row p0 p1 = some r) :
    Calls Tryz.prog 67 #[.pointer (some ⟨bp0, 0, none⟩), .int .i64 p1] w (Ret fun v_ w' => ∃ o' : Nat → Nat, ∃ A0 : Option Addr, ∃ c0 : Nat, v_ = .agg #[.slice A0 (r.Cells).length c0, .bool r.Wrapped] ∧ St [] w o w' o' ∧ Ft (Own ET77 78 (.slice A0 (r.Cells).length c0) r.Cells) w' o' R0 ∧ (r.Cells).length ≤ c0) := by
  refine x_enter (vs := [.pointer (some ⟨bp0, 0, none⟩), .int .i64 p1]) Tryz.func67 rfl rfl rfl fun a hk => ?_
  obtain ⟨oi, hs0, h0, h1, hob, hoz, hoa⟩ := St.startM2 w o (m := 1) hd0 rfl
  have hs := hs0 []
  have f900000 := hp0_0.conv (fun P_ => h0 P_ _ hd1) (fun _ h_ => h1 0 1 h_ rfl rfl)
  have f900019 := h0 _ _ hd2 hp0
  clear h0 h1 hs0
  rw [grid_Grid_Row] at H
  refine x_seq ?_
  refine wpIn_region_lit ?_
  refine x_op hk rfl ?_
  refine op_alloc (o := oi) tab (t := 66) (cs := [.slice none 0 0, .bool false]) rfl rfl 2 fun bx4 w1 o2 st3 f5 => ?_
  replace f900000 := f900000.st st3 (by decide)
  replace f900019 := f900019.st st3 (by decide)
  replace hs := hs.locQ st3 hob rfl
  have hk := hk.put 4 (.pointer (some ⟨bx4, 0, none⟩)) rfl
  refine wpListIn_nil ?_
  refine then_n ?_
  refine x_mid (fun a_ w_ => ∃ o24 : Nat → Nat, Kn 25 a_ [(0, .pointer (some ⟨bp0, 0, none⟩)), (1, .int .i64 p1), (4, .pointer (some ⟨bx4, 0, none⟩))] ∧ St [] w oi w_ o24 ∧ Ft (Bx bx4 66 [.slice none 0 0, .bool false]) w_ o24 4 ∧ NRd dT65 Ap0_0 p0.l w_ o24 0 1 ∧ Ft (Bx bp0 75 [.int .i64 p0.w, .slice Ap0_0 (p0.l).length cp0_0]) w_ o24 0 ∧ grid_Grid_Row_j1 p0 p1 = some r) ?_ ?_
  rotate_left
  · rintro a w25 ⟨o24, hk, hs, f5, f900000, f900019, H⟩
    rw [grid_Grid_Row_j1] at H
    refine x_seq ?_
    refine wpIn_region_lit ?_
    obtain ⟨q26, H⟩ := ifS H
    obtain ⟨ad27, hAad27⟩ := NRd.addr f900000 q26
    have hk_C := hk
    have f5_C := f5
    have f900000_C := f900000
    have f900019_C := f900019
    subst hAad27
    have hk := hk_C
    clear hk_C
    have f5 := f5_C
    clear f5_C
    have f900000 := f900000_C
    clear f900000_C
    have f900019 := f900019_C
    clear f900019_C
    obtain ⟨A28, c29, f30, f31, hc32⟩ := elT65 f900000 (i := p1) q26
    refine x_run tab hk (k := 7) (lv := [.slice (some ad27) (p0.l).length cp0_0, .agg #[.slice A28 ((rdD zT65 p0.l p1).Cells).length c29, .bool ((rdD zT65 p0.l p1).Wrapped)]]) (ks := [4, 23]) (e' := [(4, .pointer (some ⟨bx4, 0, none⟩)), (23, .agg #[.slice A28 ((rdD zT65 p0.l p1).Cells).length c29, .bool ((rdD zT65 p0.l p1).Wrapped)])]) rfl ⟨(load1 tab rfl ((Bx.cell f900019.now 1).trans rfl)), q26, (CellsAt.all f30.now tab rfl rfl rfl), trivial⟩ fun a hk => ?_
    refine x_op hk rfl ?_
    obtain ⟨t36, hc37, H⟩ := bindS H
    refine op_call hk ent_92 (vs := [.agg #[.slice A28 ((rdD zT65 p0.l p1).Cells).length c29, .bool ((rdD zT65 p0.l p1).Wrapped)]]) rfl (grid_own_calls A28 c29 (rdD zT65 p0.l p1) _ o24 _ f31 hc32 5  _ hc37) ?_
    rintro _ w38 ⟨o39, A41, c42, rfl, st40, f43, hc44⟩
    replace f31 := f31.st st40 (by decide)
    replace f5 := f5.st st40 (by decide)
    replace f900000 := f900000.st st40 (by decide)
    replace f900019 := f900019.st st40 (by decide)
    replace hs := hs.locQ st40 hob rfl
    have hk := hk.put 24 (.agg #[.slice A41 (t36.Cells).length c42, .bool t36.Wrapped]) rfl
    refine x_op hk rfl ?_
    refine op_store tab hk (t := 66) (v := .agg #[.slice A41 (t36.Cells).length c42, .bool t36.Wrapped]) (b := bx4) (k := 0) (cs' := [.slice A41 (t36.Cells).length c42, .bool t36.Wrapped]) rfl rfl rfl rfl rfl rfl f5 rfl rfl fun w45 o46 st47 f5_ => ?_
    replace f31 := f31.st st47 (by decide)
    replace f43 := f43.st st47 (by decide)
    replace f900000 := f900000.st st47 (by decide)
    replace f900019 := f900019.st st47 (by decide)
    replace hs := hs.locQ st47 hob rfl
    replace f5 := f5_
    refine wpListIn_nil ?_
    refine then_n ?_
    refine wpIn_ret ?_
    obtain rfl := Option.some.inj H
    exact x_retG hk (rs := [.cell 4 66]) (vs := [.agg #[.slice A41 (t36.Cells).length c42, .bool t36.Wrapped]]) rfl ⟨⟨_, rfl, load_box tab rfl rfl f5.now (k := 0) rfl rfl⟩, trivial⟩ ⟨cl w oi o [] (R_32 LF R0) o46, A41, c42, rfl, hs.closeF (Lm := []) (Sh := []) hoa rfl (R_32 LF R0), hs.closeM_ft (o := o) (ρ := R_32 LF R0) f43 (lab_none hob rfl) rfl, hc44⟩
  refine x_mid (fun a_ w_ => ∃ o55 : Nat → Nat, ∃ x56 : Bool, Kn 25 a_ [(0, .pointer (some ⟨bp0, 0, none⟩)), (1, .int .i64 p1), (4, .pointer (some ⟨bx4, 0, none⟩)), (15, .bool x56)] ∧ St [] w oi w_ o55 ∧ Ft (Bx bx4 66 [.slice none 0 0, .bool false]) w_ o55 6 ∧ NRd dT65 Ap0_0 p0.l w_ o55 0 1 ∧ Ft (Bx bp0 75 [.int .i64 p0.w, .slice Ap0_0 (p0.l).length cp0_0]) w_ o55 0 ∧ grid_Grid_Row_j2 p0 p1 x56 = some r) ?_ ?_
  rotate_left
  · rintro a w57 ⟨o55, x56, hk, hs, f5, f900000, f900019, H⟩
    rw [grid_Grid_Row_j2] at H
    cases b58 : x56
    · rw [b58] at hk H
      replace H := bifF H
      refine x_if hk (b := false) rfl ?_
      refine (show Code.wpIn _ _ _ _ _ _ _ from ?_)
      refine wpIn_skip ?_
      refine then_n ?_
      exact ⟨(fun b_ => R_33 (o55 b_)), (by exact Kn.pick (ks := [0, 1, 4]) hk rfl), (hs.relabM hob R_33 (by decide)), (f5.relab R_33 rfl), (f900000.relab R_33 rfl), (f900019.relab R_33 rfl), H⟩
    · rw [b58] at hk H
      replace H := bifT H
      refine x_if hk (b := true) rfl ?_
      refine (show Code.wpIn _ _ _ _ _ _ _ from ?_)
      refine x_seq ?_
      refine wpIn_region_lit ?_
      refine x_run tab hk (k := 1) (lv := []) (ks := [4, 16]) (e' := [(4, .pointer (some ⟨bx4, 0, none⟩)), (16, .agg #[.slice none 0 0, .bool false])]) rfl trivial fun a hk => ?_
      refine x_op hk rfl ?_
      refine op_store tab hk (t := 66) (v := .agg #[.slice none 0 0, .bool false]) (b := bx4) (k := 0) (cs' := [.slice none 0 0, .bool false]) rfl rfl rfl rfl rfl rfl f5 rfl rfl fun w59 o60 st61 f5_ => ?_
      replace f900000 := f900000.st st61 (by decide)
      replace f900019 := f900019.st st61 (by decide)
      replace hs := hs.locQ st61 hob rfl
      replace f5 := f5_
      refine wpListIn_nil ?_
      refine then_n ?_
      refine wpIn_ret ?_
      refine then_r ?_
      obtain rfl := Option.some.inj H
      exact x_retG hk (rs := [.cell 4 66]) (vs := [.agg #[.slice none 0 0, .bool false]]) rfl ⟨⟨_, rfl, load_box tab rfl rfl f5.now (k := 0) rfl rfl⟩, trivial⟩ ⟨cl w oi o [] (R_34 LF) o60, none, 0, rfl, hs.closeF (Lm := []) (Sh := []) hoa rfl (R_34 LF), (Ft.of_all (fun _ => Own.nil _ _ _) _ _ _), (by simp)⟩
  refine wpIn_region_lit ?_
  refine x_run tab hk (k := 3) (lv := []) (ks := [0, 1, 4, 7]) (e' := [(0, .pointer (some ⟨bp0, 0, none⟩)), (1, .int .i64 p1), (4, .pointer (some ⟨bx4, 0, none⟩)), (7, .bool (decide (p1 < (0 : Int))))]) rfl trivial fun a hk => ?_
  cases b62 : (decide (p1 < (0 : Int)))
  · rw [b62] at hk H
    replace H := bifF H
    refine x_run tab hk (k := 8) (lv := [.slice Ap0_0 (p0.l).length cp0_0]) (ks := [0, 1, 4, 15]) (e' := [(0, .pointer (some ⟨bp0, 0, none⟩)), (1, .int .i64 p1), (4, .pointer (some ⟨bx4, 0, none⟩)), (15, .bool (decide (p1 ≥ ((p0.l).length : Int))))]) rfl ⟨(load1 tab rfl ((Bx.cell f900019.now 1).trans rfl)), trivial⟩ fun a hk => ?_
    refine wpListIn_nil ?_
    refine then_n ?_
    exact ⟨(fun b_ => R_35 (o2 b_)), (decide (p1 ≥ ((p0.l).length : Int))), (by exact Kn.pick (ks := [0, 1, 4, 15]) hk rfl), (hs.relabM hob R_35 (by decide)), (f5.relab R_35 rfl), (f900000.relab R_35 rfl), (f900019.relab R_35 rfl), H⟩
  · rw [b62] at hk H
    replace H := bifT H
    refine x_run tab hk (k := 8) (lv := []) (ks := [0, 1, 4, 15]) (e' := [(0, .pointer (some ⟨bp0, 0, none⟩)), (1, .int .i64 p1), (4, .pointer (some ⟨bx4, 0, none⟩)), (15, .bool true)]) rfl trivial fun a hk => ?_
    refine wpListIn_nil ?_
    refine then_n ?_
    exact ⟨(fun b_ => R_35 (o2 b_)), true, (by exact Kn.pick (ks := [0, 1, 4, 15]) hk rfl), (hs.relabM hob R_35 (by decide)), (f5.relab R_35 rfl), (f900000.relab R_35 rfl), (f900019.relab R_35 rfl), H⟩

end Go.Proofs.YtpciioffkjpieaaGreatDoor
