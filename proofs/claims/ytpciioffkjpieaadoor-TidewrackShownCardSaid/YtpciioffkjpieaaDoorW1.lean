/- Walks, printed by an own program: the machine's calls compute the plain functions. -/
import Derived.Test.YtpciioffkjpieaaDoorW0
set_option linter.unusedVariables false
set_option linter.unusedSimpArgs false
namespace Go.Proofs.YtpciioffkjpieaaDoor
open Go Go.Proofs.XC
/-! tidewrack/row.clip -/
theorem row_clip_calls (p0 : Int) (p1 : Int) (p2 : Int) (w : World) (o : Nat → Nat)   (r : Int) (H : row_clip p0 p1 p2 = some r) :
    Calls Tryd.prog 41 #[.int .i64 p0, .int .i64 p1, .int .i64 p2] w (Ret fun v_ w' => ∃ o' : Nat → Nat, v_ = .int .i64 r ∧ St [] w o w' o') := by
  refine x_enter (vs := [.int .i64 p0, .int .i64 p1, .int .i64 p2]) Tryd.func41 rfl rfl rfl fun a hk => ?_
  obtain ⟨o0, hs, h0⟩ := St.start w o
  clear h0
  rw [row_clip] at H
  refine x_seq ?_
  refine wpIn_region_lit ?_
  refine x_run tab hk (k := 1) (lv := []) (ks := [0, 1, 2]) (e' := [(0, .int .i64 p0), (1, .int .i64 p1), (2, .int .i64 p2)]) rfl trivial fun a hk => ?_
  refine wpListIn_nil ?_
  refine then_n ?_
  refine x_seq ?_
  refine wpIn_region_lit ?_
  refine x_run tab hk (k := 6) (lv := []) (ks := [6]) (e' := [(6, .int .i64 (mxI p1 (mnI p0 p2)))]) rfl trivial fun a hk => ?_
  refine wpListIn_nil ?_
  refine then_n ?_
  refine wpIn_ret ?_
  obtain rfl := Option.some.inj H
  exact x_retG hk (rs := [.tmp 6]) (vs := [.int .i64 (mxI p1 (mnI p0 p2))]) rfl ⟨rfl, trivial⟩ ⟨fun b_ => if b_ < w.heap.size then o b_ else (fun _ => 0) (o0 b_), rfl, hs.close0 o (fun _ => 0)⟩

/-! tidewrack/row.blank -/
theorem row_blank_calls (p0 : Int) (w : World) (o : Nat → Nat)   (r : T111) (H : row_blank p0 = some r) :
    Calls Tryd.prog 43 #[.int .i64 p0] w (Ret fun v_ w' => ∃ o' : Nat → Nat, v_ = .agg #[.int .i32 r.Rune, .int .i64 r.Style, .int .i64 r.Part] ∧ St [] w o w' o') := by
  refine x_enter (vs := [.int .i64 p0]) Tryd.func43 rfl rfl rfl fun a hk => ?_
  obtain ⟨o0, hs, h0⟩ := St.start w o
  clear h0
  rw [row_blank] at H
  refine x_seq ?_
  refine wpIn_region_lit ?_
  refine x_op hk rfl ?_
  refine op_alloc (o := o0) tab (t := 112) (cs := [.int .i32 0, .int .i64 0, .int .i64 0]) rfl rfl 1 fun bx4 w1 o2 st3 f5 => ?_
  replace hs := hs.loc0 st3 (by decide)
  have hk := hk.put 2 (.pointer (some ⟨bx4, 0, none⟩)) rfl
  refine wpListIn_nil ?_
  refine then_n ?_
  refine x_seq ?_
  refine wpIn_region_lit ?_
  refine x_run tab hk (k := 2) (lv := []) (ks := [2, 4]) (e' := [(2, .pointer (some ⟨bx4, 0, none⟩)), (4, .agg #[.int .i32 32, .int .i64 p0, .int .i64 0])]) rfl trivial fun a hk => ?_
  refine x_op hk rfl ?_
  refine op_store tab hk (t := 112) (v := .agg #[.int .i32 32, .int .i64 p0, .int .i64 0]) (b := bx4) (k := 0) (cs' := [.int .i32 32, .int .i64 p0, .int .i64 0]) rfl rfl rfl rfl rfl rfl f5 rfl rfl fun w6 o7 st8 f5_ => ?_
  replace hs := hs.loc0 st8 (by decide)
  replace f5 := f5_
  refine wpListIn_nil ?_
  refine then_n ?_
  refine wpIn_ret ?_
  obtain rfl := Option.some.inj H
  exact x_retG hk (rs := [.cell 2 112]) (vs := [.agg #[.int .i32 32, .int .i64 p0, .int .i64 0]]) rfl ⟨⟨_, rfl, load_box tab rfl rfl f5.now (k := 0) rfl rfl⟩, trivial⟩ ⟨fun b_ => if b_ < w.heap.size then o b_ else (fun _ => 0) (o7 b_), rfl, hs.close0 o (fun _ => 0)⟩

/-! math/bits.Mul32 -/
theorem bits_Mul32_calls (p0 : Int) (p1 : Int) (w : World) (o : Nat → Nat)   (r : Int × Int) (H : bits_Mul32 p0 p1 = some r) :
    Calls Tryd.prog 117 #[.int .u32 p0, .int .u32 p1] w (Ret fun v_ w' => ∃ o' : Nat → Nat, v_ = .tuple #[.int .u32 r.1, .int .u32 r.2] ∧ St [] w o w' o') := by
  refine x_enter (vs := [.int .u32 p0, .int .u32 p1]) Tryd.func117 rfl rfl rfl fun a hk => ?_
  obtain ⟨o0, hs, h0⟩ := St.start w o
  clear h0
  rw [bits_Mul32] at H
  refine x_seq ?_
  refine wpIn_region_lit ?_
  refine x_run tab hk (k := 2) (lv := []) (ks := [0, 1]) (e' := [(0, .int .u32 p0), (1, .int .u32 p1)]) rfl trivial fun a hk => ?_
  refine wpListIn_nil ?_
  refine then_n ?_
  refine x_seq ?_
  refine wpIn_region_lit ?_
  refine x_run tab hk (k := 6) (lv := []) (ks := [6]) (e' := [(6, .int .u64 (IntKind.wrap .u64 ((IntKind.wrap .u64 p0) * (IntKind.wrap .u64 p1))))]) rfl trivial fun a hk => ?_
  refine wpListIn_nil ?_
  refine then_n ?_
  refine x_seq ?_
  refine wpIn_region_lit ?_
  refine x_run tab hk (k := 7) (lv := []) (ks := [4, 5]) (e' := [(4, .int .u32 (IntKind.wrap .u32 (Int.fdiv (IntKind.wrap .u64 ((IntKind.wrap .u64 p0) * (IntKind.wrap .u64 p1))) (2 ^ min (Int.toNat 32) 64)))), (5, .int .u32 (IntKind.wrap .u32 (IntKind.wrap .u64 ((IntKind.wrap .u64 p0) * (IntKind.wrap .u64 p1)))))]) rfl ⟨(show 0 ≤ (32 : Int) from by decide), trivial⟩ fun a hk => ?_
  refine wpListIn_nil ?_
  refine then_n ?_
  refine wpIn_ret ?_
  obtain rfl := Option.some.inj H
  exact x_retG hk (rs := [.tmp 4, .tmp 5]) (vs := [.int .u32 (IntKind.wrap .u32 (Int.fdiv (IntKind.wrap .u64 ((IntKind.wrap .u64 p0) * (IntKind.wrap .u64 p1))) (2 ^ min (Int.toNat 32) 64))), .int .u32 (IntKind.wrap .u32 (IntKind.wrap .u64 ((IntKind.wrap .u64 p0) * (IntKind.wrap .u64 p1))))]) rfl ⟨rfl, rfl, trivial⟩ ⟨fun b_ => if b_ < w.heap.size then o b_ else (fun _ => 0) (o0 b_), rfl, hs.close0 o (fun _ => 0)⟩

/-! math/bits.Mul64 -/
theorem bits_Mul64_calls (p0 : Int) (p1 : Int) (w : World) (o : Nat → Nat)   (r : Int × Int) (H : bits_Mul64 p0 p1 = some r) :
    Calls Tryd.prog 118 #[.int .u64 p0, .int .u64 p1] w (Ret fun v_ w' => ∃ o' : Nat → Nat, v_ = .tuple #[.int .u64 r.1, .int .u64 r.2] ∧ St [] w o w' o') := by
  refine x_enter (vs := [.int .u64 p0, .int .u64 p1]) Tryd.func118 rfl rfl rfl fun a hk => ?_
  obtain ⟨o0, hs, h0⟩ := St.start w o
  clear h0
  rw [bits_Mul64] at H
  refine x_seq ?_
  refine wpIn_region_lit ?_
  refine x_run tab hk (k := 2) (lv := []) (ks := [0, 1]) (e' := [(0, .int .u64 p0), (1, .int .u64 p1)]) rfl trivial fun a hk => ?_
  refine wpListIn_nil ?_
  refine then_n ?_
  refine x_seq ?_
  refine wpIn_region_lit ?_
  refine x_run tab hk (k := 3) (lv := []) (ks := [0, 1, 6]) (e' := [(0, .int .u64 p0), (1, .int .u64 p1), (6, .int .u64 (bits .and .u64 p0 4294967295))]) rfl trivial fun a hk => ?_
  refine wpListIn_nil ?_
  refine then_n ?_
  refine x_seq ?_
  refine wpIn_region_lit ?_
  refine x_run tab hk (k := 3) (lv := []) (ks := [0, 1, 6, 7]) (e' := [(0, .int .u64 p0), (1, .int .u64 p1), (6, .int .u64 (bits .and .u64 p0 4294967295)), (7, .int .u64 (Int.fdiv p0 (2 ^ min (Int.toNat 32) 64)))]) rfl ⟨(show 0 ≤ (32 : Int) from by decide), trivial⟩ fun a hk => ?_
  refine wpListIn_nil ?_
  refine then_n ?_
  refine x_seq ?_
  refine wpIn_region_lit ?_
  refine x_run tab hk (k := 3) (lv := []) (ks := [0, 1, 6, 7, 8]) (e' := [(0, .int .u64 p0), (1, .int .u64 p1), (6, .int .u64 (bits .and .u64 p0 4294967295)), (7, .int .u64 (Int.fdiv p0 (2 ^ min (Int.toNat 32) 64))), (8, .int .u64 (bits .and .u64 p1 4294967295))]) rfl trivial fun a hk => ?_
  refine wpListIn_nil ?_
  refine then_n ?_
  refine x_seq ?_
  refine wpIn_region_lit ?_
  refine x_run tab hk (k := 3) (lv := []) (ks := [0, 1, 6, 7, 8, 9]) (e' := [(0, .int .u64 p0), (1, .int .u64 p1), (6, .int .u64 (bits .and .u64 p0 4294967295)), (7, .int .u64 (Int.fdiv p0 (2 ^ min (Int.toNat 32) 64))), (8, .int .u64 (bits .and .u64 p1 4294967295)), (9, .int .u64 (Int.fdiv p1 (2 ^ min (Int.toNat 32) 64)))]) rfl ⟨(show 0 ≤ (32 : Int) from by decide), trivial⟩ fun a hk => ?_
  refine wpListIn_nil ?_
  refine then_n ?_
  refine x_seq ?_
  refine wpIn_region_lit ?_
  refine x_run tab hk (k := 4) (lv := []) (ks := [0, 1, 6, 7, 8, 9, 10]) (e' := [(0, .int .u64 p0), (1, .int .u64 p1), (6, .int .u64 (bits .and .u64 p0 4294967295)), (7, .int .u64 (Int.fdiv p0 (2 ^ min (Int.toNat 32) 64))), (8, .int .u64 (bits .and .u64 p1 4294967295)), (9, .int .u64 (Int.fdiv p1 (2 ^ min (Int.toNat 32) 64))), (10, .int .u64 (IntKind.wrap .u64 ((bits .and .u64 p0 4294967295) * (bits .and .u64 p1 4294967295))))]) rfl trivial fun a hk => ?_
  refine wpListIn_nil ?_
  refine then_n ?_
  refine x_seq ?_
  refine wpIn_region_lit ?_
  refine x_run tab hk (k := 7) (lv := []) (ks := [0, 1, 6, 7, 9, 11]) (e' := [(0, .int .u64 p0), (1, .int .u64 p1), (6, .int .u64 (bits .and .u64 p0 4294967295)), (7, .int .u64 (Int.fdiv p0 (2 ^ min (Int.toNat 32) 64))), (9, .int .u64 (Int.fdiv p1 (2 ^ min (Int.toNat 32) 64))), (11, .int .u64 (IntKind.wrap .u64 ((IntKind.wrap .u64 ((Int.fdiv p0 (2 ^ min (Int.toNat 32) 64)) * (bits .and .u64 p1 4294967295))) + (Int.fdiv (IntKind.wrap .u64 ((bits .and .u64 p0 4294967295) * (bits .and .u64 p1 4294967295))) (2 ^ min (Int.toNat 32) 64)))))]) rfl ⟨(show 0 ≤ (32 : Int) from by decide), trivial⟩ fun a hk => ?_
  refine wpListIn_nil ?_
  refine then_n ?_
  refine x_seq ?_
  refine wpIn_region_lit ?_
  refine x_run tab hk (k := 3) (lv := []) (ks := [0, 1, 6, 7, 9, 11, 12]) (e' := [(0, .int .u64 p0), (1, .int .u64 p1), (6, .int .u64 (bits .and .u64 p0 4294967295)), (7, .int .u64 (Int.fdiv p0 (2 ^ min (Int.toNat 32) 64))), (9, .int .u64 (Int.fdiv p1 (2 ^ min (Int.toNat 32) 64))), (11, .int .u64 (IntKind.wrap .u64 ((IntKind.wrap .u64 ((Int.fdiv p0 (2 ^ min (Int.toNat 32) 64)) * (bits .and .u64 p1 4294967295))) + (Int.fdiv (IntKind.wrap .u64 ((bits .and .u64 p0 4294967295) * (bits .and .u64 p1 4294967295))) (2 ^ min (Int.toNat 32) 64))))), (12, .int .u64 (bits .and .u64 (IntKind.wrap .u64 ((IntKind.wrap .u64 ((Int.fdiv p0 (2 ^ min (Int.toNat 32) 64)) * (bits .and .u64 p1 4294967295))) + (Int.fdiv (IntKind.wrap .u64 ((bits .and .u64 p0 4294967295) * (bits .and .u64 p1 4294967295))) (2 ^ min (Int.toNat 32) 64)))) 4294967295))]) rfl trivial fun a hk => ?_
  refine wpListIn_nil ?_
  refine then_n ?_
  refine x_seq ?_
  refine wpIn_region_lit ?_
  refine x_run tab hk (k := 3) (lv := []) (ks := [0, 1, 6, 7, 9, 12, 13]) (e' := [(0, .int .u64 p0), (1, .int .u64 p1), (6, .int .u64 (bits .and .u64 p0 4294967295)), (7, .int .u64 (Int.fdiv p0 (2 ^ min (Int.toNat 32) 64))), (9, .int .u64 (Int.fdiv p1 (2 ^ min (Int.toNat 32) 64))), (12, .int .u64 (bits .and .u64 (IntKind.wrap .u64 ((IntKind.wrap .u64 ((Int.fdiv p0 (2 ^ min (Int.toNat 32) 64)) * (bits .and .u64 p1 4294967295))) + (Int.fdiv (IntKind.wrap .u64 ((bits .and .u64 p0 4294967295) * (bits .and .u64 p1 4294967295))) (2 ^ min (Int.toNat 32) 64)))) 4294967295)), (13, .int .u64 (Int.fdiv (IntKind.wrap .u64 ((IntKind.wrap .u64 ((Int.fdiv p0 (2 ^ min (Int.toNat 32) 64)) * (bits .and .u64 p1 4294967295))) + (Int.fdiv (IntKind.wrap .u64 ((bits .and .u64 p0 4294967295) * (bits .and .u64 p1 4294967295))) (2 ^ min (Int.toNat 32) 64)))) (2 ^ min (Int.toNat 32) 64)))]) rfl ⟨(show 0 ≤ (32 : Int) from by decide), trivial⟩ fun a hk => ?_
  refine wpListIn_nil ?_
  refine then_n ?_
  refine x_seq ?_
  refine wpIn_region_lit ?_
  refine x_run tab hk (k := 6) (lv := []) (ks := [0, 1, 7, 9, 12, 13]) (e' := [(0, .int .u64 p0), (1, .int .u64 p1), (7, .int .u64 (Int.fdiv p0 (2 ^ min (Int.toNat 32) 64))), (9, .int .u64 (Int.fdiv p1 (2 ^ min (Int.toNat 32) 64))), (12, .int .u64 (IntKind.wrap .u64 ((bits .and .u64 (IntKind.wrap .u64 ((IntKind.wrap .u64 ((Int.fdiv p0 (2 ^ min (Int.toNat 32) 64)) * (bits .and .u64 p1 4294967295))) + (Int.fdiv (IntKind.wrap .u64 ((bits .and .u64 p0 4294967295) * (bits .and .u64 p1 4294967295))) (2 ^ min (Int.toNat 32) 64)))) 4294967295) + (IntKind.wrap .u64 ((bits .and .u64 p0 4294967295) * (Int.fdiv p1 (2 ^ min (Int.toNat 32) 64))))))), (13, .int .u64 (Int.fdiv (IntKind.wrap .u64 ((IntKind.wrap .u64 ((Int.fdiv p0 (2 ^ min (Int.toNat 32) 64)) * (bits .and .u64 p1 4294967295))) + (Int.fdiv (IntKind.wrap .u64 ((bits .and .u64 p0 4294967295) * (bits .and .u64 p1 4294967295))) (2 ^ min (Int.toNat 32) 64)))) (2 ^ min (Int.toNat 32) 64)))]) rfl trivial fun a hk => ?_
  refine wpListIn_nil ?_
  refine then_n ?_
  refine x_seq ?_
  refine wpIn_region_lit ?_
  refine x_run tab hk (k := 9) (lv := []) (ks := [0, 1, 4]) (e' := [(0, .int .u64 p0), (1, .int .u64 p1), (4, .int .u64 (IntKind.wrap .u64 ((IntKind.wrap .u64 ((IntKind.wrap .u64 ((Int.fdiv p0 (2 ^ min (Int.toNat 32) 64)) * (Int.fdiv p1 (2 ^ min (Int.toNat 32) 64)))) + (Int.fdiv (IntKind.wrap .u64 ((IntKind.wrap .u64 ((Int.fdiv p0 (2 ^ min (Int.toNat 32) 64)) * (bits .and .u64 p1 4294967295))) + (Int.fdiv (IntKind.wrap .u64 ((bits .and .u64 p0 4294967295) * (bits .and .u64 p1 4294967295))) (2 ^ min (Int.toNat 32) 64)))) (2 ^ min (Int.toNat 32) 64)))) + (Int.fdiv (IntKind.wrap .u64 ((bits .and .u64 (IntKind.wrap .u64 ((IntKind.wrap .u64 ((Int.fdiv p0 (2 ^ min (Int.toNat 32) 64)) * (bits .and .u64 p1 4294967295))) + (Int.fdiv (IntKind.wrap .u64 ((bits .and .u64 p0 4294967295) * (bits .and .u64 p1 4294967295))) (2 ^ min (Int.toNat 32) 64)))) 4294967295) + (IntKind.wrap .u64 ((bits .and .u64 p0 4294967295) * (Int.fdiv p1 (2 ^ min (Int.toNat 32) 64)))))) (2 ^ min (Int.toNat 32) 64)))))]) rfl ⟨(show 0 ≤ (32 : Int) from by decide), trivial⟩ fun a hk => ?_
  refine wpListIn_nil ?_
  refine then_n ?_
  refine x_seq ?_
  refine wpIn_region_lit ?_
  refine x_run tab hk (k := 4) (lv := []) (ks := [4, 5]) (e' := [(4, .int .u64 (IntKind.wrap .u64 ((IntKind.wrap .u64 ((IntKind.wrap .u64 ((Int.fdiv p0 (2 ^ min (Int.toNat 32) 64)) * (Int.fdiv p1 (2 ^ min (Int.toNat 32) 64)))) + (Int.fdiv (IntKind.wrap .u64 ((IntKind.wrap .u64 ((Int.fdiv p0 (2 ^ min (Int.toNat 32) 64)) * (bits .and .u64 p1 4294967295))) + (Int.fdiv (IntKind.wrap .u64 ((bits .and .u64 p0 4294967295) * (bits .and .u64 p1 4294967295))) (2 ^ min (Int.toNat 32) 64)))) (2 ^ min (Int.toNat 32) 64)))) + (Int.fdiv (IntKind.wrap .u64 ((bits .and .u64 (IntKind.wrap .u64 ((IntKind.wrap .u64 ((Int.fdiv p0 (2 ^ min (Int.toNat 32) 64)) * (bits .and .u64 p1 4294967295))) + (Int.fdiv (IntKind.wrap .u64 ((bits .and .u64 p0 4294967295) * (bits .and .u64 p1 4294967295))) (2 ^ min (Int.toNat 32) 64)))) 4294967295) + (IntKind.wrap .u64 ((bits .and .u64 p0 4294967295) * (Int.fdiv p1 (2 ^ min (Int.toNat 32) 64)))))) (2 ^ min (Int.toNat 32) 64))))), (5, .int .u64 (IntKind.wrap .u64 (p0 * p1)))]) rfl trivial fun a hk => ?_
  refine wpListIn_nil ?_
  refine then_n ?_
  refine wpIn_ret ?_
  obtain rfl := Option.some.inj H
  exact x_retG hk (rs := [.tmp 4, .tmp 5]) (vs := [.int .u64 (IntKind.wrap .u64 ((IntKind.wrap .u64 ((IntKind.wrap .u64 ((Int.fdiv p0 (2 ^ min (Int.toNat 32) 64)) * (Int.fdiv p1 (2 ^ min (Int.toNat 32) 64)))) + (Int.fdiv (IntKind.wrap .u64 ((IntKind.wrap .u64 ((Int.fdiv p0 (2 ^ min (Int.toNat 32) 64)) * (bits .and .u64 p1 4294967295))) + (Int.fdiv (IntKind.wrap .u64 ((bits .and .u64 p0 4294967295) * (bits .and .u64 p1 4294967295))) (2 ^ min (Int.toNat 32) 64)))) (2 ^ min (Int.toNat 32) 64)))) + (Int.fdiv (IntKind.wrap .u64 ((bits .and .u64 (IntKind.wrap .u64 ((IntKind.wrap .u64 ((Int.fdiv p0 (2 ^ min (Int.toNat 32) 64)) * (bits .and .u64 p1 4294967295))) + (Int.fdiv (IntKind.wrap .u64 ((bits .and .u64 p0 4294967295) * (bits .and .u64 p1 4294967295))) (2 ^ min (Int.toNat 32) 64)))) 4294967295) + (IntKind.wrap .u64 ((bits .and .u64 p0 4294967295) * (Int.fdiv p1 (2 ^ min (Int.toNat 32) 64)))))) (2 ^ min (Int.toNat 32) 64)))), .int .u64 (IntKind.wrap .u64 (p0 * p1))]) rfl ⟨rfl, rfl, trivial⟩ ⟨fun b_ => if b_ < w.heap.size then o b_ else (fun _ => 0) (o0 b_), rfl, hs.close0 o (fun _ => 0)⟩

/-! math/bits.Mul -/
theorem bits_Mul_calls (p0 : Int) (p1 : Int) (w : World) (o : Nat → Nat)   (r : Int × Int) (H : bits_Mul p0 p1 = some r) :
    Calls Tryd.prog 104 #[.int .u64 p0, .int .u64 p1] w (Ret fun v_ w' => ∃ o' : Nat → Nat, v_ = .tuple #[.int .u64 r.1, .int .u64 r.2] ∧ St [] w o w' o') := by
  refine x_enter (vs := [.int .u64 p0, .int .u64 p1]) Tryd.func104 rfl rfl rfl fun a hk => ?_
  obtain ⟨o0, hs, h0⟩ := St.start w o
  clear h0
  rw [bits_Mul] at H
  refine x_seq ?_
  refine wpIn_region_lit ?_
  refine x_run tab hk (k := 2) (lv := []) (ks := [0, 1]) (e' := [(0, .int .u64 p0), (1, .int .u64 p1)]) rfl trivial fun a hk => ?_
  refine wpListIn_nil ?_
  refine then_n ?_
  refine x_seq ?_
  refine x_if hk (b := false) rfl ?_
  refine (show Code.wpIn _ _ _ _ _ _ _ from ?_)
  refine wpIn_skip ?_
  refine then_n ?_
  refine x_seq ?_
  refine wpIn_region_lit ?_
  refine x_run tab hk (k := 2) (lv := []) (ks := [23, 24]) (e' := [(23, .int .u64 p0), (24, .int .u64 p1)]) rfl trivial fun a hk => ?_
  refine x_op hk rfl ?_
  obtain ⟨t4, hc5, H⟩ := bindS H
  refine op_call hk ent_118 (vs := [.int .u64 p0, .int .u64 p1]) rfl (bits_Mul64_calls p0 p1 _ o0    _ hc5) ?_
  rintro _ w6 ⟨o7, rfl, st8⟩
  replace hs := hs.loc0 st8 (by decide)
  have hk := hk.put 25 (.tuple #[.int .u64 t4.1, .int .u64 t4.2]) rfl
  refine x_run tab hk (k := 5) (lv := []) (ks := [8, 9]) (e' := [(8, .int .u64 t4.1), (9, .int .u64 t4.2)]) rfl trivial fun a hk => ?_
  refine wpListIn_nil ?_
  refine then_n ?_
  refine x_seq ?_
  refine wpIn_region_lit ?_
  refine x_run tab hk (k := 4) (lv := []) (ks := [4, 5]) (e' := [(4, .int .u64 t4.1), (5, .int .u64 t4.2)]) rfl trivial fun a hk => ?_
  refine wpListIn_nil ?_
  refine then_n ?_
  refine wpIn_ret ?_
  obtain rfl := Option.some.inj H
  exact x_retG hk (rs := [.tmp 4, .tmp 5]) (vs := [.int .u64 t4.1, .int .u64 t4.2]) rfl ⟨rfl, rfl, trivial⟩ ⟨fun b_ => if b_ < w.heap.size then o b_ else (fun _ => 0) (o7 b_), rfl, hs.close0 o (fun _ => 0)⟩

/-! slices.Repeat[[]tidewrack/row.Cell,tidewrack/row.Cell] -/
theorem slices_Repeat_calls (K : Nat) (Ap0 : Option Addr) (cp0 : Nat) (p0 : List T111) (p1 : Int) (w : World) (o : Nat → Nat) (Lp0 : Nat) (hp0 : Ft (RdC ET111 Ap0 p0) w o Lp0) (hcp0 : (p0).length ≤ cp0)  (R0 : Nat) (r : List T111) (H : slices_Repeat K p0 p1 = some r) :
    Calls Tryd.prog 74 #[.slice Ap0 (p0).length cp0, .int .i64 p1] w (Ret fun v_ w' => ∃ o' : Nat → Nat, ∃ A0 : Option Addr, ∃ c0 : Nat, v_ = .slice A0 (r).length c0 ∧ St [] w o w' o' ∧ Ft (Own ET111 112 (.slice A0 (r).length c0) (r)) w' o' R0 ∧ (r).length ≤ c0) := by
  refine x_enter (vs := [.slice Ap0 (p0).length cp0, .int .i64 p1]) Tryd.func74 rfl rfl rfl fun a hk => ?_
  obtain ⟨o0, hs, h0⟩ := St.start w o
  have f900000 := h0 _ _ hp0
  clear h0
  rw [slices_Repeat] at H
  refine x_seq ?_
  refine wpIn_region_lit ?_
  refine x_run tab hk (k := 1) (lv := []) (ks := [0, 1]) (e' := [(0, .slice Ap0 (p0).length cp0), (1, .int .i64 p1)]) rfl trivial fun a hk => ?_
  refine wpListIn_nil ?_
  refine then_n ?_
  refine x_mid (fun a_ w_ => ∃ o5 : Nat → Nat, Kn 48 a_ [(0, .slice Ap0 (p0).length cp0), (1, .int .i64 p1)] ∧ St [] w (fun _ => 0) w_ o5 ∧ Ft (RdC ET111 Ap0 p0) w_ o5 0 ∧ slices_Repeat_j1 K p0 p1 = some r) ?_ ?_
  rotate_left
  · rintro a w6 ⟨o5, hk, hs, f900000, H⟩
    rw [slices_Repeat_j1] at H
    refine x_seq ?_
    refine wpIn_region_lit ?_
    refine x_run tab hk (k := 5) (lv := []) (ks := [0, 15, 17]) (e' := [(0, .slice Ap0 (p0).length cp0), (15, .int .u64 (IntKind.wrap .u64 ((p0).length : Int))), (17, .int .u64 (IntKind.wrap .u64 p1))]) rfl trivial fun a hk => ?_
    refine x_op hk rfl ?_
    obtain ⟨t10, hc11, H⟩ := bindS H
    refine op_call hk ent_104 (vs := [.int .u64 (IntKind.wrap .u64 ((p0).length : Int)), .int .u64 (IntKind.wrap .u64 p1)]) rfl (bits_Mul_calls (IntKind.wrap .u64 ((p0).length : Int)) (IntKind.wrap .u64 p1) _ o5    _ hc11) ?_
    rintro _ w12 ⟨o13, rfl, st14⟩
    replace f900000 := f900000.st st14 (by decide)
    replace hs := hs.loc0 st14 (by decide)
    have hk := hk.put 18 (.tuple #[.int .u64 t10.1, .int .u64 t10.2]) rfl
    refine x_run tab hk (k := 5) (lv := []) (ks := [0, 5, 6]) (e' := [(0, .slice Ap0 (p0).length cp0), (5, .int .u64 t10.1), (6, .int .u64 t10.2)]) rfl trivial fun a hk => ?_
    refine wpListIn_nil ?_
    refine then_n ?_
    refine x_mid (fun a_ w_ => ∃ o30 : Nat → Nat, Kn 48 a_ [(0, .slice Ap0 (p0).length cp0), (6, .int .u64 t10.2)] ∧ St [] w (fun _ => 0) w_ o30 ∧ Ft (RdC ET111 Ap0 p0) w_ o30 0 ∧ slices_Repeat_j2 K p0 t10 = some r) ?_ ?_
    rotate_left
    · rintro a w31 ⟨o30, hk, hs, f900000, H⟩
      rw [slices_Repeat_j2] at H
      refine x_seq ?_
      refine wpIn_region_lit ?_
      refine x_run tab hk (k := 2) (lv := []) (ks := [0, 29]) (e' := [(0, .slice Ap0 (p0).length cp0), (29, .int .i64 (IntKind.wrap .i64 t10.2))]) rfl trivial fun a hk => ?_
      refine x_op hk rfl ?_
      obtain ⟨q35, H⟩ := ifS H
      obtain ⟨q36, H⟩ := ifS H
      refine op_make (o := o30) (E := ET111) (zx := zT111) tab hk rfl rfl rfl rfl rfl q35 q36 1 fun A37 c38 w32 o33 st34 f39 hc40 => ?_
      replace f900000 := f900000.st st34 (by decide)
      replace hs := hs.loc0 st34 (by decide)
      have hk := hk.put 30 (.slice A37 ((List.replicate (Int.toNat (IntKind.wrap .i64 t10.2)) (zT111 : T111))).length c38) rfl
      refine x_run tab hk (k := 1) (lv := []) (ks := [0, 7]) (e' := [(0, .slice Ap0 (p0).length cp0), (7, .slice A37 ((List.replicate (Int.toNat (IntKind.wrap .i64 t10.2)) (zT111 : T111))).length c38)]) rfl trivial fun a hk => ?_
      refine wpListIn_nil ?_
      refine then_n ?_
      refine x_seq ?_
      refine wpIn_region_lit ?_
      refine x_run tab hk (k := 2) (lv := []) (ks := [7, 31, 32]) (e' := [(7, .slice A37 ((List.replicate (Int.toNat (IntKind.wrap .i64 t10.2)) (zT111 : T111))).length c38), (31, .slice A37 ((List.replicate (Int.toNat (IntKind.wrap .i64 t10.2)) (zT111 : T111))).length c38), (32, .slice Ap0 (p0).length cp0)]) rfl trivial fun a hk => ?_
      refine x_op hk rfl ?_
      refine op_copy0 tab hk (E := ET111) (xs := (List.replicate (Int.toNat (IntKind.wrap .i64 t10.2)) (zT111 : T111))) (ys := p0) rfl rfl hc40 rfl rfl f39 f900000.now fun w41 st43 f39_ => ?_
      replace f900000 := f900000.st st43 (by decide)
      replace hs := hs.loc0 st43 (by decide)
      replace f39 := f39_
      have hl44 : (cpy 0 (List.replicate (Int.toNat (IntKind.wrap .i64 t10.2)) (zT111 : T111)) p0).length = ((List.replicate (Int.toNat (IntKind.wrap .i64 t10.2)) (zT111 : T111))).length := cpy_len (Nat.zero_le _)
      replace hk := Kn.re hk [7, 31, 32] (e2 := [(7, .slice A37 ((cpy 0 (List.replicate (Int.toNat (IntKind.wrap .i64 t10.2)) (zT111 : T111)) p0)).length c38), (31, .slice A37 ((cpy 0 (List.replicate (Int.toNat (IntKind.wrap .i64 t10.2)) (zT111 : T111)) p0)).length c38), (32, .slice Ap0 (p0).length cp0)]) rfl (by rw [hl44])
      have hk := hk.put 33 (.int .i64 ((min (p0).length (((List.replicate (Int.toNat (IntKind.wrap .i64 t10.2)) (zT111 : T111))).length - 0) : Nat) : Int)) rfl
      refine x_run tab hk (k := 1) (lv := []) (ks := [7, 8]) (e' := [(7, .slice A37 ((cpy 0 (List.replicate (Int.toNat (IntKind.wrap .i64 t10.2)) (zT111 : T111)) p0)).length c38), (8, .int .i64 ((min (p0).length (((List.replicate (Int.toNat (IntKind.wrap .i64 t10.2)) (zT111 : T111))).length - 0) : Nat) : Int))]) rfl trivial fun a hk => ?_
      refine wpListIn_nil ?_
      refine then_n ?_
      refine x_mid (fun a_ w_ => ∃ o177 : Nat → Nat, ∃ A178 : Option Addr, ∃ c179 : Nat, ∃ l180 : List T111, Kn 48 a_ [(7, .slice A178 (l180).length c179)] ∧ St [] w (fun _ => 0) w_ o177 ∧ Ft (Own ET111 112 (.slice A178 (l180).length c179) l180) w_ o177 4 ∧ (l180).length ≤ c179 ∧ slices_Repeat_j3 l180 = some r) ?_ ?_
      rotate_left
      · rintro a w183 ⟨o177, A178, c179, l180, hk, hs, f181, hc182, H⟩
        rw [slices_Repeat_j3] at H
        refine x_seq ?_
        refine wpIn_region_lit ?_
        refine x_run tab hk (k := 2) (lv := []) (ks := [4]) (e' := [(4, .slice A178 (l180).length c179)]) rfl trivial fun a hk => ?_
        refine wpListIn_nil ?_
        refine then_n ?_
        refine wpIn_ret ?_
        obtain rfl := Option.some.inj H
        exact x_retG hk (rs := [.tmp 4]) (vs := [.slice A178 (l180).length c179]) rfl ⟨rfl, trivial⟩ ⟨fun b_ => if b_ < w.heap.size then o b_ else (fun _ => R0) (o177 b_), A178, c179, rfl, hs.close0 o (fun _ => R0), hs.close_ft (o := o) (ρ := fun _ => R0) f181 (by decide) rfl, hc182⟩
      refine wpIn_block ?_
      refine x_loop (fun j_ a_ w_ => ∃ o223 : Nat → Nat, ∃ A224 : Option Addr, ∃ c225 : Nat, ∃ l226 : List T111, ∃ x229 : Int, Kn 48 a_ [(7, .slice A224 (l226).length c225), (8, .int .i64 x229)] ∧ St [] w (fun _ => 0) w_ o223 ∧ Ft (Own ET111 112 (.slice A224 (l226).length c225) l226) w_ o223 6 ∧ (l226).length ≤ c225 ∧ slices_Repeat_l4 j_ l226 x229 = some r) (k := K) ⟨(fun b_ => (fun l_ => if l_ = 1 then 6 else l_) (o33 b_)), A37, c38, (cpy 0 (List.replicate (Int.toNat (IntKind.wrap .i64 t10.2)) (zT111 : T111)) p0), ((min (p0).length (((List.replicate (Int.toNat (IntKind.wrap .i64 t10.2)) (zT111 : T111))).length - 0) : Nat) : Int), (by exact Kn.pick (ks := [7, 8]) hk rfl), (hs.relab0 (fun l_ => if l_ = 1 then 6 else l_) rfl), (f39.relab (fun l_ => if l_ = 1 then 6 else l_) rfl), (by rw [cpy_len (Nat.zero_le _)]; exact hc40), H⟩ (by rintro _ _ ⟨_, _, _, _, _, _, _, _, _, H_⟩; exact absurd (show (none : Option (List T111)) = some r from H_) (by simp)) ?_
      rintro k267 a w266 ⟨o223, A224, c225, l226, x229, hk, hs, f227, hc228, H⟩
      rw [slices_Repeat_l4] at H
      obtain ⟨lp268, hlp269⟩ : ∃ lp_, lp_ = slices_Repeat_l4 k267 := ⟨_, rfl⟩
      rw [← hlp269] at H
      refine x_seq ?_
      refine x_seq ?_
      refine wpIn_region_lit ?_
      refine x_run tab hk (k := 4) (lv := []) (ks := [7, 8, 37]) (e' := [(7, .slice A224 (l226).length c225), (8, .int .i64 x229), (37, .bool (decide (x229 < ((l226).length : Int))))]) rfl trivial fun a hk => ?_
      refine wpListIn_nil ?_
      refine then_n ?_
      cases b270 : (decide (x229 < ((l226).length : Int)))
      · rw [b270] at hk H
        replace H := bifF H
        refine x_if hk (b := false) rfl ?_
        refine (show Code.wpIn _ _ _ _ _ _ _ from ?_)
        refine wpIn_exit ?_
        refine then_x ?_
        refine then_x ?_
        refine blk_x ?_
        refine then_n ?_
        exact ⟨(fun b_ => (fun l_ => if l_ = 6 then 4 else l_) (o223 b_)), A224, c225, l226, (by exact Kn.pick (ks := [7]) hk rfl), (hs.relab0 (fun l_ => if l_ = 6 then 4 else l_) rfl), (f227.relab (fun l_ => if l_ = 6 then 4 else l_) rfl), hc228, H⟩
      · rw [b270] at hk H
        replace H := bifT H
        refine x_if hk (b := true) rfl ?_
        refine (show Code.wpIn _ _ _ _ _ _ _ from ?_)
        refine wpIn_skip ?_
        refine then_n ?_
        refine wpIn_block ?_
        refine xd_begin (o := o223) (fun W_ => True) mixed rfl rfl fun w293 st294 => ?_
        replace f227 := f227.st st294 (by decide)
        replace hs := hs.loc0 st294 (by decide)
        obtain ⟨q295, H⟩ := ifS H
        obtain ⟨q296, H⟩ := ifS H
        obtain ⟨A297, c298, ak300, f299, hc301⟩ := ask_take (P := Tryd.prog) tab (t := 30) rfl rfl f227 hc228 (k := .i64) x229 q295 q296
        refine xd_take tab hk (k := 3) (is := [0, 1, 2, 3, 4, 5, 6]) (ls' := #[true, true, true, true, true, true, true, false, false, false]) (lv := [(.slice (if c225 = (Int.toNat x229) then A224 else (A224).map (·.add ((Int.toNat x229) * 3))) ((l226).length - (Int.toNat x229)) (c225 - (Int.toNat x229))), .slice A297 ((List.take (Int.toNat x229) l226)).length c298]) (ks := [7, 8, 38, 41, 44]) (e' := [(7, .slice A224 (l226).length c225), (8, .int .i64 x229), (38, .int .i64 x229), (41, (.slice (if c225 = (Int.toNat x229) then A224 else (A224).map (·.add ((Int.toNat x229) * 3))) ((l226).length - (Int.toNat x229)) (c225 - (Int.toNat x229)))), (44, .slice A297 ((List.take (Int.toNat x229) l226)).length c298)]) (by kernel_rfl) rfl rfl (by kernel_rfl) (np_blk (np_then (np_blk (np_then np_body)))) trivial (fun W_ hS => ⟨(ask_rest tab rfl rfl q295 q296 hc228 rfl rfl), (ak300 rfl rfl _), trivial⟩) fun a hk => ?_
        refine xd_op hk (i := 7) (by kernel_rfl) rfl rfl ?_
        refine op_copy (m := (Int.toNat x229)) tab hk (E := ET111) (xs := l226) (ys := (List.take (Int.toNat x229) l226)) rfl rfl (by have := q296; omega) hc228 rfl rfl f227 (Own.rd f299.now) fun w302 st304 f227_ => ?_
        replace hs := hs.loc0 st304 (by decide)
        replace f227 := f227_
        have hl305 : (cpy (Int.toNat x229) l226 (List.take (Int.toNat x229) l226)).length = (l226).length := cpy_len (by have := q296; omega)
        replace hk := Kn.re hk [7, 8, 38] (e2 := [(7, .slice A224 ((cpy (Int.toNat x229) l226 (List.take (Int.toNat x229) l226))).length c225), (8, .int .i64 x229), (38, .int .i64 x229)]) rfl (by rw [hl305])
        have hk := hk.put 45 (.int .i64 ((min ((List.take (Int.toNat x229) l226)).length ((l226).length - (Int.toNat x229)) : Nat) : Int)) rfl
        refine ⟨.inr trivial, ?_⟩
        refine xd_take tab hk (k := 0) (is := [8, 9]) (ls' := #[true, true, true, true, true, true, true, true, true, true]) (lv := []) (ks := [7, 8]) (e' := [(7, .slice A224 ((cpy (Int.toNat x229) l226 (List.take (Int.toNat x229) l226))).length c225), (8, .int .i64 (IntKind.wrap .i64 (x229 + ((min ((List.take (Int.toNat x229) l226)).length ((l226).length - (Int.toNat x229)) : Nat) : Int))))]) (by kernel_rfl) rfl rfl (by kernel_rfl) (np_blk (np_then (np_blk (np_then np_body)))) trivial (fun W_ hS => trivial) fun a hk => ?_
        refine xd_done (by kernel_rfl) ?_
        refine blk_n ?_
        refine then_n ?_
        exact ⟨k267, Nat.le_refl _, o223, A224, c225, (cpy (Int.toNat x229) l226 (List.take (Int.toNat x229) l226)), (IntKind.wrap .i64 (x229 + ((min ((List.take (Int.toNat x229) l226)).length ((l226).length - (Int.toNat x229)) : Nat) : Int))), (by exact Kn.pick (ks := [7, 8]) hk rfl), hs, f227, (by rw [cpy_len (by have := q296; omega)]; exact hc228), (hlp269 ▸ H)⟩
    refine x_mid (fun a_ w_ => ∃ o313 : Nat → Nat, ∃ x314 : Bool, Kn 48 a_ [(0, .slice Ap0 (p0).length cp0), (6, .int .u64 t10.2), (26, .bool x314)] ∧ St [] w (fun _ => 0) w_ o313 ∧ Ft (RdC ET111 Ap0 p0) w_ o313 0 ∧ slices_Repeat_j5 K p0 t10 x314 = some r) ?_ ?_
    rotate_left
    · rintro a w315 ⟨o313, x314, hk, hs, f900000, H⟩
      rw [slices_Repeat_j5] at H
      cases b316 : x314
      · rw [b316] at hk H
        replace H := bifF H
        refine x_if hk (b := false) rfl ?_
        refine (show Code.wpIn _ _ _ _ _ _ _ from ?_)
        refine wpIn_skip ?_
        refine then_n ?_
        exact ⟨o313, (by exact Kn.pick (ks := [0, 6]) hk rfl), hs, f900000, H⟩
      · rw [b316] at hk H
        replace H := bifT H
        refine x_if hk (b := true) rfl ?_
        refine (show Code.wpIn _ _ _ _ _ _ _ from ?_)
        refine wpIn_region_lit ?_
        exact absurd H (by simp)
    refine wpIn_region_lit ?_
    refine x_run tab hk (k := 3) (lv := []) (ks := [0, 6, 23]) (e' := [(0, .slice Ap0 (p0).length cp0), (6, .int .u64 t10.2), (23, .bool (decide (t10.1 > (0 : Int))))]) rfl trivial fun a hk => ?_
    cases b317 : (decide (t10.1 > (0 : Int)))
    · rw [b317] at hk H
      replace H := bifF H
      refine x_run tab hk (k := 3) (lv := []) (ks := [0, 6, 26]) (e' := [(0, .slice Ap0 (p0).length cp0), (6, .int .u64 t10.2), (26, .bool (decide (t10.2 > (9223372036854775807 : Int))))]) rfl trivial fun a hk => ?_
      refine wpListIn_nil ?_
      refine then_n ?_
      exact ⟨o13, (decide (t10.2 > (9223372036854775807 : Int))), (by exact Kn.pick (ks := [0, 6, 26]) hk rfl), hs, f900000, H⟩
    · rw [b317] at hk H
      replace H := bifT H
      refine x_run tab hk (k := 3) (lv := []) (ks := [0, 6, 26]) (e' := [(0, .slice Ap0 (p0).length cp0), (6, .int .u64 t10.2), (26, .bool true)]) rfl trivial fun a hk => ?_
      refine wpListIn_nil ?_
      refine then_n ?_
      exact ⟨o13, true, (by exact Kn.pick (ks := [0, 6, 26]) hk rfl), hs, f900000, H⟩
  refine x_seq ?_
  refine wpIn_region_lit ?_
  refine x_run tab hk (k := 2) (lv := []) (ks := [0, 1, 10]) (e' := [(0, .slice Ap0 (p0).length cp0), (1, .int .i64 p1), (10, .bool (decide (p1 < (0 : Int))))]) rfl trivial fun a hk => ?_
  refine wpListIn_nil ?_
  refine then_n ?_
  cases b318 : (decide (p1 < (0 : Int)))
  · rw [b318] at hk H
    replace H := bifF H
    refine x_if hk (b := false) rfl ?_
    refine (show Code.wpIn _ _ _ _ _ _ _ from ?_)
    refine wpIn_skip ?_
    refine then_n ?_
    exact ⟨o0, (by exact Kn.pick (ks := [0, 1]) hk rfl), hs, f900000, H⟩
  · rw [b318] at hk H
    replace H := bifT H
    refine x_if hk (b := true) rfl ?_
    refine (show Code.wpIn _ _ _ _ _ _ _ from ?_)
    refine wpIn_region_lit ?_
    exact absurd H (by simp)

/-! tidewrack/row.blanks -/
theorem row_blanks_calls (K : Nat) (p0 : Int) (p1 : Int) (w : World) (o : Nat → Nat)   (R0 : Nat) (r : List T111) (H : row_blanks K p0 p1 = some r) :
    Calls Tryd.prog 40 #[.int .i64 p0, .int .i64 p1] w (Ret fun v_ w' => ∃ o' : Nat → Nat, ∃ A0 : Option Addr, ∃ c0 : Nat, v_ = .slice A0 (r).length c0 ∧ St [] w o w' o' ∧ Ft (Own ET111 112 (.slice A0 (r).length c0) (r)) w' o' R0 ∧ (r).length ≤ c0) := by
  refine x_enter (vs := [.int .i64 p0, .int .i64 p1]) Tryd.func40 rfl rfl rfl fun a hk => ?_
  obtain ⟨o0, hs, h0⟩ := St.start w o
  clear h0
  rw [row_blanks] at H
  refine x_seq ?_
  refine wpIn_region_lit ?_
  refine x_run tab hk (k := 1) (lv := []) (ks := [0, 1]) (e' := [(0, .int .i64 p0), (1, .int .i64 p1)]) rfl trivial fun a hk => ?_
  refine wpListIn_nil ?_
  refine then_n ?_
  refine x_seq ?_
  refine wpIn_region_lit ?_
  refine x_run tab hk (k := 1) (lv := []) (ks := [0, 5]) (e' := [(0, .int .i64 p0), (5, .int .i64 p1)]) rfl trivial fun a hk => ?_
  refine x_op hk rfl ?_
  obtain ⟨t4, hc5, H⟩ := bindS H
  refine op_call hk ent_43 (vs := [.int .i64 p1]) rfl (row_blank_calls p1 _ o0    _ hc5) ?_
  rintro _ w6 ⟨o7, rfl, st8⟩
  replace hs := hs.loc0 st8 (by decide)
  have hk := hk.put 6 (.agg #[.int .i32 t4.Rune, .int .i64 t4.Style, .int .i64 t4.Part]) rfl
  refine x_op hk rfl ?_
  refine op_slice (o := o7) tab hk (vs := [.agg #[.int .i32 t4.Rune, .int .i64 t4.Style, .int .i64 t4.Part]]) (cs := [.int .i32 t4.Rune, .int .i64 t4.Style, .int .i64 t4.Part]) rfl rfl rfl rfl rfl rfl rfl rfl rfl 1 fun bx12 w9 o10 st11 f13 => ?_
  replace hs := hs.loc0 st11 (by decide)
  have f14 : Ft (Own ET111 112 (.slice (some ⟨bx12, 0, none⟩) (([t4] : List T111)).length 1) ([t4] : List T111)) w9 o10 1 := f13.imp fun _ h_ => Own.of_box h_ rfl (by simp)
  have hk := hk.put 7 (.slice (some ⟨bx12, 0, none⟩) (([t4] : List T111)).length 1) rfl
  refine x_run tab hk (k := 2) (lv := []) (ks := [7, 9]) (e' := [(7, .slice (some ⟨bx12, 0, none⟩) (([t4] : List T111)).length 1), (9, .int .i64 (mxI 0 p0))]) rfl trivial fun a hk => ?_
  refine x_op hk rfl ?_
  obtain ⟨t18, hc19, H⟩ := bindS H
  refine op_call hk ent_74 (vs := [.slice (some ⟨bx12, 0, none⟩) (([t4] : List T111)).length 1, .int .i64 (mxI 0 p0)]) rfl (slices_Repeat_calls K (some ⟨bx12, 0, none⟩) 1 ([t4] : List T111) (mxI 0 p0) _ o10 _ (f14.imp fun _ h_ => Own.rd h_) (Nat.le_refl _) 2  _ hc19) ?_
  rintro _ w20 ⟨o21, A23, c24, rfl, st22, f25, hc26⟩
  replace f14 := f14.st st22 (by decide)
  replace hs := hs.loc0 st22 (by decide)
  have hk := hk.put 10 (.slice A23 (t18).length c24) rfl
  refine x_run tab hk (k := 1) (lv := []) (ks := [4]) (e' := [(4, .slice A23 (t18).length c24)]) rfl trivial fun a hk => ?_
  refine wpListIn_nil ?_
  refine then_n ?_
  refine wpIn_ret ?_
  obtain rfl := Option.some.inj H
  exact x_retG hk (rs := [.tmp 4]) (vs := [.slice A23 (t18).length c24]) rfl ⟨rfl, trivial⟩ ⟨fun b_ => if b_ < w.heap.size then o b_ else (fun _ => R0) (o21 b_), A23, c24, rfl, hs.close0 o (fun _ => R0), hs.close_ft (o := o) (ρ := fun _ => R0) f25 (by decide) rfl, hc26⟩

/-! tidewrack/row.Blank -/
theorem row_Blank_calls (K : Nat) (p0 : Int) (p1 : Int) (w : World) (o : Nat → Nat)   (R0 : Nat) (r : T31) (H : row_Blank K p0 p1 = some r) :
    Calls Tryd.prog 14 #[.int .i64 p0, .int .i64 p1] w (Ret fun v_ w' => ∃ o' : Nat → Nat, ∃ A0 : Option Addr, ∃ c0 : Nat, v_ = .agg #[.slice A0 (r.Cells).length c0, .bool r.Wrapped] ∧ St [] w o w' o' ∧ Ft (Own ET111 112 (.slice A0 (r.Cells).length c0) (r.Cells)) w' o' R0 ∧ (r.Cells).length ≤ c0) := by
  refine x_enter (vs := [.int .i64 p0, .int .i64 p1]) Tryd.func14 rfl rfl rfl fun a hk => ?_
  obtain ⟨o0, hs, h0⟩ := St.start w o
  clear h0
  rw [row_Blank] at H
  refine x_seq ?_
  refine wpIn_region_lit ?_
  refine x_op hk rfl ?_
  refine op_alloc (o := o0) tab (t := 32) (cs := [.slice none 0 0, .bool false]) rfl rfl 1 fun bx4 w1 o2 st3 f5 => ?_
  replace hs := hs.loc0 st3 (by decide)
  have hk := hk.put 4 (.pointer (some ⟨bx4, 0, none⟩)) rfl
  refine wpListIn_nil ?_
  refine then_n ?_
  refine x_seq ?_
  refine wpIn_region_lit ?_
  refine x_run tab hk (k := 1) (lv := []) (ks := [1, 4, 5]) (e' := [(1, .int .i64 p1), (4, .pointer (some ⟨bx4, 0, none⟩)), (5, .int .i64 p0)]) rfl trivial fun a hk => ?_
  refine x_op hk rfl ?_
  obtain ⟨t9, hc10, H⟩ := bindS H
  refine op_call hk ent_41 (vs := [.int .i64 p0, .int .i64 0, .int .i64 1000]) rfl (row_clip_calls p0 0 1000 _ o2    _ hc10) ?_
  rintro _ w11 ⟨o12, rfl, st13⟩
  replace f5 := f5.st st13 (by decide)
  replace hs := hs.loc0 st13 (by decide)
  have hk := hk.put 6 (.int .i64 t9) rfl
  refine x_run tab hk (k := 1) (lv := []) (ks := [4, 6, 7]) (e' := [(4, .pointer (some ⟨bx4, 0, none⟩)), (6, .int .i64 t9), (7, .int .i64 p1)]) rfl trivial fun a hk => ?_
  refine x_op hk rfl ?_
  obtain ⟨t17, hc18, H⟩ := bindS H
  refine op_call hk ent_40 (vs := [.int .i64 t9, .int .i64 p1]) rfl (row_blanks_calls K t9 p1 _ o12  2  _ hc18) ?_
  rintro _ w19 ⟨o20, A22, c23, rfl, st21, f24, hc25⟩
  replace f5 := f5.st st21 (by decide)
  replace hs := hs.loc0 st21 (by decide)
  have hk := hk.put 8 (.slice A22 (t17).length c23) rfl
  refine x_run tab hk (k := 1) (lv := []) (ks := [4, 9]) (e' := [(4, .pointer (some ⟨bx4, 0, none⟩)), (9, .agg #[.slice A22 (t17).length c23, .bool false])]) rfl trivial fun a hk => ?_
  refine x_op hk rfl ?_
  refine op_store tab hk (t := 32) (v := .agg #[.slice A22 (t17).length c23, .bool false]) (b := bx4) (k := 0) (cs' := [.slice A22 (t17).length c23, .bool false]) rfl rfl rfl rfl rfl rfl f5 rfl rfl fun w26 o27 st28 f5_ => ?_
  replace f24 := f24.st st28 (by decide)
  replace hs := hs.loc0 st28 (by decide)
  replace f5 := f5_
  refine wpListIn_nil ?_
  refine then_n ?_
  refine wpIn_ret ?_
  obtain rfl := Option.some.inj H
  exact x_retG hk (rs := [.cell 4 32]) (vs := [.agg #[.slice A22 (t17).length c23, .bool false]]) rfl ⟨⟨_, rfl, load_box tab rfl rfl f5.now (k := 0) rfl rfl⟩, trivial⟩ ⟨fun b_ => if b_ < w.heap.size then o b_ else (fun _ => R0) (o27 b_), A22, c23, rfl, hs.close0 o (fun _ => R0), hs.close_ft (o := o) (ρ := fun _ => R0) f24 (by decide) rfl, hc25⟩

/-! tidewrack/wide.in -/
theorem wide_in_calls (K : Nat) (Ap0 : Option Addr) (cp0 : Nat) (p0 : List T97) (p1 : Int) (w : World) (o : Nat → Nat) (Lp0 : Nat) (hp0 : Ft (RdC ET97 Ap0 p0) w o Lp0) (hcp0 : (p0).length ≤ cp0)  (r : Bool) (H : wide_in K p0 p1 = some r) :
    Calls Tryd.prog 36 #[.slice Ap0 (p0).length cp0, .int .i32 p1] w (Ret fun v_ w' => ∃ o' : Nat → Nat, v_ = .bool r ∧ St [] w o w' o') := by
  refine x_enter (vs := [.slice Ap0 (p0).length cp0, .int .i32 p1]) Tryd.func36 rfl rfl rfl fun a hk => ?_
  obtain ⟨o0, hs, h0⟩ := St.start w o
  have f900000 := h0 _ _ hp0
  clear h0
  rw [wide_in] at H
  refine x_seq ?_
  refine wpIn_region_lit ?_
  refine x_run tab hk (k := 1) (lv := []) (ks := [0, 1]) (e' := [(0, .slice Ap0 (p0).length cp0), (1, .int .i32 p1)]) rfl trivial fun a hk => ?_
  refine wpListIn_nil ?_
  refine then_n ?_
  refine x_seq ?_
  refine wpIn_region_lit ?_
  refine x_run tab hk (k := 4) (lv := []) (ks := [0, 1, 5, 6]) (e' := [(0, .slice Ap0 (p0).length cp0), (1, .int .i32 p1), (5, .int .i64 0), (6, .int .i64 ((p0).length : Int))]) rfl trivial fun a hk => ?_
  refine wpListIn_nil ?_
  refine then_n ?_
  refine x_mid (fun a_ w_ => ∃ o29 : Nat → Nat, ∃ x30 : Int, Kn 40 a_ [(0, .slice Ap0 (p0).length cp0), (1, .int .i32 p1), (5, .int .i64 x30)] ∧ St [] w (fun _ => 0) w_ o29 ∧ Ft (RdC ET97 Ap0 p0) w_ o29 0 ∧ wide_in_j1 p0 p1 x30 = some r) ?_ ?_
  rotate_left
  · rintro a w31 ⟨o29, x30, hk, hs, f900000, H⟩
    rw [wide_in_j1] at H
    refine x_seq ?_
    refine wpIn_region_lit ?_
    refine x_run tab hk (k := 5) (lv := []) (ks := [0, 1, 5, 31]) (e' := [(0, .slice Ap0 (p0).length cp0), (1, .int .i32 p1), (5, .int .i64 x30), (31, .bool (decide (x30 < ((p0).length : Int))))]) rfl trivial fun a hk => ?_
    cases b32 : (decide (x30 < ((p0).length : Int)))
    · rw [b32] at hk H
      replace H := bifF H
      refine x_run tab hk (k := 9) (lv := []) (ks := [4]) (e' := [(4, .bool false)]) rfl trivial fun a hk => ?_
      refine wpListIn_nil ?_
      refine then_n ?_
      refine wpIn_ret ?_
      obtain rfl := Option.some.inj H
      exact x_retG hk (rs := [.tmp 4]) (vs := [.bool false]) rfl ⟨rfl, trivial⟩ ⟨fun b_ => if b_ < w.heap.size then o b_ else (fun _ => 0) (o29 b_), rfl, hs.close0 o (fun _ => 0)⟩
    · rw [b32] at hk H
      replace H := bifT H
      obtain ⟨q33, H⟩ := ifS H
      obtain ⟨ad34, hAad34⟩ := RdC.addr f900000.now q33
      have hk_C := hk
      have f900000_C := f900000
      subst hAad34
      have hk := hk_C
      clear hk_C
      have f900000 := f900000_C
      clear f900000_C
      refine x_run tab hk (k := 9) (lv := [.int .i32 ((rdD zT97 p0 x30).from_)]) (ks := [4]) (e' := [(4, .bool (decide (((rdD zT97 p0 x30).from_) ≤ p1)))]) rfl ⟨q33, (load1 tab rfl (RdC.at (E := ET97) (d := zT97) (i := x30) (j := 0) f900000.now q33 rfl)), trivial⟩ fun a hk => ?_
      refine wpListIn_nil ?_
      refine then_n ?_
      refine wpIn_ret ?_
      obtain rfl := Option.some.inj H
      exact x_retG hk (rs := [.tmp 4]) (vs := [.bool (decide (((rdD zT97 p0 x30).from_) ≤ p1))]) rfl ⟨rfl, trivial⟩ ⟨fun b_ => if b_ < w.heap.size then o b_ else (fun _ => 0) (o29 b_), rfl, hs.close0 o (fun _ => 0)⟩
  refine wpIn_block ?_
  refine x_loop (fun j_ a_ w_ => ∃ o42 : Nat → Nat, ∃ x43 : Int, ∃ x44 : Int, Kn 40 a_ [(0, .slice Ap0 (p0).length cp0), (1, .int .i32 p1), (5, .int .i64 x43), (6, .int .i64 x44)] ∧ St [] w (fun _ => 0) w_ o42 ∧ Ft (RdC ET97 Ap0 p0) w_ o42 0 ∧ wide_in_l2 p0 p1 j_ x43 x44 = some r) (k := K) ⟨o0, 0, ((p0).length : Int), (by exact Kn.pick (ks := [0, 1, 5, 6]) hk rfl), hs, f900000, H⟩ (by rintro _ _ ⟨_, _, _, _, _, _, H_⟩; exact absurd (show (none : Option Bool) = some r from H_) (by simp)) ?_
  rintro k50 a w49 ⟨o42, x43, x44, hk, hs, f900000, H⟩
  rw [wide_in_l2] at H
  obtain ⟨lp51, hlp52⟩ : ∃ lp_, lp_ = wide_in_l2 p0 p1 k50 := ⟨_, rfl⟩
  rw [← hlp52] at H
  refine x_seq ?_
  refine x_seq ?_
  refine wpIn_region_lit ?_
  refine x_run tab hk (k := 3) (lv := []) (ks := [0, 1, 5, 6, 12]) (e' := [(0, .slice Ap0 (p0).length cp0), (1, .int .i32 p1), (5, .int .i64 x43), (6, .int .i64 x44), (12, .bool (decide (x43 < x44)))]) rfl trivial fun a hk => ?_
  refine wpListIn_nil ?_
  refine then_n ?_
  cases b53 : (decide (x43 < x44))
  · rw [b53] at hk H
    replace H := bifF H
    refine x_if hk (b := false) rfl ?_
    refine (show Code.wpIn _ _ _ _ _ _ _ from ?_)
    refine wpIn_exit ?_
    refine then_x ?_
    refine then_x ?_
    refine blk_x ?_
    refine then_n ?_
    exact ⟨o42, x43, (by exact Kn.pick (ks := [0, 1, 5]) hk rfl), hs, f900000, H⟩
  · rw [b53] at hk H
    replace H := bifT H
    refine x_if hk (b := true) rfl ?_
    refine (show Code.wpIn _ _ _ _ _ _ _ from ?_)
    refine wpIn_skip ?_
    refine then_n ?_
    refine wpIn_block ?_
    refine x_seq ?_
    refine wpIn_region_lit ?_
    refine x_run tab hk (k := 5) (lv := []) (ks := [0, 1, 5, 6, 7]) (e' := [(0, .slice Ap0 (p0).length cp0), (1, .int .i32 p1), (5, .int .i64 x43), (6, .int .i64 x44), (7, .int .i64 (IntKind.wrap .i64 (Int.tdiv (IntKind.wrap .i64 (x43 + x44)) 2)))]) rfl ⟨(show (2 : Int) ≠ 0 from by decide), trivial⟩ fun a hk => ?_
    refine wpListIn_nil ?_
    refine then_n ?_
    refine x_seq ?_
    refine wpIn_region_lit ?_
    obtain ⟨q54, H⟩ := ifS H
    obtain ⟨ad55, hAad55⟩ := RdC.addr f900000.now q54
    have hk_C := hk
    have f900000_C := f900000
    subst hAad55
    have hk := hk_C
    clear hk_C
    have f900000 := f900000_C
    clear f900000_C
    refine x_run tab hk (k := 7) (lv := [.int .i32 ((rdD zT97 p0 (IntKind.wrap .i64 (Int.tdiv (IntKind.wrap .i64 (x43 + x44)) 2))).to)]) (ks := [0, 1, 5, 6, 7, 23]) (e' := [(0, .slice (some ad55) (p0).length cp0), (1, .int .i32 p1), (5, .int .i64 x43), (6, .int .i64 x44), (7, .int .i64 (IntKind.wrap .i64 (Int.tdiv (IntKind.wrap .i64 (x43 + x44)) 2))), (23, .bool (decide (((rdD zT97 p0 (IntKind.wrap .i64 (Int.tdiv (IntKind.wrap .i64 (x43 + x44)) 2))).to) < p1)))]) rfl ⟨q54, (load1 tab rfl (RdC.at (E := ET97) (d := zT97) (i := (IntKind.wrap .i64 (Int.tdiv (IntKind.wrap .i64 (x43 + x44)) 2))) (j := 1) f900000.now q54 rfl)), trivial⟩ fun a hk => ?_
    refine wpListIn_nil ?_
    refine then_n ?_
    cases b56 : (decide (((rdD zT97 p0 (IntKind.wrap .i64 (Int.tdiv (IntKind.wrap .i64 (x43 + x44)) 2))).to) < p1))
    · rw [b56] at hk H
      replace H := bifF H
      refine x_if hk (b := false) rfl ?_
      refine (show Code.wpIn _ _ _ _ _ _ _ from ?_)
      refine wpIn_region_lit ?_
      refine x_run tab hk (k := 2) (lv := []) (ks := [0, 1, 5, 6]) (e' := [(0, .slice (some ad55) (p0).length cp0), (1, .int .i32 p1), (5, .int .i64 x43), (6, .int .i64 (IntKind.wrap .i64 (Int.tdiv (IntKind.wrap .i64 (x43 + x44)) 2)))]) rfl trivial fun a hk => ?_
      refine wpListIn_nil ?_
      refine blk_n ?_
      refine then_n ?_
      exact ⟨k50, Nat.le_refl _, o42, x43, (IntKind.wrap .i64 (Int.tdiv (IntKind.wrap .i64 (x43 + x44)) 2)), (by exact Kn.pick (ks := [0, 1, 5, 6]) hk rfl), hs, f900000, (hlp52 ▸ H)⟩
    · rw [b56] at hk H
      replace H := bifT H
      refine x_if hk (b := true) rfl ?_
      refine (show Code.wpIn _ _ _ _ _ _ _ from ?_)
      refine wpIn_region_lit ?_
      refine x_run tab hk (k := 3) (lv := []) (ks := [0, 1, 5, 6]) (e' := [(0, .slice (some ad55) (p0).length cp0), (1, .int .i32 p1), (5, .int .i64 (IntKind.wrap .i64 ((IntKind.wrap .i64 (Int.tdiv (IntKind.wrap .i64 (x43 + x44)) 2)) + 1))), (6, .int .i64 x44)]) rfl trivial fun a hk => ?_
      refine wpListIn_nil ?_
      refine blk_n ?_
      refine then_n ?_
      exact ⟨k50, Nat.le_refl _, o42, (IntKind.wrap .i64 ((IntKind.wrap .i64 (Int.tdiv (IntKind.wrap .i64 (x43 + x44)) 2)) + 1)), x44, (by exact Kn.pick (ks := [0, 1, 5, 6]) hk rfl), hs, f900000, (hlp52 ▸ H)⟩

/-! tidewrack/wide.Of -/
theorem wide_Of_calls (K : Nat) (p0 : Int) (w : World) (o : Nat → Nat) (Lg0 : Nat) (hg0 : Ft (RdC ET97 (some ⟨0, 0, none⟩) glob0) w o Lg0) (Lg1 : Nat) (hg1 : Ft (RdC ET97 (some ⟨1, 0, none⟩) glob1) w o Lg1)   (r : Int) (H : wide_Of K p0 = some r) :
    Calls Tryd.prog 8 #[.int .i32 p0] w (Ret fun v_ w' => ∃ o' : Nat → Nat, v_ = .int .i64 r ∧ St [] w o w' o') := by
  refine x_enter (vs := [.int .i32 p0]) Tryd.func8 rfl rfl rfl fun a hk => ?_
  obtain ⟨o0, hs, h0⟩ := St.start w o
  have fg0 := h0 _ _ hg0
  have fg1 := h0 _ _ hg1
  clear h0
  rw [wide_Of] at H
  refine x_seq ?_
  refine wpIn_region_lit ?_
  refine x_run tab hk (k := 1) (lv := []) (ks := [0]) (e' := [(0, .int .i32 p0)]) rfl trivial fun a hk => ?_
  refine wpListIn_nil ?_
  refine then_n ?_
  refine x_seq ?_
  refine wpIn_block ?_
  refine x_seq ?_
  refine wpIn_region_lit ?_
  refine x_run tab hk (k := 2) (lv := [.slice (some ⟨0, 0, none⟩) (glob0).length 13]) (ks := [0, 4, 5]) (e' := [(0, .int .i32 p0), (4, .slice (some ⟨0, 0, none⟩) (glob0).length 13), (5, .int .i32 p0)]) rfl ⟨(ask_whole tab rfl rfl rfl), trivial⟩ fun a hk => ?_
  refine x_op hk rfl ?_
  obtain ⟨t4, hc5, H⟩ := bindS H
  refine op_call hk ent_36 (vs := [.slice (some ⟨0, 0, none⟩) (glob0).length 13, .int .i32 p0]) rfl (wide_in_calls K (some ⟨0, 0, none⟩) 13 glob0 p0 _ o0 _ fg0 (by decide)   _ hc5) ?_
  rintro _ w6 ⟨o7, rfl, st8⟩
  replace fg0 := fg0.st st8 (by decide)
  replace fg1 := fg1.st st8 (by decide)
  replace hs := hs.loc0 st8 (by decide)
  have hk := hk.put 6 (.bool t4) rfl
  refine x_run tab hk (k := 1) (lv := []) (ks := [0, 3]) (e' := [(0, .int .i32 p0), (3, .bool t4)]) rfl trivial fun a hk => ?_
  refine wpListIn_nil ?_
  refine then_n ?_
  cases b9 : t4
  · rw [b9] at hk H
    replace H := bifF H
    refine x_if hk (b := false) rfl ?_
    refine (show Code.wpIn _ _ _ _ _ _ _ from ?_)
    refine x_seq ?_
    refine wpIn_region_lit ?_
    refine x_run tab hk (k := 2) (lv := [.slice (some ⟨1, 0, none⟩) (glob1).length 14]) (ks := [8, 9]) (e' := [(8, .slice (some ⟨1, 0, none⟩) (glob1).length 14), (9, .int .i32 p0)]) rfl ⟨(ask_whole tab rfl rfl rfl), trivial⟩ fun a hk => ?_
    refine x_op hk rfl ?_
    obtain ⟨t13, hc14, H⟩ := bindS H
    refine op_call hk ent_36 (vs := [.slice (some ⟨1, 0, none⟩) (glob1).length 14, .int .i32 p0]) rfl (wide_in_calls K (some ⟨1, 0, none⟩) 14 glob1 p0 _ o7 _ fg1 (by decide)   _ hc14) ?_
    rintro _ w15 ⟨o16, rfl, st17⟩
    replace fg0 := fg0.st st17 (by decide)
    replace fg1 := fg1.st st17 (by decide)
    replace hs := hs.loc0 st17 (by decide)
    have hk := hk.put 10 (.bool t13) rfl
    refine x_run tab hk (k := 1) (lv := []) (ks := [7]) (e' := [(7, .bool t13)]) rfl trivial fun a hk => ?_
    refine wpListIn_nil ?_
    refine then_n ?_
    cases b18 : t13
    · rw [b18] at hk H
      replace H := bifF H
      refine x_if hk (b := false) rfl ?_
      refine (show Code.wpIn _ _ _ _ _ _ _ from ?_)
      refine wpIn_skip ?_
      refine blk_n ?_
      refine then_n ?_
      refine x_seq ?_
      refine wpIn_region_lit ?_
      refine x_run tab hk (k := 1) (lv := []) (ks := [2]) (e' := [(2, .int .i64 1)]) rfl trivial fun a hk => ?_
      refine wpListIn_nil ?_
      refine then_n ?_
      refine wpIn_ret ?_
      obtain rfl := Option.some.inj H
      exact x_retG hk (rs := [.tmp 2]) (vs := [.int .i64 1]) rfl ⟨rfl, trivial⟩ ⟨fun b_ => if b_ < w.heap.size then o b_ else (fun _ => 0) (o16 b_), rfl, hs.close0 o (fun _ => 0)⟩
    · rw [b18] at hk H
      replace H := bifT H
      refine x_if hk (b := true) rfl ?_
      refine (show Code.wpIn _ _ _ _ _ _ _ from ?_)
      refine x_seq ?_
      refine wpIn_region_lit ?_
      refine x_run tab hk (k := 1) (lv := []) (ks := [2]) (e' := [(2, .int .i64 2)]) rfl trivial fun a hk => ?_
      refine wpListIn_nil ?_
      refine then_n ?_
      refine wpIn_ret ?_
      refine blk_r ?_
      refine then_r ?_
      obtain rfl := Option.some.inj H
      exact x_retG hk (rs := [.tmp 2]) (vs := [.int .i64 2]) rfl ⟨rfl, trivial⟩ ⟨fun b_ => if b_ < w.heap.size then o b_ else (fun _ => 0) (o16 b_), rfl, hs.close0 o (fun _ => 0)⟩
  · rw [b9] at hk H
    replace H := bifT H
    refine x_if hk (b := true) rfl ?_
    refine (show Code.wpIn _ _ _ _ _ _ _ from ?_)
    refine x_seq ?_
    refine wpIn_region_lit ?_
    refine x_run tab hk (k := 1) (lv := []) (ks := [2]) (e' := [(2, .int .i64 0)]) rfl trivial fun a hk => ?_
    refine wpListIn_nil ?_
    refine then_n ?_
    refine wpIn_ret ?_
    refine blk_r ?_
    refine then_r ?_
    obtain rfl := Option.some.inj H
    exact x_retG hk (rs := [.tmp 2]) (vs := [.int .i64 0]) rfl ⟨rfl, trivial⟩ ⟨fun b_ => if b_ < w.heap.size then o b_ else (fun _ => 0) (o7 b_), rfl, hs.close0 o (fun _ => 0)⟩

/-! slices.Clone[[]tidewrack/row.Cell,tidewrack/row.Cell] -/
theorem slices_Clone_calls (Ap0 : Option Addr) (cp0 : Nat) (p0 : List T111) (w : World) (o : Nat → Nat) (Lp0 : Nat) (hp0 : Ft (RdC ET111 Ap0 p0) w o Lp0) (hcp0 : (p0).length ≤ cp0)  (R0 : Nat) (r : List T111) (H : slices_Clone p0 = some r) :
    Calls Tryd.prog 75 #[.slice Ap0 (p0).length cp0] w (Ret fun v_ w' => ∃ o' : Nat → Nat, ∃ A0 : Option Addr, ∃ c0 : Nat, v_ = .slice A0 (r).length c0 ∧ St [] w o w' o' ∧ Ft (Own ET111 112 (.slice A0 (r).length c0) (r)) w' o' R0 ∧ (r).length ≤ c0) := by
  refine x_enter (vs := [.slice Ap0 (p0).length cp0]) Tryd.func75 rfl rfl rfl fun a hk => ?_
  obtain ⟨o0, hs, h0⟩ := St.start w o
  have f900000 := h0 _ _ hp0
  clear h0
  rw [slices_Clone] at H
  refine x_seq ?_
  refine wpIn_region_lit ?_
  refine x_run tab hk (k := 1) (lv := []) (ks := [0]) (e' := [(0, .slice Ap0 (p0).length cp0)]) rfl trivial fun a hk => ?_
  refine wpListIn_nil ?_
  refine then_n ?_
  refine x_seq ?_
  refine x_seq ?_
  refine wpIn_region_lit ?_
  refine x_run tab hk (k := 1) (lv := []) (ks := [0, 3]) (e' := [(0, .slice Ap0 (p0).length cp0), (3, .slice Ap0 (p0).length cp0)]) rfl trivial fun a hk => ?_
  rcases none_or Ap0 with hAad1 | ⟨ad1, hAad1⟩
  · have hk_C := hk
    have f900000_C := f900000
    subst hAad1
    have hk := hk_C
    clear hk_C
    have f900000 := f900000_C
    clear f900000_C
    have hz2 : p0 = [] := RdC.none f900000.now
    replace H : (some ([] : List T111)) = some r := by (try rw [hz2] at H); simpa using H
    refine x_run tab hk (k := 1) (lv := []) (ks := [0, 4]) (e' := [(0, .slice none (p0).length cp0), (4, .bool true)]) rfl trivial fun a hk => ?_
    refine wpListIn_nil ?_
    refine then_n ?_
    refine x_if hk (b := true) rfl ?_
    refine (show Code.wpIn _ _ _ _ _ _ _ from ?_)
    refine x_seq ?_
    refine wpIn_region_lit ?_
    refine x_run tab hk (k := 1) (lv := []) (ks := [2]) (e' := [(2, .slice none 0 0)]) rfl trivial fun a hk => ?_
    refine wpListIn_nil ?_
    refine then_n ?_
    refine wpIn_ret ?_
    refine then_r ?_
    obtain rfl := Option.some.inj H
    exact x_retG hk (rs := [.tmp 2]) (vs := [.slice none 0 0]) rfl ⟨rfl, trivial⟩ ⟨fun b_ => if b_ < w.heap.size then o b_ else (fun _ => 0) (o0 b_), none, 0, rfl, hs.close0 o (fun _ => 0), (Ft.of_all (fun _ => Own.nil _ _ _) _ _ _), (by simp)⟩
  · have hk_C := hk
    have f900000_C := f900000
    subst hAad1
    have hk := hk_C
    clear hk_C
    have f900000 := f900000_C
    clear f900000_C
    refine x_run tab hk (k := 1) (lv := []) (ks := [0, 4]) (e' := [(0, .slice (some ad1) (p0).length cp0), (4, .bool false)]) rfl trivial fun a hk => ?_
    refine wpListIn_nil ?_
    refine then_n ?_
    refine x_if hk (b := false) rfl ?_
    refine (show Code.wpIn _ _ _ _ _ _ _ from ?_)
    refine wpIn_skip ?_
    refine then_n ?_
    refine x_seq ?_
    refine wpIn_region_lit ?_
    refine x_op hk rfl ?_
    refine op_slice (o := o0) tab hk (vs := []) (cs := []) rfl rfl rfl rfl rfl rfl rfl rfl rfl 1 fun bx6 w3 o4 st5 f7 => ?_
    replace f900000 := f900000.st st5 (by decide)
    replace hs := hs.loc0 st5 (by decide)
    have f8 : Ft (Own ET111 112 (.slice (some ⟨bx6, 0, none⟩) (([] : List T111)).length 0) ([] : List T111)) w3 o4 1 := f7.imp fun _ h_ => Own.of_box h_ rfl (by simp)
    have hk := hk.put 5 (.slice (some ⟨bx6, 0, none⟩) (([] : List T111)).length 0) rfl
    refine x_run tab hk (k := 1) (lv := []) (ks := [5, 6]) (e' := [(5, .slice (some ⟨bx6, 0, none⟩) (([] : List T111)).length 0), (6, .slice (some ad1) (p0).length cp0)]) rfl trivial fun a hk => ?_
    refine x_op hk rfl ?_
    obtain ⟨q12, H⟩ := ifS H
    refine op_append (o := o4) (E := ET111) (xs := ([] : List T111)) (ys := p0) tab hk rfl rfl rfl rfl rfl rfl rfl f8 f900000.now q12 fun A13 c14 w9 o10 st11 f15 hc16 => ?_
    replace f900000 := f900000.st st11 (by decide)
    replace hs := hs.loc0 st11 (by decide)
    have hk := hk.put 7 (.slice A13 ((([] : List T111) ++ p0)).length c14) rfl
    refine x_run tab hk (k := 1) (lv := []) (ks := [2]) (e' := [(2, .slice A13 ((([] : List T111) ++ p0)).length c14)]) rfl trivial fun a hk => ?_
    refine wpListIn_nil ?_
    refine then_n ?_
    refine wpIn_ret ?_
    obtain rfl := Option.some.inj H
    exact x_retG hk (rs := [.tmp 2]) (vs := [.slice A13 ((([] : List T111) ++ p0)).length c14]) rfl ⟨rfl, trivial⟩ ⟨fun b_ => if b_ < w.heap.size then o b_ else (fun _ => R0) (o10 b_), A13, c14, rfl, hs.close0 o (fun _ => R0), hs.close_ft (o := o) (ρ := fun _ => R0) f15 (by decide) rfl, hc16⟩

/-! (tidewrack/row.Row).cells -/
theorem row_Row_cells_calls (Ap0_0 : Option Addr) (cp0_0 : Nat) (p0 : T31) (w : World) (o : Nat → Nat) (Lp0_0 : Nat) (hp0_0 : Ft (RdC ET111 Ap0_0 p0.Cells) w o Lp0_0) (hcp0_0 : (p0.Cells).length ≤ cp0_0)  (R0 : Nat) (r : List T111) (H : row_Row_cells p0 = some r) :
    Calls Tryd.prog 42 #[.agg #[.slice Ap0_0 (p0.Cells).length cp0_0, .bool p0.Wrapped]] w (Ret fun v_ w' => ∃ o' : Nat → Nat, ∃ A0 : Option Addr, ∃ c0 : Nat, v_ = .slice A0 (r).length c0 ∧ St [] w o w' o' ∧ Ft (Own ET111 112 (.slice A0 (r).length c0) (r)) w' o' R0 ∧ (r).length ≤ c0) := by
  refine x_enter (vs := [.agg #[.slice Ap0_0 (p0.Cells).length cp0_0, .bool p0.Wrapped]]) Tryd.func42 rfl rfl rfl fun a hk => ?_
  obtain ⟨o0, hs, h0⟩ := St.start w o
  have f900000 := h0 _ _ hp0_0
  clear h0
  rw [row_Row_cells] at H
  refine x_seq ?_
  refine wpIn_region_lit ?_
  refine x_op hk rfl ?_
  refine op_box (o := o0) (t := 32) (v := .agg #[.slice Ap0_0 (p0.Cells).length cp0_0, .bool p0.Wrapped]) (cs := [.slice Ap0_0 (p0.Cells).length cp0_0, .bool p0.Wrapped]) hk rfl rfl 1 fun bx4 w1 o2 st3 f5 => ?_
  replace f900000 := f900000.st st3 (by decide)
  replace hs := hs.loc0 st3 (by decide)
  have hk := hk.put 1 (.pointer (some ⟨bx4, 0, none⟩)) rfl
  refine x_run tab hk (k := 1) (lv := []) (ks := [1]) (e' := [(1, .pointer (some ⟨bx4, 0, none⟩))]) rfl trivial fun a hk => ?_
  refine wpListIn_nil ?_
  refine then_n ?_
  refine x_seq ?_
  refine wpIn_region_lit ?_
  refine x_run tab hk (k := 2) (lv := [.slice Ap0_0 (p0.Cells).length cp0_0]) (ks := [4]) (e' := [(4, .slice Ap0_0 (p0.Cells).length cp0_0)]) rfl ⟨(load1 tab rfl ((Bx.cell f5.now 0).trans rfl)), trivial⟩ fun a hk => ?_
  refine x_op hk rfl ?_
  obtain ⟨t9, hc10, H⟩ := bindS H
  refine op_call hk ent_75 (vs := [.slice Ap0_0 (p0.Cells).length cp0_0]) rfl (slices_Clone_calls Ap0_0 cp0_0 p0.Cells _ o2 _ f900000 hcp0_0 2  _ hc10) ?_
  rintro _ w11 ⟨o12, A14, c15, rfl, st13, f16, hc17⟩
  replace f900000 := f900000.st st13 (by decide)
  replace hs := hs.loc0 st13 (by decide)
  have hk := hk.put 5 (.slice A14 (t9).length c15) rfl
  refine x_run tab hk (k := 1) (lv := []) (ks := [2]) (e' := [(2, .slice A14 (t9).length c15)]) rfl trivial fun a hk => ?_
  refine wpListIn_nil ?_
  refine then_n ?_
  refine wpIn_ret ?_
  obtain rfl := Option.some.inj H
  exact x_retG hk (rs := [.tmp 2]) (vs := [.slice A14 (t9).length c15]) rfl ⟨rfl, trivial⟩ ⟨fun b_ => if b_ < w.heap.size then o b_ else (fun _ => R0) (o12 b_), A14, c15, rfl, hs.close0 o (fun _ => R0), hs.close_ft (o := o) (ρ := fun _ => R0) f16 (by decide) rfl, hc17⟩

/-! tidewrack/row.broken -/
theorem row_broken_calls (Ap0 : Option Addr) (cp0 : Nat) (p0 : List T111) (p1 : Int) (w : World) (o : Nat → Nat) (Lp0 : Nat) (hp0 : Ft (RdC ET111 Ap0 p0) w o Lp0) (hcp0 : (p0).length ≤ cp0)  (r : Bool) (H : row_broken p0 p1 = some r) :
    Calls Tryd.prog 76 #[.slice Ap0 (p0).length cp0, .int .i64 p1] w (Ret fun v_ w' => ∃ o' : Nat → Nat, v_ = .bool r ∧ St [] w o w' o') := by
  refine x_enter (vs := [.slice Ap0 (p0).length cp0, .int .i64 p1]) Tryd.func76 rfl rfl rfl fun a hk => ?_
  obtain ⟨o0, hs, h0⟩ := St.start w o
  have f900000 := h0 _ _ hp0
  clear h0
  rw [row_broken] at H
  refine x_seq ?_
  refine wpIn_region_lit ?_
  refine x_run tab hk (k := 1) (lv := []) (ks := [0, 1]) (e' := [(0, .slice Ap0 (p0).length cp0), (1, .int .i64 p1)]) rfl trivial fun a hk => ?_
  refine wpListIn_nil ?_
  refine then_n ?_
  refine x_seq ?_
  refine x_seq ?_
  refine wpIn_region_lit ?_
  obtain ⟨q1, H⟩ := ifS H
  obtain ⟨ad2, hAad2⟩ := RdC.addr f900000.now q1
  have hk_C := hk
  have f900000_C := f900000
  subst hAad2
  have hk := hk_C
  clear hk_C
  have f900000 := f900000_C
  clear f900000_C
  refine x_run tab hk (k := 5) (lv := [.int .i64 ((rdD zT111 p0 p1).Part)]) (ks := [0, 1, 9]) (e' := [(0, .slice (some ad2) (p0).length cp0), (1, .int .i64 p1), (9, .int .i64 ((rdD zT111 p0 p1).Part))]) rfl ⟨q1, (load1 tab rfl (RdC.at (E := ET111) (d := zT111) (i := p1) (j := 2) f900000.now q1 rfl)), trivial⟩ fun a hk => ?_
  refine wpListIn_nil ?_
  refine then_n ?_
  refine wpIn_block ?_
  refine x_seq ?_
  refine wpIn_region_lit ?_
  refine x_run tab hk (k := 2) (lv := []) (ks := [0, 1, 9, 10]) (e' := [(0, .slice (some ad2) (p0).length cp0), (1, .int .i64 p1), (9, .int .i64 ((rdD zT111 p0 p1).Part)), (10, .bool (((rdD zT111 p0 p1).Part) == (1 : Int)))]) rfl trivial fun a hk => ?_
  refine wpListIn_nil ?_
  refine then_n ?_
  cases b3 : (((rdD zT111 p0 p1).Part) == (1 : Int))
  · rw [b3] at hk H
    replace H := bifF H
    refine x_if hk (b := false) rfl ?_
    refine (show Code.wpIn _ _ _ _ _ _ _ from ?_)
    refine x_seq ?_
    refine wpIn_region_lit ?_
    refine x_run tab hk (k := 2) (lv := []) (ks := [0, 1, 9, 26]) (e' := [(0, .slice (some ad2) (p0).length cp0), (1, .int .i64 p1), (9, .int .i64 ((rdD zT111 p0 p1).Part)), (26, .bool (((rdD zT111 p0 p1).Part) == (2 : Int)))]) rfl trivial fun a hk => ?_
    refine wpListIn_nil ?_
    refine then_n ?_
    cases b4 : (((rdD zT111 p0 p1).Part) == (2 : Int))
    · rw [b4] at hk H
      replace H := bifF H
      refine x_if hk (b := false) rfl ?_
      refine (show Code.wpIn _ _ _ _ _ _ _ from ?_)
      refine x_seq ?_
      refine wpIn_region_lit ?_
      refine x_run tab hk (k := 2) (lv := []) (ks := [0, 1, 39]) (e' := [(0, .slice (some ad2) (p0).length cp0), (1, .int .i64 p1), (39, .bool (((rdD zT111 p0 p1).Part) == (3 : Int)))]) rfl trivial fun a hk => ?_
      refine wpListIn_nil ?_
      refine then_n ?_
      cases b5 : (((rdD zT111 p0 p1).Part) == (3 : Int))
      · rw [b5] at hk H
        replace H := bifF H
        refine x_if hk (b := false) rfl ?_
        refine (show Code.wpIn _ _ _ _ _ _ _ from ?_)
        refine wpIn_skip ?_
        refine blk_n ?_
        refine then_n ?_
        refine x_seq ?_
        refine wpIn_region_lit ?_
        refine x_run tab hk (k := 1) (lv := []) (ks := [4]) (e' := [(4, .bool false)]) rfl trivial fun a hk => ?_
        refine wpListIn_nil ?_
        refine then_n ?_
        refine wpIn_ret ?_
        obtain rfl := Option.some.inj H
        exact x_retG hk (rs := [.tmp 4]) (vs := [.bool false]) rfl ⟨rfl, trivial⟩ ⟨fun b_ => if b_ < w.heap.size then o b_ else (fun _ => 0) (o0 b_), rfl, hs.close0 o (fun _ => 0)⟩
      · rw [b5] at hk H
        replace H := bifT H
        refine x_if hk (b := true) rfl ?_
        refine (show Code.wpIn _ _ _ _ _ _ _ from ?_)
        refine x_seq ?_
        refine wpIn_region_lit ?_
        refine x_run tab hk (k := 6) (lv := []) (ks := [4]) (e' := [(4, .bool (p1 != (IntKind.wrap .i64 (((p0).length : Int) - 1))))]) rfl trivial fun a hk => ?_
        refine wpListIn_nil ?_
        refine then_n ?_
        refine wpIn_ret ?_
        refine blk_r ?_
        refine then_r ?_
        obtain rfl := Option.some.inj H
        exact x_retG hk (rs := [.tmp 4]) (vs := [.bool (p1 != (IntKind.wrap .i64 (((p0).length : Int) - 1)))]) rfl ⟨rfl, trivial⟩ ⟨fun b_ => if b_ < w.heap.size then o b_ else (fun _ => 0) (o0 b_), rfl, hs.close0 o (fun _ => 0)⟩
    · rw [b4] at hk H
      replace H := bifT H
      refine x_if hk (b := true) rfl ?_
      refine (show Code.wpIn _ _ _ _ _ _ _ from ?_)
      refine x_seq ?_
      refine wpIn_region_lit ?_
      refine x_run tab hk (k := 3) (lv := []) (ks := [0, 1, 30]) (e' := [(0, .slice (some ad2) (p0).length cp0), (1, .int .i64 p1), (30, .bool (p1 == (0 : Int)))]) rfl trivial fun a hk => ?_
      cases b6 : (p1 == (0 : Int))
      · rw [b6] at hk H
        replace H := bifF H
        obtain ⟨q7, H⟩ := ifS H
        refine x_run tab hk (k := 9) (lv := [.int .i64 ((rdD zT111 p0 (IntKind.wrap .i64 (p1 - 1))).Part)]) (ks := [4]) (e' := [(4, .bool (((rdD zT111 p0 (IntKind.wrap .i64 (p1 - 1))).Part) != (1 : Int)))]) rfl ⟨q7, (load1 tab rfl (RdC.at (E := ET111) (d := zT111) (i := (IntKind.wrap .i64 (p1 - 1))) (j := 2) f900000.now q7 rfl)), trivial⟩ fun a hk => ?_
        refine wpListIn_nil ?_
        refine then_n ?_
        refine wpIn_ret ?_
        refine blk_r ?_
        refine then_r ?_
        obtain rfl := Option.some.inj H
        exact x_retG hk (rs := [.tmp 4]) (vs := [.bool (((rdD zT111 p0 (IntKind.wrap .i64 (p1 - 1))).Part) != (1 : Int))]) rfl ⟨rfl, trivial⟩ ⟨fun b_ => if b_ < w.heap.size then o b_ else (fun _ => 0) (o0 b_), rfl, hs.close0 o (fun _ => 0)⟩
      · rw [b6] at hk H
        replace H := bifT H
        refine x_run tab hk (k := 9) (lv := []) (ks := [4]) (e' := [(4, .bool true)]) rfl trivial fun a hk => ?_
        refine wpListIn_nil ?_
        refine then_n ?_
        refine wpIn_ret ?_
        refine blk_r ?_
        refine then_r ?_
        obtain rfl := Option.some.inj H
        exact x_retG hk (rs := [.tmp 4]) (vs := [.bool true]) rfl ⟨rfl, trivial⟩ ⟨fun b_ => if b_ < w.heap.size then o b_ else (fun _ => 0) (o0 b_), rfl, hs.close0 o (fun _ => 0)⟩
  · rw [b3] at hk H
    replace H := bifT H
    refine x_if hk (b := true) rfl ?_
    refine (show Code.wpIn _ _ _ _ _ _ _ from ?_)
    refine x_seq ?_
    refine wpIn_region_lit ?_
    refine x_run tab hk (k := 6) (lv := []) (ks := [0, 1, 17]) (e' := [(0, .slice (some ad2) (p0).length cp0), (1, .int .i64 p1), (17, .bool (decide ((IntKind.wrap .i64 (p1 + 1)) ≥ ((p0).length : Int))))]) rfl trivial fun a hk => ?_
    cases b8 : (decide ((IntKind.wrap .i64 (p1 + 1)) ≥ ((p0).length : Int)))
    · rw [b8] at hk H
      replace H := bifF H
      obtain ⟨q9, H⟩ := ifS H
      refine x_run tab hk (k := 9) (lv := [.int .i64 ((rdD zT111 p0 (IntKind.wrap .i64 (p1 + 1))).Part)]) (ks := [4]) (e' := [(4, .bool (((rdD zT111 p0 (IntKind.wrap .i64 (p1 + 1))).Part) != (2 : Int)))]) rfl ⟨q9, (load1 tab rfl (RdC.at (E := ET111) (d := zT111) (i := (IntKind.wrap .i64 (p1 + 1))) (j := 2) f900000.now q9 rfl)), trivial⟩ fun a hk => ?_
      refine wpListIn_nil ?_
      refine then_n ?_
      refine wpIn_ret ?_
      refine blk_r ?_
      refine then_r ?_
      obtain rfl := Option.some.inj H
      exact x_retG hk (rs := [.tmp 4]) (vs := [.bool (((rdD zT111 p0 (IntKind.wrap .i64 (p1 + 1))).Part) != (2 : Int))]) rfl ⟨rfl, trivial⟩ ⟨fun b_ => if b_ < w.heap.size then o b_ else (fun _ => 0) (o0 b_), rfl, hs.close0 o (fun _ => 0)⟩
    · rw [b8] at hk H
      replace H := bifT H
      refine x_run tab hk (k := 9) (lv := []) (ks := [4]) (e' := [(4, .bool true)]) rfl trivial fun a hk => ?_
      refine wpListIn_nil ?_
      refine then_n ?_
      refine wpIn_ret ?_
      refine blk_r ?_
      refine then_r ?_
      obtain rfl := Option.some.inj H
      exact x_retG hk (rs := [.tmp 4]) (vs := [.bool true]) rfl ⟨rfl, trivial⟩ ⟨fun b_ => if b_ < w.heap.size then o b_ else (fun _ => 0) (o0 b_), rfl, hs.close0 o (fun _ => 0)⟩

/-! tidewrack/row.mend -/
theorem row_mend_calls (K : Nat) (Ap0 : Option Addr) (cp0 : Nat) (p0 : List T111) (w : World) (o : Nat → Nat) (Lp0 : Nat) (hp0 : Ft (Own ET111 112 (.slice Ap0 (p0).length cp0) p0) w o Lp0) (hcp0 : (p0).length ≤ cp0) (hd0 : ([Lp0] : List Nat).Nodup) (r : T31) (H : row_mend K p0 = some r) :
    Calls Tryd.prog 44 #[.slice Ap0 (p0).length cp0] w (Ret fun v_ w' => ∃ o' : Nat → Nat, ∃ A0 : Option Addr, ∃ c0 : Nat, v_ = .agg #[.slice A0 (r.Cells).length c0, .bool r.Wrapped] ∧ St [Lp0] w o w' o' ∧ Ft (Own ET111 112 (.slice A0 (r.Cells).length c0) (r.Cells)) w' o' Lp0 ∧ (r.Cells).length ≤ c0) := by
  refine x_enter (vs := [.slice Ap0 (p0).length cp0]) Tryd.func44 rfl rfl rfl fun a hk => ?_
  obtain ⟨oi, hs0, h0, h1, hob, hoz, hoa⟩ := St.startM2 w o (m := 1) hd0 rfl
  have hs := hs0 [1]
  have hom := lab_in hob (MM := [1]) (by decide)
  have f900000 := h1 0 1 hp0 rfl rfl
  clear h0 h1 hs0
  rw [row_mend] at H
  refine x_seq ?_
  refine wpIn_region_lit ?_
  refine x_op hk rfl ?_
  refine op_alloc (o := oi) tab (t := 32) (cs := [.slice none 0 0, .bool false]) rfl rfl 2 fun bx4 w1 o2 st3 f5 => ?_
  replace f900000 := f900000.st st3 (by decide)
  replace hs := hs.locM st3 (by decide) hom
  have hk := hk.put 2 (.pointer (some ⟨bx4, 0, none⟩)) rfl
  refine wpListIn_nil ?_
  refine then_n ?_
  refine x_mid (fun a_ w_ => ∃ o102 : Nat → Nat, ∃ A103 : Option Addr, ∃ c104 : Nat, ∃ l105 : List T111, Kn 24 a_ [(0, .slice A103 (l105).length c104), (2, .pointer (some ⟨bx4, 0, none⟩))] ∧ St [1] w oi w_ o102 ∧ Ft (Own ET111 112 (.slice A103 (l105).length c104) l105) w_ o102 1 ∧ Ft (Bx bx4 32 [.slice none 0 0, .bool false]) w_ o102 5 ∧ (l105).length ≤ c104 ∧ row_mend_j1 l105 = some r) ?_ ?_
  rotate_left
  · rintro a w108 ⟨o102, A103, c104, l105, hk, hs, f106, f5, hc107, H⟩
    rw [row_mend_j1] at H
    refine x_seq ?_
    refine wpIn_region_lit ?_
    refine x_run tab hk (k := 2) (lv := []) (ks := [2, 23]) (e' := [(2, .pointer (some ⟨bx4, 0, none⟩)), (23, .agg #[.slice A103 (l105).length c104, .bool false])]) rfl trivial fun a hk => ?_
    refine x_op hk rfl ?_
    refine op_store tab hk (t := 32) (v := .agg #[.slice A103 (l105).length c104, .bool false]) (b := bx4) (k := 0) (cs' := [.slice A103 (l105).length c104, .bool false]) rfl rfl rfl rfl rfl rfl f5 rfl rfl fun w109 o110 st111 f5_ => ?_
    replace f106 := f106.st st111 (by decide)
    replace hs := hs.locM st111 (by decide) hom
    replace f5 := f5_
    refine wpListIn_nil ?_
    refine then_n ?_
    refine wpIn_ret ?_
    obtain rfl := Option.some.inj H
    exact x_retG hk (rs := [.cell 2 32]) (vs := [.agg #[.slice A103 (l105).length c104, .bool false]]) rfl ⟨⟨_, rfl, load_box tab rfl rfl f5.now (k := 0) rfl rfl⟩, trivial⟩ ⟨fun b_ => if b_ < w.heap.size then o b_ else (fun l_ => if l_ = 1 then Lp0 else 0) (o110 b_), A103, c104, rfl, hs.closeM hoz (by decide) (fun l_ => if l_ = 1 then Lp0 else 0), hs.closeM_ft (o := o) (ρ := fun l_ => if l_ = 1 then Lp0 else 0) f106 (lab_at hoa (i := 0) rfl) rfl, hc107⟩
  refine x_seq ?_
  refine wpIn_region_lit ?_
  refine x_run tab hk (k := 3) (lv := []) (ks := [0, 2, 5, 6]) (e' := [(0, .slice Ap0 (p0).length cp0), (2, .pointer (some ⟨bx4, 0, none⟩)), (5, .int .i64 ((p0).length : Int)), (6, .int .i64 0)]) rfl trivial fun a hk => ?_
  refine wpListIn_nil ?_
  refine then_n ?_
  refine wpIn_block ?_
  refine x_loop (fun j_ a_ w_ => ∃ o139 : Nat → Nat, ∃ A140 : Option Addr, ∃ c141 : Nat, ∃ l142 : List T111, ∃ x145 : Int, Kn 24 a_ [(0, .slice A140 (l142).length c141), (2, .pointer (some ⟨bx4, 0, none⟩)), (5, .int .i64 ((p0).length : Int)), (6, .int .i64 x145)] ∧ St [1] w oi w_ o139 ∧ Ft (Own ET111 112 (.slice A140 (l142).length c141) l142) w_ o139 1 ∧ Ft (Bx bx4 32 [.slice none 0 0, .bool false]) w_ o139 7 ∧ (l142).length ≤ c141 ∧ row_mend_l2 p0 j_ l142 x145 = some r) (k := K) ⟨(fun b_ => (fun l_ => if l_ = 2 then 7 else l_) (o2 b_)), Ap0, cp0, p0, 0, (by exact Kn.pick (ks := [0, 2, 5, 6]) hk rfl), (hs.relabM hob (fun l_ => if l_ = 2 then 7 else l_) (by decide)), (f900000.relab (fun l_ => if l_ = 2 then 7 else l_) rfl), (f5.relab (fun l_ => if l_ = 2 then 7 else l_) rfl), hcp0, H⟩ (by rintro _ _ ⟨_, _, _, _, _, _, _, _, _, _, H_⟩; exact absurd (show (none : Option T31) = some r from H_) (by simp)) ?_
  rintro k171 a w170 ⟨o139, A140, c141, l142, x145, hk, hs, f143, f5, hc144, H⟩
  rw [row_mend_l2] at H
  obtain ⟨lp172, hlp173⟩ : ∃ lp_, lp_ = row_mend_l2 p0 k171 := ⟨_, rfl⟩
  rw [← hlp173] at H
  refine x_seq ?_
  refine wpIn_region_lit ?_
  refine x_run tab hk (k := 1) (lv := []) (ks := [0, 2, 5, 6, 7]) (e' := [(0, .slice A140 (l142).length c141), (2, .pointer (some ⟨bx4, 0, none⟩)), (5, .int .i64 ((p0).length : Int)), (6, .int .i64 x145), (7, .bool (decide (x145 < ((p0).length : Int))))]) rfl trivial fun a hk => ?_
  refine wpListIn_nil ?_
  refine then_n ?_
  refine x_seq ?_
  cases b174 : (decide (x145 < ((p0).length : Int)))
  · rw [b174] at hk H
    replace H := bifF H
    refine x_if hk (b := false) rfl ?_
    refine (show Code.wpIn _ _ _ _ _ _ _ from ?_)
    refine wpIn_exit ?_
    refine then_x ?_
    refine then_x ?_
    refine blk_x ?_
    refine then_n ?_
    exact ⟨(fun b_ => (fun l_ => if l_ = 7 then 5 else l_) (o139 b_)), A140, c141, l142, (by exact Kn.pick (ks := [0, 2]) hk rfl), (hs.relabM hob (fun l_ => if l_ = 7 then 5 else l_) (by decide)), (f143.relab (fun l_ => if l_ = 7 then 5 else l_) rfl), (f5.relab (fun l_ => if l_ = 7 then 5 else l_) rfl), hc144, H⟩
  · rw [b174] at hk H
    replace H := bifT H
    refine x_if hk (b := true) rfl ?_
    refine (show Code.wpIn _ _ _ _ _ _ _ from ?_)
    refine wpIn_skip ?_
    refine then_n ?_
    refine x_seq ?_
    refine wpIn_block ?_
    refine x_seq ?_
    refine wpIn_region_lit ?_
    refine x_run tab hk (k := 2) (lv := []) (ks := [0, 2, 3, 5, 6]) (e' := [(0, .slice A140 (l142).length c141), (2, .pointer (some ⟨bx4, 0, none⟩)), (3, .int .i64 x145), (5, .int .i64 ((p0).length : Int)), (6, .int .i64 x145)]) rfl trivial fun a hk => ?_
    refine wpListIn_nil ?_
    refine then_n ?_
    refine x_seq ?_
    refine wpIn_region_lit ?_
    refine x_run tab hk (k := 2) (lv := []) (ks := [0, 2, 3, 5, 6, 9, 10]) (e' := [(0, .slice A140 (l142).length c141), (2, .pointer (some ⟨bx4, 0, none⟩)), (3, .int .i64 x145), (5, .int .i64 ((p0).length : Int)), (6, .int .i64 x145), (9, .slice A140 (l142).length c141), (10, .int .i64 x145)]) rfl trivial fun a hk => ?_
    refine x_op hk rfl ?_
    obtain ⟨t178, hc179, H⟩ := bindS H
    refine op_call hk ent_76 (vs := [.slice A140 (l142).length c141, .int .i64 x145]) rfl (row_broken_calls A140 c141 l142 x145 _ o139 _ (f143.imp fun _ h_ => Own.rd h_) hc144   _ hc179) ?_
    rintro _ w180 ⟨o181, rfl, st182⟩
    replace f143 := f143.st st182 (by decide)
    replace f5 := f5.st st182 (by decide)
    replace hs := hs.locM st182 (by decide) hom
    have hk := hk.put 11 (.bool t178) rfl
    refine wpListIn_nil ?_
    refine then_n ?_
    cases b183 : t178
    · rw [b183] at hk H
      replace H := bifF H
      refine x_if hk (b := false) rfl ?_
      refine (show Code.wpIn _ _ _ _ _ _ _ from ?_)
      refine wpIn_skip ?_
      refine blk_n ?_
      refine then_n ?_
      refine wpIn_region_lit ?_
      refine x_run tab hk (k := 2) (lv := []) (ks := [0, 2, 5, 6]) (e' := [(0, .slice A140 (l142).length c141), (2, .pointer (some ⟨bx4, 0, none⟩)), (5, .int .i64 ((p0).length : Int)), (6, .int .i64 (IntKind.wrap .i64 (x145 + 1)))]) rfl trivial fun a hk => ?_
      refine wpListIn_nil ?_
      refine then_n ?_
      exact ⟨k171, Nat.le_refl _, o181, A140, c141, l142, (IntKind.wrap .i64 (x145 + 1)), (by exact Kn.pick (ks := [0, 2, 5, 6]) hk rfl), hs, f143, f5, hc144, (hlp173 ▸ H)⟩
    · rw [b183] at hk H
      replace H := bifT H
      refine x_if hk (b := true) rfl ?_
      refine (show Code.wpIn _ _ _ _ _ _ _ from ?_)
      refine wpIn_region_lit ?_
      obtain ⟨q184, H⟩ := ifS H
      obtain ⟨ad185, hAad185⟩ := RdC.addr (Own.rd f143.now) q184
      have hk_C := hk
      have f143_C := f143
      have f5_C := f5
      subst hAad185
      have hk := hk_C
      clear hk_C
      have f143 := f143_C
      clear f143_C
      have f5 := f5_C
      clear f5_C
      refine x_run tab hk (k := 7) (lv := [.int .i64 ((rdD zT111 l142 x145).Style)]) (ks := [0, 2, 5, 6, 12, 13, 18]) (e' := [(0, .slice (some ad185) (l142).length c141), (2, .pointer (some ⟨bx4, 0, none⟩)), (5, .int .i64 ((p0).length : Int)), (6, .int .i64 x145), (12, .slice (some ad185) (l142).length c141), (13, .int .i64 x145), (18, .int .i64 ((rdD zT111 l142 x145).Style))]) rfl ⟨q184, (load1 tab rfl (RdC.at (E := ET111) (d := zT111) (i := x145) (j := 1) (Own.rd f143.now) q184 rfl)), trivial⟩ fun a hk => ?_
      refine x_op hk rfl ?_
      obtain ⟨t189, hc190, H⟩ := bindS H
      refine op_call hk ent_43 (vs := [.int .i64 ((rdD zT111 l142 x145).Style)]) rfl (row_blank_calls ((rdD zT111 l142 x145).Style) _ o181    _ hc190) ?_
      rintro _ w191 ⟨o192, rfl, st193⟩
      replace f143 := f143.st st193 (by decide)
      replace f5 := f5.st st193 (by decide)
      replace hs := hs.locM st193 (by decide) hom
      have hk := hk.put 19 (.agg #[.int .i32 t189.Rune, .int .i64 t189.Style, .int .i64 t189.Part]) rfl
      refine x_run tab hk (k := 1) (lv := []) (ks := [0, 2, 5, 6, 19, 20]) (e' := [(0, .slice (some ad185) (l142).length c141), (2, .pointer (some ⟨bx4, 0, none⟩)), (5, .int .i64 ((p0).length : Int)), (6, .int .i64 x145), (19, .agg #[.int .i32 t189.Rune, .int .i64 t189.Style, .int .i64 t189.Part]), (20, .pointer (some (ad185.add (Int.toNat x145 * 3))))]) rfl ⟨q184, trivial⟩ fun a hk => ?_
      refine x_op hk rfl ?_
      refine op_storeO tab hk (E := ET111) (i := x145) (j := 0) (dx := zT111) (y' := t189) rfl rfl rfl f143 rfl q184 rfl rfl rfl rfl fun w194 o195 st196 f143_ => ?_
      replace f5 := f5.st st196 (by decide)
      replace hs := hs.locM st196 (by decide) hom
      replace f143 := f143_
      have hl197 : (List.set l142 (Int.toNat x145) t189).length = (l142).length := List.length_set
      replace hk := Kn.re hk [0, 2, 5, 6, 19] (e2 := [(0, .slice (some ad185) ((List.set l142 (Int.toNat x145) t189)).length c141), (2, .pointer (some ⟨bx4, 0, none⟩)), (5, .int .i64 ((p0).length : Int)), (6, .int .i64 x145), (19, .agg #[.int .i32 t189.Rune, .int .i64 t189.Style, .int .i64 t189.Part])]) rfl (by rw [hl197])
      refine wpListIn_nil ?_
      refine blk_n ?_
      refine then_n ?_
      refine wpIn_region_lit ?_
      refine x_run tab hk (k := 2) (lv := []) (ks := [0, 2, 5, 6]) (e' := [(0, .slice (some ad185) ((List.set l142 (Int.toNat x145) t189)).length c141), (2, .pointer (some ⟨bx4, 0, none⟩)), (5, .int .i64 ((p0).length : Int)), (6, .int .i64 (IntKind.wrap .i64 (x145 + 1)))]) rfl trivial fun a hk => ?_
      refine wpListIn_nil ?_
      refine then_n ?_
      exact ⟨k171, Nat.le_refl _, o195, (some ad185), c141, (List.set l142 (Int.toNat x145) t189), (IntKind.wrap .i64 (x145 + 1)), (by exact Kn.pick (ks := [0, 2, 5, 6]) hk rfl), hs, f143, f5, (by rw [List.length_set]; exact hc144), (hlp173 ▸ H)⟩

/-! (tidewrack/row.Row).Put -/
theorem row_Row_Put_calls (K : Nat) (Ap0_0 : Option Addr) (cp0_0 : Nat) (p0 : T31) (p1 : Int) (p2 : Int) (p3 : Int) (w : World) (o : Nat → Nat) (Lg0 : Nat) (hg0 : Ft (RdC ET97 (some ⟨0, 0, none⟩) glob0) w o Lg0) (Lg1 : Nat) (hg1 : Ft (RdC ET97 (some ⟨1, 0, none⟩) glob1) w o Lg1) (Lp0_0 : Nat) (hp0_0 : Ft (RdC ET111 Ap0_0 p0.Cells) w o Lp0_0) (hcp0_0 : (p0.Cells).length ≤ cp0_0)  (R0 : Nat) (r : T31) (H : row_Row_Put K p0 p1 p2 p3 = some r) :
    Calls Tryd.prog 15 #[.agg #[.slice Ap0_0 (p0.Cells).length cp0_0, .bool p0.Wrapped], .int .i64 p1, .int .i32 p2, .int .i64 p3] w (Ret fun v_ w' => ∃ o' : Nat → Nat, ∃ A0 : Option Addr, ∃ c0 : Nat, v_ = .agg #[.slice A0 (r.Cells).length c0, .bool r.Wrapped] ∧ St [] w o w' o' ∧ Ft (Own ET111 112 (.slice A0 (r.Cells).length c0) (r.Cells)) w' o' R0 ∧ (r.Cells).length ≤ c0) := by
  refine x_enter (vs := [.agg #[.slice Ap0_0 (p0.Cells).length cp0_0, .bool p0.Wrapped], .int .i64 p1, .int .i32 p2, .int .i64 p3]) Tryd.func15 rfl rfl rfl fun a hk => ?_
  obtain ⟨o0, hs, h0⟩ := St.start w o
  have fg0 := h0 _ _ hg0
  have fg1 := h0 _ _ hg1
  have f900000 := h0 _ _ hp0_0
  clear h0
  rw [row_Row_Put] at H
  refine x_seq ?_
  refine wpIn_region_lit ?_
  refine x_op hk rfl ?_
  refine op_box (o := o0) (t := 32) (v := .agg #[.slice Ap0_0 (p0.Cells).length cp0_0, .bool p0.Wrapped]) (cs := [.slice Ap0_0 (p0.Cells).length cp0_0, .bool p0.Wrapped]) hk rfl rfl 1 fun bx4 w1 o2 st3 f5 => ?_
  replace f900000 := f900000.st st3 (by decide)
  replace fg0 := fg0.st st3 (by decide)
  replace fg1 := fg1.st st3 (by decide)
  replace hs := hs.loc0 st3 (by decide)
  have hk := hk.put 4 (.pointer (some ⟨bx4, 0, none⟩)) rfl
  refine x_op hk rfl ?_
  refine op_alloc (o := o2) tab (t := 32) (cs := [.slice none 0 0, .bool false]) rfl rfl 2 fun bx9 w6 o7 st8 f10 => ?_
  replace f5 := f5.st st8 (by decide)
  replace f900000 := f900000.st st8 (by decide)
  replace fg0 := fg0.st st8 (by decide)
  replace fg1 := fg1.st st8 (by decide)
  replace hs := hs.loc0 st8 (by decide)
  have hk := hk.put 8 (.pointer (some ⟨bx9, 0, none⟩)) rfl
  refine wpListIn_nil ?_
  refine then_n ?_
  refine x_seq ?_
  refine wpIn_region_lit ?_
  refine x_run tab hk (k := 1) (lv := [.agg #[.slice Ap0_0 (p0.Cells).length cp0_0, .bool p0.Wrapped]]) (ks := [1, 2, 3, 8, 11]) (e' := [(1, .int .i64 p1), (2, .int .i32 p2), (3, .int .i64 p3), (8, .pointer (some ⟨bx9, 0, none⟩)), (11, .agg #[.slice Ap0_0 (p0.Cells).length cp0_0, .bool p0.Wrapped])]) rfl ⟨(load_box tab rfl rfl f5.now (k := 0) rfl rfl), trivial⟩ fun a hk => ?_
  refine x_op hk rfl ?_
  obtain ⟨t14, hc15, H⟩ := bindS H
  refine op_call hk ent_42 (vs := [.agg #[.slice Ap0_0 (p0.Cells).length cp0_0, .bool p0.Wrapped]]) rfl (row_Row_cells_calls Ap0_0 cp0_0 p0 _ o7 _ f900000 hcp0_0 3  _ hc15) ?_
  rintro _ w16 ⟨o17, A19, c20, rfl, st18, f21, hc22⟩
  replace f10 := f10.st st18 (by decide)
  replace f900000 := f900000.st st18 (by decide)
  replace fg0 := fg0.st st18 (by decide)
  replace fg1 := fg1.st st18 (by decide)
  replace hs := hs.loc0 st18 (by decide)
  have hk := hk.put 12 (.slice A19 (t14).length c20) rfl
  refine x_run tab hk (k := 1) (lv := []) (ks := [1, 2, 3, 8, 9]) (e' := [(1, .int .i64 p1), (2, .int .i32 p2), (3, .int .i64 p3), (8, .pointer (some ⟨bx9, 0, none⟩)), (9, .slice A19 (t14).length c20)]) rfl trivial fun a hk => ?_
  refine wpListIn_nil ?_
  refine then_n ?_
  refine x_seq ?_
  refine wpIn_region_lit ?_
  refine x_run tab hk (k := 1) (lv := []) (ks := [1, 2, 3, 8, 9, 13]) (e' := [(1, .int .i64 p1), (2, .int .i32 p2), (3, .int .i64 p3), (8, .pointer (some ⟨bx9, 0, none⟩)), (9, .slice A19 (t14).length c20), (13, .int .i32 p2)]) rfl trivial fun a hk => ?_
  refine x_op hk rfl ?_
  obtain ⟨t26, hc27, H⟩ := bindS H
  refine op_call hk ent_8 (vs := [.int .i32 p2]) rfl (wide_Of_calls K p2 _ o17 0 fg0 0 fg1   _ hc27) ?_
  rintro _ w28 ⟨o29, rfl, st30⟩
  replace f10 := f10.st st30 (by decide)
  replace f21 := f21.st st30 (by decide)
  replace fg0 := fg0.st st30 (by decide)
  replace fg1 := fg1.st st30 (by decide)
  replace hs := hs.loc0 st30 (by decide)
  have hk := hk.put 14 (.int .i64 t26) rfl
  refine x_run tab hk (k := 1) (lv := []) (ks := [1, 2, 3, 8, 9, 10]) (e' := [(1, .int .i64 p1), (2, .int .i32 p2), (3, .int .i64 p3), (8, .pointer (some ⟨bx9, 0, none⟩)), (9, .slice A19 (t14).length c20), (10, .int .i64 t26)]) rfl trivial fun a hk => ?_
  refine wpListIn_nil ?_
  refine then_n ?_
  refine x_seq ?_
  refine wpIn_block ?_
  refine x_mid (fun a_ w_ => ∃ o39 : Nat → Nat, ∃ x40 : Bool, Kn 76 a_ [(1, .int .i64 p1), (2, .int .i32 p2), (3, .int .i64 p3), (8, .pointer (some ⟨bx9, 0, none⟩)), (9, .slice A19 (t14).length c20), (10, .int .i64 t26), (50, .bool x40)] ∧ St [] w (fun _ => 0) w_ o39 ∧ Ft (Bx bx9 32 [.slice none 0 0, .bool false]) w_ o39 4 ∧ Ft (Own ET111 112 (.slice A19 (t14).length c20) t14) w_ o39 5 ∧ Ft (RdC ET97 (some ⟨0, 0, none⟩) glob0) w_ o39 0 ∧ Ft (RdC ET97 (some ⟨1, 0, none⟩) glob1) w_ o39 0 ∧ row_Row_Put_j1 K p1 p2 p3 t14 t26 x40 = some r) ?_ ?_
  rotate_left
  · rintro a w41 ⟨o39, x40, hk, hs, f10, f21, fg0, fg1, H⟩
    rw [row_Row_Put_j1] at H
    cases b42 : x40
    · rw [b42] at hk H
      replace H := bifF H
      refine x_if hk (b := false) rfl ?_
      refine (show Code.wpIn _ _ _ _ _ _ _ from ?_)
      refine x_seq ?_
      refine wpIn_region_lit ?_
      refine x_run tab hk (k := 3) (lv := []) (ks := [1, 2, 3, 8, 9, 65]) (e' := [(1, .int .i64 p1), (2, .int .i32 p2), (3, .int .i64 p3), (8, .pointer (some ⟨bx9, 0, none⟩)), (9, .slice A19 (t14).length c20), (65, .bool (t26 == (1 : Int)))]) rfl trivial fun a hk => ?_
      refine wpListIn_nil ?_
      refine then_n ?_
      cases b43 : (t26 == (1 : Int))
      · rw [b43] at hk H
        replace H := bifF H
        refine x_if hk (b := false) rfl ?_
        refine (show Code.wpIn _ _ _ _ _ _ _ from ?_)
        refine x_seq ?_
        refine wpIn_region_lit ?_
        refine x_run tab hk (k := 10) (lv := []) (ks := [1, 8, 9, 15, 16, 17, 19, 22, 23, 24]) (e' := [(1, .int .i64 p1), (8, .pointer (some ⟨bx9, 0, none⟩)), (9, .slice A19 (t14).length c20), (15, .slice A19 (t14).length c20), (16, .int .i64 p1), (17, .slice A19 (t14).length c20), (19, .int .i64 (IntKind.wrap .i64 (p1 + 1))), (22, .agg #[.int .i32 p2, .int .i64 p3, .int .i64 1]), (23, .int .i32 p2), (24, .int .i64 p3)]) rfl trivial fun a hk => ?_
        obtain ⟨q44, H⟩ := ifS H
        obtain ⟨ad45, hAad45⟩ := RdC.addr (Own.rd f21.now) q44
        have hk_C := hk
        have f10_C := f10
        have f21_C := f21
        have fg0_C := fg0
        have fg1_C := fg1
        subst hAad45
        have hk := hk_C
        clear hk_C
        have f10 := f10_C
        clear f10_C
        have f21 := f21_C
        clear f21_C
        have fg0 := fg0_C
        clear fg0_C
        have fg1 := fg1_C
        clear fg1_C
        refine x_run tab hk (k := 2) (lv := []) (ks := [1, 8, 9, 17, 19, 22, 25, 26]) (e' := [(1, .int .i64 p1), (8, .pointer (some ⟨bx9, 0, none⟩)), (9, .slice (some ad45) (t14).length c20), (17, .slice (some ad45) (t14).length c20), (19, .int .i64 (IntKind.wrap .i64 (p1 + 1))), (22, .agg #[.int .i32 p2, .int .i64 p3, .int .i64 1]), (25, .agg #[.int .i32 p2, .int .i64 p3, .int .i64 2]), (26, .pointer (some (ad45.add (Int.toNat p1 * 3))))]) rfl ⟨q44, trivial⟩ fun a hk => ?_
        refine x_op hk rfl ?_
        refine op_storeO tab hk (E := ET111) (i := p1) (j := 0) (dx := zT111) (y' := (⟨p2, p3, 1⟩ : T111)) rfl rfl rfl f21 rfl q44 rfl rfl rfl rfl fun w46 o47 st48 f21_ => ?_
        replace f10 := f10.st st48 (by decide)
        replace fg0 := fg0.st st48 (by decide)
        replace fg1 := fg1.st st48 (by decide)
        replace hs := hs.loc0 st48 (by decide)
        replace f21 := f21_
        have hl49 : (List.set t14 (Int.toNat p1) (⟨p2, p3, 1⟩ : T111)).length = (t14).length := List.length_set
        replace hk := Kn.re hk [1, 8, 9, 17, 19, 22, 25] (e2 := [(1, .int .i64 p1), (8, .pointer (some ⟨bx9, 0, none⟩)), (9, .slice (some ad45) ((List.set t14 (Int.toNat p1) (⟨p2, p3, 1⟩ : T111))).length c20), (17, .slice (some ad45) ((List.set t14 (Int.toNat p1) (⟨p2, p3, 1⟩ : T111))).length c20), (19, .int .i64 (IntKind.wrap .i64 (p1 + 1))), (22, .agg #[.int .i32 p2, .int .i64 p3, .int .i64 1]), (25, .agg #[.int .i32 p2, .int .i64 p3, .int .i64 2])]) rfl (by rw [hl49])
        obtain ⟨q50, H⟩ := ifS H
        refine x_run tab hk (k := 1) (lv := []) (ks := [1, 8, 9, 25, 27]) (e' := [(1, .int .i64 p1), (8, .pointer (some ⟨bx9, 0, none⟩)), (9, .slice (some ad45) ((List.set t14 (Int.toNat p1) (⟨p2, p3, 1⟩ : T111))).length c20), (25, .agg #[.int .i32 p2, .int .i64 p3, .int .i64 2]), (27, .pointer (some (ad45.add (Int.toNat (IntKind.wrap .i64 (p1 + 1)) * 3))))]) rfl ⟨q50, trivial⟩ fun a hk => ?_
        refine x_op hk rfl ?_
        refine op_storeO tab hk (E := ET111) (i := (IntKind.wrap .i64 (p1 + 1))) (j := 0) (dx := zT111) (y' := (⟨p2, p3, 2⟩ : T111)) rfl rfl rfl f21 rfl q50 rfl rfl rfl rfl fun w51 o52 st53 f21_ => ?_
        replace f10 := f10.st st53 (by decide)
        replace fg0 := fg0.st st53 (by decide)
        replace fg1 := fg1.st st53 (by decide)
        replace hs := hs.loc0 st53 (by decide)
        replace f21 := f21_
        have hl54 : (List.set (List.set t14 (Int.toNat p1) (⟨p2, p3, 1⟩ : T111)) (Int.toNat (IntKind.wrap .i64 (p1 + 1))) (⟨p2, p3, 2⟩ : T111)).length = ((List.set t14 (Int.toNat p1) (⟨p2, p3, 1⟩ : T111))).length := List.length_set
        replace hk := Kn.re hk [1, 8, 9, 25] (e2 := [(1, .int .i64 p1), (8, .pointer (some ⟨bx9, 0, none⟩)), (9, .slice (some ad45) ((List.set (List.set t14 (Int.toNat p1) (⟨p2, p3, 1⟩ : T111)) (Int.toNat (IntKind.wrap .i64 (p1 + 1))) (⟨p2, p3, 2⟩ : T111))).length c20), (25, .agg #[.int .i32 p2, .int .i64 p3, .int .i64 2])]) rfl (by rw [hl54])
        refine wpListIn_nil ?_
        refine then_n ?_
        refine x_mid (fun a_ w_ => ∃ o63 : Nat → Nat, ∃ x64 : Bool, Kn 76 a_ [(1, .int .i64 p1), (8, .pointer (some ⟨bx9, 0, none⟩)), (9, .slice (some ad45) ((List.set (List.set t14 (Int.toNat p1) (⟨p2, p3, 1⟩ : T111)) (Int.toNat (IntKind.wrap .i64 (p1 + 1))) (⟨p2, p3, 2⟩ : T111))).length c20), (38, .bool x64)] ∧ St [] w (fun _ => 0) w_ o63 ∧ Ft (Bx bx9 32 [.slice none 0 0, .bool false]) w_ o63 6 ∧ Ft (Own ET111 112 (.slice (some ad45) ((List.set (List.set t14 (Int.toNat p1) (⟨p2, p3, 1⟩ : T111)) (Int.toNat (IntKind.wrap .i64 (p1 + 1))) (⟨p2, p3, 2⟩ : T111))).length c20) (List.set (List.set t14 (Int.toNat p1) (⟨p2, p3, 1⟩ : T111)) (Int.toNat (IntKind.wrap .i64 (p1 + 1))) (⟨p2, p3, 2⟩ : T111))) w_ o63 7 ∧ Ft (RdC ET97 (some ⟨0, 0, none⟩) glob0) w_ o63 0 ∧ Ft (RdC ET97 (some ⟨1, 0, none⟩) glob1) w_ o63 0 ∧ row_Row_Put_j2 K p1 p2 p3 t14 x64 = some r) ?_ ?_
        rotate_left
        · rintro a w65 ⟨o63, x64, hk, hs, f10, f21, fg0, fg1, H⟩
          rw [row_Row_Put_j2] at H
          cases b66 : x64
          · rw [b66] at hk H
            replace H := bifF H
            refine x_if hk (b := false) rfl ?_
            refine (show Code.wpIn _ _ _ _ _ _ _ from ?_)
            refine wpIn_skip ?_
            refine blk_n ?_
            refine then_n ?_
            refine x_seq ?_
            refine wpIn_region_lit ?_
            refine x_run tab hk (k := 1) (lv := []) (ks := [8, 74]) (e' := [(8, .pointer (some ⟨bx9, 0, none⟩)), (74, .slice (some ad45) ((List.set (List.set t14 (Int.toNat p1) (⟨p2, p3, 1⟩ : T111)) (Int.toNat (IntKind.wrap .i64 (p1 + 1))) (⟨p2, p3, 2⟩ : T111))).length c20)]) rfl trivial fun a hk => ?_
            refine x_op hk rfl ?_
            obtain ⟨t70, hc71, H⟩ := bindS H
            refine op_call hk ent_44 (vs := [.slice (some ad45) ((List.set (List.set t14 (Int.toNat p1) (⟨p2, p3, 1⟩ : T111)) (Int.toNat (IntKind.wrap .i64 (p1 + 1))) (⟨p2, p3, 2⟩ : T111))).length c20]) rfl (row_mend_calls K (some ad45) c20 (List.set (List.set t14 (Int.toNat p1) (⟨p2, p3, 1⟩ : T111)) (Int.toNat (IntKind.wrap .i64 (p1 + 1))) (⟨p2, p3, 2⟩ : T111)) _ o63 7 f21 (by rw [List.length_set]; exact (by rw [List.length_set]; exact hc22)) (by decide)   _ hc71) ?_
            rintro _ w72 ⟨o73, A75, c76, rfl, st74, f77, hc78⟩
            replace f10 := f10.st st74 (by decide)
            replace fg0 := fg0.st st74 (by decide)
            replace fg1 := fg1.st st74 (by decide)
            replace hs := hs.loc0 st74 (by decide)
            have hk := hk.put 75 (.agg #[.slice A75 (t70.Cells).length c76, .bool t70.Wrapped]) rfl
            refine x_op hk rfl ?_
            refine op_store tab hk (t := 32) (v := .agg #[.slice A75 (t70.Cells).length c76, .bool t70.Wrapped]) (b := bx9) (k := 0) (cs' := [.slice A75 (t70.Cells).length c76, .bool t70.Wrapped]) rfl rfl rfl rfl rfl rfl f10 rfl rfl fun w79 o80 st81 f10_ => ?_
            replace f77 := f77.st st81 (by decide)
            replace fg0 := fg0.st st81 (by decide)
            replace fg1 := fg1.st st81 (by decide)
            replace hs := hs.loc0 st81 (by decide)
            replace f10 := f10_
            refine wpListIn_nil ?_
            refine then_n ?_
            refine wpIn_ret ?_
            obtain rfl := Option.some.inj H
            exact x_retG hk (rs := [.cell 8 32]) (vs := [.agg #[.slice A75 (t70.Cells).length c76, .bool t70.Wrapped]]) rfl ⟨⟨_, rfl, load_box tab rfl rfl f10.now (k := 0) rfl rfl⟩, trivial⟩ ⟨fun b_ => if b_ < w.heap.size then o b_ else (fun _ => R0) (o80 b_), A75, c76, rfl, hs.close0 o (fun _ => R0), hs.close_ft (o := o) (ρ := fun _ => R0) f77 (by decide) rfl, hc78⟩
          · rw [b66] at hk H
            replace H := bifT H
            refine x_if hk (b := true) rfl ?_
            refine (show Code.wpIn _ _ _ _ _ _ _ from ?_)
            refine wpIn_region_lit ?_
            obtain ⟨q82, H⟩ := ifS H
            refine x_run tab hk (k := 9) (lv := [.int .i64 ((rdD zT111 (List.set (List.set t14 (Int.toNat p1) (⟨p2, p3, 1⟩ : T111)) (Int.toNat (IntKind.wrap .i64 (p1 + 1))) (⟨p2, p3, 2⟩ : T111)) (IntKind.wrap .i64 (p1 - 1))).Style)]) (ks := [8, 9, 39, 41, 47]) (e' := [(8, .pointer (some ⟨bx9, 0, none⟩)), (9, .slice (some ad45) ((List.set (List.set t14 (Int.toNat p1) (⟨p2, p3, 1⟩ : T111)) (Int.toNat (IntKind.wrap .i64 (p1 + 1))) (⟨p2, p3, 2⟩ : T111))).length c20), (39, .slice (some ad45) ((List.set (List.set t14 (Int.toNat p1) (⟨p2, p3, 1⟩ : T111)) (Int.toNat (IntKind.wrap .i64 (p1 + 1))) (⟨p2, p3, 2⟩ : T111))).length c20), (41, .int .i64 (IntKind.wrap .i64 (p1 - 1))), (47, .int .i64 ((rdD zT111 (List.set (List.set t14 (Int.toNat p1) (⟨p2, p3, 1⟩ : T111)) (Int.toNat (IntKind.wrap .i64 (p1 + 1))) (⟨p2, p3, 2⟩ : T111)) (IntKind.wrap .i64 (p1 - 1))).Style))]) rfl ⟨q82, (load1 tab rfl (RdC.at (E := ET111) (d := zT111) (i := (IntKind.wrap .i64 (p1 - 1))) (j := 1) (Own.rd f21.now) q82 rfl)), trivial⟩ fun a hk => ?_
            refine x_op hk rfl ?_
            obtain ⟨t86, hc87, H⟩ := bindS H
            refine op_call hk ent_43 (vs := [.int .i64 ((rdD zT111 (List.set (List.set t14 (Int.toNat p1) (⟨p2, p3, 1⟩ : T111)) (Int.toNat (IntKind.wrap .i64 (p1 + 1))) (⟨p2, p3, 2⟩ : T111)) (IntKind.wrap .i64 (p1 - 1))).Style)]) rfl (row_blank_calls ((rdD zT111 (List.set (List.set t14 (Int.toNat p1) (⟨p2, p3, 1⟩ : T111)) (Int.toNat (IntKind.wrap .i64 (p1 + 1))) (⟨p2, p3, 2⟩ : T111)) (IntKind.wrap .i64 (p1 - 1))).Style) _ o63    _ hc87) ?_
            rintro _ w88 ⟨o89, rfl, st90⟩
            replace f10 := f10.st st90 (by decide)
            replace f21 := f21.st st90 (by decide)
            replace fg0 := fg0.st st90 (by decide)
            replace fg1 := fg1.st st90 (by decide)
            replace hs := hs.loc0 st90 (by decide)
            have hk := hk.put 48 (.agg #[.int .i32 t86.Rune, .int .i64 t86.Style, .int .i64 t86.Part]) rfl
            refine x_run tab hk (k := 1) (lv := []) (ks := [8, 9, 48, 49]) (e' := [(8, .pointer (some ⟨bx9, 0, none⟩)), (9, .slice (some ad45) ((List.set (List.set t14 (Int.toNat p1) (⟨p2, p3, 1⟩ : T111)) (Int.toNat (IntKind.wrap .i64 (p1 + 1))) (⟨p2, p3, 2⟩ : T111))).length c20), (48, .agg #[.int .i32 t86.Rune, .int .i64 t86.Style, .int .i64 t86.Part]), (49, .pointer (some (ad45.add (Int.toNat (IntKind.wrap .i64 (p1 - 1)) * 3))))]) rfl ⟨q82, trivial⟩ fun a hk => ?_
            refine x_op hk rfl ?_
            refine op_storeO tab hk (E := ET111) (i := (IntKind.wrap .i64 (p1 - 1))) (j := 0) (dx := zT111) (y' := t86) rfl rfl rfl f21 rfl q82 rfl rfl rfl rfl fun w91 o92 st93 f21_ => ?_
            replace f10 := f10.st st93 (by decide)
            replace fg0 := fg0.st st93 (by decide)
            replace fg1 := fg1.st st93 (by decide)
            replace hs := hs.loc0 st93 (by decide)
            replace f21 := f21_
            have hl94 : (List.set (List.set (List.set t14 (Int.toNat p1) (⟨p2, p3, 1⟩ : T111)) (Int.toNat (IntKind.wrap .i64 (p1 + 1))) (⟨p2, p3, 2⟩ : T111)) (Int.toNat (IntKind.wrap .i64 (p1 - 1))) t86).length = ((List.set (List.set t14 (Int.toNat p1) (⟨p2, p3, 1⟩ : T111)) (Int.toNat (IntKind.wrap .i64 (p1 + 1))) (⟨p2, p3, 2⟩ : T111))).length := List.length_set
            replace hk := Kn.re hk [8, 9, 48] (e2 := [(8, .pointer (some ⟨bx9, 0, none⟩)), (9, .slice (some ad45) ((List.set (List.set (List.set t14 (Int.toNat p1) (⟨p2, p3, 1⟩ : T111)) (Int.toNat (IntKind.wrap .i64 (p1 + 1))) (⟨p2, p3, 2⟩ : T111)) (Int.toNat (IntKind.wrap .i64 (p1 - 1))) t86)).length c20), (48, .agg #[.int .i32 t86.Rune, .int .i64 t86.Style, .int .i64 t86.Part])]) rfl (by rw [hl94])
            refine wpListIn_nil ?_
            refine blk_n ?_
            refine then_n ?_
            refine x_seq ?_
            refine wpIn_region_lit ?_
            refine x_run tab hk (k := 1) (lv := []) (ks := [8, 74]) (e' := [(8, .pointer (some ⟨bx9, 0, none⟩)), (74, .slice (some ad45) ((List.set (List.set (List.set t14 (Int.toNat p1) (⟨p2, p3, 1⟩ : T111)) (Int.toNat (IntKind.wrap .i64 (p1 + 1))) (⟨p2, p3, 2⟩ : T111)) (Int.toNat (IntKind.wrap .i64 (p1 - 1))) t86)).length c20)]) rfl trivial fun a hk => ?_
            refine x_op hk rfl ?_
            obtain ⟨t98, hc99, H⟩ := bindS H
            refine op_call hk ent_44 (vs := [.slice (some ad45) ((List.set (List.set (List.set t14 (Int.toNat p1) (⟨p2, p3, 1⟩ : T111)) (Int.toNat (IntKind.wrap .i64 (p1 + 1))) (⟨p2, p3, 2⟩ : T111)) (Int.toNat (IntKind.wrap .i64 (p1 - 1))) t86)).length c20]) rfl (row_mend_calls K (some ad45) c20 (List.set (List.set (List.set t14 (Int.toNat p1) (⟨p2, p3, 1⟩ : T111)) (Int.toNat (IntKind.wrap .i64 (p1 + 1))) (⟨p2, p3, 2⟩ : T111)) (Int.toNat (IntKind.wrap .i64 (p1 - 1))) t86) _ o92 7 f21 (by rw [List.length_set]; exact (by rw [List.length_set]; exact (by rw [List.length_set]; exact hc22))) (by decide)   _ hc99) ?_
            rintro _ w100 ⟨o101, A103, c104, rfl, st102, f105, hc106⟩
            replace f10 := f10.st st102 (by decide)
            replace fg0 := fg0.st st102 (by decide)
            replace fg1 := fg1.st st102 (by decide)
            replace hs := hs.loc0 st102 (by decide)
            have hk := hk.put 75 (.agg #[.slice A103 (t98.Cells).length c104, .bool t98.Wrapped]) rfl
            refine x_op hk rfl ?_
            refine op_store tab hk (t := 32) (v := .agg #[.slice A103 (t98.Cells).length c104, .bool t98.Wrapped]) (b := bx9) (k := 0) (cs' := [.slice A103 (t98.Cells).length c104, .bool t98.Wrapped]) rfl rfl rfl rfl rfl rfl f10 rfl rfl fun w107 o108 st109 f10_ => ?_
            replace f105 := f105.st st109 (by decide)
            replace fg0 := fg0.st st109 (by decide)
            replace fg1 := fg1.st st109 (by decide)
            replace hs := hs.loc0 st109 (by decide)
            replace f10 := f10_
            refine wpListIn_nil ?_
            refine then_n ?_
            refine wpIn_ret ?_
            obtain rfl := Option.some.inj H
            exact x_retG hk (rs := [.cell 8 32]) (vs := [.agg #[.slice A103 (t98.Cells).length c104, .bool t98.Wrapped]]) rfl ⟨⟨_, rfl, load_box tab rfl rfl f10.now (k := 0) rfl rfl⟩, trivial⟩ ⟨fun b_ => if b_ < w.heap.size then o b_ else (fun _ => R0) (o108 b_), A103, c104, rfl, hs.close0 o (fun _ => R0), hs.close_ft (o := o) (ρ := fun _ => R0) f105 (by decide) rfl, hc106⟩
        refine wpIn_region_lit ?_
        refine x_run tab hk (k := 3) (lv := []) (ks := [1, 8, 9, 30]) (e' := [(1, .int .i64 p1), (8, .pointer (some ⟨bx9, 0, none⟩)), (9, .slice (some ad45) ((List.set (List.set t14 (Int.toNat p1) (⟨p2, p3, 1⟩ : T111)) (Int.toNat (IntKind.wrap .i64 (p1 + 1))) (⟨p2, p3, 2⟩ : T111))).length c20), (30, .bool (decide (p1 > (0 : Int))))]) rfl trivial fun a hk => ?_
        cases b110 : (decide (p1 > (0 : Int)))
        · rw [b110] at hk H
          replace H := bifF H
          refine x_run tab hk (k := 8) (lv := []) (ks := [1, 8, 9, 38]) (e' := [(1, .int .i64 p1), (8, .pointer (some ⟨bx9, 0, none⟩)), (9, .slice (some ad45) ((List.set (List.set t14 (Int.toNat p1) (⟨p2, p3, 1⟩ : T111)) (Int.toNat (IntKind.wrap .i64 (p1 + 1))) (⟨p2, p3, 2⟩ : T111))).length c20), (38, .bool false)]) rfl trivial fun a hk => ?_
          refine wpListIn_nil ?_
          refine then_n ?_
          exact ⟨(fun b_ => (fun l_ => if l_ = 4 then 6 else if l_ = 5 then 7 else l_) (o52 b_)), false, (by exact Kn.pick (ks := [1, 8, 9, 38]) hk rfl), (hs.relab0 (fun l_ => if l_ = 4 then 6 else if l_ = 5 then 7 else l_) rfl), (f10.relab (fun l_ => if l_ = 4 then 6 else if l_ = 5 then 7 else l_) rfl), (f21.relab (fun l_ => if l_ = 4 then 6 else if l_ = 5 then 7 else l_) rfl), (fg0.relab (fun l_ => if l_ = 4 then 6 else if l_ = 5 then 7 else l_) rfl), (fg1.relab (fun l_ => if l_ = 4 then 6 else if l_ = 5 then 7 else l_) rfl), H⟩
        · rw [b110] at hk H
          replace H := bifT H
          obtain ⟨q111, H⟩ := ifS H
          refine x_run tab hk (k := 8) (lv := [.int .i64 ((rdD zT111 (List.set (List.set t14 (Int.toNat p1) (⟨p2, p3, 1⟩ : T111)) (Int.toNat (IntKind.wrap .i64 (p1 + 1))) (⟨p2, p3, 2⟩ : T111)) (IntKind.wrap .i64 (p1 - 1))).Part)]) (ks := [1, 8, 9, 38]) (e' := [(1, .int .i64 p1), (8, .pointer (some ⟨bx9, 0, none⟩)), (9, .slice (some ad45) ((List.set (List.set t14 (Int.toNat p1) (⟨p2, p3, 1⟩ : T111)) (Int.toNat (IntKind.wrap .i64 (p1 + 1))) (⟨p2, p3, 2⟩ : T111))).length c20), (38, .bool (((rdD zT111 (List.set (List.set t14 (Int.toNat p1) (⟨p2, p3, 1⟩ : T111)) (Int.toNat (IntKind.wrap .i64 (p1 + 1))) (⟨p2, p3, 2⟩ : T111)) (IntKind.wrap .i64 (p1 - 1))).Part) == (1 : Int)))]) rfl ⟨q111, (load1 tab rfl (RdC.at (E := ET111) (d := zT111) (i := (IntKind.wrap .i64 (p1 - 1))) (j := 2) (Own.rd f21.now) q111 rfl)), trivial⟩ fun a hk => ?_
          refine wpListIn_nil ?_
          refine then_n ?_
          exact ⟨(fun b_ => (fun l_ => if l_ = 4 then 6 else if l_ = 5 then 7 else l_) (o52 b_)), (((rdD zT111 (List.set (List.set t14 (Int.toNat p1) (⟨p2, p3, 1⟩ : T111)) (Int.toNat (IntKind.wrap .i64 (p1 + 1))) (⟨p2, p3, 2⟩ : T111)) (IntKind.wrap .i64 (p1 - 1))).Part) == (1 : Int)), (by exact Kn.pick (ks := [1, 8, 9, 38]) hk rfl), (hs.relab0 (fun l_ => if l_ = 4 then 6 else if l_ = 5 then 7 else l_) rfl), (f10.relab (fun l_ => if l_ = 4 then 6 else if l_ = 5 then 7 else l_) rfl), (f21.relab (fun l_ => if l_ = 4 then 6 else if l_ = 5 then 7 else l_) rfl), (fg0.relab (fun l_ => if l_ = 4 then 6 else if l_ = 5 then 7 else l_) rfl), (fg1.relab (fun l_ => if l_ = 4 then 6 else if l_ = 5 then 7 else l_) rfl), H⟩
      · rw [b43] at hk H
        replace H := bifT H
        refine x_if hk (b := true) rfl ?_
        refine (show Code.wpIn _ _ _ _ _ _ _ from ?_)
        refine wpIn_region_lit ?_
        obtain ⟨q112, H⟩ := ifS H
        obtain ⟨ad113, hAad113⟩ := RdC.addr (Own.rd f21.now) q112
        have hk_C := hk
        have f10_C := f10
        have f21_C := f21
        have fg0_C := fg0
        have fg1_C := fg1
        subst hAad113
        have hk := hk_C
        clear hk_C
        have f10 := f10_C
        clear f10_C
        have f21 := f21_C
        clear f21_C
        have fg0 := fg0_C
        clear fg0_C
        have fg1 := fg1_C
        clear fg1_C
        refine x_run tab hk (k := 6) (lv := []) (ks := [8, 9, 72, 73]) (e' := [(8, .pointer (some ⟨bx9, 0, none⟩)), (9, .slice (some ad113) (t14).length c20), (72, .agg #[.int .i32 p2, .int .i64 p3, .int .i64 0]), (73, .pointer (some (ad113.add (Int.toNat p1 * 3))))]) rfl ⟨q112, trivial⟩ fun a hk => ?_
        refine x_op hk rfl ?_
        refine op_storeO tab hk (E := ET111) (i := p1) (j := 0) (dx := zT111) (y' := (⟨p2, p3, 0⟩ : T111)) rfl rfl rfl f21 rfl q112 rfl rfl rfl rfl fun w114 o115 st116 f21_ => ?_
        replace f10 := f10.st st116 (by decide)
        replace fg0 := fg0.st st116 (by decide)
        replace fg1 := fg1.st st116 (by decide)
        replace hs := hs.loc0 st116 (by decide)
        replace f21 := f21_
        have hl117 : (List.set t14 (Int.toNat p1) (⟨p2, p3, 0⟩ : T111)).length = (t14).length := List.length_set
        replace hk := Kn.re hk [8, 9, 72] (e2 := [(8, .pointer (some ⟨bx9, 0, none⟩)), (9, .slice (some ad113) ((List.set t14 (Int.toNat p1) (⟨p2, p3, 0⟩ : T111))).length c20), (72, .agg #[.int .i32 p2, .int .i64 p3, .int .i64 0])]) rfl (by rw [hl117])
        refine wpListIn_nil ?_
        refine blk_n ?_
        refine then_n ?_
        refine x_seq ?_
        refine wpIn_region_lit ?_
        refine x_run tab hk (k := 1) (lv := []) (ks := [8, 74]) (e' := [(8, .pointer (some ⟨bx9, 0, none⟩)), (74, .slice (some ad113) ((List.set t14 (Int.toNat p1) (⟨p2, p3, 0⟩ : T111))).length c20)]) rfl trivial fun a hk => ?_
        refine x_op hk rfl ?_
        obtain ⟨t121, hc122, H⟩ := bindS H
        refine op_call hk ent_44 (vs := [.slice (some ad113) ((List.set t14 (Int.toNat p1) (⟨p2, p3, 0⟩ : T111))).length c20]) rfl (row_mend_calls K (some ad113) c20 (List.set t14 (Int.toNat p1) (⟨p2, p3, 0⟩ : T111)) _ o115 5 f21 (by rw [List.length_set]; exact hc22) (by decide)   _ hc122) ?_
        rintro _ w123 ⟨o124, A126, c127, rfl, st125, f128, hc129⟩
        replace f10 := f10.st st125 (by decide)
        replace fg0 := fg0.st st125 (by decide)
        replace fg1 := fg1.st st125 (by decide)
        replace hs := hs.loc0 st125 (by decide)
        have hk := hk.put 75 (.agg #[.slice A126 (t121.Cells).length c127, .bool t121.Wrapped]) rfl
        refine x_op hk rfl ?_
        refine op_store tab hk (t := 32) (v := .agg #[.slice A126 (t121.Cells).length c127, .bool t121.Wrapped]) (b := bx9) (k := 0) (cs' := [.slice A126 (t121.Cells).length c127, .bool t121.Wrapped]) rfl rfl rfl rfl rfl rfl f10 rfl rfl fun w130 o131 st132 f10_ => ?_
        replace f128 := f128.st st132 (by decide)
        replace fg0 := fg0.st st132 (by decide)
        replace fg1 := fg1.st st132 (by decide)
        replace hs := hs.loc0 st132 (by decide)
        replace f10 := f10_
        refine wpListIn_nil ?_
        refine then_n ?_
        refine wpIn_ret ?_
        obtain rfl := Option.some.inj H
        exact x_retG hk (rs := [.cell 8 32]) (vs := [.agg #[.slice A126 (t121.Cells).length c127, .bool t121.Wrapped]]) rfl ⟨⟨_, rfl, load_box tab rfl rfl f10.now (k := 0) rfl rfl⟩, trivial⟩ ⟨fun b_ => if b_ < w.heap.size then o b_ else (fun _ => R0) (o131 b_), A126, c127, rfl, hs.close0 o (fun _ => R0), hs.close_ft (o := o) (ρ := fun _ => R0) f128 (by decide) rfl, hc129⟩
    · rw [b42] at hk H
      replace H := bifT H
      refine x_if hk (b := true) rfl ?_
      refine (show Code.wpIn _ _ _ _ _ _ _ from ?_)
      refine wpIn_skip ?_
      refine blk_n ?_
      refine then_n ?_
      refine x_seq ?_
      refine wpIn_region_lit ?_
      refine x_run tab hk (k := 1) (lv := []) (ks := [8, 74]) (e' := [(8, .pointer (some ⟨bx9, 0, none⟩)), (74, .slice A19 (t14).length c20)]) rfl trivial fun a hk => ?_
      refine x_op hk rfl ?_
      obtain ⟨t136, hc137, H⟩ := bindS H
      refine op_call hk ent_44 (vs := [.slice A19 (t14).length c20]) rfl (row_mend_calls K A19 c20 t14 _ o39 5 f21 hc22 (by decide)   _ hc137) ?_
      rintro _ w138 ⟨o139, A141, c142, rfl, st140, f143, hc144⟩
      replace f10 := f10.st st140 (by decide)
      replace fg0 := fg0.st st140 (by decide)
      replace fg1 := fg1.st st140 (by decide)
      replace hs := hs.loc0 st140 (by decide)
      have hk := hk.put 75 (.agg #[.slice A141 (t136.Cells).length c142, .bool t136.Wrapped]) rfl
      refine x_op hk rfl ?_
      refine op_store tab hk (t := 32) (v := .agg #[.slice A141 (t136.Cells).length c142, .bool t136.Wrapped]) (b := bx9) (k := 0) (cs' := [.slice A141 (t136.Cells).length c142, .bool t136.Wrapped]) rfl rfl rfl rfl rfl rfl f10 rfl rfl fun w145 o146 st147 f10_ => ?_
      replace f143 := f143.st st147 (by decide)
      replace fg0 := fg0.st st147 (by decide)
      replace fg1 := fg1.st st147 (by decide)
      replace hs := hs.loc0 st147 (by decide)
      replace f10 := f10_
      refine wpListIn_nil ?_
      refine then_n ?_
      refine wpIn_ret ?_
      obtain rfl := Option.some.inj H
      exact x_retG hk (rs := [.cell 8 32]) (vs := [.agg #[.slice A141 (t136.Cells).length c142, .bool t136.Wrapped]]) rfl ⟨⟨_, rfl, load_box tab rfl rfl f10.now (k := 0) rfl rfl⟩, trivial⟩ ⟨fun b_ => if b_ < w.heap.size then o b_ else (fun _ => R0) (o146 b_), A141, c142, rfl, hs.close0 o (fun _ => R0), hs.close_ft (o := o) (ρ := fun _ => R0) f143 (by decide) rfl, hc144⟩
  refine wpIn_region_lit ?_
  refine x_run tab hk (k := 3) (lv := []) (ks := [1, 2, 3, 8, 9, 10, 53]) (e' := [(1, .int .i64 p1), (2, .int .i32 p2), (3, .int .i64 p3), (8, .pointer (some ⟨bx9, 0, none⟩)), (9, .slice A19 (t14).length c20), (10, .int .i64 t26), (53, .bool (t26 == (0 : Int)))]) rfl trivial fun a hk => ?_
  cases b148 : (t26 == (0 : Int))
  · rw [b148] at hk H
    replace H := bifF H
    refine x_run tab hk (k := 4) (lv := []) (ks := [1, 2, 3, 8, 9, 10, 57]) (e' := [(1, .int .i64 p1), (2, .int .i32 p2), (3, .int .i64 p3), (8, .pointer (some ⟨bx9, 0, none⟩)), (9, .slice A19 (t14).length c20), (10, .int .i64 t26), (57, .bool (decide (p1 < (0 : Int))))]) rfl trivial fun a hk => ?_
    cases b149 : (decide (p1 < (0 : Int)))
    · rw [b149] at hk H
      replace H := bifF H
      refine x_run tab hk (k := 8) (lv := []) (ks := [1, 2, 3, 8, 9, 10, 50]) (e' := [(1, .int .i64 p1), (2, .int .i32 p2), (3, .int .i64 p3), (8, .pointer (some ⟨bx9, 0, none⟩)), (9, .slice A19 (t14).length c20), (10, .int .i64 t26), (50, .bool (decide (p1 > (IntKind.wrap .i64 (((t14).length : Int) - t26)))))]) rfl trivial fun a hk => ?_
      refine wpListIn_nil ?_
      refine then_n ?_
      exact ⟨(fun b_ => (fun l_ => if l_ = 2 then 4 else if l_ = 3 then 5 else l_) (o29 b_)), (decide (p1 > (IntKind.wrap .i64 (((t14).length : Int) - t26)))), (by exact Kn.pick (ks := [1, 2, 3, 8, 9, 10, 50]) hk rfl), (hs.relab0 (fun l_ => if l_ = 2 then 4 else if l_ = 3 then 5 else l_) rfl), (f10.relab (fun l_ => if l_ = 2 then 4 else if l_ = 3 then 5 else l_) rfl), (f21.relab (fun l_ => if l_ = 2 then 4 else if l_ = 3 then 5 else l_) rfl), (fg0.relab (fun l_ => if l_ = 2 then 4 else if l_ = 3 then 5 else l_) rfl), (fg1.relab (fun l_ => if l_ = 2 then 4 else if l_ = 3 then 5 else l_) rfl), H⟩
    · rw [b149] at hk H
      replace H := bifT H
      refine x_run tab hk (k := 8) (lv := []) (ks := [1, 2, 3, 8, 9, 10, 50]) (e' := [(1, .int .i64 p1), (2, .int .i32 p2), (3, .int .i64 p3), (8, .pointer (some ⟨bx9, 0, none⟩)), (9, .slice A19 (t14).length c20), (10, .int .i64 t26), (50, .bool true)]) rfl trivial fun a hk => ?_
      refine wpListIn_nil ?_
      refine then_n ?_
      exact ⟨(fun b_ => (fun l_ => if l_ = 2 then 4 else if l_ = 3 then 5 else l_) (o29 b_)), true, (by exact Kn.pick (ks := [1, 2, 3, 8, 9, 10, 50]) hk rfl), (hs.relab0 (fun l_ => if l_ = 2 then 4 else if l_ = 3 then 5 else l_) rfl), (f10.relab (fun l_ => if l_ = 2 then 4 else if l_ = 3 then 5 else l_) rfl), (f21.relab (fun l_ => if l_ = 2 then 4 else if l_ = 3 then 5 else l_) rfl), (fg0.relab (fun l_ => if l_ = 2 then 4 else if l_ = 3 then 5 else l_) rfl), (fg1.relab (fun l_ => if l_ = 2 then 4 else if l_ = 3 then 5 else l_) rfl), H⟩
  · rw [b148] at hk H
    replace H := bifT H
    refine x_run tab hk (k := 10) (lv := []) (ks := [1, 2, 3, 8, 9, 10, 57, 63]) (e' := [(1, .int .i64 p1), (2, .int .i32 p2), (3, .int .i64 p3), (8, .pointer (some ⟨bx9, 0, none⟩)), (9, .slice A19 (t14).length c20), (10, .int .i64 t26), (57, .bool true), (63, undef)]) rfl trivial fun a hk => ?_
    refine x_run tab hk (k := 2) (lv := []) (ks := [1, 2, 3, 8, 9, 10, 50]) (e' := [(1, .int .i64 p1), (2, .int .i32 p2), (3, .int .i64 p3), (8, .pointer (some ⟨bx9, 0, none⟩)), (9, .slice A19 (t14).length c20), (10, .int .i64 t26), (50, .bool true)]) rfl trivial fun a hk => ?_
    refine wpListIn_nil ?_
    refine then_n ?_
    exact ⟨(fun b_ => (fun l_ => if l_ = 2 then 4 else if l_ = 3 then 5 else l_) (o29 b_)), true, (by exact Kn.pick (ks := [1, 2, 3, 8, 9, 10, 50]) hk rfl), (hs.relab0 (fun l_ => if l_ = 2 then 4 else if l_ = 3 then 5 else l_) rfl), (f10.relab (fun l_ => if l_ = 2 then 4 else if l_ = 3 then 5 else l_) rfl), (f21.relab (fun l_ => if l_ = 2 then 4 else if l_ = 3 then 5 else l_) rfl), (fg0.relab (fun l_ => if l_ = 2 then 4 else if l_ = 3 then 5 else l_) rfl), (fg1.relab (fun l_ => if l_ = 2 then 4 else if l_ = 3 then 5 else l_) rfl), H⟩

/-! (tidewrack/row.Row).Glyphs -/
theorem row_Row_Glyphs_calls (K : Nat) (Ap0_0 : Option Addr) (cp0_0 : Nat) (p0 : T31) (w : World) (o : Nat → Nat) (Lp0_0 : Nat) (hp0_0 : Ft (RdC ET111 Ap0_0 p0.Cells) w o Lp0_0) (hcp0_0 : (p0.Cells).length ≤ cp0_0)  (R0 : Nat) (r : List T36) (H : row_Row_Glyphs K p0 = some r) :
    Calls Tryd.prog 16 #[.agg #[.slice Ap0_0 (p0.Cells).length cp0_0, .bool p0.Wrapped]] w (Ret fun v_ w' => ∃ o' : Nat → Nat, ∃ A0 : Option Addr, ∃ c0 : Nat, v_ = .slice A0 (r).length c0 ∧ St [] w o w' o' ∧ Ft (Own ET36 37 (.slice A0 (r).length c0) (r)) w' o' R0 ∧ (r).length ≤ c0) := by
  refine x_enter (vs := [.agg #[.slice Ap0_0 (p0.Cells).length cp0_0, .bool p0.Wrapped]]) Tryd.func16 rfl rfl rfl fun a hk => ?_
  obtain ⟨o0, hs, h0⟩ := St.start w o
  have f900000 := h0 _ _ hp0_0
  clear h0
  rw [row_Row_Glyphs] at H
  refine x_seq ?_
  refine wpIn_region_lit ?_
  refine x_op hk rfl ?_
  refine op_box (o := o0) (t := 32) (v := .agg #[.slice Ap0_0 (p0.Cells).length cp0_0, .bool p0.Wrapped]) (cs := [.slice Ap0_0 (p0.Cells).length cp0_0, .bool p0.Wrapped]) hk rfl rfl 1 fun bx4 w1 o2 st3 f5 => ?_
  replace f900000 := f900000.st st3 (by decide)
  replace hs := hs.loc0 st3 (by decide)
  have hk := hk.put 1 (.pointer (some ⟨bx4, 0, none⟩)) rfl
  refine x_run tab hk (k := 1) (lv := []) (ks := [1]) (e' := [(1, .pointer (some ⟨bx4, 0, none⟩))]) rfl trivial fun a hk => ?_
  refine wpListIn_nil ?_
  refine then_n ?_
  refine x_seq ?_
  refine wpIn_region_lit ?_
  refine x_run tab hk (k := 3) (lv := [.slice Ap0_0 (p0.Cells).length cp0_0]) (ks := [1, 3]) (e' := [(1, .pointer (some ⟨bx4, 0, none⟩)), (3, .slice Ap0_0 (p0.Cells).length cp0_0)]) rfl ⟨(load1 tab rfl ((Bx.cell f5.now 0).trans rfl)), trivial⟩ fun a hk => ?_
  refine wpListIn_nil ?_
  refine then_n ?_
  refine x_mid (fun a_ w_ => ∃ o167 : Nat → Nat, ∃ A168 : Option Addr, ∃ c169 : Nat, ∃ l170 : List T111, Kn 56 a_ [(3, .slice A168 (l170).length c169)] ∧ St [] w (fun _ => 0) w_ o167 ∧ Ft (RdC ET111 A168 l170) w_ o167 0 ∧ (l170).length ≤ c169 ∧ row_Row_Glyphs_j1 K l170 = some r) ?_ ?_
  rotate_left
  · rintro a w173 ⟨o167, A168, c169, l170, hk, hs, f171, hc172, H⟩
    rw [row_Row_Glyphs_j1] at H
    refine x_seq ?_
    refine wpIn_region_lit ?_
    refine x_run tab hk (k := 1) (lv := []) (ks := [3, 4]) (e' := [(3, .slice A168 (l170).length c169), (4, .slice none 0 0)]) rfl trivial fun a hk => ?_
    refine wpListIn_nil ?_
    refine then_n ?_
    refine x_mid (fun a_ w_ => ∃ o309 : Nat → Nat, ∃ A310 : Option Addr, ∃ c311 : Nat, ∃ l312 : List T36, Kn 56 a_ [(4, .slice A310 (l312).length c311)] ∧ St [] w (fun _ => 0) w_ o309 ∧ Ft (Own ET36 37 (.slice A310 (l312).length c311) l312) w_ o309 18 ∧ (l312).length ≤ c311 ∧ row_Row_Glyphs_j2 l312 = some r) ?_ ?_
    rotate_left
    · rintro a w315 ⟨o309, A310, c311, l312, hk, hs, f313, hc314, H⟩
      rw [row_Row_Glyphs_j2] at H
      refine x_seq ?_
      refine wpIn_region_lit ?_
      refine x_run tab hk (k := 2) (lv := []) (ks := [2]) (e' := [(2, .slice A310 (l312).length c311)]) rfl trivial fun a hk => ?_
      refine wpListIn_nil ?_
      refine then_n ?_
      refine wpIn_ret ?_
      obtain rfl := Option.some.inj H
      exact x_retG hk (rs := [.tmp 2]) (vs := [.slice A310 (l312).length c311]) rfl ⟨rfl, trivial⟩ ⟨fun b_ => if b_ < w.heap.size then o b_ else (fun _ => R0) (o309 b_), A310, c311, rfl, hs.close0 o (fun _ => R0), hs.close_ft (o := o) (ρ := fun _ => R0) f313 (by decide) rfl, hc314⟩
    refine x_seq ?_
    refine wpIn_region_lit ?_
    refine x_run tab hk (k := 3) (lv := []) (ks := [4, 32, 33, 34]) (e' := [(4, .slice none 0 0), (32, .slice A168 (l170).length c169), (33, .int .i64 ((l170).length : Int)), (34, .int .i64 0)]) rfl trivial fun a hk => ?_
    refine wpListIn_nil ?_
    refine then_n ?_
    refine wpIn_block ?_
    refine x_loop (fun j_ a_ w_ => ∃ o356 : Nat → Nat, ∃ A357 : Option Addr, ∃ c358 : Nat, ∃ l359 : List T36, ∃ x362 : Int, Kn 56 a_ [(4, .slice A357 (l359).length c358), (32, .slice A168 (l170).length c169), (33, .int .i64 ((l170).length : Int)), (34, .int .i64 x362)] ∧ St [] w (fun _ => 0) w_ o356 ∧ Ft (RdC ET111 A168 l170) w_ o356 0 ∧ Ft (Own ET36 37 (.slice A357 (l359).length c358) l359) w_ o356 23 ∧ (l359).length ≤ c358 ∧ row_Row_Glyphs_l3 l170 j_ l359 x362 = some r) (k := K) ⟨o167, none, 0, ([] : List T36), 0, (by exact Kn.pick (ks := [4, 32, 33, 34]) hk rfl), hs, f171, (Ft.of_all (fun _ => Own.nil _ _ _) _ _ _), (by simp), H⟩ (by rintro _ _ ⟨_, _, _, _, _, _, _, _, _, _, H_⟩; exact absurd (show (none : Option (List T36)) = some r from H_) (by simp)) ?_
    rintro k401 a w400 ⟨o356, A357, c358, l359, x362, hk, hs, f171, f360, hc361, H⟩
    rw [row_Row_Glyphs_l3] at H
    obtain ⟨lp402, hlp403⟩ : ∃ lp_, lp_ = row_Row_Glyphs_l3 l170 k401 := ⟨_, rfl⟩
    rw [← hlp403] at H
    refine x_seq ?_
    refine wpIn_region_lit ?_
    refine x_run tab hk (k := 1) (lv := []) (ks := [4, 32, 33, 34, 35]) (e' := [(4, .slice A357 (l359).length c358), (32, .slice A168 (l170).length c169), (33, .int .i64 ((l170).length : Int)), (34, .int .i64 x362), (35, .bool (decide (x362 < ((l170).length : Int))))]) rfl trivial fun a hk => ?_
    refine wpListIn_nil ?_
    refine then_n ?_
    refine x_seq ?_
    cases b404 : (decide (x362 < ((l170).length : Int)))
    · rw [b404] at hk H
      replace H := bifF H
      refine x_if hk (b := false) rfl ?_
      refine (show Code.wpIn _ _ _ _ _ _ _ from ?_)
      refine wpIn_exit ?_
      refine then_x ?_
      refine then_x ?_
      refine blk_x ?_
      refine then_n ?_
      exact ⟨(fun b_ => (fun l_ => if l_ = 23 then 18 else l_) (o356 b_)), A357, c358, l359, (by exact Kn.pick (ks := [4]) hk rfl), (hs.relab0 (fun l_ => if l_ = 23 then 18 else l_) rfl), (f360.relab (fun l_ => if l_ = 23 then 18 else l_) rfl), hc361, H⟩
    · rw [b404] at hk H
      replace H := bifT H
      refine x_if hk (b := true) rfl ?_
      refine (show Code.wpIn _ _ _ _ _ _ _ from ?_)
      refine wpIn_skip ?_
      refine then_n ?_
      refine x_seq ?_
      refine wpIn_block ?_
      refine x_seq ?_
      refine wpIn_region_lit ?_
      obtain ⟨q405, H⟩ := ifS H
      obtain ⟨ad406, hAad406⟩ := RdC.addr f171.now q405
      have hk_C := hk
      have f171_C := f171
      have f360_C := f360
      subst hAad406
      have hk := hk_C
      clear hk_C
      have f171 := f171_C
      clear f171_C
      have f360 := f360_C
      clear f360_C
      refine x_run tab hk (k := 2) (lv := [.agg #[.int .i32 ((rdD zT111 l170 x362).Rune), .int .i64 ((rdD zT111 l170 x362).Style), .int .i64 ((rdD zT111 l170 x362).Part)]]) (ks := [4, 32, 33, 34, 37]) (e' := [(4, .slice A357 (l359).length c358), (32, .slice (some ad406) (l170).length c169), (33, .int .i64 ((l170).length : Int)), (34, .int .i64 x362), (37, .agg #[.int .i32 ((rdD zT111 l170 x362).Rune), .int .i64 ((rdD zT111 l170 x362).Style), .int .i64 ((rdD zT111 l170 x362).Part)])]) rfl ⟨q405, (load_elem (E := ET111) (i := x362) (dx := zT111) tab rfl rfl f171.now q405), trivial⟩ fun a hk => ?_
      refine x_op hk rfl ?_
      refine op_alloc (o := o356) tab (t := 112) (cs := [.int .i32 0, .int .i64 0, .int .i64 0]) rfl rfl 28 fun bx410 w407 o408 st409 f411 => ?_
      replace f171 := f171.st st409 (by decide)
      replace f360 := f360.st st409 (by decide)
      replace hs := hs.loc0 st409 (by decide)
      have hk := hk.put 6 (.pointer (some ⟨bx410, 0, none⟩)) rfl
      refine x_op hk rfl ?_
      refine op_store tab hk (t := 112) (v := .agg #[.int .i32 ((rdD zT111 l170 x362).Rune), .int .i64 ((rdD zT111 l170 x362).Style), .int .i64 ((rdD zT111 l170 x362).Part)]) (b := bx410) (k := 0) (cs' := [.int .i32 ((rdD zT111 l170 x362).Rune), .int .i64 ((rdD zT111 l170 x362).Style), .int .i64 ((rdD zT111 l170 x362).Part)]) rfl rfl rfl rfl rfl rfl f411 rfl rfl fun w412 o413 st414 f411_ => ?_
      replace f171 := f171.st st414 (by decide)
      replace f360 := f360.st st414 (by decide)
      replace hs := hs.loc0 st414 (by decide)
      replace f411 := f411_
      refine wpListIn_nil ?_
      refine then_n ?_
      refine x_mid (fun a_ w_ => ∃ o422 : Nat → Nat, ∃ x423 : Bool, Kn 56 a_ [(4, .slice A357 (l359).length c358), (6, .pointer (some ⟨bx410, 0, none⟩)), (32, .slice (some ad406) (l170).length c169), (33, .int .i64 ((l170).length : Int)), (34, .int .i64 x362), (45, .bool x423)] ∧ St [] w (fun _ => 0) w_ o422 ∧ Ft (RdC ET111 (some ad406) l170) w_ o422 0 ∧ Ft (Own ET36 37 (.slice A357 (l359).length c358) l359) w_ o422 29 ∧ Ft (Bx bx410 112 [.int .i32 ((rdD zT111 l170 x362).Rune), .int .i64 ((rdD zT111 l170 x362).Style), .int .i64 ((rdD zT111 l170 x362).Part)]) w_ o422 30 ∧ row_Row_Glyphs_j4 l170 l359 x362 lp402 x423 = some r) ?_ ?_
      rotate_left
      · rintro a w424 ⟨o422, x423, hk, hs, f171, f360, f411, H⟩
        rw [row_Row_Glyphs_j4] at H
        cases b425 : x423
        · rw [b425] at hk H
          replace H := bifF H
          refine x_if hk (b := false) rfl ?_
          refine (show Code.wpIn _ _ _ _ _ _ _ from ?_)
          refine wpIn_skip ?_
          refine blk_n ?_
          refine then_n ?_
          refine wpIn_region_lit ?_
          refine x_run tab hk (k := 2) (lv := []) (ks := [4, 32, 33, 34]) (e' := [(4, .slice A357 (l359).length c358), (32, .slice (some ad406) (l170).length c169), (33, .int .i64 ((l170).length : Int)), (34, .int .i64 (IntKind.wrap .i64 (x362 + 1)))]) rfl trivial fun a hk => ?_
          refine wpListIn_nil ?_
          refine then_n ?_
          exact ⟨k401, Nat.le_refl _, (fun b_ => (fun l_ => if l_ = 29 then 23 else l_) (o422 b_)), A357, c358, l359, (IntKind.wrap .i64 (x362 + 1)), (by exact Kn.pick (ks := [4, 32, 33, 34]) hk rfl), (hs.relab0 (fun l_ => if l_ = 29 then 23 else l_) rfl), (f171.relab (fun l_ => if l_ = 29 then 23 else l_) rfl), (f360.relab (fun l_ => if l_ = 29 then 23 else l_) rfl), hc361, (hlp403 ▸ H)⟩
        · rw [b425] at hk H
          replace H := bifT H
          refine x_if hk (b := true) rfl ?_
          refine (show Code.wpIn _ _ _ _ _ _ _ from ?_)
          refine wpIn_region_lit ?_
          refine x_run tab hk (k := 6) (lv := [.int .i32 ((rdD zT111 l170 x362).Rune), .int .i64 ((rdD zT111 l170 x362).Style)]) (ks := [32, 33, 34, 46, 51]) (e' := [(32, .slice (some ad406) (l170).length c169), (33, .int .i64 ((l170).length : Int)), (34, .int .i64 x362), (46, .slice A357 (l359).length c358), (51, .agg #[.int .i32 ((rdD zT111 l170 x362).Rune), .int .i64 ((rdD zT111 l170 x362).Style)])]) rfl ⟨(load1 tab rfl ((Bx.cell f411.now 0).trans rfl)), (load1 tab rfl ((Bx.cell f411.now 1).trans rfl)), trivial⟩ fun a hk => ?_
          refine x_op hk rfl ?_
          refine op_slice (o := o422) tab hk (vs := [.agg #[.int .i32 ((rdD zT111 l170 x362).Rune), .int .i64 ((rdD zT111 l170 x362).Style)]]) (cs := [.int .i32 ((rdD zT111 l170 x362).Rune), .int .i64 ((rdD zT111 l170 x362).Style)]) rfl rfl rfl rfl rfl rfl rfl rfl rfl 31 fun bx429 w426 o427 st428 f430 => ?_
          replace f171 := f171.st st428 (by decide)
          replace f360 := f360.st st428 (by decide)
          replace hs := hs.loc0 st428 (by decide)
          have f431 : Ft (Own ET36 37 (.slice (some ⟨bx429, 0, none⟩) (([(⟨(rdD zT111 l170 x362).Rune, (rdD zT111 l170 x362).Style⟩ : T36)] : List T36)).length 1) ([(⟨(rdD zT111 l170 x362).Rune, (rdD zT111 l170 x362).Style⟩ : T36)] : List T36)) w426 o427 31 := f430.imp fun _ h_ => Own.of_box h_ rfl (by simp)
          have hk := hk.put 52 (.slice (some ⟨bx429, 0, none⟩) (([(⟨(rdD zT111 l170 x362).Rune, (rdD zT111 l170 x362).Style⟩ : T36)] : List T36)).length 1) rfl
          refine x_op hk rfl ?_
          obtain ⟨q435, H⟩ := ifS H
          refine op_append (o := o427) (E := ET36) (xs := l359) (ys := ([(⟨(rdD zT111 l170 x362).Rune, (rdD zT111 l170 x362).Style⟩ : T36)] : List T36)) tab hk rfl rfl rfl rfl rfl rfl rfl f360 (Own.rd f431.now) q435 fun A436 c437 w432 o433 st434 f438 hc439 => ?_
          replace f171 := f171.st st434 (by decide)
          replace f431 := f431.st st434 (by decide)
          replace hs := hs.loc0 st434 (by decide)
          have hk := hk.put 53 (.slice A436 ((l359 ++ ([(⟨(rdD zT111 l170 x362).Rune, (rdD zT111 l170 x362).Style⟩ : T36)] : List T36))).length c437) rfl
          refine x_run tab hk (k := 1) (lv := []) (ks := [4, 32, 33, 34]) (e' := [(4, .slice A436 ((l359 ++ ([(⟨(rdD zT111 l170 x362).Rune, (rdD zT111 l170 x362).Style⟩ : T36)] : List T36))).length c437), (32, .slice (some ad406) (l170).length c169), (33, .int .i64 ((l170).length : Int)), (34, .int .i64 x362)]) rfl trivial fun a hk => ?_
          refine wpListIn_nil ?_
          refine blk_n ?_
          refine then_n ?_
          refine wpIn_region_lit ?_
          refine x_run tab hk (k := 2) (lv := []) (ks := [4, 32, 33, 34]) (e' := [(4, .slice A436 ((l359 ++ ([(⟨(rdD zT111 l170 x362).Rune, (rdD zT111 l170 x362).Style⟩ : T36)] : List T36))).length c437), (32, .slice (some ad406) (l170).length c169), (33, .int .i64 ((l170).length : Int)), (34, .int .i64 (IntKind.wrap .i64 (x362 + 1)))]) rfl trivial fun a hk => ?_
          refine wpListIn_nil ?_
          refine then_n ?_
          exact ⟨k401, Nat.le_refl _, (fun b_ => (fun l_ => if l_ = 29 then 23 else l_) (o433 b_)), A436, c437, (l359 ++ ([(⟨(rdD zT111 l170 x362).Rune, (rdD zT111 l170 x362).Style⟩ : T36)] : List T36)), (IntKind.wrap .i64 (x362 + 1)), (by exact Kn.pick (ks := [4, 32, 33, 34]) hk rfl), (hs.relab0 (fun l_ => if l_ = 29 then 23 else l_) rfl), (f171.relab (fun l_ => if l_ = 29 then 23 else l_) rfl), (f438.relab (fun l_ => if l_ = 29 then 23 else l_) rfl), hc439, (hlp403 ▸ H)⟩
      refine wpIn_region_lit ?_
      refine x_run tab hk (k := 4) (lv := [.int .i64 ((rdD zT111 l170 x362).Part)]) (ks := [4, 6, 32, 33, 34, 41]) (e' := [(4, .slice A357 (l359).length c358), (6, .pointer (some ⟨bx410, 0, none⟩)), (32, .slice (some ad406) (l170).length c169), (33, .int .i64 ((l170).length : Int)), (34, .int .i64 x362), (41, .bool (((rdD zT111 l170 x362).Part) == (0 : Int)))]) rfl ⟨(load1 tab rfl ((Bx.cell f411.now 2).trans rfl)), trivial⟩ fun a hk => ?_
      cases b440 : (((rdD zT111 l170 x362).Part) == (0 : Int))
      · rw [b440] at hk H
        replace H := bifF H
        refine x_run tab hk (k := 4) (lv := [.int .i64 ((rdD zT111 l170 x362).Part)]) (ks := [4, 6, 32, 33, 34, 45]) (e' := [(4, .slice A357 (l359).length c358), (6, .pointer (some ⟨bx410, 0, none⟩)), (32, .slice (some ad406) (l170).length c169), (33, .int .i64 ((l170).length : Int)), (34, .int .i64 x362), (45, .bool (((rdD zT111 l170 x362).Part) == (1 : Int)))]) rfl ⟨(load1 tab rfl ((Bx.cell f411.now 2).trans rfl)), trivial⟩ fun a hk => ?_
        refine wpListIn_nil ?_
        refine then_n ?_
        exact ⟨(fun b_ => (fun l_ => if l_ = 23 then 29 else if l_ = 28 then 30 else l_) (o413 b_)), (((rdD zT111 l170 x362).Part) == (1 : Int)), (by exact Kn.pick (ks := [4, 6, 32, 33, 34, 45]) hk rfl), (hs.relab0 (fun l_ => if l_ = 23 then 29 else if l_ = 28 then 30 else l_) rfl), (f171.relab (fun l_ => if l_ = 23 then 29 else if l_ = 28 then 30 else l_) rfl), (f360.relab (fun l_ => if l_ = 23 then 29 else if l_ = 28 then 30 else l_) rfl), (f411.relab (fun l_ => if l_ = 23 then 29 else if l_ = 28 then 30 else l_) rfl), H⟩
      · rw [b440] at hk H
        replace H := bifT H
        refine x_run tab hk (k := 4) (lv := []) (ks := [4, 6, 32, 33, 34, 45]) (e' := [(4, .slice A357 (l359).length c358), (6, .pointer (some ⟨bx410, 0, none⟩)), (32, .slice (some ad406) (l170).length c169), (33, .int .i64 ((l170).length : Int)), (34, .int .i64 x362), (45, .bool true)]) rfl trivial fun a hk => ?_
        refine wpListIn_nil ?_
        refine then_n ?_
        exact ⟨(fun b_ => (fun l_ => if l_ = 23 then 29 else if l_ = 28 then 30 else l_) (o413 b_)), true, (by exact Kn.pick (ks := [4, 6, 32, 33, 34, 45]) hk rfl), (hs.relab0 (fun l_ => if l_ = 23 then 29 else if l_ = 28 then 30 else l_) rfl), (f171.relab (fun l_ => if l_ = 23 then 29 else if l_ = 28 then 30 else l_) rfl), (f360.relab (fun l_ => if l_ = 23 then 29 else if l_ = 28 then 30 else l_) rfl), (f411.relab (fun l_ => if l_ = 23 then 29 else if l_ = 28 then 30 else l_) rfl), H⟩
  refine wpIn_block ?_
  refine x_loop (fun j_ a_ w_ => ∃ o490 : Nat → Nat, ∃ A491 : Option Addr, ∃ c492 : Nat, ∃ l493 : List T111, Kn 56 a_ [(1, .pointer (some ⟨bx4, 0, none⟩)), (3, .slice A491 (l493).length c492)] ∧ St [] w (fun _ => 0) w_ o490 ∧ Ft (RdC ET111 A491 l493) w_ o490 0 ∧ Ft (Bx bx4 32 [.slice Ap0_0 (p0.Cells).length cp0_0, .bool p0.Wrapped]) w_ o490 33 ∧ Ft (RdC ET111 Ap0_0 p0.Cells) w_ o490 0 ∧ (l493).length ≤ c492 ∧ row_Row_Glyphs_l5 K p0 j_ l493 = some r) (k := K) ⟨(fun b_ => (fun l_ => if l_ = 1 then 33 else l_) (o2 b_)), Ap0_0, cp0_0, p0.Cells, (by exact Kn.pick (ks := [1, 3]) hk rfl), (hs.relab0 (fun l_ => if l_ = 1 then 33 else l_) rfl), (f900000.relab (fun l_ => if l_ = 1 then 33 else l_) rfl), (f5.relab (fun l_ => if l_ = 1 then 33 else l_) rfl), (f900000.relab (fun l_ => if l_ = 1 then 33 else l_) rfl), hcp0_0, H⟩ (by rintro _ _ ⟨_, _, _, _, _, _, _, _, _, _, H_⟩; exact absurd (show (none : Option (List T36)) = some r from H_) (by simp)) ?_
  rintro k543 a w542 ⟨o490, A491, c492, l493, hk, hs, f494, f5, f900000, hc495, H⟩
  rw [row_Row_Glyphs_l5] at H
  obtain ⟨lp544, hlp545⟩ : ∃ lp_, lp_ = row_Row_Glyphs_l5 K p0 k543 := ⟨_, rfl⟩
  rw [← hlp545] at H
  refine x_seq ?_
  refine x_seq ?_
  refine xd_begin (o := o490) (fun W_ => (RdC ET111 A491 l493) W_ ∧ (Bx bx4 32 [.slice Ap0_0 (p0.Cells).length cp0_0, .bool p0.Wrapped]) W_ ∧ True) mixed rfl rfl fun w570 st571 => ?_
  replace f494 := f494.st st571 (by decide)
  replace f5 := f5.st st571 (by decide)
  replace f900000 := f900000.st st571 (by decide)
  replace hs := hs.loc0 st571 (by decide)
  refine xd_take tab hk (k := 14) (is := [0, 1, 2, 3]) (ls' := #[true, true, true, true, false, false, false, false, false, false, false, false, false, false, false, false, false, false]) (lv := [.bool p0.Wrapped]) (ks := [1, 3, 12]) (e' := [(1, .pointer (some ⟨bx4, 0, none⟩)), (3, .slice A491 (l493).length c492), (12, .bool (!p0.Wrapped))]) (by kernel_rfl) rfl rfl (by kernel_rfl) (np_then (np_then (np_then (np_blk (np_then np_body))))) ⟨f494.now, f5.now, trivial⟩ (fun W_ hS => ⟨(load1 tab rfl ((Bx.cell hS.2.1 1).trans rfl)), trivial⟩) fun a hk => ?_
  cases b572 : (!p0.Wrapped)
  · rw [b572] at hk H
    replace H := bifF H
    refine xd_take tab hk (k := 0) (is := [4, 5, 6, 7, 8, 9, 10, 11, 12, 13, 14, 15, 16, 17]) (ls' := #[true, true, true, true, true, true, true, true, true, true, true, true, true, true, true, true, true, true]) (lv := []) (ks := [1, 3, 26]) (e' := [(1, .pointer (some ⟨bx4, 0, none⟩)), (3, .slice A491 (l493).length c492), (26, .bool false)]) (by kernel_rfl) rfl rfl (by kernel_rfl) (np_then (np_then (np_then (np_blk (np_then np_body))))) ⟨f494.now, f5.now, trivial⟩ (fun W_ hS => trivial) fun a hk => ?_
    refine xd_done (by kernel_rfl) ?_
    refine then_n ?_
    refine x_if hk (b := false) rfl ?_
    refine (show Code.wpIn _ _ _ _ _ _ _ from ?_)
    refine wpIn_exit ?_
    refine then_x ?_
    refine then_x ?_
    refine blk_x ?_
    refine then_n ?_
    exact ⟨o490, A491, c492, l493, (by exact Kn.pick (ks := [3]) hk rfl), hs, f494, hc495, H⟩
  · rw [b572] at hk H
    replace H := bifT H
    refine xd_take tab hk (k := 9) (is := [4, 5, 6, 7, 8]) (ls' := #[true, true, true, true, true, true, true, true, true, false, false, false, false, false, false, false, false, false]) (lv := []) (ks := [1, 3, 17]) (e' := [(1, .pointer (some ⟨bx4, 0, none⟩)), (3, .slice A491 (l493).length c492), (17, .bool (decide (((l493).length : Int) > (0 : Int))))]) (by kernel_rfl) rfl rfl (by kernel_rfl) (np_then (np_then (np_then (np_blk (np_then np_body))))) ⟨f494.now, f5.now, trivial⟩ (fun W_ hS => trivial) fun a hk => ?_
    cases b573 : (decide (((l493).length : Int) > (0 : Int)))
    · rw [b573] at hk H
      replace H := bifF H
      refine xd_take tab hk (k := 0) (is := [9, 10, 11, 12, 13, 14, 15, 16, 17]) (ls' := #[true, true, true, true, true, true, true, true, true, true, true, true, true, true, true, true, true, true]) (lv := []) (ks := [1, 3, 26]) (e' := [(1, .pointer (some ⟨bx4, 0, none⟩)), (3, .slice A491 (l493).length c492), (26, .bool false)]) (by kernel_rfl) rfl rfl (by kernel_rfl) (np_then (np_then (np_then (np_blk (np_then np_body))))) ⟨f494.now, f5.now, trivial⟩ (fun W_ hS => trivial) fun a hk => ?_
      refine xd_done (by kernel_rfl) ?_
      refine then_n ?_
      refine x_if hk (b := false) rfl ?_
      refine (show Code.wpIn _ _ _ _ _ _ _ from ?_)
      refine wpIn_exit ?_
      refine then_x ?_
      refine then_x ?_
      refine blk_x ?_
      refine then_n ?_
      exact ⟨o490, A491, c492, l493, (by exact Kn.pick (ks := [3]) hk rfl), hs, f494, hc495, H⟩
    · rw [b573] at hk H
      replace H := bifT H
      obtain ⟨q574, H⟩ := ifS H
      obtain ⟨ad575, hAad575⟩ := RdC.addr f494.now q574
      have hk_C := hk
      have f494_C := f494
      have f5_C := f5
      have f900000_C := f900000
      subst hAad575
      have hk := hk_C
      clear hk_C
      have f494 := f494_C
      clear f494_C
      have f5 := f5_C
      clear f5_C
      have f900000 := f900000_C
      clear f900000_C
      refine xd_take tab hk (k := 3) (is := [9, 10, 11, 12, 13, 14]) (ls' := #[true, true, true, true, true, true, true, true, true, true, true, true, true, true, true, false, false, false]) (lv := [.agg #[.int .i32 ((rdD zT111 l493 (IntKind.wrap .i64 (((l493).length : Int) - 1))).Rune), .int .i64 ((rdD zT111 l493 (IntKind.wrap .i64 (((l493).length : Int) - 1))).Style), .int .i64 ((rdD zT111 l493 (IntKind.wrap .i64 (((l493).length : Int) - 1))).Part)]]) (ks := [1, 3, 17, 23]) (e' := [(1, .pointer (some ⟨bx4, 0, none⟩)), (3, .slice (some ad575) (l493).length c492), (17, .bool true), (23, .agg #[.int .i32 ((rdD zT111 l493 (IntKind.wrap .i64 (((l493).length : Int) - 1))).Rune), .int .i64 ((rdD zT111 l493 (IntKind.wrap .i64 (((l493).length : Int) - 1))).Style), .int .i64 ((rdD zT111 l493 (IntKind.wrap .i64 (((l493).length : Int) - 1))).Part)])]) (by kernel_rfl) rfl rfl (by kernel_rfl) (np_then (np_then (np_then (np_blk (np_then np_body))))) ⟨f494.now, f5.now, trivial⟩ (fun W_ hS => ⟨q574, (load_elem (E := ET111) (i := (IntKind.wrap .i64 (((l493).length : Int) - 1))) (dx := zT111) tab rfl rfl hS.1 q574), trivial⟩) fun a hk => ?_
      refine xd_op hk (i := 15) (by kernel_rfl) rfl rfl ?_
      obtain ⟨t579, hc580, H⟩ := bindS H
      refine op_call hk ent_43 (vs := [.int .i64 0]) rfl (row_blank_calls 0 _ o490    _ hc580) ?_
      rintro _ w581 ⟨o582, rfl, st583⟩
      replace f494 := f494.st st583 (by decide)
      replace f5 := f5.st st583 (by decide)
      replace f900000 := f900000.st st583 (by decide)
      replace hs := hs.loc0 st583 (by decide)
      have hk := hk.put 24 (.agg #[.int .i32 t579.Rune, .int .i64 t579.Style, .int .i64 t579.Part]) rfl
      refine ⟨.inr ⟨f494.now, f5.now, trivial⟩, ?_⟩
      refine xd_take tab hk (k := 0) (is := [16, 17]) (ls' := #[true, true, true, true, true, true, true, true, true, true, true, true, true, true, true, true, true, true]) (lv := [.bool (eqT111 (rdD zT111 l493 (IntKind.wrap .i64 (((l493).length : Int) - 1))) t579)]) (ks := [1, 3, 26]) (e' := [(1, .pointer (some ⟨bx4, 0, none⟩)), (3, .slice (some ad575) (l493).length c492), (26, .bool (eqT111 (rdD zT111 l493 (IntKind.wrap .i64 (((l493).length : Int) - 1))) t579))]) (by kernel_rfl) rfl rfl (by kernel_rfl) (np_then (np_then (np_then (np_blk (np_then np_body))))) ⟨f494.now, f5.now, trivial⟩ (fun W_ hS => ⟨(ask_eq tab stood rfl rfl rfl rfl), trivial⟩) fun a hk => ?_
      refine xd_done (by kernel_rfl) ?_
      refine then_n ?_
      cases b584 : (eqT111 (rdD zT111 l493 (IntKind.wrap .i64 (((l493).length : Int) - 1))) t579)
      · rw [b584] at hk H
        replace H := bifF H
        refine x_if hk (b := false) rfl ?_
        refine (show Code.wpIn _ _ _ _ _ _ _ from ?_)
        refine wpIn_exit ?_
        refine then_x ?_
        refine then_x ?_
        refine blk_x ?_
        refine then_n ?_
        exact ⟨o582, (some ad575), c492, l493, (by exact Kn.pick (ks := [3]) hk rfl), hs, f494, hc495, H⟩
      · rw [b584] at hk H
        replace H := bifT H
        refine x_if hk (b := true) rfl ?_
        refine (show Code.wpIn _ _ _ _ _ _ _ from ?_)
        refine wpIn_skip ?_
        refine then_n ?_
        refine wpIn_block ?_
        refine wpIn_region_lit ?_
        obtain ⟨q585, H⟩ := ifS H
        obtain ⟨q586, H⟩ := ifS H
        obtain ⟨A587, c588, ak590, f589, hc591⟩ := ask_cut (P := Tryd.prog) tab (t := 30) rfl rfl f494 hc495 none (some (.int .i64 (IntKind.wrap .i64 (((l493).length : Int) - 1)))) rfl ⟨q585, (by have := q586; have := hc495; omega), trivial⟩ (by have := q585; have := q586; omega) (by have := q585; have := q586; omega)
        refine x_run tab hk (k := 6) (lv := [.slice A587 ((List.drop 0 (List.take (Int.toNat (IntKind.wrap .i64 (((l493).length : Int) - 1))) l493))).length c588]) (ks := [1, 3]) (e' := [(1, .pointer (some ⟨bx4, 0, none⟩)), (3, .slice A587 ((List.drop 0 (List.take (Int.toNat (IntKind.wrap .i64 (((l493).length : Int) - 1))) l493))).length c588)]) rfl ⟨(ak590 rfl rfl rfl _), trivial⟩ fun a hk => ?_
        refine wpListIn_nil ?_
        refine blk_n ?_
        refine then_n ?_
        exact ⟨k543, Nat.le_refl _, o582, A587, c588, (List.drop 0 (List.take (Int.toNat (IntKind.wrap .i64 (((l493).length : Int) - 1))) l493)), (by exact Kn.pick (ks := [1, 3]) hk rfl), hs, f589, f5, f900000, hc591, (hlp545 ▸ H)⟩

/-! tidewrack/tidewracktop.TidewrackShown -/
set_option maxHeartbeats 4000000 in
theorem tidewracktop_TidewrackShown_calls (K : Nat) (Ap0 : Option Addr) (cp0 : Nat) (p0 : List Int) (p1 : Int) (p2 : Int) (w : World) (o : Nat → Nat) (Lg0 : Nat) (hg0 : Ft (RdC ET97 (some ⟨0, 0, none⟩) glob0) w o Lg0) (Lg1 : Nat) (hg1 : Ft (RdC ET97 (some ⟨1, 0, none⟩) glob1) w o Lg1) (Lp0 : Nat) (hp0 : Ft (RdC (encInt .i32) Ap0 p0) w o Lp0) (hcp0 : (p0).length ≤ cp0)  (r : Bool) (H : tidewracktop_TidewrackShown K p0 p1 p2 = some r) :
    Calls Tryd.prog 4 #[.slice Ap0 (p0).length cp0, .int .i64 p1, .int .i64 p2] w (Ret fun v_ w' => ∃ o' : Nat → Nat, v_ = .bool r ∧ St [] w o w' o') := by
  refine x_enter (vs := [.slice Ap0 (p0).length cp0, .int .i64 p1, .int .i64 p2]) Tryd.func4 rfl rfl rfl fun a hk => ?_
  obtain ⟨o0, hs, h0⟩ := St.start w o
  have fg0 := h0 _ _ hg0
  have fg1 := h0 _ _ hg1
  have f900000 := h0 _ _ hp0
  clear h0
  rw [tidewracktop_TidewrackShown] at H
  refine x_seq ?_
  refine wpIn_region_lit ?_
  refine x_run tab hk (k := 1) (lv := []) (ks := [0, 1, 2]) (e' := [(0, .slice Ap0 (p0).length cp0), (1, .int .i64 p1), (2, .int .i64 p2)]) rfl trivial fun a hk => ?_
  refine wpListIn_nil ?_
  refine then_n ?_
  refine x_seq ?_
  refine wpIn_region_lit ?_
  refine x_run tab hk (k := 3) (lv := []) (ks := [0, 1, 2]) (e' := [(0, .slice Ap0 (p0).length cp0), (1, .int .i64 (bits .and .i64 p1 31)), (2, .int .i64 p2)]) rfl trivial fun a hk => ?_
  refine wpListIn_nil ?_
  refine then_n ?_
  refine x_seq ?_
  refine wpIn_region_lit ?_
  refine x_run tab hk (k := 4) (lv := []) (ks := [0, 1, 2]) (e' := [(0, .slice Ap0 (p0).length cp0), (1, .int .i64 (bits .and .i64 p1 31)), (2, .int .i64 (IntKind.wrap .i64 (1 + (bits .and .i64 p2 7))))]) rfl trivial fun a hk => ?_
  refine wpListIn_nil ?_
  refine then_n ?_
  refine x_seq ?_
  refine wpIn_region_lit ?_
  refine x_run tab hk (k := 1) (lv := []) (ks := [0, 1, 2, 19]) (e' := [(0, .slice Ap0 (p0).length cp0), (1, .int .i64 (bits .and .i64 p1 31)), (2, .int .i64 (IntKind.wrap .i64 (1 + (bits .and .i64 p2 7)))), (19, .int .i64 (bits .and .i64 p1 31))]) rfl trivial fun a hk => ?_
  refine x_op hk rfl ?_
  obtain ⟨t4, hc5, H⟩ := bindS H
  refine op_call hk ent_14 (vs := [.int .i64 (bits .and .i64 p1 31), .int .i64 0]) rfl (row_Blank_calls K (bits .and .i64 p1 31) 0 _ o0  1  _ hc5) ?_
  rintro _ w6 ⟨o7, A9, c10, rfl, st8, f11, hc12⟩
  replace f900000 := f900000.st st8 (by decide)
  replace fg0 := fg0.st st8 (by decide)
  replace fg1 := fg1.st st8 (by decide)
  replace hs := hs.loc0 st8 (by decide)
  have hk := hk.put 20 (.agg #[.slice A9 (t4.Cells).length c10, .bool t4.Wrapped]) rfl
  refine x_op hk rfl ?_
  refine op_alloc (o := o7) tab (t := 32) (cs := [.slice none 0 0, .bool false]) rfl rfl 2 fun bx16 w13 o14 st15 f17 => ?_
  replace f11 := f11.st st15 (by decide)
  replace f900000 := f900000.st st15 (by decide)
  replace fg0 := fg0.st st15 (by decide)
  replace fg1 := fg1.st st15 (by decide)
  replace hs := hs.loc0 st15 (by decide)
  have hk := hk.put 7 (.pointer (some ⟨bx16, 0, none⟩)) rfl
  refine x_op hk rfl ?_
  refine op_store tab hk (t := 32) (v := .agg #[.slice A9 (t4.Cells).length c10, .bool t4.Wrapped]) (b := bx16) (k := 0) (cs' := [.slice A9 (t4.Cells).length c10, .bool t4.Wrapped]) rfl rfl rfl rfl rfl rfl f17 rfl rfl fun w18 o19 st20 f17_ => ?_
  replace f11 := f11.st st20 (by decide)
  replace f900000 := f900000.st st20 (by decide)
  replace fg0 := fg0.st st20 (by decide)
  replace fg1 := fg1.st st20 (by decide)
  replace hs := hs.loc0 st20 (by decide)
  replace f17 := f17_
  refine wpListIn_nil ?_
  refine then_n ?_
  refine x_mid (fun a_ w_ => ∃ o34 : Nat → Nat, Kn 96 a_ [(0, .slice Ap0 (p0).length cp0), (1, .int .i64 (bits .and .i64 p1 31)), (2, .int .i64 (IntKind.wrap .i64 (1 + (bits .and .i64 p2 7)))), (7, .pointer (some ⟨bx16, 0, none⟩))] ∧ St [] w (fun _ => 0) w_ o34 ∧ Ft (Own ET111 112 (.slice A9 (t4.Cells).length c10) t4.Cells) w_ o34 3 ∧ Ft (Bx bx16 32 [.slice A9 (t4.Cells).length c10, .bool t4.Wrapped]) w_ o34 4 ∧ Ft (RdC (encInt .i32) Ap0 p0) w_ o34 0 ∧ Ft (RdC ET97 (some ⟨0, 0, none⟩) glob0) w_ o34 0 ∧ Ft (RdC ET97 (some ⟨1, 0, none⟩) glob1) w_ o34 0 ∧ tidewracktop_TidewrackShown_j1 K p0 p1 p2 t4 = some r) ?_ ?_
  rotate_left
  · rintro a w35 ⟨o34, hk, hs, f11, f17, f900000, fg0, fg1, H⟩
    rw [tidewracktop_TidewrackShown_j1] at H
    refine x_seq ?_
    refine wpIn_region_lit ?_
    refine x_run tab hk (k := 1) (lv := []) (ks := [0, 1, 2, 7, 8]) (e' := [(0, .slice Ap0 (p0).length cp0), (1, .int .i64 (bits .and .i64 p1 31)), (2, .int .i64 (IntKind.wrap .i64 (1 + (bits .and .i64 p2 7)))), (7, .pointer (some ⟨bx16, 0, none⟩)), (8, .int .i64 0)]) rfl trivial fun a hk => ?_
    refine wpListIn_nil ?_
    refine then_n ?_
    refine x_seq ?_
    refine wpIn_region_lit ?_
    refine x_run tab hk (k := 1) (lv := []) (ks := [0, 1, 2, 7, 8, 9]) (e' := [(0, .slice Ap0 (p0).length cp0), (1, .int .i64 (bits .and .i64 p1 31)), (2, .int .i64 (IntKind.wrap .i64 (1 + (bits .and .i64 p2 7)))), (7, .pointer (some ⟨bx16, 0, none⟩)), (8, .int .i64 0), (9, .slice none 0 0)]) rfl trivial fun a hk => ?_
    refine wpListIn_nil ?_
    refine then_n ?_
    refine x_mid (fun a_ w_ => ∃ o331 : Nat → Nat, ∃ A332 : Option Addr, ∃ c333 : Nat, ∃ l334 : List T111, ∃ x337 : Bool, ∃ A338 : Option Addr, ∃ c339 : Nat, ∃ l340 : List T36, Kn 96 a_ [(7, .pointer (some ⟨bx16, 0, none⟩)), (9, .slice A338 (l340).length c339)] ∧ St [] w (fun _ => 0) w_ o331 ∧ Ft (Bx bx16 32 [.slice A332 (l334).length c333, .bool x337]) w_ o331 41 ∧ Ft (Own ET111 112 (.slice A332 (l334).length c333) l334) w_ o331 40 ∧ Ft (Own ET36 37 (.slice A338 (l340).length c339) l340) w_ o331 42 ∧ Ft (RdC ET97 (some ⟨0, 0, none⟩) glob0) w_ o331 0 ∧ Ft (RdC ET97 (some ⟨1, 0, none⟩) glob1) w_ o331 0 ∧ (l334).length ≤ c333 ∧ (l340).length ≤ c339 ∧ tidewracktop_TidewrackShown_j2 K l334 x337 l340 = some r) ?_ ?_
    rotate_left
    · rintro a w343 ⟨o331, A332, c333, l334, x337, A338, c339, l340, hk, hs, f17, f335, f341, fg0, fg1, hc336, hc342, H⟩
      rw [tidewracktop_TidewrackShown_j2] at H
      refine x_seq ?_
      refine wpIn_region_lit ?_
      refine x_run tab hk (k := 1) (lv := [.agg #[.slice A332 (l334).length c333, .bool x337]]) (ks := [9, 74]) (e' := [(9, .slice A338 (l340).length c339), (74, .agg #[.slice A332 (l334).length c333, .bool x337])]) rfl ⟨(load_box tab rfl rfl f17.now (k := 0) rfl rfl), trivial⟩ fun a hk => ?_
      refine x_op hk rfl ?_
      obtain ⟨t347, hc348, H⟩ := bindS H
      refine op_call hk ent_16 (vs := [.agg #[.slice A332 (l334).length c333, .bool x337]]) rfl (row_Row_Glyphs_calls K A332 c333 (⟨l334, x337⟩ : T31) _ o331 _ (f335.imp fun _ h_ => Own.rd h_) hc336 43  _ hc348) ?_
      rintro _ w349 ⟨o350, A352, c353, rfl, st351, f354, hc355⟩
      replace f335 := f335.st st351 (by decide)
      replace f341 := f341.st st351 (by decide)
      replace fg0 := fg0.st st351 (by decide)
      replace fg1 := fg1.st st351 (by decide)
      replace hs := hs.loc0 st351 (by decide)
      have hk := hk.put 75 (.slice A352 (t347).length c353) rfl
      refine x_run tab hk (k := 1) (lv := []) (ks := [9, 12]) (e' := [(9, .slice A338 (l340).length c339), (12, .slice A352 (t347).length c353)]) rfl trivial fun a hk => ?_
      refine wpListIn_nil ?_
      refine then_n ?_
      refine x_seq ?_
      refine x_seq ?_
      refine wpIn_region_lit ?_
      refine x_run tab hk (k := 5) (lv := []) (ks := [9, 12, 80]) (e' := [(9, .slice A338 (l340).length c339), (12, .slice A352 (t347).length c353), (80, .bool (((t347).length : Int) != ((l340).length : Int)))]) rfl trivial fun a hk => ?_
      refine wpListIn_nil ?_
      refine then_n ?_
      cases b356 : (((t347).length : Int) != ((l340).length : Int))
      · rw [b356] at hk H
        replace H := bifF H
        refine x_if hk (b := false) rfl ?_
        refine (show Code.wpIn _ _ _ _ _ _ _ from ?_)
        refine wpIn_skip ?_
        refine then_n ?_
        refine x_mid (fun a_ w_ => ∃ o417 : Nat → Nat, Kn 96 a_ [] ∧ St [] w (fun _ => 0) w_ o417 ∧ Ft (RdC ET97 (some ⟨0, 0, none⟩) glob0) w_ o417 0 ∧ Ft (RdC ET97 (some ⟨1, 0, none⟩) glob1) w_ o417 0 ∧ tidewracktop_TidewrackShown_j3 = some r) ?_ ?_
        rotate_left
        · rintro a w418 ⟨o417, hk, hs, fg0, fg1, H⟩
          rw [tidewracktop_TidewrackShown_j3] at H
          refine x_seq ?_
          refine wpIn_region_lit ?_
          refine x_run tab hk (k := 1) (lv := []) (ks := [6]) (e' := [(6, .bool true)]) rfl trivial fun a hk => ?_
          refine wpListIn_nil ?_
          refine then_n ?_
          refine wpIn_ret ?_
          obtain rfl := Option.some.inj H
          exact x_retG hk (rs := [.tmp 6]) (vs := [.bool true]) rfl ⟨rfl, trivial⟩ ⟨fun b_ => if b_ < w.heap.size then o b_ else (fun _ => 0) (o417 b_), rfl, hs.close0 o (fun _ => 0)⟩
        refine x_seq ?_
        refine wpIn_region_lit ?_
        refine x_run tab hk (k := 3) (lv := []) (ks := [9, 12, 82, 83]) (e' := [(9, .slice A338 (l340).length c339), (12, .slice A352 (t347).length c353), (82, .int .i64 ((l340).length : Int)), (83, .int .i64 0)]) rfl trivial fun a hk => ?_
        refine wpListIn_nil ?_
        refine then_n ?_
        refine wpIn_block ?_
        refine x_loop (fun j_ a_ w_ => ∃ o438 : Nat → Nat, ∃ x439 : Int, Kn 96 a_ [(9, .slice A338 (l340).length c339), (12, .slice A352 (t347).length c353), (82, .int .i64 ((l340).length : Int)), (83, .int .i64 x439)] ∧ St [] w (fun _ => 0) w_ o438 ∧ Ft (Own ET36 37 (.slice A338 (l340).length c339) l340) w_ o438 50 ∧ Ft (Own ET36 37 (.slice A352 (t347).length c353) t347) w_ o438 51 ∧ Ft (RdC ET97 (some ⟨0, 0, none⟩) glob0) w_ o438 0 ∧ Ft (RdC ET97 (some ⟨1, 0, none⟩) glob1) w_ o438 0 ∧ tidewracktop_TidewrackShown_l4 l340 t347 j_ x439 = some r) (k := K) ⟨(fun b_ => (fun l_ => if l_ = 42 then 50 else if l_ = 43 then 51 else l_) (o350 b_)), 0, (by exact Kn.pick (ks := [9, 12, 82, 83]) hk rfl), (hs.relab0 (fun l_ => if l_ = 42 then 50 else if l_ = 43 then 51 else l_) rfl), (f341.relab (fun l_ => if l_ = 42 then 50 else if l_ = 43 then 51 else l_) rfl), (f354.relab (fun l_ => if l_ = 42 then 50 else if l_ = 43 then 51 else l_) rfl), (fg0.relab (fun l_ => if l_ = 42 then 50 else if l_ = 43 then 51 else l_) rfl), (fg1.relab (fun l_ => if l_ = 42 then 50 else if l_ = 43 then 51 else l_) rfl), H⟩ (by rintro _ _ ⟨_, _, _, _, _, _, _, _, H_⟩; exact absurd (show (none : Option Bool) = some r from H_) (by simp)) ?_
        rintro k457 a w456 ⟨o438, x439, hk, hs, f341, f354, fg0, fg1, H⟩
        rw [tidewracktop_TidewrackShown_l4] at H
        obtain ⟨lp458, hlp459⟩ : ∃ lp_, lp_ = tidewracktop_TidewrackShown_l4 l340 t347 k457 := ⟨_, rfl⟩
        rw [← hlp459] at H
        refine x_seq ?_
        refine wpIn_region_lit ?_
        refine x_run tab hk (k := 1) (lv := []) (ks := [9, 12, 82, 83, 84]) (e' := [(9, .slice A338 (l340).length c339), (12, .slice A352 (t347).length c353), (82, .int .i64 ((l340).length : Int)), (83, .int .i64 x439), (84, .bool (decide (x439 < ((l340).length : Int))))]) rfl trivial fun a hk => ?_
        refine wpListIn_nil ?_
        refine then_n ?_
        refine x_seq ?_
        cases b460 : (decide (x439 < ((l340).length : Int)))
        · rw [b460] at hk H
          replace H := bifF H
          refine x_if hk (b := false) rfl ?_
          refine (show Code.wpIn _ _ _ _ _ _ _ from ?_)
          refine wpIn_exit ?_
          refine then_x ?_
          refine then_x ?_
          refine blk_x ?_
          refine then_n ?_
          exact ⟨o438, (by exact Kn.pick (ks := []) hk rfl), hs, fg0, fg1, H⟩
        · rw [b460] at hk H
          replace H := bifT H
          refine x_if hk (b := true) rfl ?_
          refine (show Code.wpIn _ _ _ _ _ _ _ from ?_)
          refine wpIn_skip ?_
          refine then_n ?_
          refine x_seq ?_
          refine wpIn_block ?_
          refine x_seq ?_
          refine wpIn_region_lit ?_
          refine x_run tab hk (k := 2) (lv := []) (ks := [9, 12, 13, 82, 83]) (e' := [(9, .slice A338 (l340).length c339), (12, .slice A352 (t347).length c353), (13, .int .i64 x439), (82, .int .i64 ((l340).length : Int)), (83, .int .i64 x439)]) rfl trivial fun a hk => ?_
          refine wpListIn_nil ?_
          refine then_n ?_
          refine x_seq ?_
          refine xd_begin (o := o438) (fun W_ => (Own ET36 37 (.slice A338 (l340).length c339) l340) W_ ∧ (Own ET36 37 (.slice A352 (t347).length c353) t347) W_ ∧ True) mixed rfl rfl fun w469 st470 => ?_
          replace f341 := f341.st st470 (by decide)
          replace f354 := f354.st st470 (by decide)
          replace fg0 := fg0.st st470 (by decide)
          replace fg1 := fg1.st st470 (by decide)
          replace hs := hs.loc0 st470 (by decide)
          obtain ⟨q471, H⟩ := ifS H
          obtain ⟨ad472, hAad472⟩ := RdC.addr (Own.rd f354.now) q471
          have hk_C := hk
          have f341_C := f341
          have f354_C := f354
          have fg0_C := fg0
          have fg1_C := fg1
          subst hAad472
          have hk := hk_C
          clear hk_C
          have f341 := f341_C
          clear f341_C
          have f354 := f354_C
          clear f354_C
          have fg0 := fg0_C
          clear fg0_C
          have fg1 := fg1_C
          clear fg1_C
          obtain ⟨q473, H⟩ := ifS H
          obtain ⟨ad474, hAad474⟩ := RdC.addr (Own.rd f341.now) q473
          have hk_C := hk
          have f341_C := f341
          have f354_C := f354
          have fg0_C := fg0
          have fg1_C := fg1
          subst hAad474
          have hk := hk_C
          clear hk_C
          have f341 := f341_C
          clear f341_C
          have f354 := f354_C
          clear f354_C
          have fg0 := fg0_C
          clear fg0_C
          have fg1 := fg1_C
          clear fg1_C
          refine xd_take tab hk (k := 0) (is := [0, 1, 2, 3, 4, 5, 6, 7, 8]) (ls' := #[true, true, true, true, true, true, true, true, true]) (lv := [.agg #[.int .i32 ((rdD zT36 t347 x439).Rune), .int .i64 ((rdD zT36 t347 x439).Style)], .agg #[.int .i32 ((rdD zT36 l340 x439).Rune), .int .i64 ((rdD zT36 l340 x439).Style)], .bool (!(eqT36 (rdD zT36 t347 x439) (rdD zT36 l340 x439)))]) (ks := [9, 12, 82, 83, 94]) (e' := [(9, .slice (some ad474) (l340).length c339), (12, .slice (some ad472) (t347).length c353), (82, .int .i64 ((l340).length : Int)), (83, .int .i64 x439), (94, .bool (!(eqT36 (rdD zT36 t347 x439) (rdD zT36 l340 x439))))]) (by kernel_rfl) rfl rfl (by kernel_rfl) (np_then (np_blk (np_then (np_then (np_blk (np_then np_body)))))) ⟨f341.now, f354.now, trivial⟩ (fun W_ hS => ⟨q471, (load_elem (E := ET36) (i := x439) (dx := zT36) tab rfl rfl (Own.rd hS.2.1) q471), q473, (load_elem (E := ET36) (i := x439) (dx := zT36) tab rfl rfl (Own.rd hS.1) q473), (ask_neq tab stood rfl rfl rfl rfl), trivial⟩) fun a hk => ?_
          refine xd_done (by kernel_rfl) ?_
          refine then_n ?_
          cases b475 : (!(eqT36 (rdD zT36 t347 x439) (rdD zT36 l340 x439)))
          · rw [b475] at hk H
            replace H := bifF H
            refine x_if hk (b := false) rfl ?_
            refine (show Code.wpIn _ _ _ _ _ _ _ from ?_)
            refine wpIn_skip ?_
            refine blk_n ?_
            refine then_n ?_
            refine wpIn_region_lit ?_
            refine x_run tab hk (k := 2) (lv := []) (ks := [9, 12, 82, 83]) (e' := [(9, .slice (some ad474) (l340).length c339), (12, .slice (some ad472) (t347).length c353), (82, .int .i64 ((l340).length : Int)), (83, .int .i64 (IntKind.wrap .i64 (x439 + 1)))]) rfl trivial fun a hk => ?_
            refine wpListIn_nil ?_
            refine then_n ?_
            exact ⟨k457, Nat.le_refl _, o438, (IntKind.wrap .i64 (x439 + 1)), (by exact Kn.pick (ks := [9, 12, 82, 83]) hk rfl), hs, f341, f354, fg0, fg1, (hlp459 ▸ H)⟩
          · rw [b475] at hk H
            replace H := bifT H
            refine x_if hk (b := true) rfl ?_
            refine (show Code.wpIn _ _ _ _ _ _ _ from ?_)
            refine x_seq ?_
            refine wpIn_region_lit ?_
            refine x_run tab hk (k := 1) (lv := []) (ks := [6]) (e' := [(6, .bool false)]) rfl trivial fun a hk => ?_
            refine wpListIn_nil ?_
            refine then_n ?_
            refine wpIn_ret ?_
            refine blk_r ?_
            refine then_r ?_
            refine then_r ?_
            refine blk_r ?_
            refine then_r ?_
            obtain rfl := Option.some.inj H
            exact x_retG hk (rs := [.tmp 6]) (vs := [.bool false]) rfl ⟨rfl, trivial⟩ ⟨fun b_ => if b_ < w.heap.size then o b_ else (fun _ => 0) (o438 b_), rfl, hs.close0 o (fun _ => 0)⟩
      · rw [b356] at hk H
        replace H := bifT H
        refine x_if hk (b := true) rfl ?_
        refine (show Code.wpIn _ _ _ _ _ _ _ from ?_)
        refine x_seq ?_
        refine wpIn_region_lit ?_
        refine x_run tab hk (k := 1) (lv := []) (ks := [6]) (e' := [(6, .bool false)]) rfl trivial fun a hk => ?_
        refine wpListIn_nil ?_
        refine then_n ?_
        refine wpIn_ret ?_
        refine then_r ?_
        obtain rfl := Option.some.inj H
        exact x_retG hk (rs := [.tmp 6]) (vs := [.bool false]) rfl ⟨rfl, trivial⟩ ⟨fun b_ => if b_ < w.heap.size then o b_ else (fun _ => 0) (o350 b_), rfl, hs.close0 o (fun _ => 0)⟩
    refine x_seq ?_
    refine wpIn_region_lit ?_
    refine x_run tab hk (k := 1) (lv := []) (ks := [0, 1, 2, 7, 8, 9, 10]) (e' := [(0, .slice Ap0 (p0).length cp0), (1, .int .i64 (bits .and .i64 p1 31)), (2, .int .i64 (IntKind.wrap .i64 (1 + (bits .and .i64 p2 7)))), (7, .pointer (some ⟨bx16, 0, none⟩)), (8, .int .i64 0), (9, .slice none 0 0), (10, .int .i64 0)]) rfl trivial fun a hk => ?_
    refine wpListIn_nil ?_
    refine then_n ?_
    refine wpIn_block ?_
    refine x_loop (fun j_ a_ w_ => ∃ o565 : Nat → Nat, ∃ A566 : Option Addr, ∃ c567 : Nat, ∃ l568 : List T111, ∃ x571 : Bool, ∃ x572 : Int, ∃ A573 : Option Addr, ∃ c574 : Nat, ∃ l575 : List T36, ∃ x578 : Int, Kn 96 a_ [(0, .slice Ap0 (p0).length cp0), (1, .int .i64 (bits .and .i64 p1 31)), (2, .int .i64 (IntKind.wrap .i64 (1 + (bits .and .i64 p2 7)))), (7, .pointer (some ⟨bx16, 0, none⟩)), (8, .int .i64 x572), (9, .slice A573 (l575).length c574), (10, .int .i64 x578)] ∧ St [] w (fun _ => 0) w_ o565 ∧ Ft (Bx bx16 32 [.slice A566 (l568).length c567, .bool x571]) w_ o565 64 ∧ Ft (Own ET111 112 (.slice A566 (l568).length c567) l568) w_ o565 63 ∧ Ft (Own ET36 37 (.slice A573 (l575).length c574) l575) w_ o565 65 ∧ Ft (RdC (encInt .i32) Ap0 p0) w_ o565 0 ∧ Ft (RdC ET97 (some ⟨0, 0, none⟩) glob0) w_ o565 0 ∧ Ft (RdC ET97 (some ⟨1, 0, none⟩) glob1) w_ o565 0 ∧ (l568).length ≤ c567 ∧ (l575).length ≤ c574 ∧ tidewracktop_TidewrackShown_l5 K p0 p1 p2 j_ l568 x571 x572 l575 x578 = some r) (k := K) ⟨(fun b_ => (fun l_ => if l_ = 3 then 63 else if l_ = 4 then 64 else l_) (o34 b_)), A9, c10, t4.Cells, t4.Wrapped, 0, none, 0, ([] : List T36), 0, (by exact Kn.pick (ks := [0, 1, 2, 7, 8, 9, 10]) hk rfl), (hs.relab0 (fun l_ => if l_ = 3 then 63 else if l_ = 4 then 64 else l_) rfl), (f17.relab (fun l_ => if l_ = 3 then 63 else if l_ = 4 then 64 else l_) rfl), (f11.relab (fun l_ => if l_ = 3 then 63 else if l_ = 4 then 64 else l_) rfl), (Ft.of_all (fun _ => Own.nil _ _ _) _ _ _), (f900000.relab (fun l_ => if l_ = 3 then 63 else if l_ = 4 then 64 else l_) rfl), (fg0.relab (fun l_ => if l_ = 3 then 63 else if l_ = 4 then 64 else l_) rfl), (fg1.relab (fun l_ => if l_ = 3 then 63 else if l_ = 4 then 64 else l_) rfl), hc12, (by simp), H⟩ (by rintro _ _ ⟨_, _, _, _, _, _, _, _, _, _, _, _, _, _, _, _, _, _, _, _, H_⟩; exact absurd (show (none : Option Bool) = some r from H_) (by simp)) ?_
    rintro k666 a w665 ⟨o565, A566, c567, l568, x571, x572, A573, c574, l575, x578, hk, hs, f17, f569, f576, f900000, fg0, fg1, hc570, hc577, H⟩
    rw [tidewracktop_TidewrackShown_l5] at H
    obtain ⟨lp667, hlp668⟩ : ∃ lp_, lp_ = tidewracktop_TidewrackShown_l5 K p0 p1 p2 k666 := ⟨_, rfl⟩
    rw [← hlp668] at H
    refine x_mid (fun a_ w_ => ∃ o674 : Nat → Nat, Kn 96 a_ [(0, .slice Ap0 (p0).length cp0), (1, .int .i64 (bits .and .i64 p1 31)), (2, .int .i64 (IntKind.wrap .i64 (1 + (bits .and .i64 p2 7)))), (7, .pointer (some ⟨bx16, 0, none⟩)), (8, .int .i64 x572), (9, .slice A573 (l575).length c574), (10, .int .i64 x578)] ∧ St [] w (fun _ => 0) w_ o674 ∧ Ft (Bx bx16 32 [.slice A566 (l568).length c567, .bool x571]) w_ o674 77 ∧ Ft (Own ET111 112 (.slice A566 (l568).length c567) l568) w_ o674 76 ∧ Ft (Own ET36 37 (.slice A573 (l575).length c574) l575) w_ o674 78 ∧ Ft (RdC (encInt .i32) Ap0 p0) w_ o674 0 ∧ Ft (RdC ET97 (some ⟨0, 0, none⟩) glob0) w_ o674 0 ∧ Ft (RdC ET97 (some ⟨1, 0, none⟩) glob1) w_ o674 0 ∧ tidewracktop_TidewrackShown_j6 K p0 p1 p2 l568 x571 x572 l575 x578 lp667 = some r) ?_ ?_
    rotate_left
    · rintro a w675 ⟨o674, hk, hs, f17, f569, f576, f900000, fg0, fg1, H⟩
      rw [tidewracktop_TidewrackShown_j6] at H
      refine x_seq ?_
      refine wpIn_block ?_
      refine x_seq ?_
      refine wpIn_region_lit ?_
      obtain ⟨q676, H⟩ := ifS H
      obtain ⟨ad677, hAad677⟩ := RdC.addr f900000.now q676
      have hk_C := hk
      have f17_C := f17
      have f569_C := f569
      have f576_C := f576
      have f900000_C := f900000
      have fg0_C := fg0
      have fg1_C := fg1
      subst hAad677
      have hk := hk_C
      clear hk_C
      have f17 := f17_C
      clear f17_C
      have f569 := f569_C
      clear f569_C
      have f576 := f576_C
      clear f576_C
      have f900000 := f900000_C
      clear f900000_C
      have fg0 := fg0_C
      clear fg0_C
      have fg1 := fg1_C
      clear fg1_C
      refine x_run tab hk (k := 4) (lv := [.int .i32 (rdD 0 p0 x578)]) (ks := [0, 1, 2, 7, 8, 9, 10, 43]) (e' := [(0, .slice (some ad677) (p0).length cp0), (1, .int .i64 (bits .and .i64 p1 31)), (2, .int .i64 (IntKind.wrap .i64 (1 + (bits .and .i64 p2 7)))), (7, .pointer (some ⟨bx16, 0, none⟩)), (8, .int .i64 x572), (9, .slice A573 (l575).length c574), (10, .int .i64 x578), (43, .int .i32 (rdD 0 p0 x578))]) rfl ⟨q676, (load1 tab rfl (RdC.at0 (E := (encInt .i32)) (d := 0) (i := x578) f900000.now q676 rfl)), trivial⟩ fun a hk => ?_
      refine x_op hk rfl ?_
      obtain ⟨t681, hc682, H⟩ := bindS H
      refine op_call hk ent_8 (vs := [.int .i32 (rdD 0 p0 x578)]) rfl (wide_Of_calls K (rdD 0 p0 x578) _ o674 0 fg0 0 fg1   _ hc682) ?_
      rintro _ w683 ⟨o684, rfl, st685⟩
      replace f17 := f17.st st685 (by decide)
      replace f569 := f569.st st685 (by decide)
      replace f576 := f576.st st685 (by decide)
      replace f900000 := f900000.st st685 (by decide)
      replace fg0 := fg0.st st685 (by decide)
      replace fg1 := fg1.st st685 (by decide)
      replace hs := hs.loc0 st685 (by decide)
      have hk := hk.put 44 (.int .i64 t681) rfl
      refine x_run tab hk (k := 1) (lv := []) (ks := [0, 1, 2, 7, 8, 9, 10, 11]) (e' := [(0, .slice (some ad677) (p0).length cp0), (1, .int .i64 (bits .and .i64 p1 31)), (2, .int .i64 (IntKind.wrap .i64 (1 + (bits .and .i64 p2 7)))), (7, .pointer (some ⟨bx16, 0, none⟩)), (8, .int .i64 x572), (9, .slice A573 (l575).length c574), (10, .int .i64 x578), (11, .int .i64 t681)]) rfl trivial fun a hk => ?_
      refine wpListIn_nil ?_
      refine then_n ?_
      refine x_mid (fun a_ w_ => ∃ o691 : Nat → Nat, Kn 96 a_ [(0, .slice (some ad677) (p0).length cp0), (1, .int .i64 (bits .and .i64 p1 31)), (2, .int .i64 (IntKind.wrap .i64 (1 + (bits .and .i64 p2 7)))), (7, .pointer (some ⟨bx16, 0, none⟩)), (8, .int .i64 x572), (9, .slice A573 (l575).length c574), (10, .int .i64 x578), (11, .int .i64 t681)] ∧ St [] w (fun _ => 0) w_ o691 ∧ Ft (Bx bx16 32 [.slice A566 (l568).length c567, .bool x571]) w_ o691 80 ∧ Ft (Own ET111 112 (.slice A566 (l568).length c567) l568) w_ o691 79 ∧ Ft (Own ET36 37 (.slice A573 (l575).length c574) l575) w_ o691 81 ∧ Ft (RdC (encInt .i32) (some ad677) p0) w_ o691 0 ∧ Ft (RdC ET97 (some ⟨0, 0, none⟩) glob0) w_ o691 0 ∧ Ft (RdC ET97 (some ⟨1, 0, none⟩) glob1) w_ o691 0 ∧ tidewracktop_TidewrackShown_j7 K p0 p2 l568 x571 x572 l575 x578 lp667 t681 = some r) ?_ ?_
      rotate_left
      · rintro a w692 ⟨o691, hk, hs, f17, f569, f576, f900000, fg0, fg1, H⟩
        rw [tidewracktop_TidewrackShown_j7] at H
        refine x_seq ?_
        refine xd_begin (o := o691) (fun W_ => (Bx bx16 32 [.slice A566 (l568).length c567, .bool x571]) W_ ∧ (RdC (encInt .i32) (some ad677) p0) W_ ∧ True) mixed rfl rfl fun w720 st721 => ?_
        replace f17 := f17.st st721 (by decide)
        replace f569 := f569.st st721 (by decide)
        replace f576 := f576.st st721 (by decide)
        replace f900000 := f900000.st st721 (by decide)
        replace fg0 := fg0.st st721 (by decide)
        replace fg1 := fg1.st st721 (by decide)
        replace hs := hs.loc0 st721 (by decide)
        refine xd_take tab hk (k := 2) (is := [0, 1, 2, 3, 4, 5, 6]) (ls' := #[true, true, true, true, true, true, true, false, false]) (lv := [.agg #[.slice A566 (l568).length c567, .bool x571], .int .i32 (rdD 0 p0 x578)]) (ks := [0, 1, 2, 7, 8, 9, 10, 11, 54, 55, 59, 60]) (e' := [(0, .slice (some ad677) (p0).length cp0), (1, .int .i64 (bits .and .i64 p1 31)), (2, .int .i64 (IntKind.wrap .i64 (1 + (bits .and .i64 p2 7)))), (7, .pointer (some ⟨bx16, 0, none⟩)), (8, .int .i64 x572), (9, .slice A573 (l575).length c574), (10, .int .i64 x578), (11, .int .i64 t681), (54, .agg #[.slice A566 (l568).length c567, .bool x571]), (55, .int .i64 x572), (59, .int .i32 (rdD 0 p0 x578)), (60, .int .i64 (IntKind.wrap .i64 (1 + (bits .and .i64 p2 7))))]) (by kernel_rfl) rfl rfl (by kernel_rfl) (np_then (np_blk (np_then (np_then (np_blk (np_then np_body)))))) ⟨f17.now, f900000.now, trivial⟩ (fun W_ hS => ⟨(load_box tab rfl rfl hS.1 (k := 0) rfl rfl), q676, (load1 tab rfl (RdC.at0 (E := (encInt .i32)) (d := 0) (i := x578) hS.2.1 q676 rfl)), trivial⟩) fun a hk => ?_
        refine xd_op hk (i := 7) (by kernel_rfl) rfl rfl ?_
        obtain ⟨t725, hc726, H⟩ := bindS H
        refine op_call hk ent_15 (vs := [.agg #[.slice A566 (l568).length c567, .bool x571], .int .i64 x572, .int .i32 (rdD 0 p0 x578), .int .i64 (IntKind.wrap .i64 (1 + (bits .and .i64 p2 7)))]) rfl (row_Row_Put_calls K A566 c567 (⟨l568, x571⟩ : T31) x572 (rdD 0 p0 x578) (IntKind.wrap .i64 (1 + (bits .and .i64 p2 7))) _ o691 0 fg0 0 fg1 _ (f569.imp fun _ h_ => Own.rd h_) hc570 84  _ hc726) ?_
        rintro _ w727 ⟨o728, A730, c731, rfl, st729, f732, hc733⟩
        replace f17 := f17.st st729 (by decide)
        replace f569 := f569.st st729 (by decide)
        replace f576 := f576.st st729 (by decide)
        replace f900000 := f900000.st st729 (by decide)
        replace fg0 := fg0.st st729 (by decide)
        replace fg1 := fg1.st st729 (by decide)
        replace hs := hs.loc0 st729 (by decide)
        have hk := hk.put 61 (.agg #[.slice A730 (t725.Cells).length c731, .bool t725.Wrapped]) rfl
        refine ⟨.inr ⟨f17.now, f900000.now, trivial⟩, ?_⟩
        refine xd_op hk (i := 8) (by kernel_rfl) rfl rfl ?_
        refine op_store tab hk (t := 32) (v := .agg #[.slice A730 (t725.Cells).length c731, .bool t725.Wrapped]) (b := bx16) (k := 0) (cs' := [.slice A730 (t725.Cells).length c731, .bool t725.Wrapped]) rfl rfl rfl rfl rfl rfl f17 rfl rfl fun w734 o735 st736 f17_ => ?_
        replace f569 := f569.st st736 (by decide)
        replace f576 := f576.st st736 (by decide)
        replace f732 := f732.st st736 (by decide)
        replace f900000 := f900000.st st736 (by decide)
        replace fg0 := fg0.st st736 (by decide)
        replace fg1 := fg1.st st736 (by decide)
        replace hs := hs.loc0 st736 (by decide)
        replace f17 := f17_
        refine ⟨.inl (by kernel_rfl), ?_⟩
        refine xd_done (by kernel_rfl) ?_
        refine then_n ?_
        refine x_seq ?_
        refine wpIn_region_lit ?_
        refine x_run tab hk (k := 7) (lv := [.int .i32 (rdD 0 p0 x578)]) (ks := [0, 1, 2, 7, 8, 10, 11, 62, 68]) (e' := [(0, .slice (some ad677) (p0).length cp0), (1, .int .i64 (bits .and .i64 p1 31)), (2, .int .i64 (IntKind.wrap .i64 (1 + (bits .and .i64 p2 7)))), (7, .pointer (some ⟨bx16, 0, none⟩)), (8, .int .i64 x572), (10, .int .i64 x578), (11, .int .i64 t681), (62, .slice A573 (l575).length c574), (68, .agg #[.int .i32 (rdD 0 p0 x578), .int .i64 (IntKind.wrap .i64 (1 + (bits .and .i64 p2 7)))])]) rfl ⟨q676, (load1 tab rfl (RdC.at0 (E := (encInt .i32)) (d := 0) (i := x578) f900000.now q676 rfl)), trivial⟩ fun a hk => ?_
        refine x_op hk rfl ?_
        refine op_slice (o := o735) tab hk (vs := [.agg #[.int .i32 (rdD 0 p0 x578), .int .i64 (IntKind.wrap .i64 (1 + (bits .and .i64 p2 7)))]]) (cs := [.int .i32 (rdD 0 p0 x578), .int .i64 (IntKind.wrap .i64 (1 + (bits .and .i64 p2 7)))]) rfl rfl rfl rfl rfl rfl rfl rfl rfl 85 fun bx740 w737 o738 st739 f741 => ?_
        replace f17 := f17.st st739 (by decide)
        replace f576 := f576.st st739 (by decide)
        replace f732 := f732.st st739 (by decide)
        replace f900000 := f900000.st st739 (by decide)
        replace fg0 := fg0.st st739 (by decide)
        replace fg1 := fg1.st st739 (by decide)
        replace hs := hs.loc0 st739 (by decide)
        have f742 : Ft (Own ET36 37 (.slice (some ⟨bx740, 0, none⟩) (([(⟨(rdD 0 p0 x578), (IntKind.wrap .i64 (1 + (bits .and .i64 p2 7)))⟩ : T36)] : List T36)).length 1) ([(⟨(rdD 0 p0 x578), (IntKind.wrap .i64 (1 + (bits .and .i64 p2 7)))⟩ : T36)] : List T36)) w737 o738 85 := f741.imp fun _ h_ => Own.of_box h_ rfl (by simp)
        have hk := hk.put 69 (.slice (some ⟨bx740, 0, none⟩) (([(⟨(rdD 0 p0 x578), (IntKind.wrap .i64 (1 + (bits .and .i64 p2 7)))⟩ : T36)] : List T36)).length 1) rfl
        refine x_op hk rfl ?_
        obtain ⟨q746, H⟩ := ifS H
        refine op_append (o := o738) (E := ET36) (xs := l575) (ys := ([(⟨(rdD 0 p0 x578), (IntKind.wrap .i64 (1 + (bits .and .i64 p2 7)))⟩ : T36)] : List T36)) tab hk rfl rfl rfl rfl rfl rfl rfl f576 (Own.rd f742.now) q746 fun A747 c748 w743 o744 st745 f749 hc750 => ?_
        replace f17 := f17.st st745 (by decide)
        replace f732 := f732.st st745 (by decide)
        replace f742 := f742.st st745 (by decide)
        replace f900000 := f900000.st st745 (by decide)
        replace fg0 := fg0.st st745 (by decide)
        replace fg1 := fg1.st st745 (by decide)
        replace hs := hs.loc0 st745 (by decide)
        have hk := hk.put 70 (.slice A747 ((l575 ++ ([(⟨(rdD 0 p0 x578), (IntKind.wrap .i64 (1 + (bits .and .i64 p2 7)))⟩ : T36)] : List T36))).length c748) rfl
        refine x_run tab hk (k := 1) (lv := []) (ks := [0, 1, 2, 7, 8, 9, 10, 11]) (e' := [(0, .slice (some ad677) (p0).length cp0), (1, .int .i64 (bits .and .i64 p1 31)), (2, .int .i64 (IntKind.wrap .i64 (1 + (bits .and .i64 p2 7)))), (7, .pointer (some ⟨bx16, 0, none⟩)), (8, .int .i64 x572), (9, .slice A747 ((l575 ++ ([(⟨(rdD 0 p0 x578), (IntKind.wrap .i64 (1 + (bits .and .i64 p2 7)))⟩ : T36)] : List T36))).length c748), (10, .int .i64 x578), (11, .int .i64 t681)]) rfl trivial fun a hk => ?_
        refine wpListIn_nil ?_
        refine then_n ?_
        refine wpIn_region_lit ?_
        refine x_run tab hk (k := 4) (lv := []) (ks := [0, 1, 2, 7, 8, 9, 10]) (e' := [(0, .slice (some ad677) (p0).length cp0), (1, .int .i64 (bits .and .i64 p1 31)), (2, .int .i64 (IntKind.wrap .i64 (1 + (bits .and .i64 p2 7)))), (7, .pointer (some ⟨bx16, 0, none⟩)), (8, .int .i64 (IntKind.wrap .i64 (x572 + t681))), (9, .slice A747 ((l575 ++ ([(⟨(rdD 0 p0 x578), (IntKind.wrap .i64 (1 + (bits .and .i64 p2 7)))⟩ : T36)] : List T36))).length c748), (10, .int .i64 x578)]) rfl trivial fun a hk => ?_
        refine wpListIn_nil ?_
        refine blk_n ?_
        refine then_n ?_
        refine wpIn_region_lit ?_
        refine x_run tab hk (k := 3) (lv := []) (ks := [0, 1, 2, 7, 8, 9, 10]) (e' := [(0, .slice (some ad677) (p0).length cp0), (1, .int .i64 (bits .and .i64 p1 31)), (2, .int .i64 (IntKind.wrap .i64 (1 + (bits .and .i64 p2 7)))), (7, .pointer (some ⟨bx16, 0, none⟩)), (8, .int .i64 (IntKind.wrap .i64 (x572 + t681))), (9, .slice A747 ((l575 ++ ([(⟨(rdD 0 p0 x578), (IntKind.wrap .i64 (1 + (bits .and .i64 p2 7)))⟩ : T36)] : List T36))).length c748), (10, .int .i64 (IntKind.wrap .i64 (x578 + 1)))]) rfl trivial fun a hk => ?_
        refine wpListIn_nil ?_
        refine then_n ?_
        exact ⟨k666, Nat.le_refl _, (fun b_ => (fun l_ => if l_ = 80 then 64 else if l_ = 81 then 65 else if l_ = 84 then 63 else l_) (o744 b_)), A730, c731, t725.Cells, t725.Wrapped, (IntKind.wrap .i64 (x572 + t681)), A747, c748, (l575 ++ ([(⟨(rdD 0 p0 x578), (IntKind.wrap .i64 (1 + (bits .and .i64 p2 7)))⟩ : T36)] : List T36)), (IntKind.wrap .i64 (x578 + 1)), (by exact Kn.pick (ks := [0, 1, 2, 7, 8, 9, 10]) hk rfl), (hs.relab0 (fun l_ => if l_ = 80 then 64 else if l_ = 81 then 65 else if l_ = 84 then 63 else l_) rfl), (f17.relab (fun l_ => if l_ = 80 then 64 else if l_ = 81 then 65 else if l_ = 84 then 63 else l_) rfl), (f732.relab (fun l_ => if l_ = 80 then 64 else if l_ = 81 then 65 else if l_ = 84 then 63 else l_) rfl), (f749.relab (fun l_ => if l_ = 80 then 64 else if l_ = 81 then 65 else if l_ = 84 then 63 else l_) rfl), (f900000.relab (fun l_ => if l_ = 80 then 64 else if l_ = 81 then 65 else if l_ = 84 then 63 else l_) rfl), (fg0.relab (fun l_ => if l_ = 80 then 64 else if l_ = 81 then 65 else if l_ = 84 then 63 else l_) rfl), (fg1.relab (fun l_ => if l_ = 80 then 64 else if l_ = 81 then 65 else if l_ = 84 then 63 else l_) rfl), hc733, hc750, (hlp668 ▸ H)⟩
      refine x_seq ?_
      refine wpIn_region_lit ?_
      refine x_run tab hk (k := 3) (lv := []) (ks := [0, 1, 2, 7, 8, 9, 10, 11, 47]) (e' := [(0, .slice (some ad677) (p0).length cp0), (1, .int .i64 (bits .and .i64 p1 31)), (2, .int .i64 (IntKind.wrap .i64 (1 + (bits .and .i64 p2 7)))), (7, .pointer (some ⟨bx16, 0, none⟩)), (8, .int .i64 x572), (9, .slice A573 (l575).length c574), (10, .int .i64 x578), (11, .int .i64 t681), (47, .bool (t681 == (0 : Int)))]) rfl trivial fun a hk => ?_
      cases b751 : (t681 == (0 : Int))
      · rw [b751] at hk H
        replace H := bifF H
        refine x_run tab hk (k := 6) (lv := []) (ks := [0, 1, 2, 7, 8, 9, 10, 11, 53]) (e' := [(0, .slice (some ad677) (p0).length cp0), (1, .int .i64 (bits .and .i64 p1 31)), (2, .int .i64 (IntKind.wrap .i64 (1 + (bits .and .i64 p2 7)))), (7, .pointer (some ⟨bx16, 0, none⟩)), (8, .int .i64 x572), (9, .slice A573 (l575).length c574), (10, .int .i64 x578), (11, .int .i64 t681), (53, .bool (decide ((IntKind.wrap .i64 (x572 + t681)) > (bits .and .i64 p1 31))))]) rfl trivial fun a hk => ?_
        refine wpListIn_nil ?_
        refine then_n ?_
        cases b752 : (decide ((IntKind.wrap .i64 (x572 + t681)) > (bits .and .i64 p1 31)))
        · rw [b752] at hk H
          replace H := bifF H
          refine x_if hk (b := false) rfl ?_
          refine (show Code.wpIn _ _ _ _ _ _ _ from ?_)
          refine wpIn_skip ?_
          refine then_n ?_
          exact ⟨(fun b_ => (fun l_ => if l_ = 76 then 79 else if l_ = 77 then 80 else if l_ = 78 then 81 else l_) (o684 b_)), (by exact Kn.pick (ks := [0, 1, 2, 7, 8, 9, 10, 11]) hk rfl), (hs.relab0 (fun l_ => if l_ = 76 then 79 else if l_ = 77 then 80 else if l_ = 78 then 81 else l_) rfl), (f17.relab (fun l_ => if l_ = 76 then 79 else if l_ = 77 then 80 else if l_ = 78 then 81 else l_) rfl), (f569.relab (fun l_ => if l_ = 76 then 79 else if l_ = 77 then 80 else if l_ = 78 then 81 else l_) rfl), (f576.relab (fun l_ => if l_ = 76 then 79 else if l_ = 77 then 80 else if l_ = 78 then 81 else l_) rfl), (f900000.relab (fun l_ => if l_ = 76 then 79 else if l_ = 77 then 80 else if l_ = 78 then 81 else l_) rfl), (fg0.relab (fun l_ => if l_ = 76 then 79 else if l_ = 77 then 80 else if l_ = 78 then 81 else l_) rfl), (fg1.relab (fun l_ => if l_ = 76 then 79 else if l_ = 77 then 80 else if l_ = 78 then 81 else l_) rfl), H⟩
        · rw [b752] at hk H
          replace H := bifT H
          refine x_if hk (b := true) rfl ?_
          refine (show Code.wpIn _ _ _ _ _ _ _ from ?_)
          refine wpIn_exit ?_
          refine then_x ?_
          refine blk_x ?_
          refine then_n ?_
          refine wpIn_region_lit ?_
          refine x_run tab hk (k := 3) (lv := []) (ks := [0, 1, 2, 7, 8, 9, 10]) (e' := [(0, .slice (some ad677) (p0).length cp0), (1, .int .i64 (bits .and .i64 p1 31)), (2, .int .i64 (IntKind.wrap .i64 (1 + (bits .and .i64 p2 7)))), (7, .pointer (some ⟨bx16, 0, none⟩)), (8, .int .i64 x572), (9, .slice A573 (l575).length c574), (10, .int .i64 (IntKind.wrap .i64 (x578 + 1)))]) rfl trivial fun a hk => ?_
          refine wpListIn_nil ?_
          refine then_n ?_
          exact ⟨k666, Nat.le_refl _, (fun b_ => (fun l_ => if l_ = 76 then 63 else if l_ = 77 then 64 else if l_ = 78 then 65 else l_) (o684 b_)), A566, c567, l568, x571, x572, A573, c574, l575, (IntKind.wrap .i64 (x578 + 1)), (by exact Kn.pick (ks := [0, 1, 2, 7, 8, 9, 10]) hk rfl), (hs.relab0 (fun l_ => if l_ = 76 then 63 else if l_ = 77 then 64 else if l_ = 78 then 65 else l_) rfl), (f17.relab (fun l_ => if l_ = 76 then 63 else if l_ = 77 then 64 else if l_ = 78 then 65 else l_) rfl), (f569.relab (fun l_ => if l_ = 76 then 63 else if l_ = 77 then 64 else if l_ = 78 then 65 else l_) rfl), (f576.relab (fun l_ => if l_ = 76 then 63 else if l_ = 77 then 64 else if l_ = 78 then 65 else l_) rfl), (f900000.relab (fun l_ => if l_ = 76 then 63 else if l_ = 77 then 64 else if l_ = 78 then 65 else l_) rfl), (fg0.relab (fun l_ => if l_ = 76 then 63 else if l_ = 77 then 64 else if l_ = 78 then 65 else l_) rfl), (fg1.relab (fun l_ => if l_ = 76 then 63 else if l_ = 77 then 64 else if l_ = 78 then 65 else l_) rfl), hc570, hc577, (hlp668 ▸ H)⟩
      · rw [b751] at hk H
        replace H := bifT H
        refine x_run tab hk (k := 6) (lv := []) (ks := [0, 1, 2, 7, 8, 9, 10, 11, 53]) (e' := [(0, .slice (some ad677) (p0).length cp0), (1, .int .i64 (bits .and .i64 p1 31)), (2, .int .i64 (IntKind.wrap .i64 (1 + (bits .and .i64 p2 7)))), (7, .pointer (some ⟨bx16, 0, none⟩)), (8, .int .i64 x572), (9, .slice A573 (l575).length c574), (10, .int .i64 x578), (11, .int .i64 t681), (53, .bool true)]) rfl trivial fun a hk => ?_
        refine wpListIn_nil ?_
        refine then_n ?_
        refine x_if hk (b := true) rfl ?_
        refine (show Code.wpIn _ _ _ _ _ _ _ from ?_)
        refine wpIn_exit ?_
        refine then_x ?_
        refine blk_x ?_
        refine then_n ?_
        refine wpIn_region_lit ?_
        refine x_run tab hk (k := 3) (lv := []) (ks := [0, 1, 2, 7, 8, 9, 10]) (e' := [(0, .slice (some ad677) (p0).length cp0), (1, .int .i64 (bits .and .i64 p1 31)), (2, .int .i64 (IntKind.wrap .i64 (1 + (bits .and .i64 p2 7)))), (7, .pointer (some ⟨bx16, 0, none⟩)), (8, .int .i64 x572), (9, .slice A573 (l575).length c574), (10, .int .i64 (IntKind.wrap .i64 (x578 + 1)))]) rfl trivial fun a hk => ?_
        refine wpListIn_nil ?_
        refine then_n ?_
        exact ⟨k666, Nat.le_refl _, (fun b_ => (fun l_ => if l_ = 76 then 63 else if l_ = 77 then 64 else if l_ = 78 then 65 else l_) (o684 b_)), A566, c567, l568, x571, x572, A573, c574, l575, (IntKind.wrap .i64 (x578 + 1)), (by exact Kn.pick (ks := [0, 1, 2, 7, 8, 9, 10]) hk rfl), (hs.relab0 (fun l_ => if l_ = 76 then 63 else if l_ = 77 then 64 else if l_ = 78 then 65 else l_) rfl), (f17.relab (fun l_ => if l_ = 76 then 63 else if l_ = 77 then 64 else if l_ = 78 then 65 else l_) rfl), (f569.relab (fun l_ => if l_ = 76 then 63 else if l_ = 77 then 64 else if l_ = 78 then 65 else l_) rfl), (f576.relab (fun l_ => if l_ = 76 then 63 else if l_ = 77 then 64 else if l_ = 78 then 65 else l_) rfl), (f900000.relab (fun l_ => if l_ = 76 then 63 else if l_ = 77 then 64 else if l_ = 78 then 65 else l_) rfl), (fg0.relab (fun l_ => if l_ = 76 then 63 else if l_ = 77 then 64 else if l_ = 78 then 65 else l_) rfl), (fg1.relab (fun l_ => if l_ = 76 then 63 else if l_ = 77 then 64 else if l_ = 78 then 65 else l_) rfl), hc570, hc577, (hlp668 ▸ H)⟩
    refine x_seq ?_
    refine wpIn_region_lit ?_
    refine x_run tab hk (k := 5) (lv := []) (ks := [0, 1, 2, 7, 8, 9, 10, 34]) (e' := [(0, .slice Ap0 (p0).length cp0), (1, .int .i64 (bits .and .i64 p1 31)), (2, .int .i64 (IntKind.wrap .i64 (1 + (bits .and .i64 p2 7)))), (7, .pointer (some ⟨bx16, 0, none⟩)), (8, .int .i64 x572), (9, .slice A573 (l575).length c574), (10, .int .i64 x578), (34, .bool (decide (x578 < ((p0).length : Int))))]) rfl trivial fun a hk => ?_
    cases b753 : (decide (x578 < ((p0).length : Int)))
    · rw [b753] at hk H
      replace H := bifF H
      refine x_run tab hk (k := 3) (lv := []) (ks := [0, 1, 2, 7, 8, 9, 10, 37]) (e' := [(0, .slice Ap0 (p0).length cp0), (1, .int .i64 (bits .and .i64 p1 31)), (2, .int .i64 (IntKind.wrap .i64 (1 + (bits .and .i64 p2 7)))), (7, .pointer (some ⟨bx16, 0, none⟩)), (8, .int .i64 x572), (9, .slice A573 (l575).length c574), (10, .int .i64 x578), (37, .bool false)]) rfl trivial fun a hk => ?_
      refine wpListIn_nil ?_
      refine then_n ?_
      refine x_if hk (b := false) rfl ?_
      refine (show Code.wpIn _ _ _ _ _ _ _ from ?_)
      refine wpIn_exit ?_
      refine then_x ?_
      refine then_x ?_
      refine blk_x ?_
      refine then_n ?_
      exact ⟨(fun b_ => (fun l_ => if l_ = 63 then 40 else if l_ = 64 then 41 else if l_ = 65 then 42 else l_) (o565 b_)), A566, c567, l568, x571, A573, c574, l575, (by exact Kn.pick (ks := [7, 9]) hk rfl), (hs.relab0 (fun l_ => if l_ = 63 then 40 else if l_ = 64 then 41 else if l_ = 65 then 42 else l_) rfl), (f17.relab (fun l_ => if l_ = 63 then 40 else if l_ = 64 then 41 else if l_ = 65 then 42 else l_) rfl), (f569.relab (fun l_ => if l_ = 63 then 40 else if l_ = 64 then 41 else if l_ = 65 then 42 else l_) rfl), (f576.relab (fun l_ => if l_ = 63 then 40 else if l_ = 64 then 41 else if l_ = 65 then 42 else l_) rfl), (fg0.relab (fun l_ => if l_ = 63 then 40 else if l_ = 64 then 41 else if l_ = 65 then 42 else l_) rfl), (fg1.relab (fun l_ => if l_ = 63 then 40 else if l_ = 64 then 41 else if l_ = 65 then 42 else l_) rfl), hc570, hc577, H⟩
    · rw [b753] at hk H
      replace H := bifT H
      refine x_run tab hk (k := 3) (lv := []) (ks := [0, 1, 2, 7, 8, 9, 10, 37]) (e' := [(0, .slice Ap0 (p0).length cp0), (1, .int .i64 (bits .and .i64 p1 31)), (2, .int .i64 (IntKind.wrap .i64 (1 + (bits .and .i64 p2 7)))), (7, .pointer (some ⟨bx16, 0, none⟩)), (8, .int .i64 x572), (9, .slice A573 (l575).length c574), (10, .int .i64 x578), (37, .bool (decide (x578 < (40 : Int))))]) rfl trivial fun a hk => ?_
      refine wpListIn_nil ?_
      refine then_n ?_
      cases b754 : (decide (x578 < (40 : Int)))
      · rw [b754] at hk H
        replace H := bifF H
        refine x_if hk (b := false) rfl ?_
        refine (show Code.wpIn _ _ _ _ _ _ _ from ?_)
        refine wpIn_exit ?_
        refine then_x ?_
        refine then_x ?_
        refine blk_x ?_
        refine then_n ?_
        exact ⟨(fun b_ => (fun l_ => if l_ = 63 then 40 else if l_ = 64 then 41 else if l_ = 65 then 42 else l_) (o565 b_)), A566, c567, l568, x571, A573, c574, l575, (by exact Kn.pick (ks := [7, 9]) hk rfl), (hs.relab0 (fun l_ => if l_ = 63 then 40 else if l_ = 64 then 41 else if l_ = 65 then 42 else l_) rfl), (f17.relab (fun l_ => if l_ = 63 then 40 else if l_ = 64 then 41 else if l_ = 65 then 42 else l_) rfl), (f569.relab (fun l_ => if l_ = 63 then 40 else if l_ = 64 then 41 else if l_ = 65 then 42 else l_) rfl), (f576.relab (fun l_ => if l_ = 63 then 40 else if l_ = 64 then 41 else if l_ = 65 then 42 else l_) rfl), (fg0.relab (fun l_ => if l_ = 63 then 40 else if l_ = 64 then 41 else if l_ = 65 then 42 else l_) rfl), (fg1.relab (fun l_ => if l_ = 63 then 40 else if l_ = 64 then 41 else if l_ = 65 then 42 else l_) rfl), hc570, hc577, H⟩
      · rw [b754] at hk H
        replace H := bifT H
        refine x_if hk (b := true) rfl ?_
        refine (show Code.wpIn _ _ _ _ _ _ _ from ?_)
        refine wpIn_skip ?_
        refine then_n ?_
        exact ⟨(fun b_ => (fun l_ => if l_ = 63 then 76 else if l_ = 64 then 77 else if l_ = 65 then 78 else l_) (o565 b_)), (by exact Kn.pick (ks := [0, 1, 2, 7, 8, 9, 10]) hk rfl), (hs.relab0 (fun l_ => if l_ = 63 then 76 else if l_ = 64 then 77 else if l_ = 65 then 78 else l_) rfl), (f17.relab (fun l_ => if l_ = 63 then 76 else if l_ = 64 then 77 else if l_ = 65 then 78 else l_) rfl), (f569.relab (fun l_ => if l_ = 63 then 76 else if l_ = 64 then 77 else if l_ = 65 then 78 else l_) rfl), (f576.relab (fun l_ => if l_ = 63 then 76 else if l_ = 64 then 77 else if l_ = 65 then 78 else l_) rfl), (f900000.relab (fun l_ => if l_ = 63 then 76 else if l_ = 64 then 77 else if l_ = 65 then 78 else l_) rfl), (fg0.relab (fun l_ => if l_ = 63 then 76 else if l_ = 64 then 77 else if l_ = 65 then 78 else l_) rfl), (fg1.relab (fun l_ => if l_ = 63 then 76 else if l_ = 64 then 77 else if l_ = 65 then 78 else l_) rfl), H⟩
  refine x_seq ?_
  refine wpIn_region_lit ?_
  refine x_run tab hk (k := 6) (lv := [.slice A9 (t4.Cells).length c10]) (ks := [0, 1, 2, 7, 26]) (e' := [(0, .slice Ap0 (p0).length cp0), (1, .int .i64 (bits .and .i64 p1 31)), (2, .int .i64 (IntKind.wrap .i64 (1 + (bits .and .i64 p2 7)))), (7, .pointer (some ⟨bx16, 0, none⟩)), (26, .bool (((t4.Cells).length : Int) != (bits .and .i64 p1 31)))]) rfl ⟨(load1 tab rfl ((Bx.cell f17.now 0).trans rfl)), trivial⟩ fun a hk => ?_
  cases b755 : (((t4.Cells).length : Int) != (bits .and .i64 p1 31))
  · rw [b755] at hk H
    replace H := bifF H
    refine x_op hk rfl ?_
    obtain ⟨t759, hc760, H⟩ := bindS H
    refine op_call hk ent_8 (vs := [.int .i32 97]) rfl (wide_Of_calls K 97 _ o19 0 fg0 0 fg1   _ hc760) ?_
    rintro _ w761 ⟨o762, rfl, st763⟩
    replace f11 := f11.st st763 (by decide)
    replace f17 := f17.st st763 (by decide)
    replace f900000 := f900000.st st763 (by decide)
    replace fg0 := fg0.st st763 (by decide)
    replace fg1 := fg1.st st763 (by decide)
    replace hs := hs.loc0 st763 (by decide)
    have hk := hk.put 27 (.int .i64 t759) rfl
    refine x_run tab hk (k := 2) (lv := []) (ks := [0, 1, 2, 7, 29]) (e' := [(0, .slice Ap0 (p0).length cp0), (1, .int .i64 (bits .and .i64 p1 31)), (2, .int .i64 (IntKind.wrap .i64 (1 + (bits .and .i64 p2 7)))), (7, .pointer (some ⟨bx16, 0, none⟩)), (29, .bool (t759 != (1 : Int)))]) rfl trivial fun a hk => ?_
    refine wpListIn_nil ?_
    refine then_n ?_
    cases b764 : (t759 != (1 : Int))
    · rw [b764] at hk H
      replace H := bifF H
      refine x_if hk (b := false) rfl ?_
      refine (show Code.wpIn _ _ _ _ _ _ _ from ?_)
      refine wpIn_skip ?_
      refine then_n ?_
      exact ⟨(fun b_ => (fun l_ => if l_ = 1 then 3 else if l_ = 2 then 4 else l_) (o762 b_)), (by exact Kn.pick (ks := [0, 1, 2, 7]) hk rfl), (hs.relab0 (fun l_ => if l_ = 1 then 3 else if l_ = 2 then 4 else l_) rfl), (f11.relab (fun l_ => if l_ = 1 then 3 else if l_ = 2 then 4 else l_) rfl), (f17.relab (fun l_ => if l_ = 1 then 3 else if l_ = 2 then 4 else l_) rfl), (f900000.relab (fun l_ => if l_ = 1 then 3 else if l_ = 2 then 4 else l_) rfl), (fg0.relab (fun l_ => if l_ = 1 then 3 else if l_ = 2 then 4 else l_) rfl), (fg1.relab (fun l_ => if l_ = 1 then 3 else if l_ = 2 then 4 else l_) rfl), H⟩
    · rw [b764] at hk H
      replace H := bifT H
      refine x_if hk (b := true) rfl ?_
      refine (show Code.wpIn _ _ _ _ _ _ _ from ?_)
      refine x_seq ?_
      refine wpIn_region_lit ?_
      refine x_run tab hk (k := 1) (lv := []) (ks := [6]) (e' := [(6, .bool false)]) rfl trivial fun a hk => ?_
      refine wpListIn_nil ?_
      refine then_n ?_
      refine wpIn_ret ?_
      refine then_r ?_
      obtain rfl := Option.some.inj H
      exact x_retG hk (rs := [.tmp 6]) (vs := [.bool false]) rfl ⟨rfl, trivial⟩ ⟨fun b_ => if b_ < w.heap.size then o b_ else (fun _ => 0) (o762 b_), rfl, hs.close0 o (fun _ => 0)⟩
  · rw [b755] at hk H
    replace H := bifT H
    refine x_run tab hk (k := 3) (lv := []) (ks := [0, 1, 2, 7, 29]) (e' := [(0, .slice Ap0 (p0).length cp0), (1, .int .i64 (bits .and .i64 p1 31)), (2, .int .i64 (IntKind.wrap .i64 (1 + (bits .and .i64 p2 7)))), (7, .pointer (some ⟨bx16, 0, none⟩)), (29, .bool true)]) rfl trivial fun a hk => ?_
    refine wpListIn_nil ?_
    refine then_n ?_
    refine x_if hk (b := true) rfl ?_
    refine (show Code.wpIn _ _ _ _ _ _ _ from ?_)
    refine x_seq ?_
    refine wpIn_region_lit ?_
    refine x_run tab hk (k := 1) (lv := []) (ks := [6]) (e' := [(6, .bool false)]) rfl trivial fun a hk => ?_
    refine wpListIn_nil ?_
    refine then_n ?_
    refine wpIn_ret ?_
    refine then_r ?_
    obtain rfl := Option.some.inj H
    exact x_retG hk (rs := [.tmp 6]) (vs := [.bool false]) rfl ⟨rfl, trivial⟩ ⟨fun b_ => if b_ < w.heap.size then o b_ else (fun _ => 0) (o19 b_), rfl, hs.close0 o (fun _ => 0)⟩

end Go.Proofs.YtpciioffkjpieaaDoor
