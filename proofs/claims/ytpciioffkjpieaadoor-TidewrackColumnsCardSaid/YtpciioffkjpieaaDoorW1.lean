/- Walks, printed by an own program: the machine's calls compute the plain functions. -/
import Derived.Test.YtpciioffkjpieaaDoorW0
set_option linter.unusedVariables false
set_option linter.unusedSimpArgs false
namespace Go.Proofs.YtpciioffkjpieaaDoor
open Go Go.Proofs.XC
/-! tidewrack/wide.in -/
theorem wide_in_calls (K : Nat) (Ap0 : Option Addr) (cp0 : Nat) (p0 : List T97) (p1 : Int) (w : World) (o : Nat → Nat) (Lp0 : Nat) (hp0 : Ft (RdC ET97 Ap0 p0) w o Lp0) (hcp0 : (p0).length ≤ cp0)  (r : Bool) (H : wide_in K p0 p1 = some r) :
    Calls Tryd.prog 36 #[.slice Ap0 (p0).length cp0, .int .i32 p1] w (Ret fun v_ w' => ∃ o' : Nat → Nat, v_ = .bool r ∧ St [] w o w' o') := by
  refine x_enter (vs := [.slice Ap0 (p0).length cp0, .int .i32 p1]) Tryd.func36 rfl rfl rfl fun a hk => ?_
  obtain ⟨o0, hs, h0⟩ := St.start w o
  have f900000 := h0 _ _ hp0
  clear h0
  rw [wide_in] at H
  refine x_seq ?_
  refine wpIn_region_lit ?_
  refine x_run tab hk (k := 1) (lv := []) (ks := [0, 1]) (e' := [(0, .slice Ap0 (p0).length cp0), (1, .int .i32 p1)]) rfl trivial fun a hk => ?_
  refine wpListIn_nil ?_
  refine then_n ?_
  refine x_seq ?_
  refine wpIn_region_lit ?_
  refine x_run tab hk (k := 4) (lv := []) (ks := [0, 1, 5, 6]) (e' := [(0, .slice Ap0 (p0).length cp0), (1, .int .i32 p1), (5, .int .i64 0), (6, .int .i64 ((p0).length : Int))]) rfl trivial fun a hk => ?_
  refine wpListIn_nil ?_
  refine then_n ?_
  refine x_mid (fun a_ w_ => ∃ o29 : Nat → Nat, ∃ x30 : Int, Kn 40 a_ [(0, .slice Ap0 (p0).length cp0), (1, .int .i32 p1), (5, .int .i64 x30)] ∧ St [] w (fun _ => 0) w_ o29 ∧ Ft (RdC ET97 Ap0 p0) w_ o29 0 ∧ wide_in_j1 p0 p1 x30 = some r) ?_ ?_
  rotate_left
  · rintro a w31 ⟨o29, x30, hk, hs, f900000, H⟩
    rw [wide_in_j1] at H
    refine x_seq ?_
    refine wpIn_region_lit ?_
    refine x_run tab hk (k := 5) (lv := []) (ks := [0, 1, 5, 31]) (e' := [(0, .slice Ap0 (p0).length cp0), (1, .int .i32 p1), (5, .int .i64 x30), (31, .bool (decide (x30 < ((p0).length : Int))))]) rfl trivial fun a hk => ?_
    cases b32 : (decide (x30 < ((p0).length : Int)))
    · rw [b32] at hk H
      replace H := bifF H
      refine x_run tab hk (k := 9) (lv := []) (ks := [4]) (e' := [(4, .bool false)]) rfl trivial fun a hk => ?_
      refine wpListIn_nil ?_
      refine then_n ?_
      refine wpIn_ret ?_
      obtain rfl := Option.some.inj H
      exact x_retG hk (rs := [.tmp 4]) (vs := [.bool false]) rfl ⟨rfl, trivial⟩ ⟨fun b_ => if b_ < w.heap.size then o b_ else (fun _ => 0) (o29 b_), rfl, hs.close0 o (fun _ => 0)⟩
    · rw [b32] at hk H
      replace H := bifT H
      obtain ⟨q33, H⟩ := ifS H
      obtain ⟨ad34, hAad34⟩ := RdC.addr f900000.now q33
      have hk_C := hk
      have f900000_C := f900000
      subst hAad34
      have hk := hk_C
      clear hk_C
      have f900000 := f900000_C
      clear f900000_C
      refine x_run tab hk (k := 9) (lv := [.int .i32 ((rdD zT97 p0 x30).from_)]) (ks := [4]) (e' := [(4, .bool (decide (((rdD zT97 p0 x30).from_) ≤ p1)))]) rfl ⟨q33, (load1 tab rfl (RdC.at (E := ET97) (d := zT97) (i := x30) (j := 0) f900000.now q33 rfl)), trivial⟩ fun a hk => ?_
      refine wpListIn_nil ?_
      refine then_n ?_
      refine wpIn_ret ?_
      obtain rfl := Option.some.inj H
      exact x_retG hk (rs := [.tmp 4]) (vs := [.bool (decide (((rdD zT97 p0 x30).from_) ≤ p1))]) rfl ⟨rfl, trivial⟩ ⟨fun b_ => if b_ < w.heap.size then o b_ else (fun _ => 0) (o29 b_), rfl, hs.close0 o (fun _ => 0)⟩
  refine wpIn_block ?_
  refine x_loop (fun j_ a_ w_ => ∃ o42 : Nat → Nat, ∃ x43 : Int, ∃ x44 : Int, Kn 40 a_ [(0, .slice Ap0 (p0).length cp0), (1, .int .i32 p1), (5, .int .i64 x43), (6, .int .i64 x44)] ∧ St [] w (fun _ => 0) w_ o42 ∧ Ft (RdC ET97 Ap0 p0) w_ o42 0 ∧ wide_in_l2 p0 p1 j_ x43 x44 = some r) (k := K) ⟨o0, 0, ((p0).length : Int), (by exact Kn.pick (ks := [0, 1, 5, 6]) hk rfl), hs, f900000, H⟩ (by rintro _ _ ⟨_, _, _, _, _, _, H_⟩; exact absurd (show (none : Option Bool) = some r from H_) (by simp)) ?_
  rintro k50 a w49 ⟨o42, x43, x44, hk, hs, f900000, H⟩
  rw [wide_in_l2] at H
  obtain ⟨lp51, hlp52⟩ : ∃ lp_, lp_ = wide_in_l2 p0 p1 k50 := ⟨_, rfl⟩
  rw [← hlp52] at H
  refine x_seq ?_
  refine x_seq ?_
  refine wpIn_region_lit ?_
  refine x_run tab hk (k := 3) (lv := []) (ks := [0, 1, 5, 6, 12]) (e' := [(0, .slice Ap0 (p0).length cp0), (1, .int .i32 p1), (5, .int .i64 x43), (6, .int .i64 x44), (12, .bool (decide (x43 < x44)))]) rfl trivial fun a hk => ?_
  refine wpListIn_nil ?_
  refine then_n ?_
  cases b53 : (decide (x43 < x44))
  · rw [b53] at hk H
    replace H := bifF H
    refine x_if hk (b := false) rfl ?_
    refine (show Code.wpIn _ _ _ _ _ _ _ from ?_)
    refine wpIn_exit ?_
    refine then_x ?_
    refine then_x ?_
    refine blk_x ?_
    refine then_n ?_
    exact ⟨o42, x43, (by exact Kn.pick (ks := [0, 1, 5]) hk rfl), hs, f900000, H⟩
  · rw [b53] at hk H
    replace H := bifT H
    refine x_if hk (b := true) rfl ?_
    refine (show Code.wpIn _ _ _ _ _ _ _ from ?_)
    refine wpIn_skip ?_
    refine then_n ?_
    refine wpIn_block ?_
    refine x_seq ?_
    refine wpIn_region_lit ?_
    refine x_run tab hk (k := 5) (lv := []) (ks := [0, 1, 5, 6, 7]) (e' := [(0, .slice Ap0 (p0).length cp0), (1, .int .i32 p1), (5, .int .i64 x43), (6, .int .i64 x44), (7, .int .i64 (IntKind.wrap .i64 (Int.tdiv (IntKind.wrap .i64 (x43 + x44)) 2)))]) rfl ⟨(show (2 : Int) ≠ 0 from by decide), trivial⟩ fun a hk => ?_
    refine wpListIn_nil ?_
    refine then_n ?_
    refine x_seq ?_
    refine wpIn_region_lit ?_
    obtain ⟨q54, H⟩ := ifS H
    obtain ⟨ad55, hAad55⟩ := RdC.addr f900000.now q54
    have hk_C := hk
    have f900000_C := f900000
    subst hAad55
    have hk := hk_C
    clear hk_C
    have f900000 := f900000_C
    clear f900000_C
    refine x_run tab hk (k := 7) (lv := [.int .i32 ((rdD zT97 p0 (IntKind.wrap .i64 (Int.tdiv (IntKind.wrap .i64 (x43 + x44)) 2))).to)]) (ks := [0, 1, 5, 6, 7, 23]) (e' := [(0, .slice (some ad55) (p0).length cp0), (1, .int .i32 p1), (5, .int .i64 x43), (6, .int .i64 x44), (7, .int .i64 (IntKind.wrap .i64 (Int.tdiv (IntKind.wrap .i64 (x43 + x44)) 2))), (23, .bool (decide (((rdD zT97 p0 (IntKind.wrap .i64 (Int.tdiv (IntKind.wrap .i64 (x43 + x44)) 2))).to) < p1)))]) rfl ⟨q54, (load1 tab rfl (RdC.at (E := ET97) (d := zT97) (i := (IntKind.wrap .i64 (Int.tdiv (IntKind.wrap .i64 (x43 + x44)) 2))) (j := 1) f900000.now q54 rfl)), trivial⟩ fun a hk => ?_
    refine wpListIn_nil ?_
    refine then_n ?_
    cases b56 : (decide (((rdD zT97 p0 (IntKind.wrap .i64 (Int.tdiv (IntKind.wrap .i64 (x43 + x44)) 2))).to) < p1))
    · rw [b56] at hk H
      replace H := bifF H
      refine x_if hk (b := false) rfl ?_
      refine (show Code.wpIn _ _ _ _ _ _ _ from ?_)
      refine wpIn_region_lit ?_
      refine x_run tab hk (k := 2) (lv := []) (ks := [0, 1, 5, 6]) (e' := [(0, .slice (some ad55) (p0).length cp0), (1, .int .i32 p1), (5, .int .i64 x43), (6, .int .i64 (IntKind.wrap .i64 (Int.tdiv (IntKind.wrap .i64 (x43 + x44)) 2)))]) rfl trivial fun a hk => ?_
      refine wpListIn_nil ?_
      refine blk_n ?_
      refine then_n ?_
      exact ⟨k50, Nat.le_refl _, o42, x43, (IntKind.wrap .i64 (Int.tdiv (IntKind.wrap .i64 (x43 + x44)) 2)), (by exact Kn.pick (ks := [0, 1, 5, 6]) hk rfl), hs, f900000, (hlp52 ▸ H)⟩
    · rw [b56] at hk H
      replace H := bifT H
      refine x_if hk (b := true) rfl ?_
      refine (show Code.wpIn _ _ _ _ _ _ _ from ?_)
      refine wpIn_region_lit ?_
      refine x_run tab hk (k := 3) (lv := []) (ks := [0, 1, 5, 6]) (e' := [(0, .slice (some ad55) (p0).length cp0), (1, .int .i32 p1), (5, .int .i64 (IntKind.wrap .i64 ((IntKind.wrap .i64 (Int.tdiv (IntKind.wrap .i64 (x43 + x44)) 2)) + 1))), (6, .int .i64 x44)]) rfl trivial fun a hk => ?_
      refine wpListIn_nil ?_
      refine blk_n ?_
      refine then_n ?_
      exact ⟨k50, Nat.le_refl _, o42, (IntKind.wrap .i64 ((IntKind.wrap .i64 (Int.tdiv (IntKind.wrap .i64 (x43 + x44)) 2)) + 1)), x44, (by exact Kn.pick (ks := [0, 1, 5, 6]) hk rfl), hs, f900000, (hlp52 ▸ H)⟩

/-! tidewrack/wide.Of -/
theorem wide_Of_calls (K : Nat) (p0 : Int) (w : World) (o : Nat → Nat) (Lg0 : Nat) (hg0 : Ft (RdC ET97 (some ⟨0, 0, none⟩) glob0) w o Lg0) (Lg1 : Nat) (hg1 : Ft (RdC ET97 (some ⟨1, 0, none⟩) glob1) w o Lg1)   (r : Int) (H : wide_Of K p0 = some r) :
    Calls Tryd.prog 8 #[.int .i32 p0] w (Ret fun v_ w' => ∃ o' : Nat → Nat, v_ = .int .i64 r ∧ St [] w o w' o') := by
  refine x_enter (vs := [.int .i32 p0]) Tryd.func8 rfl rfl rfl fun a hk => ?_
  obtain ⟨o0, hs, h0⟩ := St.start w o
  have fg0 := h0 _ _ hg0
  have fg1 := h0 _ _ hg1
  clear h0
  rw [wide_Of] at H
  refine x_seq ?_
  refine wpIn_region_lit ?_
  refine x_run tab hk (k := 1) (lv := []) (ks := [0]) (e' := [(0, .int .i32 p0)]) rfl trivial fun a hk => ?_
  refine wpListIn_nil ?_
  refine then_n ?_
  refine x_seq ?_
  refine wpIn_block ?_
  refine x_seq ?_
  refine wpIn_region_lit ?_
  refine x_run tab hk (k := 2) (lv := [.slice (some ⟨0, 0, none⟩) (glob0).length 13]) (ks := [0, 4, 5]) (e' := [(0, .int .i32 p0), (4, .slice (some ⟨0, 0, none⟩) (glob0).length 13), (5, .int .i32 p0)]) rfl ⟨(ask_whole tab rfl rfl rfl), trivial⟩ fun a hk => ?_
  refine x_op hk rfl ?_
  obtain ⟨t4, hc5, H⟩ := bindS H
  refine op_call hk ent_36 (vs := [.slice (some ⟨0, 0, none⟩) (glob0).length 13, .int .i32 p0]) rfl (wide_in_calls K (some ⟨0, 0, none⟩) 13 glob0 p0 _ o0 _ fg0 (by decide)   _ hc5) ?_
  rintro _ w6 ⟨o7, rfl, st8⟩
  replace fg0 := fg0.st st8 (by decide)
  replace fg1 := fg1.st st8 (by decide)
  replace hs := hs.loc0 st8 (by decide)
  have hk := hk.put 6 (.bool t4) rfl
  refine x_run tab hk (k := 1) (lv := []) (ks := [0, 3]) (e' := [(0, .int .i32 p0), (3, .bool t4)]) rfl trivial fun a hk => ?_
  refine wpListIn_nil ?_
  refine then_n ?_
  cases b9 : t4
  · rw [b9] at hk H
    replace H := bifF H
    refine x_if hk (b := false) rfl ?_
    refine (show Code.wpIn _ _ _ _ _ _ _ from ?_)
    refine x_seq ?_
    refine wpIn_region_lit ?_
    refine x_run tab hk (k := 2) (lv := [.slice (some ⟨1, 0, none⟩) (glob1).length 14]) (ks := [8, 9]) (e' := [(8, .slice (some ⟨1, 0, none⟩) (glob1).length 14), (9, .int .i32 p0)]) rfl ⟨(ask_whole tab rfl rfl rfl), trivial⟩ fun a hk => ?_
    refine x_op hk rfl ?_
    obtain ⟨t13, hc14, H⟩ := bindS H
    refine op_call hk ent_36 (vs := [.slice (some ⟨1, 0, none⟩) (glob1).length 14, .int .i32 p0]) rfl (wide_in_calls K (some ⟨1, 0, none⟩) 14 glob1 p0 _ o7 _ fg1 (by decide)   _ hc14) ?_
    rintro _ w15 ⟨o16, rfl, st17⟩
    replace fg0 := fg0.st st17 (by decide)
    replace fg1 := fg1.st st17 (by decide)
    replace hs := hs.loc0 st17 (by decide)
    have hk := hk.put 10 (.bool t13) rfl
    refine x_run tab hk (k := 1) (lv := []) (ks := [7]) (e' := [(7, .bool t13)]) rfl trivial fun a hk => ?_
    refine wpListIn_nil ?_
    refine then_n ?_
    cases b18 : t13
    · rw [b18] at hk H
      replace H := bifF H
      refine x_if hk (b := false) rfl ?_
      refine (show Code.wpIn _ _ _ _ _ _ _ from ?_)
      refine wpIn_skip ?_
      refine blk_n ?_
      refine then_n ?_
      refine x_seq ?_
      refine wpIn_region_lit ?_
      refine x_run tab hk (k := 1) (lv := []) (ks := [2]) (e' := [(2, .int .i64 1)]) rfl trivial fun a hk => ?_
      refine wpListIn_nil ?_
      refine then_n ?_
      refine wpIn_ret ?_
      obtain rfl := Option.some.inj H
      exact x_retG hk (rs := [.tmp 2]) (vs := [.int .i64 1]) rfl ⟨rfl, trivial⟩ ⟨fun b_ => if b_ < w.heap.size then o b_ else (fun _ => 0) (o16 b_), rfl, hs.close0 o (fun _ => 0)⟩
    · rw [b18] at hk H
      replace H := bifT H
      refine x_if hk (b := true) rfl ?_
      refine (show Code.wpIn _ _ _ _ _ _ _ from ?_)
      refine x_seq ?_
      refine wpIn_region_lit ?_
      refine x_run tab hk (k := 1) (lv := []) (ks := [2]) (e' := [(2, .int .i64 2)]) rfl trivial fun a hk => ?_
      refine wpListIn_nil ?_
      refine then_n ?_
      refine wpIn_ret ?_
      refine blk_r ?_
      refine then_r ?_
      obtain rfl := Option.some.inj H
      exact x_retG hk (rs := [.tmp 2]) (vs := [.int .i64 2]) rfl ⟨rfl, trivial⟩ ⟨fun b_ => if b_ < w.heap.size then o b_ else (fun _ => 0) (o16 b_), rfl, hs.close0 o (fun _ => 0)⟩
  · rw [b9] at hk H
    replace H := bifT H
    refine x_if hk (b := true) rfl ?_
    refine (show Code.wpIn _ _ _ _ _ _ _ from ?_)
    refine x_seq ?_
    refine wpIn_region_lit ?_
    refine x_run tab hk (k := 1) (lv := []) (ks := [2]) (e' := [(2, .int .i64 0)]) rfl trivial fun a hk => ?_
    refine wpListIn_nil ?_
    refine then_n ?_
    refine wpIn_ret ?_
    refine blk_r ?_
    refine then_r ?_
    obtain rfl := Option.some.inj H
    exact x_retG hk (rs := [.tmp 2]) (vs := [.int .i64 0]) rfl ⟨rfl, trivial⟩ ⟨fun b_ => if b_ < w.heap.size then o b_ else (fun _ => 0) (o7 b_), rfl, hs.close0 o (fun _ => 0)⟩

/-! tidewrack/glyph.find -/
theorem glyph_find_calls (K : Nat) (p0 : Int) (w : World) (o : Nat → Nat) (Lg3 : Nat) (hg3 : Ft (RdC ET192 (some ⟨3, 0, none⟩) glob3) w o Lg3)   (r : T192 × Bool) (H : glyph_find K p0 = some r) :
    Calls Tryd.prog 116 #[.int .u8 p0] w (Ret fun v_ w' => ∃ o' : Nat → Nat, v_ = .tuple #[.agg #[.int .u8 r.1.first, .int .u8 r.1.last, .int .i64 r.1.need, .int .u8 r.1.low, .int .u8 r.1.high], .bool r.2] ∧ St [] w o w' o') := by
  refine x_enter (vs := [.int .u8 p0]) Tryd.func116 rfl rfl rfl fun a hk => ?_
  obtain ⟨o0, hs, h0⟩ := St.start w o
  have fg3 := h0 _ _ hg3
  clear h0
  rw [glyph_find] at H
  refine x_seq ?_
  refine wpIn_region_lit ?_
  refine x_op hk rfl ?_
  refine op_alloc (o := o0) tab (t := 193) (cs := [.int .u8 0, .int .u8 0, .int .i64 0, .int .u8 0, .int .u8 0]) rfl rfl 1 fun bx4 w1 o2 st3 f5 => ?_
  replace fg3 := fg3.st st3 (by decide)
  replace hs := hs.loc0 st3 (by decide)
  have hk := hk.put 2 (.pointer (some ⟨bx4, 0, none⟩)) rfl
  refine x_run tab hk (k := 1) (lv := []) (ks := [0, 2]) (e' := [(0, .int .u8 p0), (2, .pointer (some ⟨bx4, 0, none⟩))]) rfl trivial fun a hk => ?_
  refine wpListIn_nil ?_
  refine then_n ?_
  refine x_mid (fun a_ w_ => ∃ o93 : Nat → Nat, Kn 23 a_ [(2, .pointer (some ⟨bx4, 0, none⟩))] ∧ St [] w (fun _ => 0) w_ o93 ∧ Ft (Bx bx4 193 [.int .u8 0, .int .u8 0, .int .i64 0, .int .u8 0, .int .u8 0]) w_ o93 13 ∧ Ft (RdC ET192 (some ⟨3, 0, none⟩) glob3) w_ o93 0 ∧ glyph_find_j1 = some r) ?_ ?_
  rotate_left
  · rintro a w94 ⟨o93, hk, hs, f5, fg3, H⟩
    rw [glyph_find_j1] at H
    refine x_seq ?_
    refine wpIn_region_lit ?_
    refine x_run tab hk (k := 1) (lv := []) (ks := [2, 22]) (e' := [(2, .pointer (some ⟨bx4, 0, none⟩)), (22, .agg #[.int .u8 0, .int .u8 0, .int .i64 0, .int .u8 0, .int .u8 0])]) rfl trivial fun a hk => ?_
    refine x_op hk rfl ?_
    refine op_store tab hk (t := 193) (v := .agg #[.int .u8 0, .int .u8 0, .int .i64 0, .int .u8 0, .int .u8 0]) (b := bx4) (k := 0) (cs' := [.int .u8 0, .int .u8 0, .int .i64 0, .int .u8 0, .int .u8 0]) rfl rfl rfl rfl rfl rfl f5 rfl rfl fun w95 o96 st97 f5_ => ?_
    replace fg3 := fg3.st st97 (by decide)
    replace hs := hs.loc0 st97 (by decide)
    replace f5 := f5_
    refine x_run tab hk (k := 1) (lv := []) (ks := [2, 3]) (e' := [(2, .pointer (some ⟨bx4, 0, none⟩)), (3, .bool false)]) rfl trivial fun a hk => ?_
    refine wpListIn_nil ?_
    refine then_n ?_
    refine wpIn_ret ?_
    obtain rfl := Option.some.inj H
    exact x_retG hk (rs := [.cell 2 193, .tmp 3]) (vs := [.agg #[.int .u8 0, .int .u8 0, .int .i64 0, .int .u8 0, .int .u8 0], .bool false]) rfl ⟨⟨_, rfl, load_box tab rfl rfl f5.now (k := 0) rfl rfl⟩, rfl, trivial⟩ ⟨fun b_ => if b_ < w.heap.size then o b_ else (fun _ => 0) (o96 b_), rfl, hs.close0 o (fun _ => 0)⟩
  refine x_seq ?_
  refine wpIn_region_lit ?_
  refine x_run tab hk (k := 2) (lv := [.agg (List.flatMap (Enc.f ET192) glob3).toArray]) (ks := [0, 2, 6, 7]) (e' := [(0, .int .u8 p0), (2, .pointer (some ⟨bx4, 0, none⟩)), (6, .agg (List.flatMap (Enc.f ET192) glob3).toArray), (7, .int .i64 0)]) rfl ⟨(load_arr (E := ET192) (xs := glob3) tab rfl rfl fg3.now rfl), trivial⟩ fun a hk => ?_
  refine wpListIn_nil ?_
  refine then_n ?_
  refine wpIn_block ?_
  refine x_loop (fun j_ a_ w_ => ∃ o126 : Nat → Nat, ∃ x127 : Int, Kn 23 a_ [(0, .int .u8 p0), (2, .pointer (some ⟨bx4, 0, none⟩)), (6, .agg (List.flatMap (Enc.f ET192) glob3).toArray), (7, .int .i64 x127)] ∧ St [] w (fun _ => 0) w_ o126 ∧ Ft (Bx bx4 193 [.int .u8 0, .int .u8 0, .int .i64 0, .int .u8 0, .int .u8 0]) w_ o126 18 ∧ Ft (RdC ET192 (some ⟨3, 0, none⟩) glob3) w_ o126 0 ∧ glyph_find_l2 p0 j_ x127 = some r) (k := K) ⟨(fun b_ => (fun l_ => if l_ = 1 then 18 else l_) (o2 b_)), 0, (by exact Kn.pick (ks := [0, 2, 6, 7]) hk rfl), (hs.relab0 (fun l_ => if l_ = 1 then 18 else l_) rfl), (f5.relab (fun l_ => if l_ = 1 then 18 else l_) rfl), (fg3.relab (fun l_ => if l_ = 1 then 18 else l_) rfl), H⟩ (by rintro _ _ ⟨_, _, _, _, _, _, H_⟩; exact absurd (show (none : Option (T192 × Bool)) = some r from H_) (by simp)) ?_
  rintro k154 a w153 ⟨o126, x127, hk, hs, f5, fg3, H⟩
  rw [glyph_find_l2] at H
  obtain ⟨lp155, hlp156⟩ : ∃ lp_, lp_ = glyph_find_l2 p0 k154 := ⟨_, rfl⟩
  rw [← hlp156] at H
  refine x_seq ?_
  refine wpIn_region_lit ?_
  refine x_run tab hk (k := 1) (lv := []) (ks := [0, 2, 6, 7, 8]) (e' := [(0, .int .u8 p0), (2, .pointer (some ⟨bx4, 0, none⟩)), (6, .agg (List.flatMap (Enc.f ET192) glob3).toArray), (7, .int .i64 x127), (8, .bool (decide (x127 < (8 : Int))))]) rfl trivial fun a hk => ?_
  refine wpListIn_nil ?_
  refine then_n ?_
  refine x_seq ?_
  cases b157 : (decide (x127 < (8 : Int)))
  · rw [b157] at hk H
    replace H := bifF H
    refine x_if hk (b := false) rfl ?_
    refine (show Code.wpIn _ _ _ _ _ _ _ from ?_)
    refine wpIn_exit ?_
    refine then_x ?_
    refine then_x ?_
    refine blk_x ?_
    refine then_n ?_
    exact ⟨(fun b_ => (fun l_ => if l_ = 18 then 13 else l_) (o126 b_)), (by exact Kn.pick (ks := [2]) hk rfl), (hs.relab0 (fun l_ => if l_ = 18 then 13 else l_) rfl), (f5.relab (fun l_ => if l_ = 18 then 13 else l_) rfl), (fg3.relab (fun l_ => if l_ = 18 then 13 else l_) rfl), H⟩
  · rw [b157] at hk H
    replace H := bifT H
    refine x_if hk (b := true) rfl ?_
    refine (show Code.wpIn _ _ _ _ _ _ _ from ?_)
    refine wpIn_skip ?_
    refine then_n ?_
    refine x_seq ?_
    refine wpIn_block ?_
    refine x_seq ?_
    refine wpIn_region_lit ?_
    obtain ⟨q158, H⟩ := ifS H
    refine x_run tab hk (k := 1) (lv := [.agg #[.int .u8 ((rdD zT192 glob3 x127).first), .int .u8 ((rdD zT192 glob3 x127).last), .int .i64 ((rdD zT192 glob3 x127).need), .int .u8 ((rdD zT192 glob3 x127).low), .int .u8 ((rdD zT192 glob3 x127).high)]]) (ks := [0, 2, 6, 7, 9]) (e' := [(0, .int .u8 p0), (2, .pointer (some ⟨bx4, 0, none⟩)), (6, .agg (List.flatMap (Enc.f ET192) glob3).toArray), (7, .int .i64 x127), (9, .agg #[.int .u8 ((rdD zT192 glob3 x127).first), .int .u8 ((rdD zT192 glob3 x127).last), .int .i64 ((rdD zT192 glob3 x127).need), .int .u8 ((rdD zT192 glob3 x127).low), .int .u8 ((rdD zT192 glob3 x127).high)])]) rfl ⟨(ask_ixS (E := ET192) (dx := zT192) tab rfl rfl rfl rfl rfl rfl q158), trivial⟩ fun a hk => ?_
    refine x_op hk rfl ?_
    refine op_alloc (o := o126) tab (t := 193) (cs := [.int .u8 0, .int .u8 0, .int .i64 0, .int .u8 0, .int .u8 0]) rfl rfl 22 fun bx162 w159 o160 st161 f163 => ?_
    replace f5 := f5.st st161 (by decide)
    replace fg3 := fg3.st st161 (by decide)
    replace hs := hs.loc0 st161 (by decide)
    have hk := hk.put 5 (.pointer (some ⟨bx162, 0, none⟩)) rfl
    refine x_op hk rfl ?_
    refine op_store tab hk (t := 193) (v := .agg #[.int .u8 ((rdD zT192 glob3 x127).first), .int .u8 ((rdD zT192 glob3 x127).last), .int .i64 ((rdD zT192 glob3 x127).need), .int .u8 ((rdD zT192 glob3 x127).low), .int .u8 ((rdD zT192 glob3 x127).high)]) (b := bx162) (k := 0) (cs' := [.int .u8 ((rdD zT192 glob3 x127).first), .int .u8 ((rdD zT192 glob3 x127).last), .int .i64 ((rdD zT192 glob3 x127).need), .int .u8 ((rdD zT192 glob3 x127).low), .int .u8 ((rdD zT192 glob3 x127).high)]) rfl rfl rfl rfl rfl rfl f163 rfl rfl fun w164 o165 st166 f163_ => ?_
    replace f5 := f5.st st166 (by decide)
    replace fg3 := fg3.st st166 (by decide)
    replace hs := hs.loc0 st166 (by decide)
    replace f163 := f163_
    refine wpListIn_nil ?_
    refine then_n ?_
    refine x_mid (fun a_ w_ => ∃ o174 : Nat → Nat, ∃ x175 : Bool, Kn 23 a_ [(0, .int .u8 p0), (2, .pointer (some ⟨bx4, 0, none⟩)), (5, .pointer (some ⟨bx162, 0, none⟩)), (6, .agg (List.flatMap (Enc.f ET192) glob3).toArray), (7, .int .i64 x127), (19, .bool x175)] ∧ St [] w (fun _ => 0) w_ o174 ∧ Ft (Bx bx162 193 [.int .u8 ((rdD zT192 glob3 x127).first), .int .u8 ((rdD zT192 glob3 x127).last), .int .i64 ((rdD zT192 glob3 x127).need), .int .u8 ((rdD zT192 glob3 x127).low), .int .u8 ((rdD zT192 glob3 x127).high)]) w_ o174 24 ∧ Ft (Bx bx4 193 [.int .u8 0, .int .u8 0, .int .i64 0, .int .u8 0, .int .u8 0]) w_ o174 23 ∧ Ft (RdC ET192 (some ⟨3, 0, none⟩) glob3) w_ o174 0 ∧ glyph_find_j3 x127 lp155 x175 = some r) ?_ ?_
    rotate_left
    · rintro a w176 ⟨o174, x175, hk, hs, f163, f5, fg3, H⟩
      rw [glyph_find_j3] at H
      cases b177 : x175
      · rw [b177] at hk H
        replace H := bifF H
        refine x_if hk (b := false) rfl ?_
        refine (show Code.wpIn _ _ _ _ _ _ _ from ?_)
        refine wpIn_skip ?_
        refine blk_n ?_
        refine then_n ?_
        refine wpIn_region_lit ?_
        refine x_run tab hk (k := 2) (lv := []) (ks := [0, 2, 6, 7]) (e' := [(0, .int .u8 p0), (2, .pointer (some ⟨bx4, 0, none⟩)), (6, .agg (List.flatMap (Enc.f ET192) glob3).toArray), (7, .int .i64 (IntKind.wrap .i64 (x127 + 1)))]) rfl trivial fun a hk => ?_
        refine wpListIn_nil ?_
        refine then_n ?_
        exact ⟨k154, Nat.le_refl _, (fun b_ => (fun l_ => if l_ = 23 then 18 else l_) (o174 b_)), (IntKind.wrap .i64 (x127 + 1)), (by exact Kn.pick (ks := [0, 2, 6, 7]) hk rfl), (hs.relab0 (fun l_ => if l_ = 23 then 18 else l_) rfl), (f5.relab (fun l_ => if l_ = 23 then 18 else l_) rfl), (fg3.relab (fun l_ => if l_ = 23 then 18 else l_) rfl), (hlp156 ▸ H)⟩
      · rw [b177] at hk H
        replace H := bifT H
        refine x_if hk (b := true) rfl ?_
        refine (show Code.wpIn _ _ _ _ _ _ _ from ?_)
        refine x_seq ?_
        refine wpIn_region_lit ?_
        refine x_run tab hk (k := 1) (lv := [.agg #[.int .u8 ((rdD zT192 glob3 x127).first), .int .u8 ((rdD zT192 glob3 x127).last), .int .i64 ((rdD zT192 glob3 x127).need), .int .u8 ((rdD zT192 glob3 x127).low), .int .u8 ((rdD zT192 glob3 x127).high)]]) (ks := [2, 20]) (e' := [(2, .pointer (some ⟨bx4, 0, none⟩)), (20, .agg #[.int .u8 ((rdD zT192 glob3 x127).first), .int .u8 ((rdD zT192 glob3 x127).last), .int .i64 ((rdD zT192 glob3 x127).need), .int .u8 ((rdD zT192 glob3 x127).low), .int .u8 ((rdD zT192 glob3 x127).high)])]) rfl ⟨(load_box tab rfl rfl f163.now (k := 0) rfl rfl), trivial⟩ fun a hk => ?_
        refine x_op hk rfl ?_
        refine op_store tab hk (t := 193) (v := .agg #[.int .u8 ((rdD zT192 glob3 x127).first), .int .u8 ((rdD zT192 glob3 x127).last), .int .i64 ((rdD zT192 glob3 x127).need), .int .u8 ((rdD zT192 glob3 x127).low), .int .u8 ((rdD zT192 glob3 x127).high)]) (b := bx4) (k := 0) (cs' := [.int .u8 ((rdD zT192 glob3 x127).first), .int .u8 ((rdD zT192 glob3 x127).last), .int .i64 ((rdD zT192 glob3 x127).need), .int .u8 ((rdD zT192 glob3 x127).low), .int .u8 ((rdD zT192 glob3 x127).high)]) rfl rfl rfl rfl rfl rfl f5 rfl rfl fun w178 o179 st180 f5_ => ?_
        replace fg3 := fg3.st st180 (by decide)
        replace hs := hs.loc0 st180 (by decide)
        replace f5 := f5_
        refine x_run tab hk (k := 1) (lv := []) (ks := [2, 3]) (e' := [(2, .pointer (some ⟨bx4, 0, none⟩)), (3, .bool true)]) rfl trivial fun a hk => ?_
        refine wpListIn_nil ?_
        refine then_n ?_
        refine wpIn_ret ?_
        refine blk_r ?_
        refine then_r ?_
        refine then_r ?_
        refine blk_r ?_
        refine then_r ?_
        obtain rfl := Option.some.inj H
        exact x_retG hk (rs := [.cell 2 193, .tmp 3]) (vs := [.agg #[.int .u8 ((rdD zT192 glob3 x127).first), .int .u8 ((rdD zT192 glob3 x127).last), .int .i64 ((rdD zT192 glob3 x127).need), .int .u8 ((rdD zT192 glob3 x127).low), .int .u8 ((rdD zT192 glob3 x127).high)], .bool true]) rfl ⟨⟨_, rfl, load_box tab rfl rfl f5.now (k := 0) rfl rfl⟩, rfl, trivial⟩ ⟨fun b_ => if b_ < w.heap.size then o b_ else (fun _ => 0) (o179 b_), rfl, hs.close0 o (fun _ => 0)⟩
    refine wpIn_region_lit ?_
    refine x_run tab hk (k := 5) (lv := [.int .u8 ((rdD zT192 glob3 x127).first)]) (ks := [0, 2, 5, 6, 7, 14]) (e' := [(0, .int .u8 p0), (2, .pointer (some ⟨bx4, 0, none⟩)), (5, .pointer (some ⟨bx162, 0, none⟩)), (6, .agg (List.flatMap (Enc.f ET192) glob3).toArray), (7, .int .i64 x127), (14, .bool (decide (p0 ≥ ((rdD zT192 glob3 x127).first))))]) rfl ⟨(load1 tab rfl ((Bx.cell f163.now 0).trans rfl)), trivial⟩ fun a hk => ?_
    cases b181 : (decide (p0 ≥ ((rdD zT192 glob3 x127).first)))
    · rw [b181] at hk H
      replace H := bifF H
      refine x_run tab hk (k := 5) (lv := []) (ks := [0, 2, 5, 6, 7, 19]) (e' := [(0, .int .u8 p0), (2, .pointer (some ⟨bx4, 0, none⟩)), (5, .pointer (some ⟨bx162, 0, none⟩)), (6, .agg (List.flatMap (Enc.f ET192) glob3).toArray), (7, .int .i64 x127), (19, .bool false)]) rfl trivial fun a hk => ?_
      refine wpListIn_nil ?_
      refine then_n ?_
      exact ⟨(fun b_ => (fun l_ => if l_ = 18 then 23 else if l_ = 22 then 24 else l_) (o165 b_)), false, (by exact Kn.pick (ks := [0, 2, 5, 6, 7, 19]) hk rfl), (hs.relab0 (fun l_ => if l_ = 18 then 23 else if l_ = 22 then 24 else l_) rfl), (f163.relab (fun l_ => if l_ = 18 then 23 else if l_ = 22 then 24 else l_) rfl), (f5.relab (fun l_ => if l_ = 18 then 23 else if l_ = 22 then 24 else l_) rfl), (fg3.relab (fun l_ => if l_ = 18 then 23 else if l_ = 22 then 24 else l_) rfl), H⟩
    · rw [b181] at hk H
      replace H := bifT H
      refine x_run tab hk (k := 5) (lv := [.int .u8 ((rdD zT192 glob3 x127).last)]) (ks := [0, 2, 5, 6, 7, 19]) (e' := [(0, .int .u8 p0), (2, .pointer (some ⟨bx4, 0, none⟩)), (5, .pointer (some ⟨bx162, 0, none⟩)), (6, .agg (List.flatMap (Enc.f ET192) glob3).toArray), (7, .int .i64 x127), (19, .bool (decide (p0 ≤ ((rdD zT192 glob3 x127).last))))]) rfl ⟨(load1 tab rfl ((Bx.cell f163.now 1).trans rfl)), trivial⟩ fun a hk => ?_
      refine wpListIn_nil ?_
      refine then_n ?_
      exact ⟨(fun b_ => (fun l_ => if l_ = 18 then 23 else if l_ = 22 then 24 else l_) (o165 b_)), (decide (p0 ≤ ((rdD zT192 glob3 x127).last))), (by exact Kn.pick (ks := [0, 2, 5, 6, 7, 19]) hk rfl), (hs.relab0 (fun l_ => if l_ = 18 then 23 else if l_ = 22 then 24 else l_) rfl), (f163.relab (fun l_ => if l_ = 18 then 23 else if l_ = 22 then 24 else l_) rfl), (f5.relab (fun l_ => if l_ = 18 then 23 else if l_ = 22 then 24 else l_) rfl), (fg3.relab (fun l_ => if l_ = 18 then 23 else if l_ = 22 then 24 else l_) rfl), H⟩

/-! tidewrack/glyph.begin -/
theorem glyph_begin_calls (K : Nat) (p0 : Int) (w : World) (o : Nat → Nat) (Lg3 : Nat) (hg3 : Ft (RdC ET192 (some ⟨3, 0, none⟩) glob3) w o Lg3)   (R0 : Nat) (r : T44 × (List Int)) (H : glyph_begin K p0 = some r) :
    Calls Tryd.prog 102 #[.int .u8 p0] w (Ret fun v_ w' => ∃ o' : Nat → Nat, ∃ A0 : Option Addr, ∃ c0 : Nat, v_ = .tuple #[.agg #[.int .u8 r.1.Lead, .int .i32 r.1.Rune, .int .i64 r.1.Need], .slice A0 (r.2).length c0] ∧ St [] w o w' o' ∧ Ft (Own (encInt .i32) 21 (.slice A0 (r.2).length c0) (r.2)) w' o' R0 ∧ (r.2).length ≤ c0) := by
  refine x_enter (vs := [.int .u8 p0]) Tryd.func102 rfl rfl rfl fun a hk => ?_
  obtain ⟨o0, hs, h0⟩ := St.start w o
  have fg3 := h0 _ _ hg3
  clear h0
  rw [glyph_begin] at H
  refine x_seq ?_
  refine wpIn_region_lit ?_
  refine x_op hk rfl ?_
  refine op_alloc (o := o0) tab (t := 45) (cs := [.int .u8 0, .int .i32 0, .int .i64 0]) rfl rfl 1 fun bx4 w1 o2 st3 f5 => ?_
  replace fg3 := fg3.st st3 (by decide)
  replace hs := hs.loc0 st3 (by decide)
  have hk := hk.put 2 (.pointer (some ⟨bx4, 0, none⟩)) rfl
  refine x_run tab hk (k := 1) (lv := []) (ks := [0, 2]) (e' := [(0, .int .u8 p0), (2, .pointer (some ⟨bx4, 0, none⟩))]) rfl trivial fun a hk => ?_
  refine wpListIn_nil ?_
  refine then_n ?_
  refine x_seq ?_
  refine x_seq ?_
  refine wpIn_region_lit ?_
  refine x_run tab hk (k := 2) (lv := []) (ks := [0, 2, 7]) (e' := [(0, .int .u8 p0), (2, .pointer (some ⟨bx4, 0, none⟩)), (7, .bool (decide (p0 < (128 : Int))))]) rfl trivial fun a hk => ?_
  refine wpListIn_nil ?_
  refine then_n ?_
  cases b6 : (decide (p0 < (128 : Int)))
  · rw [b6] at hk H
    replace H := bifF H
    refine x_if hk (b := false) rfl ?_
    refine (show Code.wpIn _ _ _ _ _ _ _ from ?_)
    refine wpIn_skip ?_
    refine then_n ?_
    refine x_seq ?_
    refine wpIn_region_lit ?_
    refine x_run tab hk (k := 1) (lv := []) (ks := [0, 2, 13]) (e' := [(0, .int .u8 p0), (2, .pointer (some ⟨bx4, 0, none⟩)), (13, .int .u8 p0)]) rfl trivial fun a hk => ?_
    refine x_op hk rfl ?_
    obtain ⟨t10, hc11, H⟩ := bindS H
    refine op_call hk ent_116 (vs := [.int .u8 p0]) rfl (glyph_find_calls K p0 _ o2 0 fg3   _ hc11) ?_
    rintro _ w12 ⟨o13, rfl, st14⟩
    replace f5 := f5.st st14 (by decide)
    replace fg3 := fg3.st st14 (by decide)
    replace hs := hs.loc0 st14 (by decide)
    have hk := hk.put 14 (.tuple #[.agg #[.int .u8 t10.1.first, .int .u8 t10.1.last, .int .i64 t10.1.need, .int .u8 t10.1.low, .int .u8 t10.1.high], .bool t10.2]) rfl
    refine x_run tab hk (k := 3) (lv := []) (ks := [0, 2, 15, 16]) (e' := [(0, .int .u8 p0), (2, .pointer (some ⟨bx4, 0, none⟩)), (15, .agg #[.int .u8 t10.1.first, .int .u8 t10.1.last, .int .i64 t10.1.need, .int .u8 t10.1.low, .int .u8 t10.1.high]), (16, .bool t10.2)]) rfl trivial fun a hk => ?_
    refine x_op hk rfl ?_
    refine op_alloc (o := o13) tab (t := 193) (cs := [.int .u8 0, .int .u8 0, .int .i64 0, .int .u8 0, .int .u8 0]) rfl rfl 2 fun bx18 w15 o16 st17 f19 => ?_
    replace f5 := f5.st st17 (by decide)
    replace fg3 := fg3.st st17 (by decide)
    replace hs := hs.loc0 st17 (by decide)
    have hk := hk.put 4 (.pointer (some ⟨bx18, 0, none⟩)) rfl
    refine x_op hk rfl ?_
    refine op_store tab hk (t := 193) (v := .agg #[.int .u8 t10.1.first, .int .u8 t10.1.last, .int .i64 t10.1.need, .int .u8 t10.1.low, .int .u8 t10.1.high]) (b := bx18) (k := 0) (cs' := [.int .u8 t10.1.first, .int .u8 t10.1.last, .int .i64 t10.1.need, .int .u8 t10.1.low, .int .u8 t10.1.high]) rfl rfl rfl rfl rfl rfl f19 rfl rfl fun w20 o21 st22 f19_ => ?_
    replace f5 := f5.st st22 (by decide)
    replace fg3 := fg3.st st22 (by decide)
    replace hs := hs.loc0 st22 (by decide)
    replace f19 := f19_
    refine x_run tab hk (k := 1) (lv := []) (ks := [0, 2, 4, 5]) (e' := [(0, .int .u8 p0), (2, .pointer (some ⟨bx4, 0, none⟩)), (4, .pointer (some ⟨bx18, 0, none⟩)), (5, .bool t10.2)]) rfl trivial fun a hk => ?_
    refine wpListIn_nil ?_
    refine then_n ?_
    refine x_seq ?_
    refine x_seq ?_
    refine wpIn_region_lit ?_
    refine x_run tab hk (k := 2) (lv := []) (ks := [0, 2, 4, 18]) (e' := [(0, .int .u8 p0), (2, .pointer (some ⟨bx4, 0, none⟩)), (4, .pointer (some ⟨bx18, 0, none⟩)), (18, .bool (!t10.2))]) rfl trivial fun a hk => ?_
    refine wpListIn_nil ?_
    refine then_n ?_
    cases b23 : (!t10.2)
    · rw [b23] at hk H
      replace H := bifF H
      refine x_if hk (b := false) rfl ?_
      refine (show Code.wpIn _ _ _ _ _ _ _ from ?_)
      refine wpIn_skip ?_
      refine then_n ?_
      refine x_seq ?_
      refine xd_begin (o := o21) (fun W_ => (Bx bx18 193 [.int .u8 t10.1.first, .int .u8 t10.1.last, .int .i64 t10.1.need, .int .u8 t10.1.low, .int .u8 t10.1.high]) W_ ∧ True) mixed rfl rfl fun w32 st33 => ?_
      replace f19 := f19.st st33 (by decide)
      replace f5 := f5.st st33 (by decide)
      replace fg3 := fg3.st st33 (by decide)
      replace hs := hs.loc0 st33 (by decide)
      obtain ⟨q34, H⟩ := ifS H
      refine xd_take tab hk (k := 2) (is := [0, 1, 2, 3, 4, 5, 6, 7, 8, 9]) (ls' := #[true, true, true, true, true, true, true, true, true, true, false, false]) (lv := [.int .i64 t10.1.need, .int .i64 t10.1.need]) (ks := [2, 30]) (e' := [(2, .pointer (some ⟨bx4, 0, none⟩)), (30, .agg #[.int .u8 p0, .int .i32 (bits .and .i32 (IntKind.wrap .i32 p0) (Int.fdiv 63 (2 ^ min (Int.toNat t10.1.need) 32))), .int .i64 t10.1.need])]) (by kernel_rfl) rfl rfl (by kernel_rfl) (np_then np_body) ⟨f19.now, trivial⟩ (fun W_ hS => ⟨(load1 tab rfl ((Bx.cell hS.1 2).trans rfl)), q34, (load1 tab rfl ((Bx.cell hS.1 2).trans rfl)), trivial⟩) fun a hk => ?_
      refine xd_op hk (i := 10) (by kernel_rfl) rfl rfl ?_
      refine op_store tab hk (t := 45) (v := .agg #[.int .u8 p0, .int .i32 (bits .and .i32 (IntKind.wrap .i32 p0) (Int.fdiv 63 (2 ^ min (Int.toNat t10.1.need) 32))), .int .i64 t10.1.need]) (b := bx4) (k := 0) (cs' := [.int .u8 p0, .int .i32 (bits .and .i32 (IntKind.wrap .i32 p0) (Int.fdiv 63 (2 ^ min (Int.toNat t10.1.need) 32))), .int .i64 t10.1.need]) rfl rfl rfl rfl rfl rfl f5 rfl rfl fun w35 o36 st37 f5_ => ?_
      replace f19 := f19.st st37 (by decide)
      replace fg3 := fg3.st st37 (by decide)
      replace hs := hs.loc0 st37 (by decide)
      replace f5 := f5_
      refine ⟨.inr ⟨f19.now, trivial⟩, ?_⟩
      refine xd_take tab hk (k := 0) (is := [11]) (ls' := #[true, true, true, true, true, true, true, true, true, true, true, true]) (lv := []) (ks := [2, 3]) (e' := [(2, .pointer (some ⟨bx4, 0, none⟩)), (3, .slice none 0 0)]) (by kernel_rfl) rfl rfl (by kernel_rfl) (np_then np_body) ⟨f19.now, trivial⟩ (fun W_ hS => trivial) fun a hk => ?_
      refine xd_done (by kernel_rfl) ?_
      refine then_n ?_
      refine wpIn_ret ?_
      obtain rfl := Option.some.inj H
      exact x_retG hk (rs := [.cell 2 45, .tmp 3]) (vs := [.agg #[.int .u8 p0, .int .i32 (bits .and .i32 (IntKind.wrap .i32 p0) (Int.fdiv 63 (2 ^ min (Int.toNat t10.1.need) 32))), .int .i64 t10.1.need], .slice none 0 0]) rfl ⟨⟨_, rfl, load_box tab rfl rfl f5.now (k := 0) rfl rfl⟩, rfl, trivial⟩ ⟨fun b_ => if b_ < w.heap.size then o b_ else (fun _ => 0) (o36 b_), none, 0, rfl, hs.close0 o (fun _ => 0), (Ft.of_all (fun _ => Own.nil _ _ _) _ _ _), (by simp)⟩
    · rw [b23] at hk H
      replace H := bifT H
      refine x_if hk (b := true) rfl ?_
      refine (show Code.wpIn _ _ _ _ _ _ _ from ?_)
      refine x_seq ?_
      refine wpIn_region_lit ?_
      refine x_run tab hk (k := 1) (lv := []) (ks := [2, 19]) (e' := [(2, .pointer (some ⟨bx4, 0, none⟩)), (19, .agg #[.int .u8 0, .int .i32 0, .int .i64 0])]) rfl trivial fun a hk => ?_
      refine x_op hk rfl ?_
      refine op_slice (o := o21) tab hk (vs := [.int .i32 65533]) (cs := [.int .i32 65533]) rfl rfl rfl rfl rfl rfl rfl rfl rfl 3 fun bx41 w38 o39 st40 f42 => ?_
      replace f5 := f5.st st40 (by decide)
      replace fg3 := fg3.st st40 (by decide)
      replace hs := hs.loc0 st40 (by decide)
      have f43 : Ft (Own (encInt .i32) 21 (.slice (some ⟨bx41, 0, none⟩) (([65533] : List Int)).length 1) ([65533] : List Int)) w38 o39 3 := f42.imp fun _ h_ => Own.of_box h_ rfl (by simp)
      have hk := hk.put 20 (.slice (some ⟨bx41, 0, none⟩) (([65533] : List Int)).length 1) rfl
      refine x_op hk rfl ?_
      refine op_store tab hk (t := 45) (v := .agg #[.int .u8 0, .int .i32 0, .int .i64 0]) (b := bx4) (k := 0) (cs' := [.int .u8 0, .int .i32 0, .int .i64 0]) rfl rfl rfl rfl rfl rfl f5 rfl rfl fun w44 o45 st46 f5_ => ?_
      replace f43 := f43.st st46 (by decide)
      replace fg3 := fg3.st st46 (by decide)
      replace hs := hs.loc0 st46 (by decide)
      replace f5 := f5_
      refine x_run tab hk (k := 1) (lv := []) (ks := [2, 3]) (e' := [(2, .pointer (some ⟨bx4, 0, none⟩)), (3, .slice (some ⟨bx41, 0, none⟩) (([65533] : List Int)).length 1)]) rfl trivial fun a hk => ?_
      refine wpListIn_nil ?_
      refine then_n ?_
      refine wpIn_ret ?_
      refine then_r ?_
      obtain rfl := Option.some.inj H
      exact x_retG hk (rs := [.cell 2 45, .tmp 3]) (vs := [.agg #[.int .u8 0, .int .i32 0, .int .i64 0], .slice (some ⟨bx41, 0, none⟩) (([65533] : List Int)).length 1]) rfl ⟨⟨_, rfl, load_box tab rfl rfl f5.now (k := 0) rfl rfl⟩, rfl, trivial⟩ ⟨fun b_ => if b_ < w.heap.size then o b_ else (fun _ => R0) (o45 b_), (some ⟨bx41, 0, none⟩), 1, rfl, hs.close0 o (fun _ => R0), hs.close_ft (o := o) (ρ := fun _ => R0) f43 (by decide) rfl, (Nat.le_refl _)⟩
  · rw [b6] at hk H
    replace H := bifT H
    refine x_if hk (b := true) rfl ?_
    refine (show Code.wpIn _ _ _ _ _ _ _ from ?_)
    refine x_seq ?_
    refine wpIn_region_lit ?_
    refine x_run tab hk (k := 3) (lv := []) (ks := [2, 8, 10]) (e' := [(2, .pointer (some ⟨bx4, 0, none⟩)), (8, .agg #[.int .u8 0, .int .i32 0, .int .i64 0]), (10, .int .i32 (IntKind.wrap .i32 p0))]) rfl trivial fun a hk => ?_
    refine x_op hk rfl ?_
    refine op_slice (o := o2) tab hk (vs := [.int .i32 (IntKind.wrap .i32 p0)]) (cs := [.int .i32 (IntKind.wrap .i32 p0)]) rfl rfl rfl rfl rfl rfl rfl rfl rfl 4 fun bx50 w47 o48 st49 f51 => ?_
    replace f5 := f5.st st49 (by decide)
    replace fg3 := fg3.st st49 (by decide)
    replace hs := hs.loc0 st49 (by decide)
    have f52 : Ft (Own (encInt .i32) 21 (.slice (some ⟨bx50, 0, none⟩) (([(IntKind.wrap .i32 p0)] : List Int)).length 1) ([(IntKind.wrap .i32 p0)] : List Int)) w47 o48 4 := f51.imp fun _ h_ => Own.of_box h_ rfl (by simp)
    have hk := hk.put 11 (.slice (some ⟨bx50, 0, none⟩) (([(IntKind.wrap .i32 p0)] : List Int)).length 1) rfl
    refine x_op hk rfl ?_
    refine op_store tab hk (t := 45) (v := .agg #[.int .u8 0, .int .i32 0, .int .i64 0]) (b := bx4) (k := 0) (cs' := [.int .u8 0, .int .i32 0, .int .i64 0]) rfl rfl rfl rfl rfl rfl f5 rfl rfl fun w53 o54 st55 f5_ => ?_
    replace f52 := f52.st st55 (by decide)
    replace fg3 := fg3.st st55 (by decide)
    replace hs := hs.loc0 st55 (by decide)
    replace f5 := f5_
    refine x_run tab hk (k := 1) (lv := []) (ks := [2, 3]) (e' := [(2, .pointer (some ⟨bx4, 0, none⟩)), (3, .slice (some ⟨bx50, 0, none⟩) (([(IntKind.wrap .i32 p0)] : List Int)).length 1)]) rfl trivial fun a hk => ?_
    refine wpListIn_nil ?_
    refine then_n ?_
    refine wpIn_ret ?_
    refine then_r ?_
    obtain rfl := Option.some.inj H
    exact x_retG hk (rs := [.cell 2 45, .tmp 3]) (vs := [.agg #[.int .u8 0, .int .i32 0, .int .i64 0], .slice (some ⟨bx50, 0, none⟩) (([(IntKind.wrap .i32 p0)] : List Int)).length 1]) rfl ⟨⟨_, rfl, load_box tab rfl rfl f5.now (k := 0) rfl rfl⟩, rfl, trivial⟩ ⟨fun b_ => if b_ < w.heap.size then o b_ else (fun _ => R0) (o54 b_), (some ⟨bx50, 0, none⟩), 1, rfl, hs.close0 o (fun _ => R0), hs.close_ft (o := o) (ρ := fun _ => R0) f52 (by decide) rfl, (Nat.le_refl _)⟩

/-! (tidewrack/glyph.Decoder).fits -/
theorem glyph_Decoder_fits_calls (K : Nat) (p0 : T44) (p1 : Int) (w : World) (o : Nat → Nat) (Lg3 : Nat) (hg3 : Ft (RdC ET192 (some ⟨3, 0, none⟩) glob3) w o Lg3)   (r : Bool) (H : glyph_Decoder_fits K p0 p1 = some r) :
    Calls Tryd.prog 103 #[.agg #[.int .u8 p0.Lead, .int .i32 p0.Rune, .int .i64 p0.Need], .int .u8 p1] w (Ret fun v_ w' => ∃ o' : Nat → Nat, v_ = .bool r ∧ St [] w o w' o') := by
  refine x_enter (vs := [.agg #[.int .u8 p0.Lead, .int .i32 p0.Rune, .int .i64 p0.Need], .int .u8 p1]) Tryd.func103 rfl rfl rfl fun a hk => ?_
  obtain ⟨o0, hs, h0⟩ := St.start w o
  have fg3 := h0 _ _ hg3
  clear h0
  rw [glyph_Decoder_fits] at H
  refine x_seq ?_
  refine wpIn_region_lit ?_
  refine x_op hk rfl ?_
  refine op_box (o := o0) (t := 45) (v := .agg #[.int .u8 p0.Lead, .int .i32 p0.Rune, .int .i64 p0.Need]) (cs := [.int .u8 p0.Lead, .int .i32 p0.Rune, .int .i64 p0.Need]) hk rfl rfl 1 fun bx4 w1 o2 st3 f5 => ?_
  replace fg3 := fg3.st st3 (by decide)
  replace hs := hs.loc0 st3 (by decide)
  have hk := hk.put 2 (.pointer (some ⟨bx4, 0, none⟩)) rfl
  refine x_run tab hk (k := 1) (lv := []) (ks := [1, 2]) (e' := [(1, .int .u8 p1), (2, .pointer (some ⟨bx4, 0, none⟩))]) rfl trivial fun a hk => ?_
  refine wpListIn_nil ?_
  refine then_n ?_
  refine x_seq ?_
  refine wpIn_region_lit ?_
  refine x_run tab hk (k := 2) (lv := [.int .u8 p0.Lead]) (ks := [1, 2, 9]) (e' := [(1, .int .u8 p1), (2, .pointer (some ⟨bx4, 0, none⟩)), (9, .int .u8 p0.Lead)]) rfl ⟨(load1 tab rfl ((Bx.cell f5.now 0).trans rfl)), trivial⟩ fun a hk => ?_
  refine x_op hk rfl ?_
  obtain ⟨t9, hc10, H⟩ := bindS H
  refine op_call hk ent_116 (vs := [.int .u8 p0.Lead]) rfl (glyph_find_calls K p0.Lead _ o2 0 fg3   _ hc10) ?_
  rintro _ w11 ⟨o12, rfl, st13⟩
  replace f5 := f5.st st13 (by decide)
  replace fg3 := fg3.st st13 (by decide)
  replace hs := hs.loc0 st13 (by decide)
  have hk := hk.put 10 (.tuple #[.agg #[.int .u8 t9.1.first, .int .u8 t9.1.last, .int .i64 t9.1.need, .int .u8 t9.1.low, .int .u8 t9.1.high], .bool t9.2]) rfl
  refine x_run tab hk (k := 3) (lv := []) (ks := [1, 2, 11, 12]) (e' := [(1, .int .u8 p1), (2, .pointer (some ⟨bx4, 0, none⟩)), (11, .agg #[.int .u8 t9.1.first, .int .u8 t9.1.last, .int .i64 t9.1.need, .int .u8 t9.1.low, .int .u8 t9.1.high]), (12, .bool t9.2)]) rfl trivial fun a hk => ?_
  refine x_op hk rfl ?_
  refine op_alloc (o := o12) tab (t := 193) (cs := [.int .u8 0, .int .u8 0, .int .i64 0, .int .u8 0, .int .u8 0]) rfl rfl 2 fun bx17 w14 o15 st16 f18 => ?_
  replace f5 := f5.st st16 (by decide)
  replace fg3 := fg3.st st16 (by decide)
  replace hs := hs.loc0 st16 (by decide)
  have hk := hk.put 5 (.pointer (some ⟨bx17, 0, none⟩)) rfl
  refine x_op hk rfl ?_
  refine op_store tab hk (t := 193) (v := .agg #[.int .u8 t9.1.first, .int .u8 t9.1.last, .int .i64 t9.1.need, .int .u8 t9.1.low, .int .u8 t9.1.high]) (b := bx17) (k := 0) (cs' := [.int .u8 t9.1.first, .int .u8 t9.1.last, .int .i64 t9.1.need, .int .u8 t9.1.low, .int .u8 t9.1.high]) rfl rfl rfl rfl rfl rfl f18 rfl rfl fun w19 o20 st21 f18_ => ?_
  replace f5 := f5.st st21 (by decide)
  replace fg3 := fg3.st st21 (by decide)
  replace hs := hs.loc0 st21 (by decide)
  replace f18 := f18_
  refine x_run tab hk (k := 1) (lv := []) (ks := [1, 2, 5]) (e' := [(1, .int .u8 p1), (2, .pointer (some ⟨bx4, 0, none⟩)), (5, .pointer (some ⟨bx17, 0, none⟩))]) rfl trivial fun a hk => ?_
  refine wpListIn_nil ?_
  refine then_n ?_
  refine x_seq ?_
  refine x_seq ?_
  refine wpIn_region_lit ?_
  refine x_run tab hk (k := 5) (lv := [.int .i64 p0.Need, .int .i64 t9.1.need]) (ks := [1, 5, 17]) (e' := [(1, .int .u8 p1), (5, .pointer (some ⟨bx17, 0, none⟩)), (17, .bool (decide (p0.Need < t9.1.need)))]) rfl ⟨(load1 tab rfl ((Bx.cell f5.now 2).trans rfl)), (load1 tab rfl ((Bx.cell f18.now 2).trans rfl)), trivial⟩ fun a hk => ?_
  refine wpListIn_nil ?_
  refine then_n ?_
  cases b22 : (decide (p0.Need < t9.1.need))
  · rw [b22] at hk H
    replace H := bifF H
    refine x_if hk (b := false) rfl ?_
    refine (show Code.wpIn _ _ _ _ _ _ _ from ?_)
    refine wpIn_skip ?_
    refine then_n ?_
    refine x_seq ?_
    refine wpIn_region_lit ?_
    refine x_run tab hk (k := 5) (lv := [.int .u8 t9.1.low]) (ks := [1, 5, 28]) (e' := [(1, .int .u8 p1), (5, .pointer (some ⟨bx17, 0, none⟩)), (28, .bool (decide (p1 ≥ t9.1.low)))]) rfl ⟨(load1 tab rfl ((Bx.cell f18.now 3).trans rfl)), trivial⟩ fun a hk => ?_
    cases b23 : (decide (p1 ≥ t9.1.low))
    · rw [b23] at hk H
      replace H := bifF H
      refine x_run tab hk (k := 6) (lv := []) (ks := [4]) (e' := [(4, .bool false)]) rfl trivial fun a hk => ?_
      refine wpListIn_nil ?_
      refine then_n ?_
      refine wpIn_ret ?_
      obtain rfl := Option.some.inj H
      exact x_retG hk (rs := [.tmp 4]) (vs := [.bool false]) rfl ⟨rfl, trivial⟩ ⟨fun b_ => if b_ < w.heap.size then o b_ else (fun _ => 0) (o20 b_), rfl, hs.close0 o (fun _ => 0)⟩
    · rw [b23] at hk H
      replace H := bifT H
      refine x_run tab hk (k := 6) (lv := [.int .u8 t9.1.high]) (ks := [4]) (e' := [(4, .bool (decide (p1 ≤ t9.1.high)))]) rfl ⟨(load1 tab rfl ((Bx.cell f18.now 4).trans rfl)), trivial⟩ fun a hk => ?_
      refine wpListIn_nil ?_
      refine then_n ?_
      refine wpIn_ret ?_
      obtain rfl := Option.some.inj H
      exact x_retG hk (rs := [.tmp 4]) (vs := [.bool (decide (p1 ≤ t9.1.high))]) rfl ⟨rfl, trivial⟩ ⟨fun b_ => if b_ < w.heap.size then o b_ else (fun _ => 0) (o20 b_), rfl, hs.close0 o (fun _ => 0)⟩
  · rw [b22] at hk H
    replace H := bifT H
    refine x_if hk (b := true) rfl ?_
    refine (show Code.wpIn _ _ _ _ _ _ _ from ?_)
    refine x_seq ?_
    refine wpIn_region_lit ?_
    refine x_run tab hk (k := 3) (lv := []) (ks := [1, 20]) (e' := [(1, .int .u8 p1), (20, .bool (decide (p1 ≥ (128 : Int))))]) rfl trivial fun a hk => ?_
    cases b24 : (decide (p1 ≥ (128 : Int)))
    · rw [b24] at hk H
      replace H := bifF H
      refine x_run tab hk (k := 4) (lv := []) (ks := [4]) (e' := [(4, .bool false)]) rfl trivial fun a hk => ?_
      refine wpListIn_nil ?_
      refine then_n ?_
      refine wpIn_ret ?_
      refine then_r ?_
      obtain rfl := Option.some.inj H
      exact x_retG hk (rs := [.tmp 4]) (vs := [.bool false]) rfl ⟨rfl, trivial⟩ ⟨fun b_ => if b_ < w.heap.size then o b_ else (fun _ => 0) (o20 b_), rfl, hs.close0 o (fun _ => 0)⟩
    · rw [b24] at hk H
      replace H := bifT H
      refine x_run tab hk (k := 4) (lv := []) (ks := [4]) (e' := [(4, .bool (decide (p1 ≤ (191 : Int))))]) rfl trivial fun a hk => ?_
      refine wpListIn_nil ?_
      refine then_n ?_
      refine wpIn_ret ?_
      refine then_r ?_
      obtain rfl := Option.some.inj H
      exact x_retG hk (rs := [.tmp 4]) (vs := [.bool (decide (p1 ≤ (191 : Int)))]) rfl ⟨rfl, trivial⟩ ⟨fun b_ => if b_ < w.heap.size then o b_ else (fun _ => 0) (o20 b_), rfl, hs.close0 o (fun _ => 0)⟩

/-! (tidewrack/glyph.Decoder).Next -/
theorem glyph_Decoder_Next_calls (K : Nat) (p0 : T44) (p1 : Int) (w : World) (o : Nat → Nat) (Lg3 : Nat) (hg3 : Ft (RdC ET192 (some ⟨3, 0, none⟩) glob3) w o Lg3)   (R0 : Nat) (r : T44 × (List Int)) (H : glyph_Decoder_Next K p0 p1 = some r) :
    Calls Tryd.prog 72 #[.agg #[.int .u8 p0.Lead, .int .i32 p0.Rune, .int .i64 p0.Need], .int .u8 p1] w (Ret fun v_ w' => ∃ o' : Nat → Nat, ∃ A0 : Option Addr, ∃ c0 : Nat, v_ = .tuple #[.agg #[.int .u8 r.1.Lead, .int .i32 r.1.Rune, .int .i64 r.1.Need], .slice A0 (r.2).length c0] ∧ St [] w o w' o' ∧ Ft (Own (encInt .i32) 21 (.slice A0 (r.2).length c0) (r.2)) w' o' R0 ∧ (r.2).length ≤ c0) := by
  refine x_enter (vs := [.agg #[.int .u8 p0.Lead, .int .i32 p0.Rune, .int .i64 p0.Need], .int .u8 p1]) Tryd.func72 rfl rfl rfl fun a hk => ?_
  obtain ⟨o0, hs, h0⟩ := St.start w o
  have fg3 := h0 _ _ hg3
  clear h0
  rw [glyph_Decoder_Next] at H
  refine x_seq ?_
  refine wpIn_region_lit ?_
  refine x_op hk rfl ?_
  refine op_box (o := o0) (t := 45) (v := .agg #[.int .u8 p0.Lead, .int .i32 p0.Rune, .int .i64 p0.Need]) (cs := [.int .u8 p0.Lead, .int .i32 p0.Rune, .int .i64 p0.Need]) hk rfl rfl 1 fun bx4 w1 o2 st3 f5 => ?_
  replace fg3 := fg3.st st3 (by decide)
  replace hs := hs.loc0 st3 (by decide)
  have hk := hk.put 2 (.pointer (some ⟨bx4, 0, none⟩)) rfl
  refine x_op hk rfl ?_
  refine op_alloc (o := o2) tab (t := 45) (cs := [.int .u8 0, .int .i32 0, .int .i64 0]) rfl rfl 2 fun bx9 w6 o7 st8 f10 => ?_
  replace f5 := f5.st st8 (by decide)
  replace fg3 := fg3.st st8 (by decide)
  replace hs := hs.loc0 st8 (by decide)
  have hk := hk.put 4 (.pointer (some ⟨bx9, 0, none⟩)) rfl
  refine x_run tab hk (k := 1) (lv := []) (ks := [1, 2, 4]) (e' := [(1, .int .u8 p1), (2, .pointer (some ⟨bx4, 0, none⟩)), (4, .pointer (some ⟨bx9, 0, none⟩))]) rfl trivial fun a hk => ?_
  refine wpListIn_nil ?_
  refine then_n ?_
  refine x_seq ?_
  refine x_seq ?_
  refine wpIn_region_lit ?_
  refine x_run tab hk (k := 3) (lv := [.int .i64 p0.Need]) (ks := [1, 2, 4, 10]) (e' := [(1, .int .u8 p1), (2, .pointer (some ⟨bx4, 0, none⟩)), (4, .pointer (some ⟨bx9, 0, none⟩)), (10, .bool (decide (p0.Need ≤ (0 : Int))))]) rfl ⟨(load1 tab rfl ((Bx.cell f5.now 2).trans rfl)), trivial⟩ fun a hk => ?_
  refine wpListIn_nil ?_
  refine then_n ?_
  cases b11 : (decide (p0.Need ≤ (0 : Int)))
  · rw [b11] at hk H
    replace H := bifF H
    refine x_if hk (b := false) rfl ?_
    refine (show Code.wpIn _ _ _ _ _ _ _ from ?_)
    refine wpIn_skip ?_
    refine then_n ?_
    refine x_seq ?_
    refine x_seq ?_
    refine wpIn_region_lit ?_
    refine x_run tab hk (k := 2) (lv := [.agg #[.int .u8 p0.Lead, .int .i32 p0.Rune, .int .i64 p0.Need]]) (ks := [1, 2, 4, 15, 16]) (e' := [(1, .int .u8 p1), (2, .pointer (some ⟨bx4, 0, none⟩)), (4, .pointer (some ⟨bx9, 0, none⟩)), (15, .agg #[.int .u8 p0.Lead, .int .i32 p0.Rune, .int .i64 p0.Need]), (16, .int .u8 p1)]) rfl ⟨(load_box tab rfl rfl f5.now (k := 0) rfl rfl), trivial⟩ fun a hk => ?_
    refine x_op hk rfl ?_
    obtain ⟨t15, hc16, H⟩ := bindS H
    refine op_call hk ent_103 (vs := [.agg #[.int .u8 p0.Lead, .int .i32 p0.Rune, .int .i64 p0.Need], .int .u8 p1]) rfl (glyph_Decoder_fits_calls K p0 p1 _ o7 0 fg3   _ hc16) ?_
    rintro _ w17 ⟨o18, rfl, st19⟩
    replace f10 := f10.st st19 (by decide)
    replace f5 := f5.st st19 (by decide)
    replace fg3 := fg3.st st19 (by decide)
    replace hs := hs.loc0 st19 (by decide)
    have hk := hk.put 17 (.bool t15) rfl
    refine x_run tab hk (k := 1) (lv := []) (ks := [1, 2, 4, 18]) (e' := [(1, .int .u8 p1), (2, .pointer (some ⟨bx4, 0, none⟩)), (4, .pointer (some ⟨bx9, 0, none⟩)), (18, .bool (!t15))]) rfl trivial fun a hk => ?_
    refine wpListIn_nil ?_
    refine then_n ?_
    cases b20 : (!t15)
    · rw [b20] at hk H
      replace H := bifF H
      refine x_if hk (b := false) rfl ?_
      refine (show Code.wpIn _ _ _ _ _ _ _ from ?_)
      refine wpIn_skip ?_
      refine then_n ?_
      refine x_seq ?_
      refine wpIn_region_lit ?_
      refine x_run tab hk (k := 10) (lv := [.int .i32 p0.Rune, .int .i64 p0.Need]) (ks := [2, 4, 34, 37]) (e' := [(2, .pointer (some ⟨bx4, 0, none⟩)), (4, .pointer (some ⟨bx9, 0, none⟩)), (34, .int .i32 (bits .or .i32 (IntKind.wrap .i32 (p0.Rune * 2 ^ min (Int.toNat 6) 32)) (bits .and .i32 (IntKind.wrap .i32 p1) 63))), (37, .int .i64 (IntKind.wrap .i64 (p0.Need - 1)))]) rfl ⟨(load1 tab rfl ((Bx.cell f5.now 1).trans rfl)), (show 0 ≤ (6 : Int) from by decide), (load1 tab rfl ((Bx.cell f5.now 2).trans rfl)), trivial⟩ fun a hk => ?_
      refine x_run tab hk (k := 1) (lv := []) (ks := [2, 4, 34, 37, 38]) (e' := [(2, .pointer (some ⟨bx4, 0, none⟩)), (4, .pointer (some ⟨bx9, 0, none⟩)), (34, .int .i32 (bits .or .i32 (IntKind.wrap .i32 (p0.Rune * 2 ^ min (Int.toNat 6) 32)) (bits .and .i32 (IntKind.wrap .i32 p1) 63))), (37, .int .i64 (IntKind.wrap .i64 (p0.Need - 1))), (38, .pointer (some ((⟨bx4, 0, none⟩ : Addr).add 1)))]) rfl trivial fun a hk => ?_
      refine x_op hk rfl ?_
      refine op_store tab hk (t := 21) (v := .int .i32 (bits .or .i32 (IntKind.wrap .i32 (p0.Rune * 2 ^ min (Int.toNat 6) 32)) (bits .and .i32 (IntKind.wrap .i32 p1) 63))) (b := bx4) (k := 1) (cs' := [.int .u8 p0.Lead, .int .i32 (bits .or .i32 (IntKind.wrap .i32 (p0.Rune * 2 ^ min (Int.toNat 6) 32)) (bits .and .i32 (IntKind.wrap .i32 p1) 63)), .int .i64 p0.Need]) rfl rfl rfl rfl rfl rfl f5 rfl rfl fun w21 o22 st23 f5_ => ?_
      replace f10 := f10.st st23 (by decide)
      replace fg3 := fg3.st st23 (by decide)
      replace hs := hs.loc0 st23 (by decide)
      replace f5 := f5_
      refine x_run tab hk (k := 1) (lv := []) (ks := [2, 4, 37, 39]) (e' := [(2, .pointer (some ⟨bx4, 0, none⟩)), (4, .pointer (some ⟨bx9, 0, none⟩)), (37, .int .i64 (IntKind.wrap .i64 (p0.Need - 1))), (39, .pointer (some ((⟨bx4, 0, none⟩ : Addr).add 2)))]) rfl trivial fun a hk => ?_
      refine x_op hk rfl ?_
      refine op_store tab hk (t := 3) (v := .int .i64 (IntKind.wrap .i64 (p0.Need - 1))) (b := bx4) (k := 2) (cs' := [.int .u8 p0.Lead, .int .i32 (bits .or .i32 (IntKind.wrap .i32 (p0.Rune * 2 ^ min (Int.toNat 6) 32)) (bits .and .i32 (IntKind.wrap .i32 p1) 63)), .int .i64 (IntKind.wrap .i64 (p0.Need - 1))]) rfl rfl rfl rfl rfl rfl f5 rfl rfl fun w24 o25 st26 f5_ => ?_
      replace f10 := f10.st st26 (by decide)
      replace fg3 := fg3.st st26 (by decide)
      replace hs := hs.loc0 st26 (by decide)
      replace f5 := f5_
      refine wpListIn_nil ?_
      refine then_n ?_
      refine x_seq ?_
      refine x_seq ?_
      refine wpIn_region_lit ?_
      refine x_run tab hk (k := 3) (lv := [.int .i64 (IntKind.wrap .i64 (p0.Need - 1))]) (ks := [2, 4, 42]) (e' := [(2, .pointer (some ⟨bx4, 0, none⟩)), (4, .pointer (some ⟨bx9, 0, none⟩)), (42, .bool ((IntKind.wrap .i64 (p0.Need - 1)) == (0 : Int)))]) rfl ⟨(load1 tab rfl ((Bx.cell f5.now 2).trans rfl)), trivial⟩ fun a hk => ?_
      refine wpListIn_nil ?_
      refine then_n ?_
      cases b27 : ((IntKind.wrap .i64 (p0.Need - 1)) == (0 : Int))
      · rw [b27] at hk H
        replace H := bifF H
        refine x_if hk (b := false) rfl ?_
        refine (show Code.wpIn _ _ _ _ _ _ _ from ?_)
        refine wpIn_skip ?_
        refine then_n ?_
        refine x_seq ?_
        refine wpIn_region_lit ?_
        refine x_run tab hk (k := 1) (lv := [.agg #[.int .u8 p0.Lead, .int .i32 (bits .or .i32 (IntKind.wrap .i32 (p0.Rune * 2 ^ min (Int.toNat 6) 32)) (bits .and .i32 (IntKind.wrap .i32 p1) 63)), .int .i64 (IntKind.wrap .i64 (p0.Need - 1))]]) (ks := [4, 47]) (e' := [(4, .pointer (some ⟨bx9, 0, none⟩)), (47, .agg #[.int .u8 p0.Lead, .int .i32 (bits .or .i32 (IntKind.wrap .i32 (p0.Rune * 2 ^ min (Int.toNat 6) 32)) (bits .and .i32 (IntKind.wrap .i32 p1) 63)), .int .i64 (IntKind.wrap .i64 (p0.Need - 1))])]) rfl ⟨(load_box tab rfl rfl f5.now (k := 0) rfl rfl), trivial⟩ fun a hk => ?_
        refine x_op hk rfl ?_
        refine op_store tab hk (t := 45) (v := .agg #[.int .u8 p0.Lead, .int .i32 (bits .or .i32 (IntKind.wrap .i32 (p0.Rune * 2 ^ min (Int.toNat 6) 32)) (bits .and .i32 (IntKind.wrap .i32 p1) 63)), .int .i64 (IntKind.wrap .i64 (p0.Need - 1))]) (b := bx9) (k := 0) (cs' := [.int .u8 p0.Lead, .int .i32 (bits .or .i32 (IntKind.wrap .i32 (p0.Rune * 2 ^ min (Int.toNat 6) 32)) (bits .and .i32 (IntKind.wrap .i32 p1) 63)), .int .i64 (IntKind.wrap .i64 (p0.Need - 1))]) rfl rfl rfl rfl rfl rfl f10 rfl rfl fun w28 o29 st30 f10_ => ?_
        replace fg3 := fg3.st st30 (by decide)
        replace hs := hs.loc0 st30 (by decide)
        replace f10 := f10_
        refine x_run tab hk (k := 1) (lv := []) (ks := [4, 5]) (e' := [(4, .pointer (some ⟨bx9, 0, none⟩)), (5, .slice none 0 0)]) rfl trivial fun a hk => ?_
        refine wpListIn_nil ?_
        refine then_n ?_
        refine wpIn_ret ?_
        obtain rfl := Option.some.inj H
        exact x_retG hk (rs := [.cell 4 45, .tmp 5]) (vs := [.agg #[.int .u8 p0.Lead, .int .i32 (bits .or .i32 (IntKind.wrap .i32 (p0.Rune * 2 ^ min (Int.toNat 6) 32)) (bits .and .i32 (IntKind.wrap .i32 p1) 63)), .int .i64 (IntKind.wrap .i64 (p0.Need - 1))], .slice none 0 0]) rfl ⟨⟨_, rfl, load_box tab rfl rfl f10.now (k := 0) rfl rfl⟩, rfl, trivial⟩ ⟨fun b_ => if b_ < w.heap.size then o b_ else (fun _ => 0) (o29 b_), none, 0, rfl, hs.close0 o (fun _ => 0), (Ft.of_all (fun _ => Own.nil _ _ _) _ _ _), (by simp)⟩
      · rw [b27] at hk H
        replace H := bifT H
        refine x_if hk (b := true) rfl ?_
        refine (show Code.wpIn _ _ _ _ _ _ _ from ?_)
        refine x_seq ?_
        refine x_cut (fun a_ w_ => ∃ o127 : Nat → Nat, ∃ A128 : Option Addr, ∃ c129 : Nat, Kn 48 a_ [(4, .pointer (some ⟨bx9, 0, none⟩)), (5, .slice A128 (([(bits .or .i32 (IntKind.wrap .i32 (p0.Rune * 2 ^ min (Int.toNat 6) 32)) (bits .and .i32 (IntKind.wrap .i32 p1) 63))] : List Int)).length c129)] ∧ St [] w (fun _ => 0) w_ o127 ∧ Ft (Bx bx9 45 [.int .u8 0, .int .i32 0, .int .i64 0]) w_ o127 15 ∧ Ft (Own (encInt .i32) 21 (.slice A128 (([(bits .or .i32 (IntKind.wrap .i32 (p0.Rune * 2 ^ min (Int.toNat 6) 32)) (bits .and .i32 (IntKind.wrap .i32 p1) 63))] : List Int)).length c129) ([(bits .or .i32 (IntKind.wrap .i32 (p0.Rune * 2 ^ min (Int.toNat 6) 32)) (bits .and .i32 (IntKind.wrap .i32 p1) 63))] : List Int)) w_ o127 16 ∧ Ft (RdC ET192 (some ⟨3, 0, none⟩) glob3) w_ o127 0 ∧ (([(bits .or .i32 (IntKind.wrap .i32 (p0.Rune * 2 ^ min (Int.toNat 6) 32)) (bits .and .i32 (IntKind.wrap .i32 p1) 63))] : List Int)).length ≤ c129 ∧ glyph_Decoder_Next_j1 p0 p1 = some r) ?_ ?_
        rotate_left
        · rintro a w132 ⟨o127, A128, c129, hk, hs, f10, f130, fg3, hc131, H⟩
          rw [glyph_Decoder_Next_j1] at H
          refine then_n ?_
          refine wpIn_ret ?_
          refine then_r ?_
          obtain rfl := Option.some.inj H
          exact x_retG hk (rs := [.cell 4 45, .tmp 5]) (vs := [.agg #[.int .u8 0, .int .i32 0, .int .i64 0], .slice A128 (([(bits .or .i32 (IntKind.wrap .i32 (p0.Rune * 2 ^ min (Int.toNat 6) 32)) (bits .and .i32 (IntKind.wrap .i32 p1) 63))] : List Int)).length c129]) rfl ⟨⟨_, rfl, load_box tab rfl rfl f10.now (k := 0) rfl rfl⟩, rfl, trivial⟩ ⟨fun b_ => if b_ < w.heap.size then o b_ else (fun _ => R0) (o127 b_), A128, c129, rfl, hs.close0 o (fun _ => R0), hs.close_ft (o := o) (ρ := fun _ => R0) f130 (by decide) rfl, hc131⟩
        refine xd_begin (o := o25) (fun W_ => (Bx bx4 45 [.int .u8 p0.Lead, .int .i32 (bits .or .i32 (IntKind.wrap .i32 (p0.Rune * 2 ^ min (Int.toNat 6) 32)) (bits .and .i32 (IntKind.wrap .i32 p1) 63)), .int .i64 (IntKind.wrap .i64 (p0.Need - 1))]) W_ ∧ True) mixed rfl rfl fun w169 st170 => ?_
        replace f10 := f10.st st170 (by decide)
        replace f5 := f5.st st170 (by decide)
        replace fg3 := fg3.st st170 (by decide)
        replace hs := hs.loc0 st170 (by decide)
        refine xd_abs fun G hG => ?_
        have N192 : ∀ (a_ : Act) (w_ : World), (∃ o186 : Nat → Nat, ∃ A187 : Option Addr, ∃ c188 : Nat, Kn 48 a_ [(4, .pointer (some ⟨bx9, 0, none⟩)), (43, .agg #[.int .u8 0, .int .i32 0, .int .i64 0]), (46, .slice A187 (([(bits .or .i32 (IntKind.wrap .i32 (p0.Rune * 2 ^ min (Int.toNat 6) 32)) (bits .and .i32 (IntKind.wrap .i32 p1) 63))] : List Int)).length c188)] ∧ St [] w (fun _ => 0) w_ o186 ∧ Ft (Bx bx9 45 [.int .u8 0, .int .i32 0, .int .i64 0]) w_ o186 23 ∧ Ft (Own (encInt .i32) 21 (.slice A187 (([(bits .or .i32 (IntKind.wrap .i32 (p0.Rune * 2 ^ min (Int.toNat 6) 32)) (bits .and .i32 (IntKind.wrap .i32 p1) 63))] : List Int)).length c188) ([(bits .or .i32 (IntKind.wrap .i32 (p0.Rune * 2 ^ min (Int.toNat 6) 32)) (bits .and .i32 (IntKind.wrap .i32 p1) 63))] : List Int)) w_ o186 24 ∧ Ft (Bx bx4 45 [.int .u8 p0.Lead, .int .i32 (bits .or .i32 (IntKind.wrap .i32 (p0.Rune * 2 ^ min (Int.toNat 6) 32)) (bits .and .i32 (IntKind.wrap .i32 p1) 63)), .int .i64 (IntKind.wrap .i64 (p0.Need - 1))]) w_ o186 22 ∧ Ft (RdC ET192 (some ⟨3, 0, none⟩) glob3) w_ o186 0 ∧ (([(bits .or .i32 (IntKind.wrap .i32 (p0.Rune * 2 ^ min (Int.toNat 6) 32)) (bits .and .i32 (IntKind.wrap .i32 p1) 63))] : List Int)).length ≤ c188) → G 2 #[true, true, true, true, false, false] a_ w_ := by
          rintro a w191 ⟨o186, A187, c188, hk, hs, f10, f189, f5, fg3, hc190⟩
          refine xd_of hG ?_
          refine xd_op hk (i := 4) (by kernel_rfl) rfl rfl ?_
          refine op_store tab hk (t := 45) (v := .agg #[.int .u8 0, .int .i32 0, .int .i64 0]) (b := bx9) (k := 0) (cs' := [.int .u8 0, .int .i32 0, .int .i64 0]) rfl rfl rfl rfl rfl rfl f10 rfl rfl fun w193 o194 st195 f10_ => ?_
          replace f189 := f189.st st195 (by decide)
          replace f5 := f5.st st195 (by decide)
          replace fg3 := fg3.st st195 (by decide)
          replace hs := hs.loc0 st195 (by decide)
          replace f10 := f10_
          refine ⟨.inr ⟨f5.now, trivial⟩, ?_⟩
          refine xd_take tab hk (k := 0) (is := [5]) (ls' := #[true, true, true, true, true, true]) (lv := []) (ks := [4, 5]) (e' := [(4, .pointer (some ⟨bx9, 0, none⟩)), (5, .slice A187 (([(bits .or .i32 (IntKind.wrap .i32 (p0.Rune * 2 ^ min (Int.toNat 6) 32)) (bits .and .i32 (IntKind.wrap .i32 p1) 63))] : List Int)).length c188)]) (by kernel_rfl) rfl rfl (by kernel_rfl) (np_then (np_then (np_then np_body))) ⟨f5.now, trivial⟩ (fun W_ hS => trivial) fun a hk => ?_
          refine xd_done (by kernel_rfl) ?_
          refine then_n ?_
          exact ⟨(fun b_ => (fun l_ => if l_ = 23 then 15 else if l_ = 24 then 16 else l_) (o194 b_)), A187, c188, (by exact Kn.pick (ks := [4, 5]) hk rfl), (hs.relab0 (fun l_ => if l_ = 23 then 15 else if l_ = 24 then 16 else l_) rfl), (f10.relab (fun l_ => if l_ = 23 then 15 else if l_ = 24 then 16 else l_) rfl), (f189.relab (fun l_ => if l_ = 23 then 15 else if l_ = 24 then 16 else l_) rfl), (fg3.relab (fun l_ => if l_ = 23 then 15 else if l_ = 24 then 16 else l_) rfl), hc190, H⟩
        have N204 : ∀ (a_ : Act) (w_ : World), (∃ o202 : Nat → Nat, Kn 48 a_ [(4, .pointer (some ⟨bx9, 0, none⟩)), (45, .int .i32 (bits .or .i32 (IntKind.wrap .i32 (p0.Rune * 2 ^ min (Int.toNat 6) 32)) (bits .and .i32 (IntKind.wrap .i32 p1) 63)))] ∧ St [] w (fun _ => 0) w_ o202 ∧ Ft (Bx bx9 45 [.int .u8 0, .int .i32 0, .int .i64 0]) w_ o202 26 ∧ Ft (Bx bx4 45 [.int .u8 p0.Lead, .int .i32 (bits .or .i32 (IntKind.wrap .i32 (p0.Rune * 2 ^ min (Int.toNat 6) 32)) (bits .and .i32 (IntKind.wrap .i32 p1) 63)), .int .i64 (IntKind.wrap .i64 (p0.Need - 1))]) w_ o202 25 ∧ Ft (RdC ET192 (some ⟨3, 0, none⟩) glob3) w_ o202 0) → G 2 #[true, true, true, false, true, false] a_ w_ := by
          rintro a w203 ⟨o202, hk, hs, f10, f5, fg3⟩
          refine xd_of hG ?_
          refine xd_op hk (i := 3) (by kernel_rfl) rfl rfl ?_
          refine op_slice (o := o202) tab hk (vs := [.int .i32 (bits .or .i32 (IntKind.wrap .i32 (p0.Rune * 2 ^ min (Int.toNat 6) 32)) (bits .and .i32 (IntKind.wrap .i32 p1) 63))]) (cs := [.int .i32 (bits .or .i32 (IntKind.wrap .i32 (p0.Rune * 2 ^ min (Int.toNat 6) 32)) (bits .and .i32 (IntKind.wrap .i32 p1) 63))]) rfl rfl rfl rfl rfl rfl rfl rfl rfl 27 fun bx208 w205 o206 st207 f209 => ?_
          replace f10 := f10.st st207 (by decide)
          replace f5 := f5.st st207 (by decide)
          replace fg3 := fg3.st st207 (by decide)
          replace hs := hs.loc0 st207 (by decide)
          have f210 : Ft (Own (encInt .i32) 21 (.slice (some ⟨bx208, 0, none⟩) (([(bits .or .i32 (IntKind.wrap .i32 (p0.Rune * 2 ^ min (Int.toNat 6) 32)) (bits .and .i32 (IntKind.wrap .i32 p1) 63))] : List Int)).length 1) ([(bits .or .i32 (IntKind.wrap .i32 (p0.Rune * 2 ^ min (Int.toNat 6) 32)) (bits .and .i32 (IntKind.wrap .i32 p1) 63))] : List Int)) w205 o206 27 := f209.imp fun _ h_ => Own.of_box h_ rfl (by simp)
          have hk := hk.put 46 (.slice (some ⟨bx208, 0, none⟩) (([(bits .or .i32 (IntKind.wrap .i32 (p0.Rune * 2 ^ min (Int.toNat 6) 32)) (bits .and .i32 (IntKind.wrap .i32 p1) 63))] : List Int)).length 1) rfl
          refine ⟨.inr ⟨f5.now, trivial⟩, ?_⟩
          refine xd_take tab hk (k := 0) (is := [5]) (ls' := #[true, true, true, true, true, true]) (lv := []) (ks := [4, 5]) (e' := [(4, .pointer (some ⟨bx9, 0, none⟩)), (5, .slice (some ⟨bx208, 0, none⟩) (([(bits .or .i32 (IntKind.wrap .i32 (p0.Rune * 2 ^ min (Int.toNat 6) 32)) (bits .and .i32 (IntKind.wrap .i32 p1) 63))] : List Int)).length 1)]) (by kernel_rfl) rfl rfl (by kernel_rfl) (np_then (np_then (np_then np_body))) ⟨f5.now, trivial⟩ (fun W_ hS => trivial) fun a hk => ?_
          refine xd_done (by kernel_rfl) ?_
          refine then_n ?_
          exact ⟨(fun b_ => (fun l_ => if l_ = 26 then 15 else if l_ = 27 then 16 else l_) (o206 b_)), (some ⟨bx208, 0, none⟩), 1, (by exact Kn.pick (ks := [4, 5]) hk rfl), (hs.relab0 (fun l_ => if l_ = 26 then 15 else if l_ = 27 then 16 else l_) rfl), (f10.relab (fun l_ => if l_ = 26 then 15 else if l_ = 27 then 16 else l_) rfl), (f210.relab (fun l_ => if l_ = 26 then 15 else if l_ = 27 then 16 else l_) rfl), (fg3.relab (fun l_ => if l_ = 26 then 15 else if l_ = 27 then 16 else l_) rfl), (Nat.le_refl _), H⟩
        refine xd_of hG ?_
        refine xd_take tab hk (k := 3) (is := [0, 1, 2]) (ls' := #[true, true, true, false, false, false]) (lv := [.int .i32 (bits .or .i32 (IntKind.wrap .i32 (p0.Rune * 2 ^ min (Int.toNat 6) 32)) (bits .and .i32 (IntKind.wrap .i32 p1) 63))]) (ks := [4, 43, 45]) (e' := [(4, .pointer (some ⟨bx9, 0, none⟩)), (43, .agg #[.int .u8 0, .int .i32 0, .int .i64 0]), (45, .int .i32 (bits .or .i32 (IntKind.wrap .i32 (p0.Rune * 2 ^ min (Int.toNat 6) 32)) (bits .and .i32 (IntKind.wrap .i32 p1) 63)))]) (by kernel_rfl) rfl rfl (by kernel_rfl) (np_then (np_then (np_then np_body))) ⟨f5.now, trivial⟩ (fun W_ hS => ⟨(load1 tab rfl ((Bx.cell hS.1 1).trans rfl)), trivial⟩) fun a hk => ?_
        refine xd_each [3, 4] (by kernel_rfl) rfl ⟨?_, ?_, trivial⟩
        · refine xd_one hk rfl rfl ?_
          refine op_slice (o := o25) tab hk (vs := [.int .i32 (bits .or .i32 (IntKind.wrap .i32 (p0.Rune * 2 ^ min (Int.toNat 6) 32)) (bits .and .i32 (IntKind.wrap .i32 p1) 63))]) (cs := [.int .i32 (bits .or .i32 (IntKind.wrap .i32 (p0.Rune * 2 ^ min (Int.toNat 6) 32)) (bits .and .i32 (IntKind.wrap .i32 p1) 63))]) rfl rfl rfl rfl rfl rfl rfl rfl rfl 21 fun bx174 w171 o172 st173 f175 => ?_
          replace f10 := f10.st st173 (by decide)
          replace f5 := f5.st st173 (by decide)
          replace fg3 := fg3.st st173 (by decide)
          replace hs := hs.loc0 st173 (by decide)
          have f176 : Ft (Own (encInt .i32) 21 (.slice (some ⟨bx174, 0, none⟩) (([(bits .or .i32 (IntKind.wrap .i32 (p0.Rune * 2 ^ min (Int.toNat 6) 32)) (bits .and .i32 (IntKind.wrap .i32 p1) 63))] : List Int)).length 1) ([(bits .or .i32 (IntKind.wrap .i32 (p0.Rune * 2 ^ min (Int.toNat 6) 32)) (bits .and .i32 (IntKind.wrap .i32 p1) 63))] : List Int)) w171 o172 21 := f175.imp fun _ h_ => Own.of_box h_ rfl (by simp)
          have hk := hk.put 46 (.slice (some ⟨bx174, 0, none⟩) (([(bits .or .i32 (IntKind.wrap .i32 (p0.Rune * 2 ^ min (Int.toNat 6) 32)) (bits .and .i32 (IntKind.wrap .i32 p1) 63))] : List Int)).length 1) rfl
          refine ⟨.inr ⟨f5.now, trivial⟩, ?_⟩
          exact xd_to hG rfl (N192 _ _ ⟨(fun b_ => (fun l_ => if l_ = 1 then 22 else if l_ = 2 then 23 else if l_ = 21 then 24 else l_) (o172 b_)), (some ⟨bx174, 0, none⟩), 1, (by exact Kn.pick (ks := [4, 43, 46]) hk rfl), (hs.relab0 (fun l_ => if l_ = 1 then 22 else if l_ = 2 then 23 else if l_ = 21 then 24 else l_) rfl), (f10.relab (fun l_ => if l_ = 1 then 22 else if l_ = 2 then 23 else if l_ = 21 then 24 else l_) rfl), (f176.relab (fun l_ => if l_ = 1 then 22 else if l_ = 2 then 23 else if l_ = 21 then 24 else l_) rfl), (f5.relab (fun l_ => if l_ = 1 then 22 else if l_ = 2 then 23 else if l_ = 21 then 24 else l_) rfl), (fg3.relab (fun l_ => if l_ = 1 then 22 else if l_ = 2 then 23 else if l_ = 21 then 24 else l_) rfl), (Nat.le_refl _)⟩)
        · refine xd_one hk rfl rfl ?_
          refine op_store tab hk (t := 45) (v := .agg #[.int .u8 0, .int .i32 0, .int .i64 0]) (b := bx9) (k := 0) (cs' := [.int .u8 0, .int .i32 0, .int .i64 0]) rfl rfl rfl rfl rfl rfl f10 rfl rfl fun w196 o197 st198 f10_ => ?_
          replace f5 := f5.st st198 (by decide)
          replace fg3 := fg3.st st198 (by decide)
          replace hs := hs.loc0 st198 (by decide)
          replace f10 := f10_
          refine ⟨.inr ⟨f5.now, trivial⟩, ?_⟩
          exact xd_to hG rfl (N204 _ _ ⟨(fun b_ => (fun l_ => if l_ = 1 then 25 else if l_ = 2 then 26 else l_) (o197 b_)), (by exact Kn.pick (ks := [4, 45]) hk rfl), (hs.relab0 (fun l_ => if l_ = 1 then 25 else if l_ = 2 then 26 else l_) rfl), (f10.relab (fun l_ => if l_ = 1 then 25 else if l_ = 2 then 26 else l_) rfl), (f5.relab (fun l_ => if l_ = 1 then 25 else if l_ = 2 then 26 else l_) rfl), (fg3.relab (fun l_ => if l_ = 1 then 25 else if l_ = 2 then 26 else l_) rfl)⟩)
    · rw [b20] at hk H
      replace H := bifT H
      refine x_if hk (b := true) rfl ?_
      refine (show Code.wpIn _ _ _ _ _ _ _ from ?_)
      refine x_seq ?_
      refine wpIn_region_lit ?_
      refine x_run tab hk (k := 1) (lv := []) (ks := [4, 20]) (e' := [(4, .pointer (some ⟨bx9, 0, none⟩)), (20, .int .u8 p1)]) rfl trivial fun a hk => ?_
      refine x_op hk rfl ?_
      obtain ⟨t214, hc215, H⟩ := bindS H
      refine op_call hk ent_102 (vs := [.int .u8 p1]) rfl (glyph_begin_calls K p1 _ o18 0 fg3 28  _ hc215) ?_
      rintro _ w216 ⟨o217, A219, c220, rfl, st218, f221, hc222⟩
      replace f10 := f10.st st218 (by decide)
      replace fg3 := fg3.st st218 (by decide)
      replace hs := hs.loc0 st218 (by decide)
      have hk := hk.put 21 (.tuple #[.agg #[.int .u8 t214.1.Lead, .int .i32 t214.1.Rune, .int .i64 t214.1.Need], .slice A219 (t214.2).length c220]) rfl
      refine x_run tab hk (k := 3) (lv := []) (ks := [4, 22, 23]) (e' := [(4, .pointer (some ⟨bx9, 0, none⟩)), (22, .agg #[.int .u8 t214.1.Lead, .int .i32 t214.1.Rune, .int .i64 t214.1.Need]), (23, .slice A219 (t214.2).length c220)]) rfl trivial fun a hk => ?_
      refine x_op hk rfl ?_
      refine op_alloc (o := o217) tab (t := 45) (cs := [.int .u8 0, .int .i32 0, .int .i64 0]) rfl rfl 29 fun bx226 w223 o224 st225 f227 => ?_
      replace f10 := f10.st st225 (by decide)
      replace f221 := f221.st st225 (by decide)
      replace fg3 := fg3.st st225 (by decide)
      replace hs := hs.loc0 st225 (by decide)
      have hk := hk.put 6 (.pointer (some ⟨bx226, 0, none⟩)) rfl
      refine x_op hk rfl ?_
      refine op_store tab hk (t := 45) (v := .agg #[.int .u8 t214.1.Lead, .int .i32 t214.1.Rune, .int .i64 t214.1.Need]) (b := bx226) (k := 0) (cs' := [.int .u8 t214.1.Lead, .int .i32 t214.1.Rune, .int .i64 t214.1.Need]) rfl rfl rfl rfl rfl rfl f227 rfl rfl fun w228 o229 st230 f227_ => ?_
      replace f10 := f10.st st230 (by decide)
      replace f221 := f221.st st230 (by decide)
      replace fg3 := fg3.st st230 (by decide)
      replace hs := hs.loc0 st230 (by decide)
      replace f227 := f227_
      refine x_run tab hk (k := 1) (lv := []) (ks := [4, 6, 7]) (e' := [(4, .pointer (some ⟨bx9, 0, none⟩)), (6, .pointer (some ⟨bx226, 0, none⟩)), (7, .slice A219 (t214.2).length c220)]) rfl trivial fun a hk => ?_
      refine wpListIn_nil ?_
      refine then_n ?_
      refine x_seq ?_
      refine xd_begin (o := o229) (fun W_ => (Bx bx226 45 [.int .u8 t214.1.Lead, .int .i32 t214.1.Rune, .int .i64 t214.1.Need]) W_ ∧ True) mixed rfl rfl fun w265 st266 => ?_
      replace f10 := f10.st st266 (by decide)
      replace f221 := f221.st st266 (by decide)
      replace f227 := f227.st st266 (by decide)
      replace fg3 := fg3.st st266 (by decide)
      replace hs := hs.loc0 st266 (by decide)
      refine xd_take tab hk (k := 4) (is := [0, 2]) (ls' := #[true, false, true, false, false, false]) (lv := [.agg #[.int .u8 t214.1.Lead, .int .i32 t214.1.Rune, .int .i64 t214.1.Need]]) (ks := [4, 24, 26]) (e' := [(4, .pointer (some ⟨bx9, 0, none⟩)), (24, .agg #[.int .u8 t214.1.Lead, .int .i32 t214.1.Rune, .int .i64 t214.1.Need]), (26, .slice A219 (t214.2).length c220)]) (by kernel_rfl) rfl rfl (by kernel_rfl) (np_then (np_then np_body)) ⟨f227.now, trivial⟩ (fun W_ hS => ⟨(load_box tab rfl rfl hS.1 (k := 0) rfl rfl), trivial⟩) fun a hk => ?_
      refine xd_op hk (i := 1) (by kernel_rfl) rfl rfl ?_
      refine op_slice (o := o229) tab hk (vs := [.int .i32 65533]) (cs := [.int .i32 65533]) rfl rfl rfl rfl rfl rfl rfl rfl rfl 32 fun bx270 w267 o268 st269 f271 => ?_
      replace f10 := f10.st st269 (by decide)
      replace f221 := f221.st st269 (by decide)
      replace f227 := f227.st st269 (by decide)
      replace fg3 := fg3.st st269 (by decide)
      replace hs := hs.loc0 st269 (by decide)
      have f272 : Ft (Own (encInt .i32) 21 (.slice (some ⟨bx270, 0, none⟩) (([65533] : List Int)).length 1) ([65533] : List Int)) w267 o268 32 := f271.imp fun _ h_ => Own.of_box h_ rfl (by simp)
      have hk := hk.put 25 (.slice (some ⟨bx270, 0, none⟩) (([65533] : List Int)).length 1) rfl
      refine ⟨.inr ⟨f227.now, trivial⟩, ?_⟩
      refine xd_op hk (i := 3) (by kernel_rfl) rfl rfl ?_
      obtain ⟨q276, H⟩ := ifS H
      refine op_append (o := o268) (E := (encInt .i32)) (xs := ([65533] : List Int)) (ys := t214.2) tab hk rfl rfl rfl rfl rfl rfl rfl f272 (Own.rd f221.now) q276 fun A277 c278 w273 o274 st275 f279 hc280 => ?_
      replace f10 := f10.st st275 (by decide)
      replace f221 := f221.st st275 (by decide)
      replace f227 := f227.st st275 (by decide)
      replace fg3 := fg3.st st275 (by decide)
      replace hs := hs.loc0 st275 (by decide)
      have hk := hk.put 27 (.slice A277 ((([65533] : List Int) ++ t214.2)).length c278) rfl
      refine ⟨.inr ⟨f227.now, trivial⟩, ?_⟩
      refine xd_op hk (i := 4) (by kernel_rfl) rfl rfl ?_
      refine op_store tab hk (t := 45) (v := .agg #[.int .u8 t214.1.Lead, .int .i32 t214.1.Rune, .int .i64 t214.1.Need]) (b := bx9) (k := 0) (cs' := [.int .u8 t214.1.Lead, .int .i32 t214.1.Rune, .int .i64 t214.1.Need]) rfl rfl rfl rfl rfl rfl f10 rfl rfl fun w281 o282 st283 f10_ => ?_
      replace f221 := f221.st st283 (by decide)
      replace f227 := f227.st st283 (by decide)
      replace f279 := f279.st st283 (by decide)
      replace fg3 := fg3.st st283 (by decide)
      replace hs := hs.loc0 st283 (by decide)
      replace f10 := f10_
      refine ⟨.inr ⟨f227.now, trivial⟩, ?_⟩
      refine xd_take tab hk (k := 0) (is := [5]) (ls' := #[true, true, true, true, true, true]) (lv := []) (ks := [4, 5]) (e' := [(4, .pointer (some ⟨bx9, 0, none⟩)), (5, .slice A277 ((([65533] : List Int) ++ t214.2)).length c278)]) (by kernel_rfl) rfl rfl (by kernel_rfl) (np_then (np_then np_body)) ⟨f227.now, trivial⟩ (fun W_ hS => trivial) fun a hk => ?_
      refine xd_done (by kernel_rfl) ?_
      refine then_n ?_
      refine wpIn_ret ?_
      refine then_r ?_
      obtain rfl := Option.some.inj H
      exact x_retG hk (rs := [.cell 4 45, .tmp 5]) (vs := [.agg #[.int .u8 t214.1.Lead, .int .i32 t214.1.Rune, .int .i64 t214.1.Need], .slice A277 ((([65533] : List Int) ++ t214.2)).length c278]) rfl ⟨⟨_, rfl, load_box tab rfl rfl f10.now (k := 0) rfl rfl⟩, rfl, trivial⟩ ⟨fun b_ => if b_ < w.heap.size then o b_ else (fun _ => R0) (o282 b_), A277, c278, rfl, hs.close0 o (fun _ => R0), hs.close_ft (o := o) (ρ := fun _ => R0) f279 (by decide) rfl, hc280⟩
  · rw [b11] at hk H
    replace H := bifT H
    refine x_if hk (b := true) rfl ?_
    refine (show Code.wpIn _ _ _ _ _ _ _ from ?_)
    refine x_seq ?_
    refine wpIn_region_lit ?_
    refine x_run tab hk (k := 1) (lv := []) (ks := [4, 11]) (e' := [(4, .pointer (some ⟨bx9, 0, none⟩)), (11, .int .u8 p1)]) rfl trivial fun a hk => ?_
    refine x_op hk rfl ?_
    obtain ⟨t287, hc288, H⟩ := bindS H
    refine op_call hk ent_102 (vs := [.int .u8 p1]) rfl (glyph_begin_calls K p1 _ o7 0 fg3 33  _ hc288) ?_
    rintro _ w289 ⟨o290, A292, c293, rfl, st291, f294, hc295⟩
    replace f10 := f10.st st291 (by decide)
    replace fg3 := fg3.st st291 (by decide)
    replace hs := hs.loc0 st291 (by decide)
    have hk := hk.put 12 (.tuple #[.agg #[.int .u8 t287.1.Lead, .int .i32 t287.1.Rune, .int .i64 t287.1.Need], .slice A292 (t287.2).length c293]) rfl
    refine x_run tab hk (k := 2) (lv := []) (ks := [4, 13, 14]) (e' := [(4, .pointer (some ⟨bx9, 0, none⟩)), (13, .agg #[.int .u8 t287.1.Lead, .int .i32 t287.1.Rune, .int .i64 t287.1.Need]), (14, .slice A292 (t287.2).length c293)]) rfl trivial fun a hk => ?_
    refine x_op hk rfl ?_
    refine op_store tab hk (t := 45) (v := .agg #[.int .u8 t287.1.Lead, .int .i32 t287.1.Rune, .int .i64 t287.1.Need]) (b := bx9) (k := 0) (cs' := [.int .u8 t287.1.Lead, .int .i32 t287.1.Rune, .int .i64 t287.1.Need]) rfl rfl rfl rfl rfl rfl f10 rfl rfl fun w296 o297 st298 f10_ => ?_
    replace f294 := f294.st st298 (by decide)
    replace fg3 := fg3.st st298 (by decide)
    replace hs := hs.loc0 st298 (by decide)
    replace f10 := f10_
    refine x_run tab hk (k := 1) (lv := []) (ks := [4, 5]) (e' := [(4, .pointer (some ⟨bx9, 0, none⟩)), (5, .slice A292 (t287.2).length c293)]) rfl trivial fun a hk => ?_
    refine wpListIn_nil ?_
    refine then_n ?_
    refine wpIn_ret ?_
    refine then_r ?_
    obtain rfl := Option.some.inj H
    exact x_retG hk (rs := [.cell 4 45, .tmp 5]) (vs := [.agg #[.int .u8 t287.1.Lead, .int .i32 t287.1.Rune, .int .i64 t287.1.Need], .slice A292 (t287.2).length c293]) rfl ⟨⟨_, rfl, load_box tab rfl rfl f10.now (k := 0) rfl rfl⟩, rfl, trivial⟩ ⟨fun b_ => if b_ < w.heap.size then o b_ else (fun _ => R0) (o297 b_), A292, c293, rfl, hs.close0 o (fun _ => R0), hs.close_ft (o := o) (ρ := fun _ => R0) f294 (by decide) rfl, hc295⟩

/-! (tidewrack/glyph.Decoder).Run -/
theorem glyph_Decoder_Run_calls (K : Nat) (p0 : T44) (p1 : ByteArray) (w : World) (o : Nat → Nat) (Lg3 : Nat) (hg3 : Ft (RdC ET192 (some ⟨3, 0, none⟩) glob3) w o Lg3)   (R0 : Nat) (r : T44 × (List Int)) (H : glyph_Decoder_Run K p0 p1 = some r) :
    Calls Tryd.prog 37 #[.agg #[.int .u8 p0.Lead, .int .i32 p0.Rune, .int .i64 p0.Need], .string p1] w (Ret fun v_ w' => ∃ o' : Nat → Nat, ∃ A0 : Option Addr, ∃ c0 : Nat, v_ = .tuple #[.agg #[.int .u8 r.1.Lead, .int .i32 r.1.Rune, .int .i64 r.1.Need], .slice A0 (r.2).length c0] ∧ St [] w o w' o' ∧ Ft (Own (encInt .i32) 21 (.slice A0 (r.2).length c0) (r.2)) w' o' R0 ∧ (r.2).length ≤ c0) := by
  refine x_enter (vs := [.agg #[.int .u8 p0.Lead, .int .i32 p0.Rune, .int .i64 p0.Need], .string p1]) Tryd.func37 rfl rfl rfl fun a hk => ?_
  obtain ⟨o0, hs, h0⟩ := St.start w o
  have fg3 := h0 _ _ hg3
  clear h0
  rw [glyph_Decoder_Run] at H
  refine x_seq ?_
  refine wpIn_region_lit ?_
  refine x_op hk rfl ?_
  refine op_box (o := o0) (t := 45) (v := .agg #[.int .u8 p0.Lead, .int .i32 p0.Rune, .int .i64 p0.Need]) (cs := [.int .u8 p0.Lead, .int .i32 p0.Rune, .int .i64 p0.Need]) hk rfl rfl 1 fun bx4 w1 o2 st3 f5 => ?_
  replace fg3 := fg3.st st3 (by decide)
  replace hs := hs.loc0 st3 (by decide)
  have hk := hk.put 2 (.pointer (some ⟨bx4, 0, none⟩)) rfl
  refine x_op hk rfl ?_
  refine op_alloc (o := o2) tab (t := 45) (cs := [.int .u8 0, .int .i32 0, .int .i64 0]) rfl rfl 2 fun bx9 w6 o7 st8 f10 => ?_
  replace f5 := f5.st st8 (by decide)
  replace fg3 := fg3.st st8 (by decide)
  replace hs := hs.loc0 st8 (by decide)
  have hk := hk.put 4 (.pointer (some ⟨bx9, 0, none⟩)) rfl
  refine x_run tab hk (k := 1) (lv := []) (ks := [1, 2, 4]) (e' := [(1, .string p1), (2, .pointer (some ⟨bx4, 0, none⟩)), (4, .pointer (some ⟨bx9, 0, none⟩))]) rfl trivial fun a hk => ?_
  refine wpListIn_nil ?_
  refine then_n ?_
  refine x_seq ?_
  refine wpIn_region_lit ?_
  refine x_run tab hk (k := 1) (lv := []) (ks := [1, 2, 4, 6]) (e' := [(1, .string p1), (2, .pointer (some ⟨bx4, 0, none⟩)), (4, .pointer (some ⟨bx9, 0, none⟩)), (6, .slice none 0 0)]) rfl trivial fun a hk => ?_
  refine wpListIn_nil ?_
  refine then_n ?_
  refine x_mid (fun a_ w_ => ∃ o214 : Nat → Nat, ∃ x215 : T44, ∃ A216 : Option Addr, ∃ c217 : Nat, ∃ l218 : List Int, Kn 28 a_ [(2, .pointer (some ⟨bx4, 0, none⟩)), (4, .pointer (some ⟨bx9, 0, none⟩)), (6, .slice A216 (l218).length c217)] ∧ St [] w (fun _ => 0) w_ o214 ∧ Ft (Bx bx9 45 [.int .u8 0, .int .i32 0, .int .i64 0]) w_ o214 20 ∧ Ft (Own (encInt .i32) 21 (.slice A216 (l218).length c217) l218) w_ o214 21 ∧ Ft (Bx bx4 45 [.int .u8 x215.Lead, .int .i32 x215.Rune, .int .i64 x215.Need]) w_ o214 19 ∧ Ft (RdC ET192 (some ⟨3, 0, none⟩) glob3) w_ o214 0 ∧ (l218).length ≤ c217 ∧ glyph_Decoder_Run_j1 x215 l218 = some r) ?_ ?_
  rotate_left
  · rintro a w221 ⟨o214, x215, A216, c217, l218, hk, hs, f10, f219, f5, fg3, hc220, H⟩
    rw [glyph_Decoder_Run_j1] at H
    refine x_seq ?_
    refine wpIn_region_lit ?_
    refine x_run tab hk (k := 2) (lv := [.agg #[.int .u8 x215.Lead, .int .i32 x215.Rune, .int .i64 x215.Need]]) (ks := [4, 26, 27]) (e' := [(4, .pointer (some ⟨bx9, 0, none⟩)), (26, .agg #[.int .u8 x215.Lead, .int .i32 x215.Rune, .int .i64 x215.Need]), (27, .slice A216 (l218).length c217)]) rfl ⟨(load_box tab rfl rfl f5.now (k := 0) rfl rfl), trivial⟩ fun a hk => ?_
    refine x_op hk rfl ?_
    refine op_store tab hk (t := 45) (v := .agg #[.int .u8 x215.Lead, .int .i32 x215.Rune, .int .i64 x215.Need]) (b := bx9) (k := 0) (cs' := [.int .u8 x215.Lead, .int .i32 x215.Rune, .int .i64 x215.Need]) rfl rfl rfl rfl rfl rfl f10 rfl rfl fun w222 o223 st224 f10_ => ?_
    replace f219 := f219.st st224 (by decide)
    replace fg3 := fg3.st st224 (by decide)
    replace hs := hs.loc0 st224 (by decide)
    replace f10 := f10_
    refine x_run tab hk (k := 1) (lv := []) (ks := [4, 5]) (e' := [(4, .pointer (some ⟨bx9, 0, none⟩)), (5, .slice A216 (l218).length c217)]) rfl trivial fun a hk => ?_
    refine wpListIn_nil ?_
    refine then_n ?_
    refine wpIn_ret ?_
    obtain rfl := Option.some.inj H
    exact x_retG hk (rs := [.cell 4 45, .tmp 5]) (vs := [.agg #[.int .u8 x215.Lead, .int .i32 x215.Rune, .int .i64 x215.Need], .slice A216 (l218).length c217]) rfl ⟨⟨_, rfl, load_box tab rfl rfl f10.now (k := 0) rfl rfl⟩, rfl, trivial⟩ ⟨fun b_ => if b_ < w.heap.size then o b_ else (fun _ => R0) (o223 b_), A216, c217, rfl, hs.close0 o (fun _ => R0), hs.close_ft (o := o) (ρ := fun _ => R0) f219 (by decide) rfl, hc220⟩
  refine x_seq ?_
  refine wpIn_region_lit ?_
  refine x_run tab hk (k := 3) (lv := []) (ks := [1, 2, 4, 6, 10, 11]) (e' := [(1, .string p1), (2, .pointer (some ⟨bx4, 0, none⟩)), (4, .pointer (some ⟨bx9, 0, none⟩)), (6, .slice none 0 0), (10, .int .i64 ((p1).size : Int)), (11, .int .i64 0)]) rfl trivial fun a hk => ?_
  refine wpListIn_nil ?_
  refine then_n ?_
  refine wpIn_block ?_
  refine x_loop (fun j_ a_ w_ => ∃ o287 : Nat → Nat, ∃ x288 : T44, ∃ A289 : Option Addr, ∃ c290 : Nat, ∃ l291 : List Int, ∃ x294 : Int, Kn 28 a_ [(1, .string p1), (2, .pointer (some ⟨bx4, 0, none⟩)), (4, .pointer (some ⟨bx9, 0, none⟩)), (6, .slice A289 (l291).length c290), (10, .int .i64 ((p1).size : Int)), (11, .int .i64 x294)] ∧ St [] w (fun _ => 0) w_ o287 ∧ Ft (Bx bx9 45 [.int .u8 0, .int .i32 0, .int .i64 0]) w_ o287 29 ∧ Ft (Own (encInt .i32) 21 (.slice A289 (l291).length c290) l291) w_ o287 30 ∧ Ft (Bx bx4 45 [.int .u8 x288.Lead, .int .i32 x288.Rune, .int .i64 x288.Need]) w_ o287 28 ∧ Ft (RdC ET192 (some ⟨3, 0, none⟩) glob3) w_ o287 0 ∧ (l291).length ≤ c290 ∧ glyph_Decoder_Run_l2 K p1 j_ x288 l291 x294 = some r) (k := K) ⟨(fun b_ => (fun l_ => if l_ = 1 then 28 else if l_ = 2 then 29 else l_) (o7 b_)), p0, none, 0, ([] : List Int), 0, (by exact Kn.pick (ks := [1, 2, 4, 6, 10, 11]) hk rfl), (hs.relab0 (fun l_ => if l_ = 1 then 28 else if l_ = 2 then 29 else l_) rfl), (f10.relab (fun l_ => if l_ = 1 then 28 else if l_ = 2 then 29 else l_) rfl), (Ft.of_all (fun _ => Own.nil _ _ _) _ _ _), (f5.relab (fun l_ => if l_ = 1 then 28 else if l_ = 2 then 29 else l_) rfl), (fg3.relab (fun l_ => if l_ = 1 then 28 else if l_ = 2 then 29 else l_) rfl), (by simp), H⟩ (by rintro _ _ ⟨_, _, _, _, _, _, _, _, _, _, _, _, _, H_⟩; exact absurd (show (none : Option (T44 × (List Int))) = some r from H_) (by simp)) ?_
  rintro k355 a w354 ⟨o287, x288, A289, c290, l291, x294, hk, hs, f10, f292, f5, fg3, hc293, H⟩
  rw [glyph_Decoder_Run_l2] at H
  obtain ⟨lp356, hlp357⟩ : ∃ lp_, lp_ = glyph_Decoder_Run_l2 K p1 k355 := ⟨_, rfl⟩
  rw [← hlp357] at H
  refine x_seq ?_
  refine wpIn_region_lit ?_
  refine x_run tab hk (k := 1) (lv := []) (ks := [1, 2, 4, 6, 10, 11, 12]) (e' := [(1, .string p1), (2, .pointer (some ⟨bx4, 0, none⟩)), (4, .pointer (some ⟨bx9, 0, none⟩)), (6, .slice A289 (l291).length c290), (10, .int .i64 ((p1).size : Int)), (11, .int .i64 x294), (12, .bool (decide (x294 < ((p1).size : Int))))]) rfl trivial fun a hk => ?_
  refine wpListIn_nil ?_
  refine then_n ?_
  refine x_seq ?_
  cases b358 : (decide (x294 < ((p1).size : Int)))
  · rw [b358] at hk H
    replace H := bifF H
    refine x_if hk (b := false) rfl ?_
    refine (show Code.wpIn _ _ _ _ _ _ _ from ?_)
    refine wpIn_exit ?_
    refine then_x ?_
    refine then_x ?_
    refine blk_x ?_
    refine then_n ?_
    exact ⟨(fun b_ => (fun l_ => if l_ = 28 then 19 else if l_ = 29 then 20 else if l_ = 30 then 21 else l_) (o287 b_)), x288, A289, c290, l291, (by exact Kn.pick (ks := [2, 4, 6]) hk rfl), (hs.relab0 (fun l_ => if l_ = 28 then 19 else if l_ = 29 then 20 else if l_ = 30 then 21 else l_) rfl), (f10.relab (fun l_ => if l_ = 28 then 19 else if l_ = 29 then 20 else if l_ = 30 then 21 else l_) rfl), (f292.relab (fun l_ => if l_ = 28 then 19 else if l_ = 29 then 20 else if l_ = 30 then 21 else l_) rfl), (f5.relab (fun l_ => if l_ = 28 then 19 else if l_ = 29 then 20 else if l_ = 30 then 21 else l_) rfl), (fg3.relab (fun l_ => if l_ = 28 then 19 else if l_ = 29 then 20 else if l_ = 30 then 21 else l_) rfl), hc293, H⟩
  · rw [b358] at hk H
    replace H := bifT H
    refine x_if hk (b := true) rfl ?_
    refine (show Code.wpIn _ _ _ _ _ _ _ from ?_)
    refine wpIn_skip ?_
    refine then_n ?_
    refine x_seq ?_
    refine wpIn_block ?_
    refine x_seq ?_
    refine wpIn_region_lit ?_
    refine x_run tab hk (k := 2) (lv := []) (ks := [1, 2, 4, 6, 7, 10, 11]) (e' := [(1, .string p1), (2, .pointer (some ⟨bx4, 0, none⟩)), (4, .pointer (some ⟨bx9, 0, none⟩)), (6, .slice A289 (l291).length c290), (7, .int .i64 x294), (10, .int .i64 ((p1).size : Int)), (11, .int .i64 x294)]) rfl trivial fun a hk => ?_
    refine wpListIn_nil ?_
    refine then_n ?_
    refine x_seq ?_
    refine wpIn_region_lit ?_
    refine x_run tab hk (k := 1) (lv := []) (ks := [1, 2, 4, 6, 7, 10, 11]) (e' := [(1, .string p1), (2, .pointer (some ⟨bx4, 0, none⟩)), (4, .pointer (some ⟨bx9, 0, none⟩)), (6, .slice A289 (l291).length c290), (7, .int .i64 x294), (10, .int .i64 ((p1).size : Int)), (11, .int .i64 x294)]) rfl trivial fun a hk => ?_
    refine wpListIn_nil ?_
    refine then_n ?_
    refine x_seq ?_
    refine xd_begin (o := o287) (fun W_ => True) mixed rfl rfl fun w391 st392 => ?_
    replace f10 := f10.st st392 (by decide)
    replace f292 := f292.st st392 (by decide)
    replace f5 := f5.st st392 (by decide)
    replace fg3 := fg3.st st392 (by decide)
    replace hs := hs.loc0 st392 (by decide)
    obtain ⟨q393, H⟩ := ifS H
    refine xd_take tab hk (k := 7) (is := [1, 2, 3]) (ls' := #[false, true, true, true, false, false, false, false, false, false]) (lv := []) (ks := [1, 2, 4, 6, 10, 11, 18]) (e' := [(1, .string p1), (2, .pointer (some ⟨bx4, 0, none⟩)), (4, .pointer (some ⟨bx9, 0, none⟩)), (6, .slice A289 (l291).length c290), (10, .int .i64 ((p1).size : Int)), (11, .int .i64 x294), (18, .int .u8 (bt p1 x294))]) (by kernel_rfl) rfl rfl (by kernel_rfl) (np_then (np_blk (np_then (np_then (np_blk (np_then np_body)))))) trivial (fun W_ hS => ⟨q393, trivial⟩) fun a hk => ?_
    refine xd_op hk (i := 0) (by kernel_rfl) rfl rfl ?_
    refine op_quiet tab hk (lv := [.agg #[.int .u8 x288.Lead, .int .i32 x288.Rune, .int .i64 x288.Need]]) (v := .agg #[.int .u8 x288.Lead, .int .i32 x288.Rune, .int .i64 x288.Need]) rfl ⟨(load_box tab rfl rfl f5.now (k := 0) rfl rfl), trivial⟩ ?_
    have hk := hk.put 15 (.agg #[.int .u8 x288.Lead, .int .i32 x288.Rune, .int .i64 x288.Need]) rfl
    refine ⟨.inr trivial, ?_⟩
    refine xd_op hk (i := 4) (by kernel_rfl) rfl rfl ?_
    obtain ⟨t397, hc398, H⟩ := bindS H
    refine op_call hk ent_72 (vs := [.agg #[.int .u8 x288.Lead, .int .i32 x288.Rune, .int .i64 x288.Need], .int .u8 (bt p1 x294)]) rfl (glyph_Decoder_Next_calls K x288 (bt p1 x294) _ o287 0 fg3 36  _ hc398) ?_
    rintro _ w399 ⟨o400, A402, c403, rfl, st401, f404, hc405⟩
    replace f10 := f10.st st401 (by decide)
    replace f292 := f292.st st401 (by decide)
    replace f5 := f5.st st401 (by decide)
    replace fg3 := fg3.st st401 (by decide)
    replace hs := hs.loc0 st401 (by decide)
    have hk := hk.put 19 (.tuple #[.agg #[.int .u8 t397.1.Lead, .int .i32 t397.1.Rune, .int .i64 t397.1.Need], .slice A402 (t397.2).length c403]) rfl
    refine ⟨.inr trivial, ?_⟩
    refine xd_take tab hk (k := 2) (is := [5, 6, 7]) (ls' := #[true, true, true, true, true, true, true, true, false, false]) (lv := []) (ks := [1, 2, 4, 6, 10, 11, 20, 21]) (e' := [(1, .string p1), (2, .pointer (some ⟨bx4, 0, none⟩)), (4, .pointer (some ⟨bx9, 0, none⟩)), (6, .slice A289 (l291).length c290), (10, .int .i64 ((p1).size : Int)), (11, .int .i64 x294), (20, .agg #[.int .u8 t397.1.Lead, .int .i32 t397.1.Rune, .int .i64 t397.1.Need]), (21, .slice A402 (t397.2).length c403)]) (by kernel_rfl) rfl rfl (by kernel_rfl) (np_then (np_blk (np_then (np_then (np_blk (np_then np_body)))))) trivial (fun W_ hS => trivial) fun a hk => ?_
    refine xd_op hk (i := 8) (by kernel_rfl) rfl rfl ?_
    refine op_store tab hk (t := 45) (v := .agg #[.int .u8 t397.1.Lead, .int .i32 t397.1.Rune, .int .i64 t397.1.Need]) (b := bx4) (k := 0) (cs' := [.int .u8 t397.1.Lead, .int .i32 t397.1.Rune, .int .i64 t397.1.Need]) rfl rfl rfl rfl rfl rfl f5 rfl rfl fun w406 o407 st408 f5_ => ?_
    replace f10 := f10.st st408 (by decide)
    replace f292 := f292.st st408 (by decide)
    replace f404 := f404.st st408 (by decide)
    replace fg3 := fg3.st st408 (by decide)
    replace hs := hs.loc0 st408 (by decide)
    replace f5 := f5_
    refine ⟨.inr trivial, ?_⟩
    refine xd_take tab hk (k := 0) (is := [9]) (ls' := #[true, true, true, true, true, true, true, true, true, true]) (lv := []) (ks := [1, 2, 4, 6, 8, 10, 11]) (e' := [(1, .string p1), (2, .pointer (some ⟨bx4, 0, none⟩)), (4, .pointer (some ⟨bx9, 0, none⟩)), (6, .slice A289 (l291).length c290), (8, .slice A402 (t397.2).length c403), (10, .int .i64 ((p1).size : Int)), (11, .int .i64 x294)]) (by kernel_rfl) rfl rfl (by kernel_rfl) (np_then (np_blk (np_then (np_then (np_blk (np_then np_body)))))) trivial (fun W_ hS => trivial) fun a hk => ?_
    refine xd_done (by kernel_rfl) ?_
    refine then_n ?_
    refine wpIn_region_lit ?_
    refine x_run tab hk (k := 2) (lv := []) (ks := [1, 2, 4, 10, 11, 22, 23]) (e' := [(1, .string p1), (2, .pointer (some ⟨bx4, 0, none⟩)), (4, .pointer (some ⟨bx9, 0, none⟩)), (10, .int .i64 ((p1).size : Int)), (11, .int .i64 x294), (22, .slice A289 (l291).length c290), (23, .slice A402 (t397.2).length c403)]) rfl trivial fun a hk => ?_
    refine x_op hk rfl ?_
    obtain ⟨q412, H⟩ := ifS H
    refine op_append (o := o407) (E := (encInt .i32)) (xs := l291) (ys := t397.2) tab hk rfl rfl rfl rfl rfl rfl rfl f292 (Own.rd f404.now) q412 fun A413 c414 w409 o410 st411 f415 hc416 => ?_
    replace f10 := f10.st st411 (by decide)
    replace f404 := f404.st st411 (by decide)
    replace f5 := f5.st st411 (by decide)
    replace fg3 := fg3.st st411 (by decide)
    replace hs := hs.loc0 st411 (by decide)
    have hk := hk.put 24 (.slice A413 ((l291 ++ t397.2)).length c414) rfl
    refine x_run tab hk (k := 1) (lv := []) (ks := [1, 2, 4, 6, 10, 11]) (e' := [(1, .string p1), (2, .pointer (some ⟨bx4, 0, none⟩)), (4, .pointer (some ⟨bx9, 0, none⟩)), (6, .slice A413 ((l291 ++ t397.2)).length c414), (10, .int .i64 ((p1).size : Int)), (11, .int .i64 x294)]) rfl trivial fun a hk => ?_
    refine wpListIn_nil ?_
    refine blk_n ?_
    refine then_n ?_
    refine wpIn_region_lit ?_
    refine x_run tab hk (k := 2) (lv := []) (ks := [1, 2, 4, 6, 10, 11]) (e' := [(1, .string p1), (2, .pointer (some ⟨bx4, 0, none⟩)), (4, .pointer (some ⟨bx9, 0, none⟩)), (6, .slice A413 ((l291 ++ t397.2)).length c414), (10, .int .i64 ((p1).size : Int)), (11, .int .i64 (IntKind.wrap .i64 (x294 + 1)))]) rfl trivial fun a hk => ?_
    refine wpListIn_nil ?_
    refine then_n ?_
    exact ⟨k355, Nat.le_refl _, o410, t397.1, A413, c414, (l291 ++ t397.2), (IntKind.wrap .i64 (x294 + 1)), (by exact Kn.pick (ks := [1, 2, 4, 6, 10, 11]) hk rfl), hs, f10, f415, f5, fg3, hc416, (hlp357 ▸ H)⟩

/-! (tidewrack/glyph.Decoder).End -/
theorem glyph_Decoder_End_calls (p0 : T44) (w : World) (o : Nat → Nat)   (R0 : Nat) (r : List Int) (H : glyph_Decoder_End p0 = some r) :
    Calls Tryd.prog 38 #[.agg #[.int .u8 p0.Lead, .int .i32 p0.Rune, .int .i64 p0.Need]] w (Ret fun v_ w' => ∃ o' : Nat → Nat, ∃ A0 : Option Addr, ∃ c0 : Nat, v_ = .slice A0 (r).length c0 ∧ St [] w o w' o' ∧ Ft (Own (encInt .i32) 21 (.slice A0 (r).length c0) (r)) w' o' R0 ∧ (r).length ≤ c0) := by
  refine x_enter (vs := [.agg #[.int .u8 p0.Lead, .int .i32 p0.Rune, .int .i64 p0.Need]]) Tryd.func38 rfl rfl rfl fun a hk => ?_
  obtain ⟨o0, hs, h0⟩ := St.start w o
  clear h0
  rw [glyph_Decoder_End] at H
  refine x_seq ?_
  refine wpIn_region_lit ?_
  refine x_op hk rfl ?_
  refine op_box (o := o0) (t := 45) (v := .agg #[.int .u8 p0.Lead, .int .i32 p0.Rune, .int .i64 p0.Need]) (cs := [.int .u8 p0.Lead, .int .i32 p0.Rune, .int .i64 p0.Need]) hk rfl rfl 1 fun bx4 w1 o2 st3 f5 => ?_
  replace hs := hs.loc0 st3 (by decide)
  have hk := hk.put 1 (.pointer (some ⟨bx4, 0, none⟩)) rfl
  refine x_run tab hk (k := 1) (lv := []) (ks := [1]) (e' := [(1, .pointer (some ⟨bx4, 0, none⟩))]) rfl trivial fun a hk => ?_
  refine wpListIn_nil ?_
  refine then_n ?_
  refine x_seq ?_
  refine x_seq ?_
  refine wpIn_region_lit ?_
  refine x_run tab hk (k := 3) (lv := [.int .i64 p0.Need]) (ks := [5]) (e' := [(5, .bool (decide (p0.Need ≤ (0 : Int))))]) rfl ⟨(load1 tab rfl ((Bx.cell f5.now 2).trans rfl)), trivial⟩ fun a hk => ?_
  refine wpListIn_nil ?_
  refine then_n ?_
  cases b6 : (decide (p0.Need ≤ (0 : Int)))
  · rw [b6] at hk H
    replace H := bifF H
    refine x_if hk (b := false) rfl ?_
    refine (show Code.wpIn _ _ _ _ _ _ _ from ?_)
    refine wpIn_skip ?_
    refine then_n ?_
    refine x_seq ?_
    refine wpIn_region_lit ?_
    refine x_op hk rfl ?_
    refine op_slice (o := o2) tab hk (vs := [.int .i32 65533]) (cs := [.int .i32 65533]) rfl rfl rfl rfl rfl rfl rfl rfl rfl 2 fun bx10 w7 o8 st9 f11 => ?_
    replace hs := hs.loc0 st9 (by decide)
    have f12 : Ft (Own (encInt .i32) 21 (.slice (some ⟨bx10, 0, none⟩) (([65533] : List Int)).length 1) ([65533] : List Int)) w7 o8 2 := f11.imp fun _ h_ => Own.of_box h_ rfl (by simp)
    have hk := hk.put 6 (.slice (some ⟨bx10, 0, none⟩) (([65533] : List Int)).length 1) rfl
    refine x_run tab hk (k := 1) (lv := []) (ks := [2]) (e' := [(2, .slice (some ⟨bx10, 0, none⟩) (([65533] : List Int)).length 1)]) rfl trivial fun a hk => ?_
    refine wpListIn_nil ?_
    refine then_n ?_
    refine wpIn_ret ?_
    obtain rfl := Option.some.inj H
    exact x_retG hk (rs := [.tmp 2]) (vs := [.slice (some ⟨bx10, 0, none⟩) (([65533] : List Int)).length 1]) rfl ⟨rfl, trivial⟩ ⟨fun b_ => if b_ < w.heap.size then o b_ else (fun _ => R0) (o8 b_), (some ⟨bx10, 0, none⟩), 1, rfl, hs.close0 o (fun _ => R0), hs.close_ft (o := o) (ρ := fun _ => R0) f12 (by decide) rfl, (Nat.le_refl _)⟩
  · rw [b6] at hk H
    replace H := bifT H
    refine x_if hk (b := true) rfl ?_
    refine (show Code.wpIn _ _ _ _ _ _ _ from ?_)
    refine x_seq ?_
    refine wpIn_region_lit ?_
    refine x_run tab hk (k := 1) (lv := []) (ks := [2]) (e' := [(2, .slice none 0 0)]) rfl trivial fun a hk => ?_
    refine wpListIn_nil ?_
    refine then_n ?_
    refine wpIn_ret ?_
    refine then_r ?_
    obtain rfl := Option.some.inj H
    exact x_retG hk (rs := [.tmp 2]) (vs := [.slice none 0 0]) rfl ⟨rfl, trivial⟩ ⟨fun b_ => if b_ < w.heap.size then o b_ else (fun _ => 0) (o2 b_), none, 0, rfl, hs.close0 o (fun _ => 0), (Ft.of_all (fun _ => Own.nil _ _ _) _ _ _), (by simp)⟩

/-! tidewrack/glyph.Decode -/
theorem glyph_Decode_calls (K : Nat) (p0 : ByteArray) (w : World) (o : Nat → Nat) (Lg3 : Nat) (hg3 : Ft (RdC ET192 (some ⟨3, 0, none⟩) glob3) w o Lg3)   (R0 : Nat) (r : List Int) (H : glyph_Decode K p0 = some r) :
    Calls Tryd.prog 9 #[.string p0] w (Ret fun v_ w' => ∃ o' : Nat → Nat, ∃ A0 : Option Addr, ∃ c0 : Nat, v_ = .slice A0 (r).length c0 ∧ St [] w o w' o' ∧ Ft (Own (encInt .i32) 21 (.slice A0 (r).length c0) (r)) w' o' R0 ∧ (r).length ≤ c0) := by
  refine x_enter (vs := [.string p0]) Tryd.func9 rfl rfl rfl fun a hk => ?_
  obtain ⟨o0, hs, h0⟩ := St.start w o
  have fg3 := h0 _ _ hg3
  clear h0
  rw [glyph_Decode] at H
  refine x_seq ?_
  refine wpIn_region_lit ?_
  refine x_run tab hk (k := 1) (lv := []) (ks := [0]) (e' := [(0, .string p0)]) rfl trivial fun a hk => ?_
  refine wpListIn_nil ?_
  refine then_n ?_
  refine x_seq ?_
  refine wpIn_region_lit ?_
  refine x_run tab hk (k := 2) (lv := []) (ks := [6, 7]) (e' := [(6, .agg #[.int .u8 0, .int .i32 0, .int .i64 0]), (7, .string p0)]) rfl trivial fun a hk => ?_
  refine x_op hk rfl ?_
  obtain ⟨t4, hc5, H⟩ := bindS H
  refine op_call hk ent_37 (vs := [.agg #[.int .u8 0, .int .i32 0, .int .i64 0], .string p0]) rfl (glyph_Decoder_Run_calls K (⟨0, 0, 0⟩ : T44) p0 _ o0 0 fg3 1  _ hc5) ?_
  rintro _ w6 ⟨o7, A9, c10, rfl, st8, f11, hc12⟩
  replace fg3 := fg3.st st8 (by decide)
  replace hs := hs.loc0 st8 (by decide)
  have hk := hk.put 8 (.tuple #[.agg #[.int .u8 t4.1.Lead, .int .i32 t4.1.Rune, .int .i64 t4.1.Need], .slice A9 (t4.2).length c10]) rfl
  refine x_run tab hk (k := 3) (lv := []) (ks := [9, 10]) (e' := [(9, .agg #[.int .u8 t4.1.Lead, .int .i32 t4.1.Rune, .int .i64 t4.1.Need]), (10, .slice A9 (t4.2).length c10)]) rfl trivial fun a hk => ?_
  refine x_op hk rfl ?_
  refine op_alloc (o := o7) tab (t := 45) (cs := [.int .u8 0, .int .i32 0, .int .i64 0]) rfl rfl 2 fun bx16 w13 o14 st15 f17 => ?_
  replace f11 := f11.st st15 (by decide)
  replace fg3 := fg3.st st15 (by decide)
  replace hs := hs.loc0 st15 (by decide)
  have hk := hk.put 3 (.pointer (some ⟨bx16, 0, none⟩)) rfl
  refine x_op hk rfl ?_
  refine op_store tab hk (t := 45) (v := .agg #[.int .u8 t4.1.Lead, .int .i32 t4.1.Rune, .int .i64 t4.1.Need]) (b := bx16) (k := 0) (cs' := [.int .u8 t4.1.Lead, .int .i32 t4.1.Rune, .int .i64 t4.1.Need]) rfl rfl rfl rfl rfl rfl f17 rfl rfl fun w18 o19 st20 f17_ => ?_
  replace f11 := f11.st st20 (by decide)
  replace fg3 := fg3.st st20 (by decide)
  replace hs := hs.loc0 st20 (by decide)
  replace f17 := f17_
  refine x_run tab hk (k := 1) (lv := []) (ks := [3, 4]) (e' := [(3, .pointer (some ⟨bx16, 0, none⟩)), (4, .slice A9 (t4.2).length c10)]) rfl trivial fun a hk => ?_
  refine wpListIn_nil ?_
  refine then_n ?_
  refine x_seq ?_
  refine wpIn_region_lit ?_
  refine x_run tab hk (k := 2) (lv := [.agg #[.int .u8 t4.1.Lead, .int .i32 t4.1.Rune, .int .i64 t4.1.Need]]) (ks := [11, 12]) (e' := [(11, .slice A9 (t4.2).length c10), (12, .agg #[.int .u8 t4.1.Lead, .int .i32 t4.1.Rune, .int .i64 t4.1.Need])]) rfl ⟨(load_box tab rfl rfl f17.now (k := 0) rfl rfl), trivial⟩ fun a hk => ?_
  refine x_op hk rfl ?_
  obtain ⟨t24, hc25, H⟩ := bindS H
  refine op_call hk ent_38 (vs := [.agg #[.int .u8 t4.1.Lead, .int .i32 t4.1.Rune, .int .i64 t4.1.Need]]) rfl (glyph_Decoder_End_calls t4.1 _ o19  3  _ hc25) ?_
  rintro _ w26 ⟨o27, A29, c30, rfl, st28, f31, hc32⟩
  replace f11 := f11.st st28 (by decide)
  replace fg3 := fg3.st st28 (by decide)
  replace hs := hs.loc0 st28 (by decide)
  have hk := hk.put 13 (.slice A29 (t24).length c30) rfl
  refine x_op hk rfl ?_
  obtain ⟨q36, H⟩ := ifS H
  refine op_append (o := o27) (E := (encInt .i32)) (xs := t4.2) (ys := t24) tab hk rfl rfl rfl rfl rfl rfl rfl f11 (Own.rd f31.now) q36 fun A37 c38 w33 o34 st35 f39 hc40 => ?_
  replace f31 := f31.st st35 (by decide)
  replace fg3 := fg3.st st35 (by decide)
  replace hs := hs.loc0 st35 (by decide)
  have hk := hk.put 14 (.slice A37 ((t4.2 ++ t24)).length c38) rfl
  refine x_run tab hk (k := 1) (lv := []) (ks := [2]) (e' := [(2, .slice A37 ((t4.2 ++ t24)).length c38)]) rfl trivial fun a hk => ?_
  refine wpListIn_nil ?_
  refine then_n ?_
  refine wpIn_ret ?_
  obtain rfl := Option.some.inj H
  exact x_retG hk (rs := [.tmp 2]) (vs := [.slice A37 ((t4.2 ++ t24)).length c38]) rfl ⟨rfl, trivial⟩ ⟨fun b_ => if b_ < w.heap.size then o b_ else (fun _ => R0) (o34 b_), A37, c38, rfl, hs.close0 o (fun _ => R0), hs.close_ft (o := o) (ρ := fun _ => R0) f39 (by decide) rfl, hc40⟩

/-! tidewrack/tidewracklaw01.Cut -/
theorem tidewracklaw01_Cut_calls (p0 : ByteArray) (p1 : Int) (w : World) (o : Nat → Nat)   (r : ByteArray) (H : tidewracklaw01_Cut p0 p1 = some r) :
    Calls Tryd.prog 10 #[.string p0, .int .i64 p1] w (Ret fun v_ w' => ∃ o' : Nat → Nat, v_ = .string r ∧ St [] w o w' o') := by
  refine x_enter (vs := [.string p0, .int .i64 p1]) Tryd.func10 rfl rfl rfl fun a hk => ?_
  obtain ⟨o0, hs, h0⟩ := St.start w o
  clear h0
  rw [tidewracklaw01_Cut] at H
  refine x_seq ?_
  refine wpIn_region_lit ?_
  refine x_run tab hk (k := 1) (lv := []) (ks := [0, 1]) (e' := [(0, .string p0), (1, .int .i64 p1)]) rfl trivial fun a hk => ?_
  refine wpListIn_nil ?_
  refine then_n ?_
  refine x_seq ?_
  refine x_seq ?_
  refine wpIn_region_lit ?_
  refine x_run tab hk (k := 4) (lv := []) (ks := [0, 1, 8]) (e' := [(0, .string p0), (1, .int .i64 p1), (8, .bool (decide (((p0).size : Int) > p1)))]) rfl trivial fun a hk => ?_
  refine wpListIn_nil ?_
  refine then_n ?_
  cases b1 : (decide (((p0).size : Int) > p1))
  · rw [b1] at hk H
    replace H := bifF H
    refine x_if hk (b := false) rfl ?_
    refine (show Code.wpIn _ _ _ _ _ _ _ from ?_)
    refine wpIn_skip ?_
    refine then_n ?_
    refine x_seq ?_
    refine wpIn_region_lit ?_
    refine x_run tab hk (k := 2) (lv := []) (ks := [4]) (e' := [(4, .string p0)]) rfl trivial fun a hk => ?_
    refine wpListIn_nil ?_
    refine then_n ?_
    refine wpIn_ret ?_
    obtain rfl := Option.some.inj H
    exact x_retG hk (rs := [.tmp 4]) (vs := [.string p0]) rfl ⟨rfl, trivial⟩ ⟨fun b_ => if b_ < w.heap.size then o b_ else (fun _ => 0) (o0 b_), rfl, hs.close0 o (fun _ => 0)⟩
  · rw [b1] at hk H
    replace H := bifT H
    refine x_if hk (b := true) rfl ?_
    refine (show Code.wpIn _ _ _ _ _ _ _ from ?_)
    refine x_seq ?_
    refine wpIn_region_lit ?_
    obtain ⟨q2, H⟩ := ifS H
    obtain ⟨q3, H⟩ := ifS H
    refine x_run tab hk (k := 4) (lv := []) (ks := [4]) (e' := [(4, .string (ByteArray.extract p0 0 (Int.toNat p1)))]) rfl ⟨q2, q3, trivial⟩ fun a hk => ?_
    refine wpListIn_nil ?_
    refine then_n ?_
    refine wpIn_ret ?_
    refine then_r ?_
    obtain rfl := Option.some.inj H
    exact x_retG hk (rs := [.tmp 4]) (vs := [.string (ByteArray.extract p0 0 (Int.toNat p1))]) rfl ⟨rfl, trivial⟩ ⟨fun b_ => if b_ < w.heap.size then o b_ else (fun _ => 0) (o0 b_), rfl, hs.close0 o (fun _ => 0)⟩

/-! tidewrack/wide.columns$1 -/
theorem wide_columns_1_iter (K : Nat) (bp1 : Nat) (Ap1_0 : Option Addr) (cp1_0 : Nat) (p1 : List Int) (w : World) (o : Nat → Nat) (Lg0 : Nat) (hg0 : Ft (RdC ET97 (some ⟨0, 0, none⟩) glob0) w o Lg0) (Lg1 : Nat) (hg1 : Ft (RdC ET97 (some ⟨1, 0, none⟩) glob1) w o Lg1) (Lp1 : Nat) (hp1 : Ft (Bx bp1 23 [.slice Ap1_0 (p1).length cp1_0]) w o Lp1) (Lp1_0 : Nat) (hp1_0 : Ft (RdC (encInt .i32) Ap1_0 p1) w o Lp1_0) (hcp1_0 : (p1).length ≤ cp1_0) (hd0 : ([] : List Nat).Nodup) (hd1 : Lg0 ∉ ([] : List Nat)) (hd2 : Lg1 ∉ ([] : List Nat)) (hd3 : Lp1_0 ∉ ([] : List Nat)) (hd4 : Lp1 ∉ ([] : List Nat)) (r : List (Int × Int)) (H : wide_columns_1 K p1 = some r) :
    IterC Tryd.prog 73 [] [.pointer (some ⟨bp1, 0, none⟩)] (fun (x_ : Int × Int) vs_ _ => vs_ = [.int .i64 x_.1, .int .i64 x_.2]) none r w o [] [Lg0, Lg1, Lp1, Lp1_0] := by
  refine iter_start hd0 (fun _ h_ => by cases h_) fun l_ JJ XX Res w1 oi h1 h2 h3 hJ hX hRl hY hE0 hE1 hs => ?_
  refine x_enter (vs := [.func (.yield l_) #[] #[], .pointer (some ⟨bp1, 0, none⟩)]) Tryd.func73 rfl rfl rfl fun a hk => ?_
  have fg0 := h3 2 hg0 (by simp) hd1 (by simp) rfl
  have fg1 := h3 2 hg1 (by simp) hd2 (by simp) rfl
  have f900020 := h3 2 hp1_0 (by simp) hd3 (by simp) rfl
  have f900039 := h3 2 hp1 (by simp) hd4 (by simp) rfl
  clear h1 h2 h3
  rw [wide_columns_1] at H
  refine x_seq ?_
  refine wpIn_region_lit ?_
  refine x_run tab hk (k := 1) (lv := []) (ks := [0, 1, 3]) (e' := [(0, .func (.yield l_) #[] #[]), (1, .pointer (some ⟨bp1, 0, none⟩)), (3, .int .i64 0)]) rfl trivial fun a hk => ?_
  refine wpListIn_nil ?_
  refine then_n ?_
  refine x_seq ?_
  refine wpIn_region_lit ?_
  refine x_run tab hk (k := 3) (lv := [.slice Ap1_0 (p1).length cp1_0]) (ks := [0, 3, 6, 7, 8]) (e' := [(0, .func (.yield l_) #[] #[]), (3, .int .i64 0), (6, .slice Ap1_0 (p1).length cp1_0), (7, .int .i64 ((p1).length : Int)), (8, .int .i64 0)]) rfl ⟨(load1 tab rfl ((Bx.cell f900039.now 0).trans rfl)), trivial⟩ fun a hk => ?_
  refine wpListIn_nil ?_
  refine then_n ?_
  refine wpIn_block ?_
  refine x_loop (fun j_ a_ w_ => ∃ o22 : Nat → Nat, ∃ r23 : List (Int × Int), ∃ x24 : Int, ∃ x25 : Int, Kn 23 a_ [(0, .func (.yield l_) #[] #[]), (3, .int .i64 x24), (6, .slice Ap1_0 (p1).length cp1_0), (7, .int .i64 ((p1).length : Int)), (8, .int .i64 x25)] ∧ JJ r23 w_ o22 ∧ Ft (RdC (encInt .i32) Ap1_0 p1) w_ o22 2 ∧ Ft (Bx bp1 23 [.slice Ap1_0 (p1).length cp1_0]) w_ o22 2 ∧ Ft (RdC ET97 (some ⟨0, 0, none⟩) glob0) w_ o22 2 ∧ Ft (RdC ET97 (some ⟨1, 0, none⟩) glob1) w_ o22 2 ∧ wide_columns_1_l1 K p1 j_ x24 x25 = some r23) (k := K) ⟨oi, r, 0, 0, (by exact Kn.pick (ks := [0, 3, 6, 7, 8]) hk rfl), hs, f900020, f900039, fg0, fg1, H⟩ (by rintro _ _ ⟨_, _, _, _, _, _, _, _, _, _, H_⟩; exact absurd (show (none : Option (List (Int × Int))) = some _ from H_) (by simp)) ?_
  rintro k44 a w43 ⟨o22, r23, x24, x25, hk, hs, f900020, f900039, fg0, fg1, H⟩
  rw [wide_columns_1_l1] at H
  obtain ⟨lp45, hlp46⟩ : ∃ lp_, lp_ = wide_columns_1_l1 K p1 k44 := ⟨_, rfl⟩
  rw [← hlp46] at H
  refine x_seq ?_
  refine wpIn_region_lit ?_
  refine x_run tab hk (k := 1) (lv := []) (ks := [0, 3, 6, 7, 8, 9]) (e' := [(0, .func (.yield l_) #[] #[]), (3, .int .i64 x24), (6, .slice Ap1_0 (p1).length cp1_0), (7, .int .i64 ((p1).length : Int)), (8, .int .i64 x25), (9, .bool (decide (x25 < ((p1).length : Int))))]) rfl trivial fun a hk => ?_
  refine wpListIn_nil ?_
  refine then_n ?_
  refine x_seq ?_
  cases b47 : (decide (x25 < ((p1).length : Int)))
  · rw [b47] at hk H
    replace H := bifF H
    refine x_if hk (b := false) rfl ?_
    refine (show Code.wpIn _ _ _ _ _ _ _ from ?_)
    refine wpIn_exit ?_
    refine then_x ?_
    refine then_x ?_
    refine blk_x ?_
    obtain rfl := Option.some.inj H
    exact x_endG hk (rs := []) (vs := []) rfl trivial (hE0 hs)
  · rw [b47] at hk H
    replace H := bifT H
    refine x_if hk (b := true) rfl ?_
    refine (show Code.wpIn _ _ _ _ _ _ _ from ?_)
    refine wpIn_skip ?_
    refine then_n ?_
    refine x_seq ?_
    refine wpIn_block ?_
    refine x_seq ?_
    refine wpIn_region_lit ?_
    obtain ⟨q48, H⟩ := ifS H
    obtain ⟨ad49, hAad49⟩ := RdC.addr f900020.now q48
    have hk_C := hk
    have f900020_C := f900020
    have f900039_C := f900039
    have fg0_C := fg0
    have fg1_C := fg1
    subst hAad49
    have hk := hk_C
    clear hk_C
    have f900020 := f900020_C
    clear f900020_C
    have f900039 := f900039_C
    clear f900039_C
    have fg0 := fg0_C
    clear fg0_C
    have fg1 := fg1_C
    clear fg1_C
    refine x_run tab hk (k := 5) (lv := [.int .i32 (rdD 0 p1 x25)]) (ks := [0, 3, 4, 5, 6, 7, 8]) (e' := [(0, .func (.yield l_) #[] #[]), (3, .int .i64 x24), (4, .int .i64 x25), (5, .int .i32 (rdD 0 p1 x25)), (6, .slice (some ad49) (p1).length cp1_0), (7, .int .i64 ((p1).length : Int)), (8, .int .i64 x25)]) rfl ⟨q48, (load1 tab rfl (RdC.at0 (E := (encInt .i32)) (d := 0) (i := x25) f900020.now q48 rfl)), trivial⟩ fun a hk => ?_
    refine wpListIn_nil ?_
    refine then_n ?_
    refine x_seq ?_
    refine wpIn_region_lit ?_
    refine x_run tab hk (k := 2) (lv := []) (ks := [0, 4, 6, 7, 8, 13, 14]) (e' := [(0, .func (.yield l_) #[] #[]), (4, .int .i64 x25), (6, .slice (some ad49) (p1).length cp1_0), (7, .int .i64 ((p1).length : Int)), (8, .int .i64 x25), (13, .int .i64 x24), (14, .int .i32 (rdD 0 p1 x25))]) rfl trivial fun a hk => ?_
    refine x_op hk rfl ?_
    obtain ⟨t53, hc54, H⟩ := bindS H
    refine op_call hk ent_8 (vs := [.int .i32 (rdD 0 p1 x25)]) rfl (wide_Of_calls K (rdD 0 p1 x25) _ o22 2 fg0 2 fg1   _ hc54) ?_
    rintro _ w55 ⟨o56, rfl, st57⟩
    replace f900020 := f900020.st st57 (by decide)
    replace f900039 := f900039.st st57 (by decide)
    replace fg0 := fg0.st st57 (by decide)
    replace fg1 := fg1.st st57 (by decide)
    replace hs := hJ hs st57 rfl
    have hk := hk.put 15 (.int .i64 t53) rfl
    refine x_run tab hk (k := 2) (lv := []) (ks := [0, 3, 4, 6, 7, 8]) (e' := [(0, .func (.yield l_) #[] #[]), (3, .int .i64 (IntKind.wrap .i64 (x24 + t53))), (4, .int .i64 x25), (6, .slice (some ad49) (p1).length cp1_0), (7, .int .i64 ((p1).length : Int)), (8, .int .i64 x25)]) rfl trivial fun a hk => ?_
    refine wpListIn_nil ?_
    refine then_n ?_
    refine x_seq ?_
    refine wpIn_region_lit ?_
    refine x_run tab hk (k := 3) (lv := []) (ks := [0, 3, 6, 7, 8, 17, 18, 19]) (e' := [(0, .func (.yield l_) #[] #[]), (3, .int .i64 (IntKind.wrap .i64 (x24 + t53))), (6, .slice (some ad49) (p1).length cp1_0), (7, .int .i64 ((p1).length : Int)), (8, .int .i64 x25), (17, .func (.yield l_) #[] #[]), (18, .int .i64 x25), (19, .int .i64 (IntKind.wrap .i64 (x24 + t53)))]) rfl trivial fun a hk => ?_
    refine x_op hk rfl ?_
    obtain ⟨r58, hr59, H⟩ := consS H
    rw [hr59] at hs
    refine op_yield hk rfl (vs := [.int .i64 x25, .int .i64 (IntKind.wrap .i64 (x24 + t53))]) rfl (hY hs (fun _ => rfl)) ?_
    rintro b60 w61 ⟨o62, st63, ht_, hf_⟩
    replace f900020 := f900020.st st63 (by decide)
    replace f900039 := f900039.st st63 (by decide)
    replace fg0 := fg0.st st63 (by decide)
    replace fg1 := fg1.st st63 (by decide)
    cases b60
    · have hs := hf_ rfl
      have hk := hk.put 20 (.bool false) rfl
      refine x_run tab hk (k := 1) (lv := []) (ks := [0, 3, 6, 7, 8, 21]) (e' := [(0, .func (.yield l_) #[] #[]), (3, .int .i64 (IntKind.wrap .i64 (x24 + t53))), (6, .slice (some ad49) (p1).length cp1_0), (7, .int .i64 ((p1).length : Int)), (8, .int .i64 x25), (21, .bool true)]) rfl trivial fun a hk => ?_
      refine wpListIn_nil ?_
      refine then_n ?_
      refine x_if hk (b := true) rfl ?_
      refine (show Code.wpIn _ _ _ _ _ _ _ from ?_)
      refine wpIn_ret ?_
      refine blk_r ?_
      refine then_r ?_
      refine then_r ?_
      refine blk_r ?_
      exact x_retG hk (rs := []) (vs := []) rfl trivial (hE1 hs)
    · have hs := ht_ rfl
      have hk := hk.put 20 (.bool true) rfl
      refine x_run tab hk (k := 1) (lv := []) (ks := [0, 3, 6, 7, 8, 21]) (e' := [(0, .func (.yield l_) #[] #[]), (3, .int .i64 (IntKind.wrap .i64 (x24 + t53))), (6, .slice (some ad49) (p1).length cp1_0), (7, .int .i64 ((p1).length : Int)), (8, .int .i64 x25), (21, .bool false)]) rfl trivial fun a hk => ?_
      refine wpListIn_nil ?_
      refine then_n ?_
      refine x_if hk (b := false) rfl ?_
      refine (show Code.wpIn _ _ _ _ _ _ _ from ?_)
      refine wpIn_skip ?_
      refine blk_n ?_
      refine then_n ?_
      refine wpIn_region_lit ?_
      refine x_run tab hk (k := 2) (lv := []) (ks := [0, 3, 6, 7, 8]) (e' := [(0, .func (.yield l_) #[] #[]), (3, .int .i64 (IntKind.wrap .i64 (x24 + t53))), (6, .slice (some ad49) (p1).length cp1_0), (7, .int .i64 ((p1).length : Int)), (8, .int .i64 (IntKind.wrap .i64 (x25 + 1)))]) rfl trivial fun a hk => ?_
      refine wpListIn_nil ?_
      refine then_n ?_
      exact ⟨k44, Nat.le_refl _, o62, r58, (IntKind.wrap .i64 (x24 + t53)), (IntKind.wrap .i64 (x25 + 1)), (by exact Kn.pick (ks := [0, 3, 6, 7, 8]) hk rfl), hs, f900020, f900039, fg0, fg1, (hlp46 ▸ H)⟩

/-! tidewrack/wide.columns -/
theorem wide_columns_calls (Ap0 : Option Addr) (cp0 : Nat) (p0 : List Int) (w : World) (o : Nat → Nat) (Lg0 : Nat) (hg0 : Ft (RdC ET97 (some ⟨0, 0, none⟩) glob0) w o Lg0) (Lg1 : Nat) (hg1 : Ft (RdC ET97 (some ⟨1, 0, none⟩) glob1) w o Lg1) (Lp0 : Nat) (hp0 : Ft (RdC (encInt .i32) Ap0 p0) w o Lp0) (hcp0 : (p0).length ≤ cp0)  (R0 : Nat) (r : Unit) (H : wide_columns p0 = some r) :
    Calls Tryd.prog 39 #[.slice Ap0 (p0).length cp0] w (Ret fun v_ w' => ∃ o' : Nat → Nat, ∃ b0 : Nat, v_ = .func (.func 73) #[] #[.pointer (some ⟨b0, 0, none⟩)] ∧ St [] w o w' o' ∧ Ft (Bx b0 23 [.slice Ap0 (p0).length cp0]) w' o' R0) := by
  refine x_enter (vs := [.slice Ap0 (p0).length cp0]) Tryd.func39 rfl rfl rfl fun a hk => ?_
  obtain ⟨o0, hs, h0⟩ := St.start w o
  have fg0 := h0 _ _ hg0
  have fg1 := h0 _ _ hg1
  have f900000 := h0 _ _ hp0
  clear h0
  rw [wide_columns] at H
  refine x_seq ?_
  refine wpIn_region_lit ?_
  refine x_op hk rfl ?_
  refine op_box (o := o0) (t := 23) (v := .slice Ap0 (p0).length cp0) (cs := [.slice Ap0 (p0).length cp0]) hk rfl rfl 1 fun bx4 w1 o2 st3 f5 => ?_
  replace f900000 := f900000.st st3 (by decide)
  replace fg0 := fg0.st st3 (by decide)
  replace fg1 := fg1.st st3 (by decide)
  replace hs := hs.loc0 st3 (by decide)
  have hk := hk.put 1 (.pointer (some ⟨bx4, 0, none⟩)) rfl
  refine x_run tab hk (k := 1) (lv := []) (ks := [1]) (e' := [(1, .pointer (some ⟨bx4, 0, none⟩))]) rfl trivial fun a hk => ?_
  refine wpListIn_nil ?_
  refine then_n ?_
  refine x_seq ?_
  refine wpIn_region_lit ?_
  refine x_run tab hk (k := 2) (lv := []) (ks := [2]) (e' := [(2, .func (.func 73) #[] #[.pointer (some ⟨bx4, 0, none⟩)])]) rfl trivial fun a hk => ?_
  refine wpListIn_nil ?_
  refine then_n ?_
  refine wpIn_ret ?_
  obtain rfl := Option.some.inj H
  exact x_retG hk (rs := [.tmp 2]) (vs := [.func (.func 73) #[] #[.pointer (some ⟨bx4, 0, none⟩)]]) rfl ⟨rfl, trivial⟩ ⟨fun b_ => if b_ < w.heap.size then o b_ else (fun _ => R0) (o2 b_), bx4, rfl, hs.close0 o (fun _ => R0), hs.close_ft (o := o) (ρ := fun _ => R0) f5 (by decide) rfl⟩

/-! tidewrack/wide.Fit -/
theorem wide_Fit_calls (K : Nat) (p0 : Int) (Ap1 : Option Addr) (cp1 : Nat) (p1 : List Int) (w : World) (o : Nat → Nat) (Lg0 : Nat) (hg0 : Ft (RdC ET97 (some ⟨0, 0, none⟩) glob0) w o Lg0) (Lg1 : Nat) (hg1 : Ft (RdC ET97 (some ⟨1, 0, none⟩) glob1) w o Lg1) (Lp1 : Nat) (hp1 : Ft (RdC (encInt .i32) Ap1 p1) w o Lp1) (hcp1 : (p1).length ≤ cp1)  (r : Int) (H : wide_Fit K p0 p1 = some r) :
    Calls Tryd.prog 11 #[.int .i64 p0, .slice Ap1 (p1).length cp1] w (Ret fun v_ w' => ∃ o' : Nat → Nat, v_ = .int .i64 r ∧ St [] w o w' o') := by
  refine x_enterQ (vs := [.int .i64 p0, .slice Ap1 (p1).length cp1]) Tryd.func11 rfl rfl rfl fun a hk => ?_
  obtain ⟨o0, hs, h0⟩ := St.start w o
  have fg0 := h0 _ _ hg0
  have fg1 := h0 _ _ hg1
  have f900020 := h0 _ _ hp1
  have fxm : Ft (MK []) w o0 1 := Ft.of_all (fun _ => MK.nil _) _ _ _
  clear h0
  rw [wide_Fit] at H
  refine x_seq ?_
  refine wpIn_region_lit ?_
  refine x_op hk rfl ?_
  refine op_box (o := o0) (t := 3) (v := .int .i64 p0) (cs := [.int .i64 p0]) hk rfl rfl 2 fun bx4 w1 o2 st3 f5 => ?_
  replace f900020 := f900020.st st3 (by decide)
  replace fg0 := fg0.st st3 (by decide)
  replace fg1 := fg1.st st3 (by decide)
  replace fxm := fxm.st st3 (by decide)
  replace hs := hs.loc0 st3 (by decide)
  have hk := hk.put 2 (.pointer (some ⟨bx4, 0, none⟩)) rfl
  refine x_run tab hk (k := 1) (lv := []) (ks := [1, 2]) (e' := [(1, .slice Ap1 (p1).length cp1), (2, .pointer (some ⟨bx4, 0, none⟩))]) rfl trivial fun a hk => ?_
  refine wpListIn_nil ?_
  refine then_n ?_
  refine x_seq ?_
  refine wpIn_region_lit ?_
  refine x_op hk rfl ?_
  refine op_alloc (o := o2) tab (t := 3) (cs := [.int .i64 0]) rfl rfl 3 fun bx9 w6 o7 st8 f10 => ?_
  replace f5 := f5.st st8 (by decide)
  replace f900020 := f900020.st st8 (by decide)
  replace fg0 := fg0.st st8 (by decide)
  replace fg1 := fg1.st st8 (by decide)
  replace fxm := fxm.st st8 (by decide)
  replace hs := hs.loc0 st8 (by decide)
  have hk := hk.put 5 (.pointer (some ⟨bx9, 0, none⟩)) rfl
  refine x_op hk rfl ?_
  refine op_store tab hk (t := 3) (v := .int .i64 0) (b := bx9) (k := 0) (cs' := [.int .i64 0]) rfl rfl rfl rfl rfl rfl f10 rfl rfl fun w11 o12 st13 f10_ => ?_
  replace f5 := f5.st st13 (by decide)
  replace f900020 := f900020.st st13 (by decide)
  replace fg0 := fg0.st st13 (by decide)
  replace fg1 := fg1.st st13 (by decide)
  replace fxm := fxm.st st13 (by decide)
  replace hs := hs.loc0 st13 (by decide)
  replace f10 := f10_
  refine wpListIn_nil ?_
  refine then_n ?_
  refine x_mid (fun a_ w_ => ∃ o81 : Nat → Nat, ∃ ds82 : List Deferred, ∃ x83 : Int, KnD 18 ds82 a_ [(5, .pointer (some ⟨bx9, 0, none⟩))] ∧ St [] w (fun _ => 0) w_ o81 ∧ Ft (Bx bx9 3 [.int .i64 x83]) w_ o81 7 ∧ Ft (RdC ET97 (some ⟨0, 0, none⟩) glob0) w_ o81 0 ∧ Ft (RdC ET97 (some ⟨1, 0, none⟩) glob1) w_ o81 0 ∧ Ft (MK ds82) w_ o81 1 ∧ wide_Fit_j1 x83 = some r) ?_ ?_
  rotate_left
  · rintro a w84 ⟨o81, ds82, x83, hk, hs, f10, fg0, fg1, fxm, H⟩
    rw [wide_Fit_j1] at H
    refine x_seq ?_
    refine wpIn_region_lit ?_
    refine x_run tab hk (k := 2) (lv := [.int .i64 x83]) (ks := [4]) (e' := [(4, .int .i64 x83)]) rfl ⟨(load1 tab rfl ((Bx.cell f10.now 0).trans rfl)), trivial⟩ fun a hk => ?_
    refine wpListIn_nil ?_
    refine then_n ?_
    refine wpIn_ret ?_
    refine x_retQ hk fxm fun w85 a st86 hk => ?_
    replace fg0 := fg0.st st86 (by decide)
    replace fg1 := fg1.st st86 (by decide)
    replace hs := hs.loc0 st86 (by decide)
    obtain rfl := Option.some.inj H
    exact x_retG hk (rs := [.tmp 4]) (vs := [.int .i64 x83]) rfl ⟨rfl, trivial⟩ ⟨fun b_ => if b_ < w.heap.size then o b_ else (fun _ => 0) (o81 b_), rfl, hs.close0 o (fun _ => 0)⟩
  refine x_seq ?_
  refine wpIn_region_lit ?_
  refine x_run tab hk (k := 1) (lv := []) (ks := [2, 5, 8]) (e' := [(2, .pointer (some ⟨bx4, 0, none⟩)), (5, .pointer (some ⟨bx9, 0, none⟩)), (8, .slice Ap1 (p1).length cp1)]) rfl trivial fun a hk => ?_
  refine x_op hk rfl ?_
  obtain ⟨t90, hc91, H⟩ := bindS H
  refine op_call hk ent_39 (vs := [.slice Ap1 (p1).length cp1]) rfl (wide_columns_calls Ap1 cp1 p1 _ o12 0 fg0 0 fg1 _ f900020 hcp1 8  _ hc91) ?_
  rintro _ w92 ⟨o93, bx95, rfl, st94, f96⟩
  replace f10 := f10.st st94 (by decide)
  replace f5 := f5.st st94 (by decide)
  replace f900020 := f900020.st st94 (by decide)
  replace fg0 := fg0.st st94 (by decide)
  replace fg1 := fg1.st st94 (by decide)
  replace fxm := fxm.st st94 (by decide)
  replace hs := hs.loc0 st94 (by decide)
  have hk := hk.put 9 (.func (.func 73) #[] #[.pointer (some ⟨bx95, 0, none⟩)]) rfl
  refine wpListIn_nil ?_
  refine then_n ?_
  refine wpIn_block ?_
  obtain ⟨ys97, hy98, H⟩ := bindS H
  refine x_range 1 9 10 [3] hk rfl ent_73 (wide_columns_1_iter K bx95 Ap1 cp1 p1 _ _ 0 fg0 0 fg1 8 f96 0 f900020 hcp1 (by decide) (by decide) (by decide) (by decide) (by decide) _ hy98) fxm (fun _ _ _ h_ => by subst h_; rfl) rfl rfl (fun rr_ w_ o119 => ∃ x120 : Int, St [] w (fun _ => 0) w_ o119 ∧ Ft (Bx bx9 3 [.int .i64 x120]) w_ o119 3 ∧ Ft (Bx bx4 3 [.int .i64 p0]) w_ o119 2 ∧ Ft (RdC ET97 (some ⟨0, 0, none⟩) glob0) w_ o119 0 ∧ Ft (RdC ET97 (some ⟨1, 0, none⟩) glob1) w_ o119 0 ∧ wide_Fit_r2 p0 rr_ x120 = some r) (fun c_ w_ o127 => (c_ = .exit 0 ∧ ∃ x137 : Int, St [] w (fun _ => 0) w_ o127 ∧ Ft (Bx bx9 3 [.int .i64 x137]) w_ o127 3 ∧ Ft (RdC ET97 (some ⟨0, 0, none⟩) glob0) w_ o127 0 ∧ Ft (RdC ET97 (some ⟨1, 0, none⟩) glob1) w_ o127 0 ∧ wide_Fit_x3 x137 = some r) ∨ (False)) ?_ ?_ ⟨0, hs, f10, f5, fg0, fg1, H⟩ ?_ ?_ ?_
  · rintro rr_ w_ _ _ _ ⟨x120, hs, f10, f5, fg0, fg1, H⟩ st_
    exact ⟨x120, hs.loc0 st_ (by decide), f10.st st_ (by decide), f5.st st_ (by decide), fg0.st st_ (by decide), fg1.st st_ (by decide), H⟩
  · rintro c_ w_ _ _ _ (⟨hc_, x137, hs, f10, fg0, fg1, H⟩ | hc_) st_
    · exact (Or.inl ⟨hc_, ⟨x137, hs.loc0 st_ (by decide), f10.st st_ (by decide), fg0.st st_ (by decide), fg1.st st_ (by decide), H⟩⟩)
    · exact hc_.elim
  · rintro R0_ R1_ lr_ x99 vs_ rest100 w101 o102 ⟨x120, hsO, f10, f5, fg0, fg1, H⟩ hE fxr a hk
    obtain rfl : vs_ = [.int .i64 x99.1, .int .i64 x99.2] := hE w101
    obtain ⟨o103, hs0, hfl, hbB, hoi⟩ := St.startB w101 o102 10
    have hs := hs0 [9, 3]
    replace f10 := hfl f10 rfl
    replace f5 := hfl f5 rfl
    replace fg0 := hfl fg0 rfl
    replace fg1 := hfl fg1 rfl
    replace fxr := hfl fxr rfl
    replace hk : Kn 18 a [(2, .pointer (some ⟨bx4, 0, none⟩)), (5, .pointer (some ⟨bx9, 0, none⟩)), (10, .int .i64 x99.1), (11, .int .i64 x99.2)] := Kn.pick (ks := [2, 5, 10, 11]) hk rfl
    rw [wide_Fit_r2] at H
    obtain ⟨lp104, hlp105⟩ : ∃ lp_, lp_ = wide_Fit_r2 p0 rest100 := ⟨_, rfl⟩
    rw [← hlp105] at H
    refine x_seq ?_
    refine wpIn_region_lit ?_
    refine x_run tab hk (k := 1) (lv := []) (ks := [2, 5, 6, 11]) (e' := [(2, .pointer (some ⟨bx4, 0, none⟩)), (5, .pointer (some ⟨bx9, 0, none⟩)), (6, .int .i64 x99.1), (11, .int .i64 x99.2)]) rfl trivial fun a hk => ?_
    refine wpListIn_nil ?_
    refine then_n ?_
    refine wpIn_region_lit ?_
    refine x_run tab hk (k := 1) (lv := []) (ks := [2, 5, 6, 7]) (e' := [(2, .pointer (some ⟨bx4, 0, none⟩)), (5, .pointer (some ⟨bx9, 0, none⟩)), (6, .int .i64 x99.1), (7, .int .i64 x99.2)]) rfl trivial fun a hk => ?_
    refine wpListIn_nil ?_
    refine then_n ?_
    refine ⟨_, fxr, fun w138 st139 fxr => ?_⟩
    replace f10 := f10.st st139 (by decide)
    replace f5 := f5.st st139 (by decide)
    replace fg0 := fg0.st st139 (by decide)
    replace fg1 := fg1.st st139 (by decide)
    replace hs := hs.locB st139 rfl hbB
    refine wpIn_block ?_
    refine x_seq ?_
    refine x_seq ?_
    refine wpIn_region_lit ?_
    refine x_run tab hk (k := 3) (lv := [.int .i64 p0]) (ks := [2, 5, 6, 14]) (e' := [(2, .pointer (some ⟨bx4, 0, none⟩)), (5, .pointer (some ⟨bx9, 0, none⟩)), (6, .int .i64 x99.1), (14, .bool (decide (x99.2 > p0)))]) rfl ⟨(load1 tab rfl ((Bx.cell f5.now 0).trans rfl)), trivial⟩ fun a hk => ?_
    refine wpListIn_nil ?_
    refine then_n ?_
    cases b140 : (decide (x99.2 > p0))
    · rw [b140] at hk H
      replace H := bifF H
      refine x_if hk (b := false) rfl ?_
      refine (show Code.wpIn _ _ _ _ _ _ _ from ?_)
      refine wpIn_skip ?_
      refine then_n ?_
      refine wpIn_region_lit ?_
      refine x_run tab hk (k := 2) (lv := []) (ks := [2, 5, 16]) (e' := [(2, .pointer (some ⟨bx4, 0, none⟩)), (5, .pointer (some ⟨bx9, 0, none⟩)), (16, .int .i64 (IntKind.wrap .i64 (x99.1 + 1)))]) rfl trivial fun a hk => ?_
      refine x_op hk rfl ?_
      refine op_store tab hk (t := 3) (v := .int .i64 (IntKind.wrap .i64 (x99.1 + 1))) (b := bx9) (k := 0) (cs' := [.int .i64 (IntKind.wrap .i64 (x99.1 + 1))]) rfl rfl rfl rfl rfl rfl f10 rfl rfl fun w141 o142 st143 f10_ => ?_
      replace f5 := f5.st st143 (by decide)
      replace fg0 := fg0.st st143 (by decide)
      replace fg1 := fg1.st st143 (by decide)
      replace fxr := fxr.st st143 (by decide)
      replace hs := hs.locB st143 rfl hbB
      replace f10 := f10_
      refine wpListIn_nil ?_
      refine blk_n ?_
      have hq144 := hs.closeB hoi hbB rfl (fun l_ => if l_ = 2 then 2 else if l_ = 3 then 3 else 0)
      exact ⟨_, hq144, fxr.now, ⟨(IntKind.wrap .i64 (x99.1 + 1)), (hsO.loc0 hq144 (by decide)), (hs.closeM_ft (o := o102) (ρ := (fun l_ => if l_ = 2 then 2 else if l_ = 3 then 3 else 0)) f10 (lab_atB hoi rfl) rfl), (hs.closeM_ft (o := o102) (ρ := (fun l_ => if l_ = 2 then 2 else if l_ = 3 then 3 else 0)) f5 (lab_atB hoi rfl) rfl), (hs.closeM_ft (o := o102) (ρ := (fun l_ => if l_ = 2 then 2 else if l_ = 3 then 3 else 0)) fg0 (lab_atB hoi rfl) rfl), (hs.closeM_ft (o := o102) (ρ := (fun l_ => if l_ = 2 then 2 else if l_ = 3 then 3 else 0)) fg1 (lab_atB hoi rfl) rfl), (hlp105 ▸ H)⟩⟩
    · rw [b140] at hk H
      replace H := bifT H
      refine x_if hk (b := true) rfl ?_
      refine (show Code.wpIn _ _ _ _ _ _ _ from ?_)
      refine wpIn_exit ?_
      refine then_x ?_
      refine blk_y rfl ?_
      have hq145 := hs.closeB hoi hbB rfl (fun l_ => if l_ = 3 then 3 else 0)
      exact ⟨_, hq145, fxr.now, Or.inl ⟨rfl, ⟨x120, (hsO.loc0 hq145 (by decide)), (hs.closeM_ft (o := o102) (ρ := (fun l_ => if l_ = 3 then 3 else 0)) f10 (lab_atB hoi rfl) rfl), (hs.closeM_ft (o := o102) (ρ := (fun l_ => if l_ = 3 then 3 else 0)) fg0 (lab_atB hoi rfl) rfl), (hs.closeM_ft (o := o102) (ρ := (fun l_ => if l_ = 3 then 3 else 0)) fg1 (lab_atB hoi rfl) rfl), H⟩⟩⟩
  · rintro ds129 w128 o119 a hk fxm ⟨x120, hs, f10, f5, fg0, fg1, H⟩
    rw [wide_Fit_r2] at H
    refine blk_n ?_
    refine then_n ?_
    exact ⟨(fun b_ => (fun l_ => if l_ = 3 then 7 else l_) (o119 b_)), ds129, x120, (by exact Kn.pick (ks := [5]) hk rfl), (hs.relab0 (fun l_ => if l_ = 3 then 7 else l_) rfl), (f10.relab (fun l_ => if l_ = 3 then 7 else l_) rfl), (fg0.relab (fun l_ => if l_ = 3 then 7 else l_) rfl), (fg1.relab (fun l_ => if l_ = 3 then 7 else l_) rfl), (fxm.relab (fun l_ => if l_ = 3 then 7 else l_) rfl), H⟩
  · rintro c_ ds129 w128 o127 a hk fxm (⟨rfl, x137, hs, f10, fg0, fg1, H⟩ | hc_)
    · rw [wide_Fit_x3] at H
      refine wpIn_exit ?_
      refine blk_x ?_
      refine then_n ?_
      exact ⟨(fun b_ => (fun l_ => if l_ = 3 then 7 else l_) (o127 b_)), ds129, x137, (by exact Kn.pick (ks := [5]) hk rfl), (hs.relab0 (fun l_ => if l_ = 3 then 7 else l_) rfl), (f10.relab (fun l_ => if l_ = 3 then 7 else l_) rfl), (fg0.relab (fun l_ => if l_ = 3 then 7 else l_) rfl), (fg1.relab (fun l_ => if l_ = 3 then 7 else l_) rfl), (fxm.relab (fun l_ => if l_ = 3 then 7 else l_) rfl), H⟩
    · exact hc_.elim

/-! tidewrack/wide.Sum -/
theorem wide_Sum_calls (K : Nat) (Ap0 : Option Addr) (cp0 : Nat) (p0 : List Int) (w : World) (o : Nat → Nat) (Lg0 : Nat) (hg0 : Ft (RdC ET97 (some ⟨0, 0, none⟩) glob0) w o Lg0) (Lg1 : Nat) (hg1 : Ft (RdC ET97 (some ⟨1, 0, none⟩) glob1) w o Lg1) (Lp0 : Nat) (hp0 : Ft (RdC (encInt .i32) Ap0 p0) w o Lp0) (hcp0 : (p0).length ≤ cp0)  (r : Int) (H : wide_Sum K p0 = some r) :
    Calls Tryd.prog 12 #[.slice Ap0 (p0).length cp0] w (Ret fun v_ w' => ∃ o' : Nat → Nat, v_ = .int .i64 r ∧ St [] w o w' o') := by
  refine x_enterQ (vs := [.slice Ap0 (p0).length cp0]) Tryd.func12 rfl rfl rfl fun a hk => ?_
  obtain ⟨o0, hs, h0⟩ := St.start w o
  have fg0 := h0 _ _ hg0
  have fg1 := h0 _ _ hg1
  have f900000 := h0 _ _ hp0
  have fxm : Ft (MK []) w o0 1 := Ft.of_all (fun _ => MK.nil _) _ _ _
  clear h0
  rw [wide_Sum] at H
  refine x_seq ?_
  refine wpIn_region_lit ?_
  refine x_run tab hk (k := 1) (lv := []) (ks := [0]) (e' := [(0, .slice Ap0 (p0).length cp0)]) rfl trivial fun a hk => ?_
  refine wpListIn_nil ?_
  refine then_n ?_
  refine x_seq ?_
  refine wpIn_region_lit ?_
  refine x_op hk rfl ?_
  refine op_alloc (o := o0) tab (t := 3) (cs := [.int .i64 0]) rfl rfl 2 fun bx4 w1 o2 st3 f5 => ?_
  replace f900000 := f900000.st st3 (by decide)
  replace fg0 := fg0.st st3 (by decide)
  replace fg1 := fg1.st st3 (by decide)
  replace fxm := fxm.st st3 (by decide)
  replace hs := hs.loc0 st3 (by decide)
  have hk := hk.put 3 (.pointer (some ⟨bx4, 0, none⟩)) rfl
  refine x_op hk rfl ?_
  refine op_store tab hk (t := 3) (v := .int .i64 0) (b := bx4) (k := 0) (cs' := [.int .i64 0]) rfl rfl rfl rfl rfl rfl f5 rfl rfl fun w6 o7 st8 f5_ => ?_
  replace f900000 := f900000.st st8 (by decide)
  replace fg0 := fg0.st st8 (by decide)
  replace fg1 := fg1.st st8 (by decide)
  replace fxm := fxm.st st8 (by decide)
  replace hs := hs.loc0 st8 (by decide)
  replace f5 := f5_
  refine wpListIn_nil ?_
  refine then_n ?_
  refine x_mid (fun a_ w_ => ∃ o64 : Nat → Nat, ∃ ds65 : List Deferred, ∃ x66 : Int, KnD 12 ds65 a_ [(3, .pointer (some ⟨bx4, 0, none⟩))] ∧ St [] w (fun _ => 0) w_ o64 ∧ Ft (Bx bx4 3 [.int .i64 x66]) w_ o64 6 ∧ Ft (RdC ET97 (some ⟨0, 0, none⟩) glob0) w_ o64 0 ∧ Ft (RdC ET97 (some ⟨1, 0, none⟩) glob1) w_ o64 0 ∧ Ft (MK ds65) w_ o64 1 ∧ wide_Sum_j1 x66 = some r) ?_ ?_
  rotate_left
  · rintro a w67 ⟨o64, ds65, x66, hk, hs, f5, fg0, fg1, fxm, H⟩
    rw [wide_Sum_j1] at H
    refine x_seq ?_
    refine wpIn_region_lit ?_
    refine x_run tab hk (k := 2) (lv := [.int .i64 x66]) (ks := [2]) (e' := [(2, .int .i64 x66)]) rfl ⟨(load1 tab rfl ((Bx.cell f5.now 0).trans rfl)), trivial⟩ fun a hk => ?_
    refine wpListIn_nil ?_
    refine then_n ?_
    refine wpIn_ret ?_
    refine x_retQ hk fxm fun w68 a st69 hk => ?_
    replace fg0 := fg0.st st69 (by decide)
    replace fg1 := fg1.st st69 (by decide)
    replace hs := hs.loc0 st69 (by decide)
    obtain rfl := Option.some.inj H
    exact x_retG hk (rs := [.tmp 2]) (vs := [.int .i64 x66]) rfl ⟨rfl, trivial⟩ ⟨fun b_ => if b_ < w.heap.size then o b_ else (fun _ => 0) (o64 b_), rfl, hs.close0 o (fun _ => 0)⟩
  refine x_seq ?_
  refine wpIn_region_lit ?_
  refine x_run tab hk (k := 1) (lv := []) (ks := [3, 6]) (e' := [(3, .pointer (some ⟨bx4, 0, none⟩)), (6, .slice Ap0 (p0).length cp0)]) rfl trivial fun a hk => ?_
  refine x_op hk rfl ?_
  obtain ⟨t73, hc74, H⟩ := bindS H
  refine op_call hk ent_39 (vs := [.slice Ap0 (p0).length cp0]) rfl (wide_columns_calls Ap0 cp0 p0 _ o7 0 fg0 0 fg1 _ f900000 hcp0 7  _ hc74) ?_
  rintro _ w75 ⟨o76, bx78, rfl, st77, f79⟩
  replace f5 := f5.st st77 (by decide)
  replace f900000 := f900000.st st77 (by decide)
  replace fg0 := fg0.st st77 (by decide)
  replace fg1 := fg1.st st77 (by decide)
  replace fxm := fxm.st st77 (by decide)
  replace hs := hs.loc0 st77 (by decide)
  have hk := hk.put 7 (.func (.func 73) #[] #[.pointer (some ⟨bx78, 0, none⟩)]) rfl
  refine wpListIn_nil ?_
  refine then_n ?_
  refine wpIn_block ?_
  obtain ⟨ys80, hy81, H⟩ := bindS H
  refine x_range 1 8 9 [2] hk rfl ent_73 (wide_columns_1_iter K bx78 Ap0 cp0 p0 _ _ 0 fg0 0 fg1 7 f79 0 f900000 hcp0 (by decide) (by decide) (by decide) (by decide) (by decide) _ hy81) fxm (fun _ _ _ h_ => by subst h_; rfl) rfl rfl (fun rr_ w_ o101 => ∃ x102 : Int, St [] w (fun _ => 0) w_ o101 ∧ Ft (Bx bx4 3 [.int .i64 x102]) w_ o101 2 ∧ Ft (RdC ET97 (some ⟨0, 0, none⟩) glob0) w_ o101 0 ∧ Ft (RdC ET97 (some ⟨1, 0, none⟩) glob1) w_ o101 0 ∧ wide_Sum_r2 rr_ x102 = some r) (fun c_ w_ o108 => False) ?_ ?_ ⟨0, hs, f5, fg0, fg1, H⟩ ?_ ?_ ?_
  · rintro rr_ w_ _ _ _ ⟨x102, hs, f5, fg0, fg1, H⟩ st_
    exact ⟨x102, hs.loc0 st_ (by decide), f5.st st_ (by decide), fg0.st st_ (by decide), fg1.st st_ (by decide), H⟩
  · exact fun _ _ _ _ _ h_ _ => h_.elim
  · rintro R0_ R1_ lr_ x82 vs_ rest83 w84 o85 ⟨x102, hsO, f5, fg0, fg1, H⟩ hE fxr a hk
    obtain rfl : vs_ = [.int .i64 x82.1, .int .i64 x82.2] := hE w84
    obtain ⟨o86, hs0, hfl, hbB, hoi⟩ := St.startB w84 o85 9
    have hs := hs0 [8, 2]
    replace f5 := hfl f5 rfl
    replace fg0 := hfl fg0 rfl
    replace fg1 := hfl fg1 rfl
    replace fxr := hfl fxr rfl
    replace hk : Kn 12 a [(3, .pointer (some ⟨bx4, 0, none⟩)), (8, .int .i64 x82.1), (9, .int .i64 x82.2)] := Kn.pick (ks := [3, 8, 9]) hk rfl
    rw [wide_Sum_r2] at H
    obtain ⟨lp87, hlp88⟩ : ∃ lp_, lp_ = wide_Sum_r2 rest83 := ⟨_, rfl⟩
    rw [← hlp88] at H
    refine wpIn_region_lit ?_
    refine x_run tab hk (k := 1) (lv := []) (ks := [3, 5]) (e' := [(3, .pointer (some ⟨bx4, 0, none⟩)), (5, .int .i64 x82.2)]) rfl trivial fun a hk => ?_
    refine wpListIn_nil ?_
    refine then_n ?_
    refine ⟨_, fxr, fun w111 st112 fxr => ?_⟩
    replace f5 := f5.st st112 (by decide)
    replace fg0 := fg0.st st112 (by decide)
    replace fg1 := fg1.st st112 (by decide)
    replace hs := hs.locB st112 rfl hbB
    refine wpIn_block ?_
    refine wpIn_region_lit ?_
    refine x_run tab hk (k := 1) (lv := []) (ks := [3, 10]) (e' := [(3, .pointer (some ⟨bx4, 0, none⟩)), (10, .int .i64 x82.2)]) rfl trivial fun a hk => ?_
    refine x_op hk rfl ?_
    refine op_store tab hk (t := 3) (v := .int .i64 x82.2) (b := bx4) (k := 0) (cs' := [.int .i64 x82.2]) rfl rfl rfl rfl rfl rfl f5 rfl rfl fun w113 o114 st115 f5_ => ?_
    replace fg0 := fg0.st st115 (by decide)
    replace fg1 := fg1.st st115 (by decide)
    replace fxr := fxr.st st115 (by decide)
    replace hs := hs.locB st115 rfl hbB
    replace f5 := f5_
    refine wpListIn_nil ?_
    refine blk_n ?_
    have hq116 := hs.closeB hoi hbB rfl (fun l_ => if l_ = 2 then 2 else 0)
    exact ⟨_, hq116, fxr.now, ⟨x82.2, (hsO.loc0 hq116 (by decide)), (hs.closeM_ft (o := o85) (ρ := (fun l_ => if l_ = 2 then 2 else 0)) f5 (lab_atB hoi rfl) rfl), (hs.closeM_ft (o := o85) (ρ := (fun l_ => if l_ = 2 then 2 else 0)) fg0 (lab_atB hoi rfl) rfl), (hs.closeM_ft (o := o85) (ρ := (fun l_ => if l_ = 2 then 2 else 0)) fg1 (lab_atB hoi rfl) rfl), (hlp88 ▸ H)⟩⟩
  · rintro ds110 w109 o101 a hk fxm ⟨x102, hs, f5, fg0, fg1, H⟩
    rw [wide_Sum_r2] at H
    refine blk_n ?_
    refine then_n ?_
    exact ⟨(fun b_ => (fun l_ => if l_ = 2 then 6 else l_) (o101 b_)), ds110, x102, (by exact Kn.pick (ks := [3]) hk rfl), (hs.relab0 (fun l_ => if l_ = 2 then 6 else l_) rfl), (f5.relab (fun l_ => if l_ = 2 then 6 else l_) rfl), (fg0.relab (fun l_ => if l_ = 2 then 6 else l_) rfl), (fg1.relab (fun l_ => if l_ = 2 then 6 else l_) rfl), (fxm.relab (fun l_ => if l_ = 2 then 6 else l_) rfl), H⟩
  · exact fun _ _ _ _ _ _ _ h_ => h_.elim

/-! tidewrack/glyph.Encode -/
theorem glyph_Encode_calls (K : Nat) (Ap0 : Option Addr) (cp0 : Nat) (p0 : List Int) (w : World) (o : Nat → Nat) (Lp0 : Nat) (hp0 : Ft (RdC (encInt .i32) Ap0 p0) w o Lp0) (hcp0 : (p0).length ≤ cp0)  (r : ByteArray) (H : glyph_Encode K p0 = some r) :
    Calls Tryd.prog 13 #[.slice Ap0 (p0).length cp0] w (Ret fun v_ w' => ∃ o' : Nat → Nat, v_ = .string r ∧ St [] w o w' o') := by
  refine x_enter (vs := [.slice Ap0 (p0).length cp0]) Tryd.func13 rfl rfl rfl fun a hk => ?_
  obtain ⟨o0, hs, h0⟩ := St.start w o
  have f900000 := h0 _ _ hp0
  clear h0
  rw [glyph_Encode] at H
  refine x_seq ?_
  refine wpIn_region_lit ?_
  refine x_run tab hk (k := 1) (lv := []) (ks := [0]) (e' := [(0, .slice Ap0 (p0).length cp0)]) rfl trivial fun a hk => ?_
  refine wpListIn_nil ?_
  refine then_n ?_
  refine x_seq ?_
  refine wpIn_region_lit ?_
  refine x_run tab hk (k := 1) (lv := []) (ks := [0, 3]) (e' := [(0, .slice Ap0 (p0).length cp0), (3, .slice none 0 0)]) rfl trivial fun a hk => ?_
  refine wpListIn_nil ?_
  refine then_n ?_
  refine x_mid (fun a_ w_ => ∃ o262 : Nat → Nat, ∃ A263 : Option Addr, ∃ c264 : Nat, ∃ l265 : List Int, Kn 91 a_ [(3, .slice A263 (l265).length c264)] ∧ St [] w (fun _ => 0) w_ o262 ∧ Ft (Own (encInt .u8) 5 (.slice A263 (l265).length c264) l265) w_ o262 21 ∧ (l265).length ≤ c264 ∧ glyph_Encode_j1 l265 = some r) ?_ ?_
  rotate_left
  · rintro a w268 ⟨o262, A263, c264, l265, hk, hs, f266, hc267, H⟩
    rw [glyph_Encode_j1] at H
    refine x_seq ?_
    refine wpIn_region_lit ?_
    refine x_run tab hk (k := 3) (lv := [.string (strOfNums l265)]) (ks := [2]) (e' := [(2, .string (strOfNums l265))]) rfl ⟨(ask_str tab rfl rfl rfl rfl (Own.rd f266.now) (Own.plain f266.now _ _ _ rfl)), trivial⟩ fun a hk => ?_
    refine wpListIn_nil ?_
    refine then_n ?_
    refine wpIn_ret ?_
    obtain rfl := Option.some.inj H
    exact x_retG hk (rs := [.tmp 2]) (vs := [.string (strOfNums l265)]) rfl ⟨rfl, trivial⟩ ⟨fun b_ => if b_ < w.heap.size then o b_ else (fun _ => 0) (o262 b_), rfl, hs.close0 o (fun _ => 0)⟩
  refine x_seq ?_
  refine wpIn_region_lit ?_
  refine x_run tab hk (k := 3) (lv := []) (ks := [3, 6, 7, 8]) (e' := [(3, .slice none 0 0), (6, .slice Ap0 (p0).length cp0), (7, .int .i64 ((p0).length : Int)), (8, .int .i64 0)]) rfl trivial fun a hk => ?_
  refine wpListIn_nil ?_
  refine then_n ?_
  refine wpIn_block ?_
  refine x_loop (fun j_ a_ w_ => ∃ o351 : Nat → Nat, ∃ A352 : Option Addr, ∃ c353 : Nat, ∃ l354 : List Int, ∃ x357 : Int, Kn 91 a_ [(3, .slice A352 (l354).length c353), (6, .slice Ap0 (p0).length cp0), (7, .int .i64 ((p0).length : Int)), (8, .int .i64 x357)] ∧ St [] w (fun _ => 0) w_ o351 ∧ Ft (Own (encInt .u8) 5 (.slice A352 (l354).length c353) l354) w_ o351 30 ∧ Ft (RdC (encInt .i32) Ap0 p0) w_ o351 0 ∧ (l354).length ≤ c353 ∧ glyph_Encode_l2 p0 j_ l354 x357 = some r) (k := K) ⟨o0, none, 0, ([] : List Int), 0, (by exact Kn.pick (ks := [3, 6, 7, 8]) hk rfl), hs, (Ft.of_all (fun _ => Own.nil _ _ _) _ _ _), f900000, (by simp), H⟩ (by rintro _ _ ⟨_, _, _, _, _, _, _, _, _, _, H_⟩; exact absurd (show (none : Option ByteArray) = some r from H_) (by simp)) ?_
  rintro k438 a w437 ⟨o351, A352, c353, l354, x357, hk, hs, f355, f900000, hc356, H⟩
  rw [glyph_Encode_l2] at H
  obtain ⟨lp439, hlp440⟩ : ∃ lp_, lp_ = glyph_Encode_l2 p0 k438 := ⟨_, rfl⟩
  rw [← hlp440] at H
  refine x_seq ?_
  refine wpIn_region_lit ?_
  refine x_run tab hk (k := 1) (lv := []) (ks := [3, 6, 7, 8, 9]) (e' := [(3, .slice A352 (l354).length c353), (6, .slice Ap0 (p0).length cp0), (7, .int .i64 ((p0).length : Int)), (8, .int .i64 x357), (9, .bool (decide (x357 < ((p0).length : Int))))]) rfl trivial fun a hk => ?_
  refine wpListIn_nil ?_
  refine then_n ?_
  refine x_seq ?_
  cases b441 : (decide (x357 < ((p0).length : Int)))
  · rw [b441] at hk H
    replace H := bifF H
    refine x_if hk (b := false) rfl ?_
    refine (show Code.wpIn _ _ _ _ _ _ _ from ?_)
    refine wpIn_exit ?_
    refine then_x ?_
    refine then_x ?_
    refine blk_x ?_
    refine then_n ?_
    exact ⟨(fun b_ => (fun l_ => if l_ = 30 then 21 else l_) (o351 b_)), A352, c353, l354, (by exact Kn.pick (ks := [3]) hk rfl), (hs.relab0 (fun l_ => if l_ = 30 then 21 else l_) rfl), (f355.relab (fun l_ => if l_ = 30 then 21 else l_) rfl), hc356, H⟩
  · rw [b441] at hk H
    replace H := bifT H
    refine x_if hk (b := true) rfl ?_
    refine (show Code.wpIn _ _ _ _ _ _ _ from ?_)
    refine wpIn_skip ?_
    refine then_n ?_
    refine x_seq ?_
    refine wpIn_block ?_
    refine x_seq ?_
    refine wpIn_region_lit ?_
    obtain ⟨q442, H⟩ := ifS H
    obtain ⟨ad443, hAad443⟩ := RdC.addr f900000.now q442
    have hk_C := hk
    have f355_C := f355
    have f900000_C := f900000
    subst hAad443
    have hk := hk_C
    clear hk_C
    have f355 := f355_C
    clear f355_C
    have f900000 := f900000_C
    clear f900000_C
    refine x_run tab hk (k := 3) (lv := [.int .i32 (rdD 0 p0 x357)]) (ks := [3, 5, 6, 7, 8]) (e' := [(3, .slice A352 (l354).length c353), (5, .int .i32 (rdD 0 p0 x357)), (6, .slice (some ad443) (p0).length cp0), (7, .int .i64 ((p0).length : Int)), (8, .int .i64 x357)]) rfl ⟨q442, (load1 tab rfl (RdC.at0 (E := (encInt .i32)) (d := 0) (i := x357) f900000.now q442 rfl)), trivial⟩ fun a hk => ?_
    refine wpListIn_nil ?_
    refine then_n ?_
    refine x_mid (fun a_ w_ => ∃ o454 : Nat → Nat, ∃ x455 : Int, Kn 91 a_ [(3, .slice A352 (l354).length c353), (5, .int .i32 x455), (6, .slice (some ad443) (p0).length cp0), (7, .int .i64 ((p0).length : Int)), (8, .int .i64 x357)] ∧ St [] w (fun _ => 0) w_ o454 ∧ Ft (Own (encInt .u8) 5 (.slice A352 (l354).length c353) l354) w_ o454 36 ∧ Ft (RdC (encInt .i32) (some ad443) p0) w_ o454 0 ∧ glyph_Encode_j3 l354 x357 lp439 x455 = some r) ?_ ?_
    rotate_left
    · rintro a w456 ⟨o454, x455, hk, hs, f355, f900000, H⟩
      rw [glyph_Encode_j3] at H
      refine wpIn_block ?_
      refine x_seq ?_
      refine wpIn_region_lit ?_
      refine x_run tab hk (k := 3) (lv := []) (ks := [3, 5, 6, 7, 8, 47]) (e' := [(3, .slice A352 (l354).length c353), (5, .int .i32 x455), (6, .slice (some ad443) (p0).length cp0), (7, .int .i64 ((p0).length : Int)), (8, .int .i64 x357), (47, .bool (decide (x455 < (128 : Int))))]) rfl trivial fun a hk => ?_
      refine wpListIn_nil ?_
      refine then_n ?_
      cases b457 : (decide (x455 < (128 : Int)))
      · rw [b457] at hk H
        replace H := bifF H
        refine x_if hk (b := false) rfl ?_
        refine (show Code.wpIn _ _ _ _ _ _ _ from ?_)
        refine x_seq ?_
        refine wpIn_region_lit ?_
        refine x_run tab hk (k := 3) (lv := []) (ks := [3, 5, 6, 7, 8, 55]) (e' := [(3, .slice A352 (l354).length c353), (5, .int .i32 x455), (6, .slice (some ad443) (p0).length cp0), (7, .int .i64 ((p0).length : Int)), (8, .int .i64 x357), (55, .bool (decide (x455 < (2048 : Int))))]) rfl trivial fun a hk => ?_
        refine wpListIn_nil ?_
        refine then_n ?_
        cases b458 : (decide (x455 < (2048 : Int)))
        · rw [b458] at hk H
          replace H := bifF H
          refine x_if hk (b := false) rfl ?_
          refine (show Code.wpIn _ _ _ _ _ _ _ from ?_)
          refine x_seq ?_
          refine wpIn_region_lit ?_
          refine x_run tab hk (k := 3) (lv := []) (ks := [3, 5, 6, 7, 8, 69]) (e' := [(3, .slice A352 (l354).length c353), (5, .int .i32 x455), (6, .slice (some ad443) (p0).length cp0), (7, .int .i64 ((p0).length : Int)), (8, .int .i64 x357), (69, .bool (decide (x455 < (65536 : Int))))]) rfl trivial fun a hk => ?_
          refine wpListIn_nil ?_
          refine then_n ?_
          cases b459 : (decide (x455 < (65536 : Int)))
          · rw [b459] at hk H
            replace H := bifF H
            refine x_if hk (b := false) rfl ?_
            refine (show Code.wpIn _ _ _ _ _ _ _ from ?_)
            refine wpIn_region_lit ?_
            refine x_run tab hk (k := 10) (lv := []) (ks := [5, 6, 7, 8, 26, 30, 35]) (e' := [(5, .int .i32 x455), (6, .slice (some ad443) (p0).length cp0), (7, .int .i64 ((p0).length : Int)), (8, .int .i64 x357), (26, .slice A352 (l354).length c353), (30, .int .u8 (IntKind.wrap .u8 (bits .or .i32 240 (Int.fdiv x455 (2 ^ min (Int.toNat 18) 32))))), (35, .int .u8 (IntKind.wrap .u8 (bits .or .i32 128 (bits .and .i32 (Int.fdiv x455 (2 ^ min (Int.toNat 12) 32)) 63))))]) rfl ⟨(show 0 ≤ (18 : Int) from by decide), (show 0 ≤ (12 : Int) from by decide), trivial⟩ fun a hk => ?_
            refine x_run tab hk (k := 9) (lv := []) (ks := [6, 7, 8, 26, 30, 35, 40, 44]) (e' := [(6, .slice (some ad443) (p0).length cp0), (7, .int .i64 ((p0).length : Int)), (8, .int .i64 x357), (26, .slice A352 (l354).length c353), (30, .int .u8 (IntKind.wrap .u8 (bits .or .i32 240 (Int.fdiv x455 (2 ^ min (Int.toNat 18) 32))))), (35, .int .u8 (IntKind.wrap .u8 (bits .or .i32 128 (bits .and .i32 (Int.fdiv x455 (2 ^ min (Int.toNat 12) 32)) 63)))), (40, .int .u8 (IntKind.wrap .u8 (bits .or .i32 128 (bits .and .i32 (Int.fdiv x455 (2 ^ min (Int.toNat 6) 32)) 63)))), (44, .int .u8 (IntKind.wrap .u8 (bits .or .i32 128 (bits .and .i32 x455 63))))]) rfl ⟨(show 0 ≤ (6 : Int) from by decide), trivial⟩ fun a hk => ?_
            refine x_op hk rfl ?_
            refine op_slice (o := o454) tab hk (vs := [.int .u8 (IntKind.wrap .u8 (bits .or .i32 240 (Int.fdiv x455 (2 ^ min (Int.toNat 18) 32)))), .int .u8 (IntKind.wrap .u8 (bits .or .i32 128 (bits .and .i32 (Int.fdiv x455 (2 ^ min (Int.toNat 12) 32)) 63))), .int .u8 (IntKind.wrap .u8 (bits .or .i32 128 (bits .and .i32 (Int.fdiv x455 (2 ^ min (Int.toNat 6) 32)) 63))), .int .u8 (IntKind.wrap .u8 (bits .or .i32 128 (bits .and .i32 x455 63)))]) (cs := [.int .u8 (IntKind.wrap .u8 (bits .or .i32 240 (Int.fdiv x455 (2 ^ min (Int.toNat 18) 32)))), .int .u8 (IntKind.wrap .u8 (bits .or .i32 128 (bits .and .i32 (Int.fdiv x455 (2 ^ min (Int.toNat 12) 32)) 63))), .int .u8 (IntKind.wrap .u8 (bits .or .i32 128 (bits .and .i32 (Int.fdiv x455 (2 ^ min (Int.toNat 6) 32)) 63))), .int .u8 (IntKind.wrap .u8 (bits .or .i32 128 (bits .and .i32 x455 63)))]) rfl rfl rfl rfl rfl rfl rfl rfl rfl 37 fun bx463 w460 o461 st462 f464 => ?_
            replace f355 := f355.st st462 (by decide)
            replace f900000 := f900000.st st462 (by decide)
            replace hs := hs.loc0 st462 (by decide)
            have f465 : Ft (Own (encInt .u8) 5 (.slice (some ⟨bx463, 0, none⟩) (([(IntKind.wrap .u8 (bits .or .i32 240 (Int.fdiv x455 (2 ^ min (Int.toNat 18) 32)))), (IntKind.wrap .u8 (bits .or .i32 128 (bits .and .i32 (Int.fdiv x455 (2 ^ min (Int.toNat 12) 32)) 63))), (IntKind.wrap .u8 (bits .or .i32 128 (bits .and .i32 (Int.fdiv x455 (2 ^ min (Int.toNat 6) 32)) 63))), (IntKind.wrap .u8 (bits .or .i32 128 (bits .and .i32 x455 63)))] : List Int)).length 4) ([(IntKind.wrap .u8 (bits .or .i32 240 (Int.fdiv x455 (2 ^ min (Int.toNat 18) 32)))), (IntKind.wrap .u8 (bits .or .i32 128 (bits .and .i32 (Int.fdiv x455 (2 ^ min (Int.toNat 12) 32)) 63))), (IntKind.wrap .u8 (bits .or .i32 128 (bits .and .i32 (Int.fdiv x455 (2 ^ min (Int.toNat 6) 32)) 63))), (IntKind.wrap .u8 (bits .or .i32 128 (bits .and .i32 x455 63)))] : List Int)) w460 o461 37 := f464.imp fun _ h_ => Own.of_box h_ rfl (by simp)
            have hk := hk.put 45 (.slice (some ⟨bx463, 0, none⟩) (([(IntKind.wrap .u8 (bits .or .i32 240 (Int.fdiv x455 (2 ^ min (Int.toNat 18) 32)))), (IntKind.wrap .u8 (bits .or .i32 128 (bits .and .i32 (Int.fdiv x455 (2 ^ min (Int.toNat 12) 32)) 63))), (IntKind.wrap .u8 (bits .or .i32 128 (bits .and .i32 (Int.fdiv x455 (2 ^ min (Int.toNat 6) 32)) 63))), (IntKind.wrap .u8 (bits .or .i32 128 (bits .and .i32 x455 63)))] : List Int)).length 4) rfl
            refine x_op hk rfl ?_
            obtain ⟨q469, H⟩ := ifS H
            refine op_append (o := o461) (E := (encInt .u8)) (xs := l354) (ys := ([(IntKind.wrap .u8 (bits .or .i32 240 (Int.fdiv x455 (2 ^ min (Int.toNat 18) 32)))), (IntKind.wrap .u8 (bits .or .i32 128 (bits .and .i32 (Int.fdiv x455 (2 ^ min (Int.toNat 12) 32)) 63))), (IntKind.wrap .u8 (bits .or .i32 128 (bits .and .i32 (Int.fdiv x455 (2 ^ min (Int.toNat 6) 32)) 63))), (IntKind.wrap .u8 (bits .or .i32 128 (bits .and .i32 x455 63)))] : List Int)) tab hk rfl rfl rfl rfl rfl rfl rfl f355 (Own.rd f465.now) q469 fun A470 c471 w466 o467 st468 f472 hc473 => ?_
            replace f465 := f465.st st468 (by decide)
            replace f900000 := f900000.st st468 (by decide)
            replace hs := hs.loc0 st468 (by decide)
            have hk := hk.put 46 (.slice A470 ((l354 ++ ([(IntKind.wrap .u8 (bits .or .i32 240 (Int.fdiv x455 (2 ^ min (Int.toNat 18) 32)))), (IntKind.wrap .u8 (bits .or .i32 128 (bits .and .i32 (Int.fdiv x455 (2 ^ min (Int.toNat 12) 32)) 63))), (IntKind.wrap .u8 (bits .or .i32 128 (bits .and .i32 (Int.fdiv x455 (2 ^ min (Int.toNat 6) 32)) 63))), (IntKind.wrap .u8 (bits .or .i32 128 (bits .and .i32 x455 63)))] : List Int))).length c471) rfl
            refine x_run tab hk (k := 1) (lv := []) (ks := [3, 6, 7, 8]) (e' := [(3, .slice A470 ((l354 ++ ([(IntKind.wrap .u8 (bits .or .i32 240 (Int.fdiv x455 (2 ^ min (Int.toNat 18) 32)))), (IntKind.wrap .u8 (bits .or .i32 128 (bits .and .i32 (Int.fdiv x455 (2 ^ min (Int.toNat 12) 32)) 63))), (IntKind.wrap .u8 (bits .or .i32 128 (bits .and .i32 (Int.fdiv x455 (2 ^ min (Int.toNat 6) 32)) 63))), (IntKind.wrap .u8 (bits .or .i32 128 (bits .and .i32 x455 63)))] : List Int))).length c471), (6, .slice (some ad443) (p0).length cp0), (7, .int .i64 ((p0).length : Int)), (8, .int .i64 x357)]) rfl trivial fun a hk => ?_
            refine wpListIn_nil ?_
            refine blk_n ?_
            refine blk_n ?_
            refine then_n ?_
            refine wpIn_region_lit ?_
            refine x_run tab hk (k := 2) (lv := []) (ks := [3, 6, 7, 8]) (e' := [(3, .slice A470 ((l354 ++ ([(IntKind.wrap .u8 (bits .or .i32 240 (Int.fdiv x455 (2 ^ min (Int.toNat 18) 32)))), (IntKind.wrap .u8 (bits .or .i32 128 (bits .and .i32 (Int.fdiv x455 (2 ^ min (Int.toNat 12) 32)) 63))), (IntKind.wrap .u8 (bits .or .i32 128 (bits .and .i32 (Int.fdiv x455 (2 ^ min (Int.toNat 6) 32)) 63))), (IntKind.wrap .u8 (bits .or .i32 128 (bits .and .i32 x455 63)))] : List Int))).length c471), (6, .slice (some ad443) (p0).length cp0), (7, .int .i64 ((p0).length : Int)), (8, .int .i64 (IntKind.wrap .i64 (x357 + 1)))]) rfl trivial fun a hk => ?_
            refine wpListIn_nil ?_
            refine then_n ?_
            exact ⟨k438, Nat.le_refl _, (fun b_ => (fun l_ => if l_ = 36 then 30 else l_) (o467 b_)), A470, c471, (l354 ++ ([(IntKind.wrap .u8 (bits .or .i32 240 (Int.fdiv x455 (2 ^ min (Int.toNat 18) 32)))), (IntKind.wrap .u8 (bits .or .i32 128 (bits .and .i32 (Int.fdiv x455 (2 ^ min (Int.toNat 12) 32)) 63))), (IntKind.wrap .u8 (bits .or .i32 128 (bits .and .i32 (Int.fdiv x455 (2 ^ min (Int.toNat 6) 32)) 63))), (IntKind.wrap .u8 (bits .or .i32 128 (bits .and .i32 x455 63)))] : List Int)), (IntKind.wrap .i64 (x357 + 1)), (by exact Kn.pick (ks := [3, 6, 7, 8]) hk rfl), (hs.relab0 (fun l_ => if l_ = 36 then 30 else l_) rfl), (f472.relab (fun l_ => if l_ = 36 then 30 else l_) rfl), (f900000.relab (fun l_ => if l_ = 36 then 30 else l_) rfl), hc473, (hlp440 ▸ H)⟩
          · rw [b459] at hk H
            replace H := bifT H
            refine x_if hk (b := true) rfl ?_
            refine (show Code.wpIn _ _ _ _ _ _ _ from ?_)
            refine wpIn_region_lit ?_
            refine x_run tab hk (k := 10) (lv := []) (ks := [5, 6, 7, 8, 72, 76, 81]) (e' := [(5, .int .i32 x455), (6, .slice (some ad443) (p0).length cp0), (7, .int .i64 ((p0).length : Int)), (8, .int .i64 x357), (72, .slice A352 (l354).length c353), (76, .int .u8 (IntKind.wrap .u8 (bits .or .i32 224 (Int.fdiv x455 (2 ^ min (Int.toNat 12) 32))))), (81, .int .u8 (IntKind.wrap .u8 (bits .or .i32 128 (bits .and .i32 (Int.fdiv x455 (2 ^ min (Int.toNat 6) 32)) 63))))]) rfl ⟨(show 0 ≤ (12 : Int) from by decide), (show 0 ≤ (6 : Int) from by decide), trivial⟩ fun a hk => ?_
            refine x_run tab hk (k := 4) (lv := []) (ks := [6, 7, 8, 72, 76, 81, 85]) (e' := [(6, .slice (some ad443) (p0).length cp0), (7, .int .i64 ((p0).length : Int)), (8, .int .i64 x357), (72, .slice A352 (l354).length c353), (76, .int .u8 (IntKind.wrap .u8 (bits .or .i32 224 (Int.fdiv x455 (2 ^ min (Int.toNat 12) 32))))), (81, .int .u8 (IntKind.wrap .u8 (bits .or .i32 128 (bits .and .i32 (Int.fdiv x455 (2 ^ min (Int.toNat 6) 32)) 63)))), (85, .int .u8 (IntKind.wrap .u8 (bits .or .i32 128 (bits .and .i32 x455 63))))]) rfl trivial fun a hk => ?_
            refine x_op hk rfl ?_
            refine op_slice (o := o454) tab hk (vs := [.int .u8 (IntKind.wrap .u8 (bits .or .i32 224 (Int.fdiv x455 (2 ^ min (Int.toNat 12) 32)))), .int .u8 (IntKind.wrap .u8 (bits .or .i32 128 (bits .and .i32 (Int.fdiv x455 (2 ^ min (Int.toNat 6) 32)) 63))), .int .u8 (IntKind.wrap .u8 (bits .or .i32 128 (bits .and .i32 x455 63)))]) (cs := [.int .u8 (IntKind.wrap .u8 (bits .or .i32 224 (Int.fdiv x455 (2 ^ min (Int.toNat 12) 32)))), .int .u8 (IntKind.wrap .u8 (bits .or .i32 128 (bits .and .i32 (Int.fdiv x455 (2 ^ min (Int.toNat 6) 32)) 63))), .int .u8 (IntKind.wrap .u8 (bits .or .i32 128 (bits .and .i32 x455 63)))]) rfl rfl rfl rfl rfl rfl rfl rfl rfl 38 fun bx477 w474 o475 st476 f478 => ?_
            replace f355 := f355.st st476 (by decide)
            replace f900000 := f900000.st st476 (by decide)
            replace hs := hs.loc0 st476 (by decide)
            have f479 : Ft (Own (encInt .u8) 5 (.slice (some ⟨bx477, 0, none⟩) (([(IntKind.wrap .u8 (bits .or .i32 224 (Int.fdiv x455 (2 ^ min (Int.toNat 12) 32)))), (IntKind.wrap .u8 (bits .or .i32 128 (bits .and .i32 (Int.fdiv x455 (2 ^ min (Int.toNat 6) 32)) 63))), (IntKind.wrap .u8 (bits .or .i32 128 (bits .and .i32 x455 63)))] : List Int)).length 3) ([(IntKind.wrap .u8 (bits .or .i32 224 (Int.fdiv x455 (2 ^ min (Int.toNat 12) 32)))), (IntKind.wrap .u8 (bits .or .i32 128 (bits .and .i32 (Int.fdiv x455 (2 ^ min (Int.toNat 6) 32)) 63))), (IntKind.wrap .u8 (bits .or .i32 128 (bits .and .i32 x455 63)))] : List Int)) w474 o475 38 := f478.imp fun _ h_ => Own.of_box h_ rfl (by simp)
            have hk := hk.put 86 (.slice (some ⟨bx477, 0, none⟩) (([(IntKind.wrap .u8 (bits .or .i32 224 (Int.fdiv x455 (2 ^ min (Int.toNat 12) 32)))), (IntKind.wrap .u8 (bits .or .i32 128 (bits .and .i32 (Int.fdiv x455 (2 ^ min (Int.toNat 6) 32)) 63))), (IntKind.wrap .u8 (bits .or .i32 128 (bits .and .i32 x455 63)))] : List Int)).length 3) rfl
            refine x_op hk rfl ?_
            obtain ⟨q483, H⟩ := ifS H
            refine op_append (o := o475) (E := (encInt .u8)) (xs := l354) (ys := ([(IntKind.wrap .u8 (bits .or .i32 224 (Int.fdiv x455 (2 ^ min (Int.toNat 12) 32)))), (IntKind.wrap .u8 (bits .or .i32 128 (bits .and .i32 (Int.fdiv x455 (2 ^ min (Int.toNat 6) 32)) 63))), (IntKind.wrap .u8 (bits .or .i32 128 (bits .and .i32 x455 63)))] : List Int)) tab hk rfl rfl rfl rfl rfl rfl rfl f355 (Own.rd f479.now) q483 fun A484 c485 w480 o481 st482 f486 hc487 => ?_
            replace f479 := f479.st st482 (by decide)
            replace f900000 := f900000.st st482 (by decide)
            replace hs := hs.loc0 st482 (by decide)
            have hk := hk.put 87 (.slice A484 ((l354 ++ ([(IntKind.wrap .u8 (bits .or .i32 224 (Int.fdiv x455 (2 ^ min (Int.toNat 12) 32)))), (IntKind.wrap .u8 (bits .or .i32 128 (bits .and .i32 (Int.fdiv x455 (2 ^ min (Int.toNat 6) 32)) 63))), (IntKind.wrap .u8 (bits .or .i32 128 (bits .and .i32 x455 63)))] : List Int))).length c485) rfl
            refine x_run tab hk (k := 1) (lv := []) (ks := [3, 6, 7, 8]) (e' := [(3, .slice A484 ((l354 ++ ([(IntKind.wrap .u8 (bits .or .i32 224 (Int.fdiv x455 (2 ^ min (Int.toNat 12) 32)))), (IntKind.wrap .u8 (bits .or .i32 128 (bits .and .i32 (Int.fdiv x455 (2 ^ min (Int.toNat 6) 32)) 63))), (IntKind.wrap .u8 (bits .or .i32 128 (bits .and .i32 x455 63)))] : List Int))).length c485), (6, .slice (some ad443) (p0).length cp0), (7, .int .i64 ((p0).length : Int)), (8, .int .i64 x357)]) rfl trivial fun a hk => ?_
            refine wpListIn_nil ?_
            refine blk_n ?_
            refine blk_n ?_
            refine then_n ?_
            refine wpIn_region_lit ?_
            refine x_run tab hk (k := 2) (lv := []) (ks := [3, 6, 7, 8]) (e' := [(3, .slice A484 ((l354 ++ ([(IntKind.wrap .u8 (bits .or .i32 224 (Int.fdiv x455 (2 ^ min (Int.toNat 12) 32)))), (IntKind.wrap .u8 (bits .or .i32 128 (bits .and .i32 (Int.fdiv x455 (2 ^ min (Int.toNat 6) 32)) 63))), (IntKind.wrap .u8 (bits .or .i32 128 (bits .and .i32 x455 63)))] : List Int))).length c485), (6, .slice (some ad443) (p0).length cp0), (7, .int .i64 ((p0).length : Int)), (8, .int .i64 (IntKind.wrap .i64 (x357 + 1)))]) rfl trivial fun a hk => ?_
            refine wpListIn_nil ?_
            refine then_n ?_
            exact ⟨k438, Nat.le_refl _, (fun b_ => (fun l_ => if l_ = 36 then 30 else l_) (o481 b_)), A484, c485, (l354 ++ ([(IntKind.wrap .u8 (bits .or .i32 224 (Int.fdiv x455 (2 ^ min (Int.toNat 12) 32)))), (IntKind.wrap .u8 (bits .or .i32 128 (bits .and .i32 (Int.fdiv x455 (2 ^ min (Int.toNat 6) 32)) 63))), (IntKind.wrap .u8 (bits .or .i32 128 (bits .and .i32 x455 63)))] : List Int)), (IntKind.wrap .i64 (x357 + 1)), (by exact Kn.pick (ks := [3, 6, 7, 8]) hk rfl), (hs.relab0 (fun l_ => if l_ = 36 then 30 else l_) rfl), (f486.relab (fun l_ => if l_ = 36 then 30 else l_) rfl), (f900000.relab (fun l_ => if l_ = 36 then 30 else l_) rfl), hc487, (hlp440 ▸ H)⟩
        · rw [b458] at hk H
          replace H := bifT H
          refine x_if hk (b := true) rfl ?_
          refine (show Code.wpIn _ _ _ _ _ _ _ from ?_)
          refine wpIn_region_lit ?_
          refine x_run tab hk (k := 9) (lv := []) (ks := [6, 7, 8, 58, 62, 66]) (e' := [(6, .slice (some ad443) (p0).length cp0), (7, .int .i64 ((p0).length : Int)), (8, .int .i64 x357), (58, .slice A352 (l354).length c353), (62, .int .u8 (IntKind.wrap .u8 (bits .or .i32 192 (Int.fdiv x455 (2 ^ min (Int.toNat 6) 32))))), (66, .int .u8 (IntKind.wrap .u8 (bits .or .i32 128 (bits .and .i32 x455 63))))]) rfl ⟨(show 0 ≤ (6 : Int) from by decide), trivial⟩ fun a hk => ?_
          refine x_op hk rfl ?_
          refine op_slice (o := o454) tab hk (vs := [.int .u8 (IntKind.wrap .u8 (bits .or .i32 192 (Int.fdiv x455 (2 ^ min (Int.toNat 6) 32)))), .int .u8 (IntKind.wrap .u8 (bits .or .i32 128 (bits .and .i32 x455 63)))]) (cs := [.int .u8 (IntKind.wrap .u8 (bits .or .i32 192 (Int.fdiv x455 (2 ^ min (Int.toNat 6) 32)))), .int .u8 (IntKind.wrap .u8 (bits .or .i32 128 (bits .and .i32 x455 63)))]) rfl rfl rfl rfl rfl rfl rfl rfl rfl 39 fun bx491 w488 o489 st490 f492 => ?_
          replace f355 := f355.st st490 (by decide)
          replace f900000 := f900000.st st490 (by decide)
          replace hs := hs.loc0 st490 (by decide)
          have f493 : Ft (Own (encInt .u8) 5 (.slice (some ⟨bx491, 0, none⟩) (([(IntKind.wrap .u8 (bits .or .i32 192 (Int.fdiv x455 (2 ^ min (Int.toNat 6) 32)))), (IntKind.wrap .u8 (bits .or .i32 128 (bits .and .i32 x455 63)))] : List Int)).length 2) ([(IntKind.wrap .u8 (bits .or .i32 192 (Int.fdiv x455 (2 ^ min (Int.toNat 6) 32)))), (IntKind.wrap .u8 (bits .or .i32 128 (bits .and .i32 x455 63)))] : List Int)) w488 o489 39 := f492.imp fun _ h_ => Own.of_box h_ rfl (by simp)
          have hk := hk.put 67 (.slice (some ⟨bx491, 0, none⟩) (([(IntKind.wrap .u8 (bits .or .i32 192 (Int.fdiv x455 (2 ^ min (Int.toNat 6) 32)))), (IntKind.wrap .u8 (bits .or .i32 128 (bits .and .i32 x455 63)))] : List Int)).length 2) rfl
          refine x_op hk rfl ?_
          obtain ⟨q497, H⟩ := ifS H
          refine op_append (o := o489) (E := (encInt .u8)) (xs := l354) (ys := ([(IntKind.wrap .u8 (bits .or .i32 192 (Int.fdiv x455 (2 ^ min (Int.toNat 6) 32)))), (IntKind.wrap .u8 (bits .or .i32 128 (bits .and .i32 x455 63)))] : List Int)) tab hk rfl rfl rfl rfl rfl rfl rfl f355 (Own.rd f493.now) q497 fun A498 c499 w494 o495 st496 f500 hc501 => ?_
          replace f493 := f493.st st496 (by decide)
          replace f900000 := f900000.st st496 (by decide)
          replace hs := hs.loc0 st496 (by decide)
          have hk := hk.put 68 (.slice A498 ((l354 ++ ([(IntKind.wrap .u8 (bits .or .i32 192 (Int.fdiv x455 (2 ^ min (Int.toNat 6) 32)))), (IntKind.wrap .u8 (bits .or .i32 128 (bits .and .i32 x455 63)))] : List Int))).length c499) rfl
          refine x_run tab hk (k := 1) (lv := []) (ks := [3, 6, 7, 8]) (e' := [(3, .slice A498 ((l354 ++ ([(IntKind.wrap .u8 (bits .or .i32 192 (Int.fdiv x455 (2 ^ min (Int.toNat 6) 32)))), (IntKind.wrap .u8 (bits .or .i32 128 (bits .and .i32 x455 63)))] : List Int))).length c499), (6, .slice (some ad443) (p0).length cp0), (7, .int .i64 ((p0).length : Int)), (8, .int .i64 x357)]) rfl trivial fun a hk => ?_
          refine wpListIn_nil ?_
          refine blk_n ?_
          refine blk_n ?_
          refine then_n ?_
          refine wpIn_region_lit ?_
          refine x_run tab hk (k := 2) (lv := []) (ks := [3, 6, 7, 8]) (e' := [(3, .slice A498 ((l354 ++ ([(IntKind.wrap .u8 (bits .or .i32 192 (Int.fdiv x455 (2 ^ min (Int.toNat 6) 32)))), (IntKind.wrap .u8 (bits .or .i32 128 (bits .and .i32 x455 63)))] : List Int))).length c499), (6, .slice (some ad443) (p0).length cp0), (7, .int .i64 ((p0).length : Int)), (8, .int .i64 (IntKind.wrap .i64 (x357 + 1)))]) rfl trivial fun a hk => ?_
          refine wpListIn_nil ?_
          refine then_n ?_
          exact ⟨k438, Nat.le_refl _, (fun b_ => (fun l_ => if l_ = 36 then 30 else l_) (o495 b_)), A498, c499, (l354 ++ ([(IntKind.wrap .u8 (bits .or .i32 192 (Int.fdiv x455 (2 ^ min (Int.toNat 6) 32)))), (IntKind.wrap .u8 (bits .or .i32 128 (bits .and .i32 x455 63)))] : List Int)), (IntKind.wrap .i64 (x357 + 1)), (by exact Kn.pick (ks := [3, 6, 7, 8]) hk rfl), (hs.relab0 (fun l_ => if l_ = 36 then 30 else l_) rfl), (f500.relab (fun l_ => if l_ = 36 then 30 else l_) rfl), (f900000.relab (fun l_ => if l_ = 36 then 30 else l_) rfl), hc501, (hlp440 ▸ H)⟩
      · rw [b457] at hk H
        replace H := bifT H
        refine x_if hk (b := true) rfl ?_
        refine (show Code.wpIn _ _ _ _ _ _ _ from ?_)
        refine wpIn_region_lit ?_
        refine x_run tab hk (k := 3) (lv := []) (ks := [6, 7, 8, 50, 52]) (e' := [(6, .slice (some ad443) (p0).length cp0), (7, .int .i64 ((p0).length : Int)), (8, .int .i64 x357), (50, .slice A352 (l354).length c353), (52, .int .u8 (IntKind.wrap .u8 x455))]) rfl trivial fun a hk => ?_
        refine x_op hk rfl ?_
        refine op_slice (o := o454) tab hk (vs := [.int .u8 (IntKind.wrap .u8 x455)]) (cs := [.int .u8 (IntKind.wrap .u8 x455)]) rfl rfl rfl rfl rfl rfl rfl rfl rfl 40 fun bx505 w502 o503 st504 f506 => ?_
        replace f355 := f355.st st504 (by decide)
        replace f900000 := f900000.st st504 (by decide)
        replace hs := hs.loc0 st504 (by decide)
        have f507 : Ft (Own (encInt .u8) 5 (.slice (some ⟨bx505, 0, none⟩) (([(IntKind.wrap .u8 x455)] : List Int)).length 1) ([(IntKind.wrap .u8 x455)] : List Int)) w502 o503 40 := f506.imp fun _ h_ => Own.of_box h_ rfl (by simp)
        have hk := hk.put 53 (.slice (some ⟨bx505, 0, none⟩) (([(IntKind.wrap .u8 x455)] : List Int)).length 1) rfl
        refine x_op hk rfl ?_
        obtain ⟨q511, H⟩ := ifS H
        refine op_append (o := o503) (E := (encInt .u8)) (xs := l354) (ys := ([(IntKind.wrap .u8 x455)] : List Int)) tab hk rfl rfl rfl rfl rfl rfl rfl f355 (Own.rd f507.now) q511 fun A512 c513 w508 o509 st510 f514 hc515 => ?_
        replace f507 := f507.st st510 (by decide)
        replace f900000 := f900000.st st510 (by decide)
        replace hs := hs.loc0 st510 (by decide)
        have hk := hk.put 54 (.slice A512 ((l354 ++ ([(IntKind.wrap .u8 x455)] : List Int))).length c513) rfl
        refine x_run tab hk (k := 1) (lv := []) (ks := [3, 6, 7, 8]) (e' := [(3, .slice A512 ((l354 ++ ([(IntKind.wrap .u8 x455)] : List Int))).length c513), (6, .slice (some ad443) (p0).length cp0), (7, .int .i64 ((p0).length : Int)), (8, .int .i64 x357)]) rfl trivial fun a hk => ?_
        refine wpListIn_nil ?_
        refine blk_n ?_
        refine blk_n ?_
        refine then_n ?_
        refine wpIn_region_lit ?_
        refine x_run tab hk (k := 2) (lv := []) (ks := [3, 6, 7, 8]) (e' := [(3, .slice A512 ((l354 ++ ([(IntKind.wrap .u8 x455)] : List Int))).length c513), (6, .slice (some ad443) (p0).length cp0), (7, .int .i64 ((p0).length : Int)), (8, .int .i64 (IntKind.wrap .i64 (x357 + 1)))]) rfl trivial fun a hk => ?_
        refine wpListIn_nil ?_
        refine then_n ?_
        exact ⟨k438, Nat.le_refl _, (fun b_ => (fun l_ => if l_ = 36 then 30 else l_) (o509 b_)), A512, c513, (l354 ++ ([(IntKind.wrap .u8 x455)] : List Int)), (IntKind.wrap .i64 (x357 + 1)), (by exact Kn.pick (ks := [3, 6, 7, 8]) hk rfl), (hs.relab0 (fun l_ => if l_ = 36 then 30 else l_) rfl), (f514.relab (fun l_ => if l_ = 36 then 30 else l_) rfl), (f900000.relab (fun l_ => if l_ = 36 then 30 else l_) rfl), hc515, (hlp440 ▸ H)⟩
    refine x_seq ?_
    refine wpIn_region_lit ?_
    refine x_run tab hk (k := 3) (lv := []) (ks := [3, 5, 6, 7, 8, 14]) (e' := [(3, .slice A352 (l354).length c353), (5, .int .i32 (rdD 0 p0 x357)), (6, .slice (some ad443) (p0).length cp0), (7, .int .i64 ((p0).length : Int)), (8, .int .i64 x357), (14, .bool (decide ((rdD 0 p0 x357) < (0 : Int))))]) rfl trivial fun a hk => ?_
    cases b516 : (decide ((rdD 0 p0 x357) < (0 : Int)))
    · rw [b516] at hk H
      replace H := bifF H
      refine x_run tab hk (k := 4) (lv := []) (ks := [3, 5, 6, 7, 8, 18]) (e' := [(3, .slice A352 (l354).length c353), (5, .int .i32 (rdD 0 p0 x357)), (6, .slice (some ad443) (p0).length cp0), (7, .int .i64 ((p0).length : Int)), (8, .int .i64 x357), (18, .bool (decide ((rdD 0 p0 x357) > (1114111 : Int))))]) rfl trivial fun a hk => ?_
      cases b517 : (decide ((rdD 0 p0 x357) > (1114111 : Int)))
      · rw [b517] at hk H
        replace H := bifF H
        refine x_run tab hk (k := 3) (lv := []) (ks := [3, 5, 6, 7, 8, 18, 21]) (e' := [(3, .slice A352 (l354).length c353), (5, .int .i32 (rdD 0 p0 x357)), (6, .slice (some ad443) (p0).length cp0), (7, .int .i64 ((p0).length : Int)), (8, .int .i64 x357), (18, .bool false), (21, .bool (decide ((rdD 0 p0 x357) ≥ (55296 : Int))))]) rfl trivial fun a hk => ?_
        cases b518 : (decide ((rdD 0 p0 x357) ≥ (55296 : Int)))
        · rw [b518] at hk H
          replace H := bifF H
          refine x_run tab hk (k := 4) (lv := []) (ks := [3, 5, 6, 7, 8, 25]) (e' := [(3, .slice A352 (l354).length c353), (5, .int .i32 (rdD 0 p0 x357)), (6, .slice (some ad443) (p0).length cp0), (7, .int .i64 ((p0).length : Int)), (8, .int .i64 x357), (25, .bool false)]) rfl trivial fun a hk => ?_
          refine wpListIn_nil ?_
          refine then_n ?_
          refine x_if hk (b := false) rfl ?_
          refine (show Code.wpIn _ _ _ _ _ _ _ from ?_)
          refine wpIn_skip ?_
          refine then_n ?_
          exact ⟨(fun b_ => (fun l_ => if l_ = 30 then 36 else l_) (o351 b_)), (rdD 0 p0 x357), (by exact Kn.pick (ks := [3, 5, 6, 7, 8]) hk rfl), (hs.relab0 (fun l_ => if l_ = 30 then 36 else l_) rfl), (f355.relab (fun l_ => if l_ = 30 then 36 else l_) rfl), (f900000.relab (fun l_ => if l_ = 30 then 36 else l_) rfl), H⟩
        · rw [b518] at hk H
          replace H := bifT H
          refine x_run tab hk (k := 4) (lv := []) (ks := [3, 5, 6, 7, 8, 25]) (e' := [(3, .slice A352 (l354).length c353), (5, .int .i32 (rdD 0 p0 x357)), (6, .slice (some ad443) (p0).length cp0), (7, .int .i64 ((p0).length : Int)), (8, .int .i64 x357), (25, .bool (decide ((rdD 0 p0 x357) ≤ (57343 : Int))))]) rfl trivial fun a hk => ?_
          refine wpListIn_nil ?_
          refine then_n ?_
          cases b519 : (decide ((rdD 0 p0 x357) ≤ (57343 : Int)))
          · rw [b519] at hk H
            replace H := bifF H
            refine x_if hk (b := false) rfl ?_
            refine (show Code.wpIn _ _ _ _ _ _ _ from ?_)
            refine wpIn_skip ?_
            refine then_n ?_
            exact ⟨(fun b_ => (fun l_ => if l_ = 30 then 36 else l_) (o351 b_)), (rdD 0 p0 x357), (by exact Kn.pick (ks := [3, 5, 6, 7, 8]) hk rfl), (hs.relab0 (fun l_ => if l_ = 30 then 36 else l_) rfl), (f355.relab (fun l_ => if l_ = 30 then 36 else l_) rfl), (f900000.relab (fun l_ => if l_ = 30 then 36 else l_) rfl), H⟩
          · rw [b519] at hk H
            replace H := bifT H
            refine x_if hk (b := true) rfl ?_
            refine (show Code.wpIn _ _ _ _ _ _ _ from ?_)
            refine wpIn_region_lit ?_
            refine x_run tab hk (k := 1) (lv := []) (ks := [3, 5, 6, 7, 8]) (e' := [(3, .slice A352 (l354).length c353), (5, .int .i32 65533), (6, .slice (some ad443) (p0).length cp0), (7, .int .i64 ((p0).length : Int)), (8, .int .i64 x357)]) rfl trivial fun a hk => ?_
            refine wpListIn_nil ?_
            refine then_n ?_
            exact ⟨(fun b_ => (fun l_ => if l_ = 30 then 36 else l_) (o351 b_)), 65533, (by exact Kn.pick (ks := [3, 5, 6, 7, 8]) hk rfl), (hs.relab0 (fun l_ => if l_ = 30 then 36 else l_) rfl), (f355.relab (fun l_ => if l_ = 30 then 36 else l_) rfl), (f900000.relab (fun l_ => if l_ = 30 then 36 else l_) rfl), H⟩
      · rw [b517] at hk H
        replace H := bifT H
        refine x_run tab hk (k := 7) (lv := []) (ks := [3, 5, 6, 7, 8, 25]) (e' := [(3, .slice A352 (l354).length c353), (5, .int .i32 (rdD 0 p0 x357)), (6, .slice (some ad443) (p0).length cp0), (7, .int .i64 ((p0).length : Int)), (8, .int .i64 x357), (25, .bool true)]) rfl trivial fun a hk => ?_
        refine wpListIn_nil ?_
        refine then_n ?_
        refine x_if hk (b := true) rfl ?_
        refine (show Code.wpIn _ _ _ _ _ _ _ from ?_)
        refine wpIn_region_lit ?_
        refine x_run tab hk (k := 1) (lv := []) (ks := [3, 5, 6, 7, 8]) (e' := [(3, .slice A352 (l354).length c353), (5, .int .i32 65533), (6, .slice (some ad443) (p0).length cp0), (7, .int .i64 ((p0).length : Int)), (8, .int .i64 x357)]) rfl trivial fun a hk => ?_
        refine wpListIn_nil ?_
        refine then_n ?_
        exact ⟨(fun b_ => (fun l_ => if l_ = 30 then 36 else l_) (o351 b_)), 65533, (by exact Kn.pick (ks := [3, 5, 6, 7, 8]) hk rfl), (hs.relab0 (fun l_ => if l_ = 30 then 36 else l_) rfl), (f355.relab (fun l_ => if l_ = 30 then 36 else l_) rfl), (f900000.relab (fun l_ => if l_ = 30 then 36 else l_) rfl), H⟩
    · rw [b516] at hk H
      replace H := bifT H
      refine x_run tab hk (k := 10) (lv := []) (ks := [3, 5, 6, 7, 8, 18, 24]) (e' := [(3, .slice A352 (l354).length c353), (5, .int .i32 (rdD 0 p0 x357)), (6, .slice (some ad443) (p0).length cp0), (7, .int .i64 ((p0).length : Int)), (8, .int .i64 x357), (18, .bool true), (24, undef)]) rfl trivial fun a hk => ?_
      refine x_run tab hk (k := 1) (lv := []) (ks := [3, 5, 6, 7, 8, 25]) (e' := [(3, .slice A352 (l354).length c353), (5, .int .i32 (rdD 0 p0 x357)), (6, .slice (some ad443) (p0).length cp0), (7, .int .i64 ((p0).length : Int)), (8, .int .i64 x357), (25, .bool true)]) rfl trivial fun a hk => ?_
      refine wpListIn_nil ?_
      refine then_n ?_
      refine x_if hk (b := true) rfl ?_
      refine (show Code.wpIn _ _ _ _ _ _ _ from ?_)
      refine wpIn_region_lit ?_
      refine x_run tab hk (k := 1) (lv := []) (ks := [3, 5, 6, 7, 8]) (e' := [(3, .slice A352 (l354).length c353), (5, .int .i32 65533), (6, .slice (some ad443) (p0).length cp0), (7, .int .i64 ((p0).length : Int)), (8, .int .i64 x357)]) rfl trivial fun a hk => ?_
      refine wpListIn_nil ?_
      refine then_n ?_
      exact ⟨(fun b_ => (fun l_ => if l_ = 30 then 36 else l_) (o351 b_)), 65533, (by exact Kn.pick (ks := [3, 5, 6, 7, 8]) hk rfl), (hs.relab0 (fun l_ => if l_ = 30 then 36 else l_) rfl), (f355.relab (fun l_ => if l_ = 30 then 36 else l_) rfl), (f900000.relab (fun l_ => if l_ = 30 then 36 else l_) rfl), H⟩

/-! tidewrack/tidewracktop.TidewrackColumns -/
theorem tidewracktop_TidewrackColumns_calls (K : Nat) (p0 : ByteArray) (p1 : Int) (w : World) (o : Nat → Nat) (Lg0 : Nat) (hg0 : Ft (RdC ET97 (some ⟨0, 0, none⟩) glob0) w o Lg0) (Lg1 : Nat) (hg1 : Ft (RdC ET97 (some ⟨1, 0, none⟩) glob1) w o Lg1) (Lg3 : Nat) (hg3 : Ft (RdC ET192 (some ⟨3, 0, none⟩) glob3) w o Lg3)   (r : Bool) (H : tidewracktop_TidewrackColumns K p0 p1 = some r) :
    Calls Tryd.prog 3 #[.string p0, .int .i64 p1] w (Ret fun v_ w' => ∃ o' : Nat → Nat, v_ = .bool r ∧ St [] w o w' o') := by
  refine x_enter (vs := [.string p0, .int .i64 p1]) Tryd.func3 rfl rfl rfl fun a hk => ?_
  obtain ⟨o0, hs, h0⟩ := St.start w o
  have fg0 := h0 _ _ hg0
  have fg1 := h0 _ _ hg1
  have fg3 := h0 _ _ hg3
  clear h0
  rw [tidewracktop_TidewrackColumns] at H
  refine x_seq ?_
  refine wpIn_region_lit ?_
  refine x_run tab hk (k := 1) (lv := []) (ks := [0, 1]) (e' := [(0, .string p0), (1, .int .i64 p1)]) rfl trivial fun a hk => ?_
  refine wpListIn_nil ?_
  refine then_n ?_
  refine x_mid (fun a_ w_ => ∃ o26 : Nat → Nat, Kn 82 a_ [(0, .string p0), (1, .int .i64 p1)] ∧ St [] w (fun _ => 0) w_ o26 ∧ Ft (RdC ET97 (some ⟨0, 0, none⟩) glob0) w_ o26 0 ∧ Ft (RdC ET97 (some ⟨1, 0, none⟩) glob1) w_ o26 0 ∧ Ft (RdC ET192 (some ⟨3, 0, none⟩) glob3) w_ o26 0 ∧ tidewracktop_TidewrackColumns_j1 K p0 p1 = some r) ?_ ?_
  rotate_left
  · rintro a w27 ⟨o26, hk, hs, fg0, fg1, fg3, H⟩
    rw [tidewracktop_TidewrackColumns_j1] at H
    refine x_seq ?_
    refine wpIn_region_lit ?_
    refine x_run tab hk (k := 1) (lv := []) (ks := [1, 16]) (e' := [(1, .int .i64 p1), (16, .string p0)]) rfl trivial fun a hk => ?_
    refine x_op hk rfl ?_
    obtain ⟨t31, hc32, H⟩ := bindS H
    refine op_call hk ent_10 (vs := [.string p0, .int .i64 80]) rfl (tidewracklaw01_Cut_calls p0 80 _ o26    _ hc32) ?_
    rintro _ w33 ⟨o34, rfl, st35⟩
    replace fg0 := fg0.st st35 (by decide)
    replace fg1 := fg1.st st35 (by decide)
    replace fg3 := fg3.st st35 (by decide)
    replace hs := hs.loc0 st35 (by decide)
    have hk := hk.put 17 (.string t31) rfl
    refine x_op hk rfl ?_
    obtain ⟨t39, hc40, H⟩ := bindS H
    refine op_call hk ent_9 (vs := [.string t31]) rfl (glyph_Decode_calls K t31 _ o34 0 fg3 2  _ hc40) ?_
    rintro _ w41 ⟨o42, A44, c45, rfl, st43, f46, hc47⟩
    replace fg0 := fg0.st st43 (by decide)
    replace fg1 := fg1.st st43 (by decide)
    replace fg3 := fg3.st st43 (by decide)
    replace hs := hs.loc0 st43 (by decide)
    have hk := hk.put 18 (.slice A44 (t39).length c45) rfl
    refine x_run tab hk (k := 1) (lv := []) (ks := [1, 5]) (e' := [(1, .int .i64 p1), (5, .slice A44 (t39).length c45)]) rfl trivial fun a hk => ?_
    refine wpListIn_nil ?_
    refine then_n ?_
    refine x_seq ?_
    refine wpIn_region_lit ?_
    refine x_run tab hk (k := 3) (lv := []) (ks := [1, 5]) (e' := [(1, .int .i64 (bits .and .i64 p1 63)), (5, .slice A44 (t39).length c45)]) rfl trivial fun a hk => ?_
    refine wpListIn_nil ?_
    refine then_n ?_
    refine x_seq ?_
    refine wpIn_region_lit ?_
    refine x_run tab hk (k := 2) (lv := []) (ks := [1, 5, 21, 22]) (e' := [(1, .int .i64 (bits .and .i64 p1 63)), (5, .slice A44 (t39).length c45), (21, .int .i64 (bits .and .i64 p1 63)), (22, .slice A44 (t39).length c45)]) rfl trivial fun a hk => ?_
    refine x_op hk rfl ?_
    obtain ⟨t51, hc52, H⟩ := bindS H
    refine op_call hk ent_11 (vs := [.int .i64 (bits .and .i64 p1 63), .slice A44 (t39).length c45]) rfl (wide_Fit_calls K (bits .and .i64 p1 63) A44 c45 t39 _ o42 0 fg0 0 fg1 _ (f46.imp fun _ h_ => Own.rd h_) hc47   _ hc52) ?_
    rintro _ w53 ⟨o54, rfl, st55⟩
    replace f46 := f46.st st55 (by decide)
    replace fg0 := fg0.st st55 (by decide)
    replace fg1 := fg1.st st55 (by decide)
    replace fg3 := fg3.st st55 (by decide)
    replace hs := hs.loc0 st55 (by decide)
    have hk := hk.put 23 (.int .i64 t51) rfl
    refine x_run tab hk (k := 1) (lv := []) (ks := [1, 5, 6]) (e' := [(1, .int .i64 (bits .and .i64 p1 63)), (5, .slice A44 (t39).length c45), (6, .int .i64 t51)]) rfl trivial fun a hk => ?_
    refine wpListIn_nil ?_
    refine then_n ?_
    refine x_mid (fun a_ w_ => ∃ o77 : Nat → Nat, Kn 82 a_ [(1, .int .i64 (bits .and .i64 p1 63)), (5, .slice A44 (t39).length c45), (6, .int .i64 t51)] ∧ St [] w (fun _ => 0) w_ o77 ∧ Ft (Own (encInt .i32) 21 (.slice A44 (t39).length c45) t39) w_ o77 3 ∧ Ft (RdC ET97 (some ⟨0, 0, none⟩) glob0) w_ o77 0 ∧ Ft (RdC ET97 (some ⟨1, 0, none⟩) glob1) w_ o77 0 ∧ Ft (RdC ET192 (some ⟨3, 0, none⟩) glob3) w_ o77 0 ∧ tidewracktop_TidewrackColumns_j2 K p1 t39 t51 = some r) ?_ ?_
    rotate_left
    · rintro a w78 ⟨o77, hk, hs, f46, fg0, fg1, fg3, H⟩
      rw [tidewracktop_TidewrackColumns_j2] at H
      refine x_seq ?_
      refine wpIn_region_lit ?_
      obtain ⟨q79, H⟩ := ifS H
      obtain ⟨q80, H⟩ := ifS H
      obtain ⟨A81, c82, ak84, f83, hc85⟩ := ask_take (P := Tryd.prog) tab (t := 23) rfl rfl f46 hc47 (k := .i64) t51 q79 q80
      refine x_run tab hk (k := 3) (lv := [.slice A81 ((List.take (Int.toNat t51) t39)).length c82]) (ks := [1, 5, 6, 42]) (e' := [(1, .int .i64 (bits .and .i64 p1 63)), (5, .slice A44 (t39).length c45), (6, .int .i64 t51), (42, .slice A81 ((List.take (Int.toNat t51) t39)).length c82)]) rfl ⟨(ak84 rfl rfl _), trivial⟩ fun a hk => ?_
      refine x_op hk rfl ?_
      obtain ⟨t89, hc90, H⟩ := bindS H
      refine op_call hk ent_13 (vs := [.slice A81 ((List.take (Int.toNat t51) t39)).length c82]) rfl (glyph_Encode_calls K A81 c82 (List.take (Int.toNat t51) t39) _ o77 _ (f83.imp fun _ h_ => Own.rd h_) hc85   _ hc90) ?_
      rintro _ w91 ⟨o92, rfl, st93⟩
      replace f46 := f46.st st93 (by decide)
      replace f83 := f83.st st93 (by decide)
      replace fg0 := fg0.st st93 (by decide)
      replace fg1 := fg1.st st93 (by decide)
      replace fg3 := fg3.st st93 (by decide)
      replace hs := hs.loc0 st93 (by decide)
      have hk := hk.put 43 (.string t89) rfl
      refine x_op hk rfl ?_
      obtain ⟨t97, hc98, H⟩ := bindS H
      refine op_call hk ent_9 (vs := [.string t89]) rfl (glyph_Decode_calls K t89 _ o92 0 fg3 4  _ hc98) ?_
      rintro _ w99 ⟨o100, A102, c103, rfl, st101, f104, hc105⟩
      replace f46 := f46.st st101 (by decide)
      replace f83 := f83.st st101 (by decide)
      replace fg0 := fg0.st st101 (by decide)
      replace fg1 := fg1.st st101 (by decide)
      replace fg3 := fg3.st st101 (by decide)
      replace hs := hs.loc0 st101 (by decide)
      have hk := hk.put 44 (.slice A102 (t97).length c103) rfl
      refine x_run tab hk (k := 1) (lv := []) (ks := [1, 5, 6, 7]) (e' := [(1, .int .i64 (bits .and .i64 p1 63)), (5, .slice A44 (t39).length c45), (6, .int .i64 t51), (7, .slice A102 (t97).length c103)]) rfl trivial fun a hk => ?_
      refine wpListIn_nil ?_
      refine then_n ?_
      refine x_seq ?_
      refine x_seq ?_
      refine wpIn_region_lit ?_
      refine x_run tab hk (k := 4) (lv := []) (ks := [1, 5, 6, 7, 48]) (e' := [(1, .int .i64 (bits .and .i64 p1 63)), (5, .slice A44 (t39).length c45), (6, .int .i64 t51), (7, .slice A102 (t97).length c103), (48, .bool (((t97).length : Int) != t51))]) rfl trivial fun a hk => ?_
      refine wpListIn_nil ?_
      refine then_n ?_
      cases b106 : (((t97).length : Int) != t51)
      · rw [b106] at hk H
        replace H := bifF H
        refine x_if hk (b := false) rfl ?_
        refine (show Code.wpIn _ _ _ _ _ _ _ from ?_)
        refine wpIn_skip ?_
        refine then_n ?_
        refine x_mid (fun a_ w_ => ∃ o167 : Nat → Nat, Kn 82 a_ [(1, .int .i64 (bits .and .i64 p1 63)), (5, .slice A44 (t39).length c45), (6, .int .i64 t51)] ∧ St [] w (fun _ => 0) w_ o167 ∧ Ft (Own (encInt .i32) 21 (.slice A44 (t39).length c45) t39) w_ o167 9 ∧ Ft (RdC ET97 (some ⟨0, 0, none⟩) glob0) w_ o167 0 ∧ Ft (RdC ET97 (some ⟨1, 0, none⟩) glob1) w_ o167 0 ∧ Ft (RdC ET192 (some ⟨3, 0, none⟩) glob3) w_ o167 0 ∧ tidewracktop_TidewrackColumns_j3 K p1 t39 t51 = some r) ?_ ?_
        rotate_left
        · rintro a w168 ⟨o167, hk, hs, f46, fg0, fg1, fg3, H⟩
          rw [tidewracktop_TidewrackColumns_j3] at H
          refine x_seq ?_
          refine xd_begin (o := o167) (fun W_ => (Own (encInt .i32) 21 (.slice A44 (t39).length c45) t39) W_ ∧ True) mixed rfl rfl fun w217 st218 => ?_
          replace f46 := f46.st st218 (by decide)
          replace fg0 := fg0.st st218 (by decide)
          replace fg1 := fg1.st st218 (by decide)
          replace fg3 := fg3.st st218 (by decide)
          replace hs := hs.loc0 st218 (by decide)
          refine xd_take tab hk (k := 14) (is := [0, 1, 2, 3, 4]) (ls' := #[true, true, true, true, true, false, false, false, false, false, false, false, false, false, false, false, false, false, false]) (lv := []) (ks := [1, 5, 6, 68]) (e' := [(1, .int .i64 (bits .and .i64 p1 63)), (5, .slice A44 (t39).length c45), (6, .int .i64 t51), (68, .bool (t51 == ((t39).length : Int)))]) (by kernel_rfl) rfl rfl (by kernel_rfl) (np_then np_body) ⟨f46.now, trivial⟩ (fun W_ hS => trivial) fun a hk => ?_
          cases b219 : (t51 == ((t39).length : Int))
          · rw [b219] at hk H
            replace H := bifF H
            obtain ⟨A220, c221, ak223, f222, hc224⟩ := ask_take (P := Tryd.prog) tab (t := 23) rfl rfl f46 hc47 (k := .i64) t51 q79 q80
            obtain ⟨q225, H⟩ := ifS H
            obtain ⟨ad226, hAad226⟩ := RdC.addr (Own.rd f46.now) q225
            have hk_C := hk
            have f222_C := f222
            have f46_C := f46
            have fg0_C := fg0
            have fg1_C := fg1
            have fg3_C := fg3
            subst hAad226
            have hk := hk_C
            clear hk_C
            have f222 := f222_C
            clear f222_C
            have f46 := f46_C
            clear f46_C
            have fg0 := fg0_C
            clear fg0_C
            have fg1 := fg1_C
            clear fg1_C
            have fg3 := fg3_C
            clear fg3_C
            refine xd_take tab hk (k := 6) (is := [5, 6, 7, 9, 10, 11, 12, 15]) (ls' := #[true, true, true, true, true, true, true, true, false, true, true, true, true, false, false, true, false, false, false]) (lv := [.slice A220 ((List.take (Int.toNat t51) t39)).length c221, .int .i32 (rdD 0 t39 t51)]) (ks := [68, 71, 76, 79]) (e' := [(68, .bool false), (71, .slice A220 ((List.take (Int.toNat t51) t39)).length c221), (76, .int .i32 (rdD 0 t39 t51)), (79, .int .i64 (bits .and .i64 p1 63))]) (by kernel_rfl) rfl rfl (by kernel_rfl) (np_then np_body) ⟨f46.now, trivial⟩ (fun W_ hS => ⟨(ak223 rfl rfl _), q225, (load1 tab rfl (RdC.at0 (E := (encInt .i32)) (d := 0) (i := t51) (Own.rd hS.1) q225 rfl)), trivial⟩) fun a hk => ?_
            refine xd_op hk (i := 8) (by kernel_rfl) rfl rfl ?_
            obtain ⟨t230, hc231, H⟩ := bindS H
            refine op_call hk ent_12 (vs := [.slice A220 ((List.take (Int.toNat t51) t39)).length c221]) rfl (wide_Sum_calls K A220 c221 (List.take (Int.toNat t51) t39) _ o167 0 fg0 0 fg1 _ (f222.imp fun _ h_ => Own.rd h_) hc224   _ hc231) ?_
            rintro _ w232 ⟨o233, rfl, st234⟩
            replace f222 := f222.st st234 (by decide)
            replace f46 := f46.st st234 (by decide)
            replace fg0 := fg0.st st234 (by decide)
            replace fg1 := fg1.st st234 (by decide)
            replace fg3 := fg3.st st234 (by decide)
            replace hs := hs.loc0 st234 (by decide)
            have hk := hk.put 72 (.int .i64 t230) rfl
            refine ⟨.inr ⟨f46.now, trivial⟩, ?_⟩
            refine xd_op hk (i := 13) (by kernel_rfl) rfl rfl ?_
            obtain ⟨t238, hc239, H⟩ := bindS H
            refine op_call hk ent_8 (vs := [.int .i32 (rdD 0 t39 t51)]) rfl (wide_Of_calls K (rdD 0 t39 t51) _ o233 0 fg0 0 fg1   _ hc239) ?_
            rintro _ w240 ⟨o241, rfl, st242⟩
            replace f222 := f222.st st242 (by decide)
            replace f46 := f46.st st242 (by decide)
            replace fg0 := fg0.st st242 (by decide)
            replace fg1 := fg1.st st242 (by decide)
            replace fg3 := fg3.st st242 (by decide)
            replace hs := hs.loc0 st242 (by decide)
            have hk := hk.put 77 (.int .i64 t238) rfl
            refine ⟨.inr ⟨f46.now, trivial⟩, ?_⟩
            refine xd_take tab hk (k := 0) (is := [14, 16, 17, 18]) (ls' := #[true, true, true, true, true, true, true, true, true, true, true, true, true, true, true, true, true, true, true]) (lv := []) (ks := [4]) (e' := [(4, .bool (decide ((IntKind.wrap .i64 (t230 + t238)) > (bits .and .i64 p1 63))))]) (by kernel_rfl) rfl rfl (by kernel_rfl) (np_then np_body) ⟨f46.now, trivial⟩ (fun W_ hS => trivial) fun a hk => ?_
            refine xd_done (by kernel_rfl) ?_
            refine then_n ?_
            refine wpIn_ret ?_
            obtain rfl := Option.some.inj H
            exact x_retG hk (rs := [.tmp 4]) (vs := [.bool (decide ((IntKind.wrap .i64 (t230 + t238)) > (bits .and .i64 p1 63)))]) rfl ⟨rfl, trivial⟩ ⟨fun b_ => if b_ < w.heap.size then o b_ else (fun _ => 0) (o241 b_), rfl, hs.close0 o (fun _ => 0)⟩
          · rw [b219] at hk H
            replace H := bifT H
            refine xd_take tab hk (k := 0) (is := [5, 6, 7, 8, 9, 10, 11, 12, 13, 14, 15, 16, 17, 18]) (ls' := #[true, true, true, true, true, true, true, true, true, true, true, true, true, true, true, true, true, true, true]) (lv := []) (ks := [4]) (e' := [(4, .bool true)]) (by kernel_rfl) rfl rfl (by kernel_rfl) (np_then np_body) ⟨f46.now, trivial⟩ (fun W_ hS => trivial) fun a hk => ?_
            refine xd_done (by kernel_rfl) ?_
            refine then_n ?_
            refine wpIn_ret ?_
            obtain rfl := Option.some.inj H
            exact x_retG hk (rs := [.tmp 4]) (vs := [.bool true]) rfl ⟨rfl, trivial⟩ ⟨fun b_ => if b_ < w.heap.size then o b_ else (fun _ => 0) (o167 b_), rfl, hs.close0 o (fun _ => 0)⟩
        refine x_seq ?_
        refine wpIn_region_lit ?_
        refine x_run tab hk (k := 3) (lv := []) (ks := [1, 5, 6, 7, 50, 51]) (e' := [(1, .int .i64 (bits .and .i64 p1 63)), (5, .slice A44 (t39).length c45), (6, .int .i64 t51), (7, .slice A102 (t97).length c103), (50, .int .i64 ((t97).length : Int)), (51, .int .i64 0)]) rfl trivial fun a hk => ?_
        refine wpListIn_nil ?_
        refine then_n ?_
        refine wpIn_block ?_
        refine x_loop (fun j_ a_ w_ => ∃ o262 : Nat → Nat, ∃ x263 : Int, Kn 82 a_ [(1, .int .i64 (bits .and .i64 p1 63)), (5, .slice A44 (t39).length c45), (6, .int .i64 t51), (7, .slice A102 (t97).length c103), (50, .int .i64 ((t97).length : Int)), (51, .int .i64 x263)] ∧ St [] w (fun _ => 0) w_ o262 ∧ Ft (Own (encInt .i32) 21 (.slice A102 (t97).length c103) t97) w_ o262 13 ∧ Ft (Own (encInt .i32) 21 (.slice A44 (t39).length c45) t39) w_ o262 12 ∧ Ft (RdC ET97 (some ⟨0, 0, none⟩) glob0) w_ o262 0 ∧ Ft (RdC ET97 (some ⟨1, 0, none⟩) glob1) w_ o262 0 ∧ Ft (RdC ET192 (some ⟨3, 0, none⟩) glob3) w_ o262 0 ∧ tidewracktop_TidewrackColumns_l4 K p1 t39 t51 t97 j_ x263 = some r) (k := K) ⟨(fun b_ => (fun l_ => if l_ = 3 then 12 else if l_ = 4 then 13 else l_) (o100 b_)), 0, (by exact Kn.pick (ks := [1, 5, 6, 7, 50, 51]) hk rfl), (hs.relab0 (fun l_ => if l_ = 3 then 12 else if l_ = 4 then 13 else l_) rfl), (f104.relab (fun l_ => if l_ = 3 then 12 else if l_ = 4 then 13 else l_) rfl), (f46.relab (fun l_ => if l_ = 3 then 12 else if l_ = 4 then 13 else l_) rfl), (fg0.relab (fun l_ => if l_ = 3 then 12 else if l_ = 4 then 13 else l_) rfl), (fg1.relab (fun l_ => if l_ = 3 then 12 else if l_ = 4 then 13 else l_) rfl), (fg3.relab (fun l_ => if l_ = 3 then 12 else if l_ = 4 then 13 else l_) rfl), H⟩ (by rintro _ _ ⟨_, _, _, _, _, _, _, _, _, H_⟩; exact absurd (show (none : Option Bool) = some r from H_) (by simp)) ?_
        rintro k281 a w280 ⟨o262, x263, hk, hs, f104, f46, fg0, fg1, fg3, H⟩
        rw [tidewracktop_TidewrackColumns_l4] at H
        obtain ⟨lp282, hlp283⟩ : ∃ lp_, lp_ = tidewracktop_TidewrackColumns_l4 K p1 t39 t51 t97 k281 := ⟨_, rfl⟩
        rw [← hlp283] at H
        refine x_seq ?_
        refine wpIn_region_lit ?_
        refine x_run tab hk (k := 1) (lv := []) (ks := [1, 5, 6, 7, 50, 51, 52]) (e' := [(1, .int .i64 (bits .and .i64 p1 63)), (5, .slice A44 (t39).length c45), (6, .int .i64 t51), (7, .slice A102 (t97).length c103), (50, .int .i64 ((t97).length : Int)), (51, .int .i64 x263), (52, .bool (decide (x263 < ((t97).length : Int))))]) rfl trivial fun a hk => ?_
        refine wpListIn_nil ?_
        refine then_n ?_
        refine x_seq ?_
        cases b284 : (decide (x263 < ((t97).length : Int)))
        · rw [b284] at hk H
          replace H := bifF H
          refine x_if hk (b := false) rfl ?_
          refine (show Code.wpIn _ _ _ _ _ _ _ from ?_)
          refine wpIn_exit ?_
          refine then_x ?_
          refine then_x ?_
          refine blk_x ?_
          refine then_n ?_
          exact ⟨(fun b_ => (fun l_ => if l_ = 12 then 9 else l_) (o262 b_)), (by exact Kn.pick (ks := [1, 5, 6]) hk rfl), (hs.relab0 (fun l_ => if l_ = 12 then 9 else l_) rfl), (f46.relab (fun l_ => if l_ = 12 then 9 else l_) rfl), (fg0.relab (fun l_ => if l_ = 12 then 9 else l_) rfl), (fg1.relab (fun l_ => if l_ = 12 then 9 else l_) rfl), (fg3.relab (fun l_ => if l_ = 12 then 9 else l_) rfl), H⟩
        · rw [b284] at hk H
          replace H := bifT H
          refine x_if hk (b := true) rfl ?_
          refine (show Code.wpIn _ _ _ _ _ _ _ from ?_)
          refine wpIn_skip ?_
          refine then_n ?_
          refine x_seq ?_
          refine wpIn_block ?_
          refine x_seq ?_
          refine wpIn_region_lit ?_
          refine x_run tab hk (k := 2) (lv := []) (ks := [1, 5, 6, 7, 8, 50, 51]) (e' := [(1, .int .i64 (bits .and .i64 p1 63)), (5, .slice A44 (t39).length c45), (6, .int .i64 t51), (7, .slice A102 (t97).length c103), (8, .int .i64 x263), (50, .int .i64 ((t97).length : Int)), (51, .int .i64 x263)]) rfl trivial fun a hk => ?_
          refine wpListIn_nil ?_
          refine then_n ?_
          refine x_seq ?_
          refine xd_begin (o := o262) (fun W_ => (Own (encInt .i32) 21 (.slice A102 (t97).length c103) t97) W_ ∧ (Own (encInt .i32) 21 (.slice A44 (t39).length c45) t39) W_ ∧ True) mixed rfl rfl fun w293 st294 => ?_
          replace f104 := f104.st st294 (by decide)
          replace f46 := f46.st st294 (by decide)
          replace fg0 := fg0.st st294 (by decide)
          replace fg1 := fg1.st st294 (by decide)
          replace fg3 := fg3.st st294 (by decide)
          replace hs := hs.loc0 st294 (by decide)
          obtain ⟨q295, H⟩ := ifS H
          obtain ⟨ad296, hAad296⟩ := RdC.addr (Own.rd f104.now) q295
          have hk_C := hk
          have f104_C := f104
          have f46_C := f46
          have fg0_C := fg0
          have fg1_C := fg1
          have fg3_C := fg3
          subst hAad296
          have hk := hk_C
          clear hk_C
          have f104 := f104_C
          clear f104_C
          have f46 := f46_C
          clear f46_C
          have fg0 := fg0_C
          clear fg0_C
          have fg1 := fg1_C
          clear fg1_C
          have fg3 := fg3_C
          clear fg3_C
          obtain ⟨q297, H⟩ := ifS H
          obtain ⟨ad298, hAad298⟩ := RdC.addr (Own.rd f46.now) q297
          have hk_C := hk
          have f104_C := f104
          have f46_C := f46
          have fg0_C := fg0
          have fg1_C := fg1
          have fg3_C := fg3
          subst hAad298
          have hk := hk_C
          clear hk_C
          have f104 := f104_C
          clear f104_C
          have f46 := f46_C
          clear f46_C
          have fg0 := fg0_C
          clear fg0_C
          have fg1 := fg1_C
          clear fg1_C
          have fg3 := fg3_C
          clear fg3_C
          refine xd_take tab hk (k := 0) (is := [0, 1, 2, 3, 4, 5, 6, 7, 8]) (ls' := #[true, true, true, true, true, true, true, true, true]) (lv := [.int .i32 (rdD 0 t97 x263), .int .i32 (rdD 0 t39 x263)]) (ks := [1, 5, 6, 7, 50, 51, 62]) (e' := [(1, .int .i64 (bits .and .i64 p1 63)), (5, .slice (some ad298) (t39).length c45), (6, .int .i64 t51), (7, .slice (some ad296) (t97).length c103), (50, .int .i64 ((t97).length : Int)), (51, .int .i64 x263), (62, .bool ((rdD 0 t97 x263) != (rdD 0 t39 x263)))]) (by kernel_rfl) rfl rfl (by kernel_rfl) (np_then (np_blk (np_then (np_then (np_blk (np_then np_body)))))) ⟨f104.now, f46.now, trivial⟩ (fun W_ hS => ⟨q295, (load1 tab rfl (RdC.at0 (E := (encInt .i32)) (d := 0) (i := x263) (Own.rd hS.1) q295 rfl)), q297, (load1 tab rfl (RdC.at0 (E := (encInt .i32)) (d := 0) (i := x263) (Own.rd hS.2.1) q297 rfl)), trivial⟩) fun a hk => ?_
          refine xd_done (by kernel_rfl) ?_
          refine then_n ?_
          cases b299 : ((rdD 0 t97 x263) != (rdD 0 t39 x263))
          · rw [b299] at hk H
            replace H := bifF H
            refine x_if hk (b := false) rfl ?_
            refine (show Code.wpIn _ _ _ _ _ _ _ from ?_)
            refine wpIn_skip ?_
            refine blk_n ?_
            refine then_n ?_
            refine wpIn_region_lit ?_
            refine x_run tab hk (k := 2) (lv := []) (ks := [1, 5, 6, 7, 50, 51]) (e' := [(1, .int .i64 (bits .and .i64 p1 63)), (5, .slice (some ad298) (t39).length c45), (6, .int .i64 t51), (7, .slice (some ad296) (t97).length c103), (50, .int .i64 ((t97).length : Int)), (51, .int .i64 (IntKind.wrap .i64 (x263 + 1)))]) rfl trivial fun a hk => ?_
            refine wpListIn_nil ?_
            refine then_n ?_
            exact ⟨k281, Nat.le_refl _, o262, (IntKind.wrap .i64 (x263 + 1)), (by exact Kn.pick (ks := [1, 5, 6, 7, 50, 51]) hk rfl), hs, f104, f46, fg0, fg1, fg3, (hlp283 ▸ H)⟩
          · rw [b299] at hk H
            replace H := bifT H
            refine x_if hk (b := true) rfl ?_
            refine (show Code.wpIn _ _ _ _ _ _ _ from ?_)
            refine x_seq ?_
            refine wpIn_region_lit ?_
            refine x_run tab hk (k := 1) (lv := []) (ks := [4]) (e' := [(4, .bool false)]) rfl trivial fun a hk => ?_
            refine wpListIn_nil ?_
            refine then_n ?_
            refine wpIn_ret ?_
            refine blk_r ?_
            refine then_r ?_
            refine then_r ?_
            refine blk_r ?_
            refine then_r ?_
            obtain rfl := Option.some.inj H
            exact x_retG hk (rs := [.tmp 4]) (vs := [.bool false]) rfl ⟨rfl, trivial⟩ ⟨fun b_ => if b_ < w.heap.size then o b_ else (fun _ => 0) (o262 b_), rfl, hs.close0 o (fun _ => 0)⟩
      · rw [b106] at hk H
        replace H := bifT H
        refine x_if hk (b := true) rfl ?_
        refine (show Code.wpIn _ _ _ _ _ _ _ from ?_)
        refine x_seq ?_
        refine wpIn_region_lit ?_
        refine x_run tab hk (k := 1) (lv := []) (ks := [4]) (e' := [(4, .bool false)]) rfl trivial fun a hk => ?_
        refine wpListIn_nil ?_
        refine then_n ?_
        refine wpIn_ret ?_
        refine then_r ?_
        obtain rfl := Option.some.inj H
        exact x_retG hk (rs := [.tmp 4]) (vs := [.bool false]) rfl ⟨rfl, trivial⟩ ⟨fun b_ => if b_ < w.heap.size then o b_ else (fun _ => 0) (o100 b_), rfl, hs.close0 o (fun _ => 0)⟩
    refine x_seq ?_
    refine wpIn_region_lit ?_
    refine x_run tab hk (k := 3) (lv := []) (ks := [1, 5, 6, 26]) (e' := [(1, .int .i64 (bits .and .i64 p1 63)), (5, .slice A44 (t39).length c45), (6, .int .i64 t51), (26, .bool (decide (t51 < (0 : Int))))]) rfl trivial fun a hk => ?_
    cases b300 : (decide (t51 < (0 : Int)))
    · rw [b300] at hk H
      replace H := bifF H
      refine x_run tab hk (k := 6) (lv := []) (ks := [1, 5, 6, 32]) (e' := [(1, .int .i64 (bits .and .i64 p1 63)), (5, .slice A44 (t39).length c45), (6, .int .i64 t51), (32, .bool (decide (t51 > ((t39).length : Int))))]) rfl trivial fun a hk => ?_
      cases b301 : (decide (t51 > ((t39).length : Int)))
      · rw [b301] at hk H
        replace H := bifF H
        obtain ⟨q302, H⟩ := ifS H
        obtain ⟨q303, H⟩ := ifS H
        obtain ⟨A304, c305, ak307, f306, hc308⟩ := ask_take (P := Tryd.prog) tab (t := 23) rfl rfl f46 hc47 (k := .i64) t51 q302 q303
        refine x_run tab hk (k := 3) (lv := [.slice A304 ((List.take (Int.toNat t51) t39)).length c305]) (ks := [1, 5, 6, 32, 35]) (e' := [(1, .int .i64 (bits .and .i64 p1 63)), (5, .slice A44 (t39).length c45), (6, .int .i64 t51), (32, .bool false), (35, .slice A304 ((List.take (Int.toNat t51) t39)).length c305)]) rfl ⟨(ak307 rfl rfl _), trivial⟩ fun a hk => ?_
        refine x_op hk rfl ?_
        obtain ⟨t312, hc313, H⟩ := bindS H
        refine op_call hk ent_12 (vs := [.slice A304 ((List.take (Int.toNat t51) t39)).length c305]) rfl (wide_Sum_calls K A304 c305 (List.take (Int.toNat t51) t39) _ o54 0 fg0 0 fg1 _ (f306.imp fun _ h_ => Own.rd h_) hc308   _ hc313) ?_
        rintro _ w314 ⟨o315, rfl, st316⟩
        replace f306 := f306.st st316 (by decide)
        replace f46 := f46.st st316 (by decide)
        replace fg0 := fg0.st st316 (by decide)
        replace fg1 := fg1.st st316 (by decide)
        replace fg3 := fg3.st st316 (by decide)
        replace hs := hs.loc0 st316 (by decide)
        have hk := hk.put 36 (.int .i64 t312) rfl
        refine x_run tab hk (k := 3) (lv := []) (ks := [1, 5, 6, 39]) (e' := [(1, .int .i64 (bits .and .i64 p1 63)), (5, .slice A44 (t39).length c45), (6, .int .i64 t51), (39, .bool (decide (t312 > (bits .and .i64 p1 63))))]) rfl trivial fun a hk => ?_
        refine wpListIn_nil ?_
        refine then_n ?_
        cases b317 : (decide (t312 > (bits .and .i64 p1 63)))
        · rw [b317] at hk H
          replace H := bifF H
          refine x_if hk (b := false) rfl ?_
          refine (show Code.wpIn _ _ _ _ _ _ _ from ?_)
          refine wpIn_skip ?_
          refine then_n ?_
          exact ⟨(fun b_ => (fun l_ => if l_ = 2 then 3 else l_) (o315 b_)), (by exact Kn.pick (ks := [1, 5, 6]) hk rfl), (hs.relab0 (fun l_ => if l_ = 2 then 3 else l_) rfl), (f46.relab (fun l_ => if l_ = 2 then 3 else l_) rfl), (fg0.relab (fun l_ => if l_ = 2 then 3 else l_) rfl), (fg1.relab (fun l_ => if l_ = 2 then 3 else l_) rfl), (fg3.relab (fun l_ => if l_ = 2 then 3 else l_) rfl), H⟩
        · rw [b317] at hk H
          replace H := bifT H
          refine x_if hk (b := true) rfl ?_
          refine (show Code.wpIn _ _ _ _ _ _ _ from ?_)
          refine x_seq ?_
          refine wpIn_region_lit ?_
          refine x_run tab hk (k := 1) (lv := []) (ks := [4]) (e' := [(4, .bool false)]) rfl trivial fun a hk => ?_
          refine wpListIn_nil ?_
          refine then_n ?_
          refine wpIn_ret ?_
          refine then_r ?_
          obtain rfl := Option.some.inj H
          exact x_retG hk (rs := [.tmp 4]) (vs := [.bool false]) rfl ⟨rfl, trivial⟩ ⟨fun b_ => if b_ < w.heap.size then o b_ else (fun _ => 0) (o315 b_), rfl, hs.close0 o (fun _ => 0)⟩
      · rw [b301] at hk H
        replace H := bifT H
        refine x_run tab hk (k := 7) (lv := []) (ks := [1, 5, 6, 39]) (e' := [(1, .int .i64 (bits .and .i64 p1 63)), (5, .slice A44 (t39).length c45), (6, .int .i64 t51), (39, .bool true)]) rfl trivial fun a hk => ?_
        refine wpListIn_nil ?_
        refine then_n ?_
        refine x_if hk (b := true) rfl ?_
        refine (show Code.wpIn _ _ _ _ _ _ _ from ?_)
        refine x_seq ?_
        refine wpIn_region_lit ?_
        refine x_run tab hk (k := 1) (lv := []) (ks := [4]) (e' := [(4, .bool false)]) rfl trivial fun a hk => ?_
        refine wpListIn_nil ?_
        refine then_n ?_
        refine wpIn_ret ?_
        refine then_r ?_
        obtain rfl := Option.some.inj H
        exact x_retG hk (rs := [.tmp 4]) (vs := [.bool false]) rfl ⟨rfl, trivial⟩ ⟨fun b_ => if b_ < w.heap.size then o b_ else (fun _ => 0) (o54 b_), rfl, hs.close0 o (fun _ => 0)⟩
    · rw [b300] at hk H
      replace H := bifT H
      refine x_run tab hk (k := 12) (lv := []) (ks := [1, 5, 6, 32, 38]) (e' := [(1, .int .i64 (bits .and .i64 p1 63)), (5, .slice A44 (t39).length c45), (6, .int .i64 t51), (32, .bool true), (38, undef)]) rfl trivial fun a hk => ?_
      refine x_run tab hk (k := 1) (lv := []) (ks := [1, 5, 6, 39]) (e' := [(1, .int .i64 (bits .and .i64 p1 63)), (5, .slice A44 (t39).length c45), (6, .int .i64 t51), (39, .bool true)]) rfl trivial fun a hk => ?_
      refine wpListIn_nil ?_
      refine then_n ?_
      refine x_if hk (b := true) rfl ?_
      refine (show Code.wpIn _ _ _ _ _ _ _ from ?_)
      refine x_seq ?_
      refine wpIn_region_lit ?_
      refine x_run tab hk (k := 1) (lv := []) (ks := [4]) (e' := [(4, .bool false)]) rfl trivial fun a hk => ?_
      refine wpListIn_nil ?_
      refine then_n ?_
      refine wpIn_ret ?_
      refine then_r ?_
      obtain rfl := Option.some.inj H
      exact x_retG hk (rs := [.tmp 4]) (vs := [.bool false]) rfl ⟨rfl, trivial⟩ ⟨fun b_ => if b_ < w.heap.size then o b_ else (fun _ => 0) (o54 b_), rfl, hs.close0 o (fun _ => 0)⟩
  refine x_seq ?_
  refine wpIn_region_lit ?_
  refine x_op hk rfl ?_
  obtain ⟨t321, hc322, H⟩ := bindS H
  refine op_call hk ent_8 (vs := [.int .i32 97]) rfl (wide_Of_calls K 97 _ o0 0 fg0 0 fg1   _ hc322) ?_
  rintro _ w323 ⟨o324, rfl, st325⟩
  replace fg0 := fg0.st st325 (by decide)
  replace fg1 := fg1.st st325 (by decide)
  replace fg3 := fg3.st st325 (by decide)
  replace hs := hs.loc0 st325 (by decide)
  have hk := hk.put 9 (.int .i64 t321) rfl
  refine x_run tab hk (k := 2) (lv := []) (ks := [0, 1, 11]) (e' := [(0, .string p0), (1, .int .i64 p1), (11, .bool (t321 != (1 : Int)))]) rfl trivial fun a hk => ?_
  cases b326 : (t321 != (1 : Int))
  · rw [b326] at hk H
    replace H := bifF H
    refine x_op hk rfl ?_
    obtain ⟨t330, hc331, H⟩ := bindS H
    refine op_call hk ent_9 (vs := [.string (⟨#[97]⟩ : ByteArray)]) rfl (glyph_Decode_calls K (⟨#[97]⟩ : ByteArray) _ o324 0 fg3 14  _ hc331) ?_
    rintro _ w332 ⟨o333, A335, c336, rfl, st334, f337, hc338⟩
    replace fg0 := fg0.st st334 (by decide)
    replace fg1 := fg1.st st334 (by decide)
    replace fg3 := fg3.st st334 (by decide)
    replace hs := hs.loc0 st334 (by decide)
    have hk := hk.put 12 (.slice A335 (t330).length c336) rfl
    refine x_run tab hk (k := 3) (lv := []) (ks := [0, 1, 15]) (e' := [(0, .string p0), (1, .int .i64 p1), (15, .bool (((t330).length : Int) != (1 : Int)))]) rfl trivial fun a hk => ?_
    refine wpListIn_nil ?_
    refine then_n ?_
    cases b339 : (((t330).length : Int) != (1 : Int))
    · rw [b339] at hk H
      replace H := bifF H
      refine x_if hk (b := false) rfl ?_
      refine (show Code.wpIn _ _ _ _ _ _ _ from ?_)
      refine wpIn_skip ?_
      refine then_n ?_
      exact ⟨o333, (by exact Kn.pick (ks := [0, 1]) hk rfl), hs, fg0, fg1, fg3, H⟩
    · rw [b339] at hk H
      replace H := bifT H
      refine x_if hk (b := true) rfl ?_
      refine (show Code.wpIn _ _ _ _ _ _ _ from ?_)
      refine x_seq ?_
      refine wpIn_region_lit ?_
      refine x_run tab hk (k := 1) (lv := []) (ks := [4]) (e' := [(4, .bool false)]) rfl trivial fun a hk => ?_
      refine wpListIn_nil ?_
      refine then_n ?_
      refine wpIn_ret ?_
      refine then_r ?_
      obtain rfl := Option.some.inj H
      exact x_retG hk (rs := [.tmp 4]) (vs := [.bool false]) rfl ⟨rfl, trivial⟩ ⟨fun b_ => if b_ < w.heap.size then o b_ else (fun _ => 0) (o333 b_), rfl, hs.close0 o (fun _ => 0)⟩
  · rw [b326] at hk H
    replace H := bifT H
    refine x_run tab hk (k := 4) (lv := []) (ks := [0, 1, 15]) (e' := [(0, .string p0), (1, .int .i64 p1), (15, .bool true)]) rfl trivial fun a hk => ?_
    refine wpListIn_nil ?_
    refine then_n ?_
    refine x_if hk (b := true) rfl ?_
    refine (show Code.wpIn _ _ _ _ _ _ _ from ?_)
    refine x_seq ?_
    refine wpIn_region_lit ?_
    refine x_run tab hk (k := 1) (lv := []) (ks := [4]) (e' := [(4, .bool false)]) rfl trivial fun a hk => ?_
    refine wpListIn_nil ?_
    refine then_n ?_
    refine wpIn_ret ?_
    refine then_r ?_
    obtain rfl := Option.some.inj H
    exact x_retG hk (rs := [.tmp 4]) (vs := [.bool false]) rfl ⟨rfl, trivial⟩ ⟨fun b_ => if b_ < w.heap.size then o b_ else (fun _ => 0) (o324 b_), rfl, hs.close0 o (fun _ => 0)⟩

end Go.Proofs.YtpciioffkjpieaaDoor
